/- Parts of the proof. -/
import Derived.WalkKit
import Derived.WalkSpells
import Derived.WalkLawsBesides
import Derived.LoopTactic
import Derived.Outline
import Derived.Lib.Hide
import Derived.Deep.QuietTactic
import Derived.BigQuiet
import Derived.Laws.Strings
import Derived.Maps.AppendAt
import Derived.Deep.DeepMust
import Derived.Sort.Walk0
import Derived.Test.YtbojljpldcijgaaGreatChecked
import Derived.LoopN
import Derived.Deep.RegionHeld3
namespace Hb
open Go Go.RowKit
theorem ret_int {k:IntKind} {a b:Int} (h:a=b):Ending.returned (.int k a)=.returned (.int k b):=by rw [h]
theorem ret_bool {a b:Bool} (h:a=b):Ending.returned (.bool a)=.returned (.bool b):=by rw [h]
theorem ret_str {a b:ByteArray} (h:a=b):Ending.returned (.string a)=.returned (.string b):=by rw [h]
theorem ret_ib {k:IntKind} {a a':Int} {b b':Bool} (h:a=a') (h':b=b'):Ending.returned (.tuple #[.int k a,.bool b])=.returned (.tuple #[.int k a',.bool b']):=by rw [h,h']
theorem ret_val {a b:Value} (h:a=b):Ending.returned a=.returned b:=by rw [h]
theorem quiet0 {P:Program} {f:FuncId} {args:Array Value} {w:World} {n:Nat} {v:Value}
  (h:Calls P f args (w.drewN n) fun e w'=>e=.returned v∧w.drewN n=w'):Calls P f args (w.drewN n) fun e w''=>e=.returned v∧∃m,w''=w.drewN m :=
 h.mono fun _ _ ⟨he,hm⟩=>⟨he,n,hm.symm⟩
theorem bl_drewN {B:Nat} {a w:World} (h:Below B a w) (n:Nat):Below B a (w.drewN n):=h.trans ⟨rfl,rfl,rfl,Nat.le_refl _,fun _ _=>rfl⟩
theorem size_data (s:ByteArray):s.data.toList.length=s.size:=by simp
def byteCells (l:List UInt8):List Value:=l.map fun b=>.int .u8 (b.toNat:Int)
theorem byteCells_snoc (l:List UInt8) (b:UInt8):byteCells (l++[b])=byteCells l++[.int .u8 (b.toNat:Int)]:=by simp [byteCells]
theorem byteCells_len (l:List UInt8):(byteCells l).length=l.length:=by simp [byteCells]
theorem conv_own {P:Program} (w:World) (src dst e:TypeId) (hs:P.underlying src=some (.slice e)) (he:P.underlying e=some (.int .u8)) (hd:P.underlying dst=some .string)
  (base:Nat) (v:Value) (n:Nat) (l:List UInt8) (hown:w.ownsRow base e 1 v n (byteCells l)) :
  (convert src dst v).run P w=.ok (.string ⟨l.toArray⟩) w:=by
 have hlen:=hown.1
 rw [byteCells_len,Nat.mul_one] at hlen
 rcases hown.2 with ⟨rfl,h0⟩ | ⟨g,cap,cur,rfl,_,hh,hn,_,hsz,ht⟩
 ·have:l=[]:=List.eq_nil_of_length_eq_zero (by omega)
  subst this
  exact run_convert_bytes_nil w src e hs he _ _ dst hd
 ·subst hlen
  refine run_convert_bytes_back w src dst e ⟨g,0,none⟩ cap l hs he hd fun j hj=>?_
  have e1:(⟨g,0,none⟩:Addr).add j=⟨g,j,none⟩:=by unfold Addr.add;split <;> simp_all
  rw [e1]
  have e2:cur.toList[j]? = some (.int .u8 (l[j].toNat:Int)):=by
   have:(byteCells l)[j]? = some (.int .u8 (l[j].toNat:Int)):=by simp [byteCells,List.getElem?_eq_getElem hj]
   rw [←ht,List.getElem?_take_of_lt (by omega)] at this
   exact this
  show World.cell? w _=_
  unfold World.cell?
  simp only [hh]
  simpa using e2
theorem wpList_append_one {P:Program} {w:World} {ops:Array Oper} {rest:List Oper} {o:Oper} {a:Act} {Q:Exit→Act→World→Prop} (hgd:o.guard=none) (s x:Operand) (t e:TypeId)
  (ho:o.op=.call { callee:=.builtin .append,args:=#[s,x],argTypes:=#[t,t] }) (ht:P.underlying t=some (.slice e)) (z:Value) (size bytes:Nat)
  (hinfo:(P.info? e).map (fun i=>(i.zero,i.size,i.bytes))=some (some z,size,bytes)) (hzs:z.cells.size=size) (hsz:0<size)
  (base:Nat) (v:Value) (n:Nat) (xs:List Value) (hs:a.eval s=v) (W:World) (hown:W.ownsRow base e size v n xs) (cs:Array Value) (hcs:cs.size=size) (h1:∀u∈cs.toList,u.oneCell'=true)
  (hw:w=W.alloc (.cells cs e)) (hx:a.eval x=.slice (some ⟨W.heap.size,0,none⟩) 1 1) (h63:n+1≤4611686018427387904) (hbytes:(n+1) * bytes≤140737488355328) (hbase:base≤W.heap.size)
  (h:∀v' w',w'.ownsRow base e size v' (n+1) (xs++cs.toList)→Below base W w'→w.grownBy w' v.ownBlock→wpList P ops Q rest (a.put o.dst v') w'):wpList P ops Q (o::rest) a w:=by
 subst hw
 obtain ⟨i,hi,hz0,hz1,hz2⟩:=info_parts hinfo
 refine wpList_append_own _ hgd s x t ho base e i z size bytes ht hi hz0 hz1 hz2 hzs hsz v n xs hs (hown.alloc _) ⟨W.heap.size,0,none⟩ 1 1 cs.toList hx (by simp [hcs]) ?_ h1 (by unfold maxLen;omega) hbytes (by simp;omega) ?_
 ·intro j u hu
  have e1:(⟨W.heap.size,0,none⟩:Addr).add j=⟨W.heap.size,j,none⟩:=by unfold Addr.add;split <;> simp_all
  rw [e1,World.cell?_alloc_new]
  simpa using hu
 ·intro v' w' ho' hg' _
  refine h v' w' ho' ?_ hg'
  refine (((Below.refl base W).alloc hbase _).grown hg' (by simp;omega) ?_)
  intro k hk
  rcases hown.2 with ⟨rfl,_⟩ | ⟨g,cap,cur,rfl,hbg,_⟩
  ·simp [Value.ownBlock] at hk
  ·simp [Value.ownBlock] at hk;omega
theorem wpList_append_byte {P:Program} {w:World} {ops:Array Oper} {rest:List Oper} {o:Oper} {a:Act} {Q:Exit→Act→World→Prop} (hgd:o.guard=none) (s x:Operand) (t e:TypeId)
  (ho:o.op=.call { callee:=.builtin .append,args:=#[s,x],argTypes:=#[t,t] }) (ht:P.underlying t=some (.slice e))
  (hinfo:(P.info? e).map (fun i=>(i.zero,i.size,i.bytes))=some (some (.int .u8 0),1,1))
  (base:Nat) (v:Value) (n:Nat) (l:List UInt8) (hs:a.eval s=v) (W:World) (hown:W.ownsRow base e 1 v n (byteCells l)) (c:Int) (h0:0≤c) (h1:c≤255)
  (hw:w=W.alloc (.cells #[.int .u8 c] e)) (hx:a.eval x=.slice (some ⟨W.heap.size,0,none⟩) 1 1) (h63:n≤70368744177664) (hbase:base≤W.heap.size)
  (h:∀v' w',w'.ownsRow base e 1 v' (n+1) (byteCells (l++[c.toNat.toUInt8]))→Below base W w'→wpList P ops Q rest (a.put o.dst v') w'):wpList P ops Q (o::rest) a w:=by
 refine wpList_append_one hgd s x t e ho ht _ 1 1 hinfo rfl (by decide) base v n _ hs W hown #[.int .u8 c] rfl (by simp [Value.oneCell']) hw hx (by omega) (by omega) hbase fun v' w' ho' hb' _=>h v' w' ?_ hb'
 rw [byteCells_snoc]
 have:((c.toNat.toUInt8).toNat:Int)=c:=by simp;omega
 rw [this];exact ho'
def Pairs (w:World) (A:Option Addr) (l:List (Int×Int)):Prop :=
 ∀j (h:j<l.length),∃b off,A=some ⟨b,off,none⟩∧b<w.heap.size∧w.cell? ⟨b,off+j * 2,none⟩=some (.int .i64 l[j].1)∧w.cell? ⟨b,off+j * 2+1,none⟩=some (.int .i64 l[j].2)
theorem Pairs.below {w w':World} {A:Option Addr} {l:List (Int×Int)} (h:Pairs w A l) (hb:Below w.heap.size w w'):Pairs w' A l:=fun j hj=>by
 obtain ⟨b,off,e,hlt,c1,c2⟩:=h j hj
 exact ⟨b,off,e,Nat.lt_of_lt_of_le hlt hb.size,(hb.cell (p:=⟨b,_,none⟩) hlt).trans c1,(hb.cell (p:=⟨b,_,none⟩) hlt).trans c2⟩
theorem Pairs.nil (w:World) (A:Option Addr):Pairs w A []:=fun j h=>absurd h (by simp)
inductive Tm where
 | mk (kind num:Int) (name:ByteArray) (args:List Tm)
def Tm.kind:Tm→Int | .mk k _ _ _=>k
def Tm.num:Tm→Int | .mk _ n _ _=>n
def Tm.name:Tm→ByteArray | .mk _ _ s _=>s
def Tm.args:Tm→List Tm | .mk _ _ _ l=>l
theorem Tm.ind {P:Tm→Prop} (h:∀t:Tm,(∀a∈t.args,P a)→P t):∀t,P t :=
 Tm.rec (motive_1:=P) (motive_2:=fun l=>∀a∈l,P a) (fun k n s l ih=>h (.mk k n s l) ih) (fun a ha=>by cases ha) (fun a l h1 h2 b hb=>by
  rcases List.mem_cons.1 hb with rfl | hb
  ·exact h1
  ·exact h2 b hb)
inductive TmsK (K:Nat→Prop) (w:World):Option Addr→List Tm→Prop
 | mk (A:Option Addr) (l:List Tm) (F:Nat→Option Addr) (C:Nat→Nat) (hl:l.length≤maxLen)
  (hc:∀j (hj:j<l.length),∃b off,A=some ⟨b,off,none⟩∧K b∧w.cell? ⟨b,off+j * 4,none⟩=some (.int .i64 l[j].kind)∧w.cell? ⟨b,off+j * 4+1,none⟩=some (.int .i64 l[j].num)∧w.cell? ⟨b,off+j * 4+2,none⟩=some (.string l[j].name)∧w.cell? ⟨b,off+j * 4+3,none⟩=some (.slice (F j) l[j].args.length (C j)))
  (hs:∀j (hj:j<l.length),TmsK K w (F j) l[j].args):TmsK K w A l
theorem TmsK.len {K:Nat→Prop} {w:World} {A:Option Addr} {l:List Tm} (h:TmsK K w A l):l.length≤maxLen:=by cases h;assumption
theorem TmsK.get {K:Nat→Prop} {w:World} {A:Option Addr} {l:List Tm} (h:TmsK K w A l) (j:Nat) (hj:j<l.length) :
  ∃b off A' cap',A=some ⟨b,off,none⟩∧K b∧w.cell? ⟨b,off+j * 4,none⟩=some (.int .i64 l[j].kind)∧w.cell? ⟨b,off+j * 4+1,none⟩=some (.int .i64 l[j].num)∧w.cell? ⟨b,off+j * 4+2,none⟩=some (.string l[j].name)∧w.cell? ⟨b,off+j * 4+3,none⟩=some (.slice A' l[j].args.length cap')∧TmsK K w A' l[j].args:=by
 cases h with
 | mk A l F C hl hc hs=>
  obtain ⟨b,off,e,hb,c0,c1,c2,c3⟩:=hc j hj
  exact ⟨b,off,F j,C j,e,hb,c0,c1,c2,c3,hs j hj⟩
theorem TmsK.keep {K K':Nat→Prop} {w w':World} {A:Option Addr} {l:List Tm} (h:TmsK K w A l) (hB:∀b,K b→w'.heap[b]? = w.heap[b]?) (hK:∀b,K b→K' b):TmsK K' w' A l:=by
 induction h with
 | mk A l F C hl hc _ ih=>
  refine .mk A l F C hl (fun j hj=>?_) ih
  obtain ⟨b,off,e,hb,c0,c1,c2,c3⟩:=hc j hj
  have hw:∀o,w'.cell? ⟨b,o,none⟩=w.cell? ⟨b,o,none⟩:=fun o=>World.cell?_of_block (hB b hb)
  exact ⟨b,off,e,hK b hb,(hw _).trans c0,(hw _).trans c1,(hw _).trans c2,(hw _).trans c3⟩
theorem TmsK.nil {K:Nat→Prop} {w:World} {A:Option Addr}:TmsK K w A []:=.mk A [] (fun _=>.none) (fun _=>0) (by decide) (fun j hj=>absurd hj (by simp)) (fun j hj=>absurd hj (by simp))
def TmsAt (B:Nat) (w:World) (A:Option Addr) (l:List Tm):Prop:=TmsK (fun b=>b<B) w A l
theorem TmsAt.len {B:Nat} {w:World} {A:Option Addr} {l:List Tm} (h:TmsAt B w A l):l.length≤maxLen:=TmsK.len h
theorem TmsAt.get {B:Nat} {w:World} {A:Option Addr} {l:List Tm} (h:TmsAt B w A l) (j:Nat) (hj:j<l.length) :
  ∃b off A' cap',A=some ⟨b,off,none⟩∧b<B∧w.cell? ⟨b,off+j * 4,none⟩=some (.int .i64 l[j].kind)∧w.cell? ⟨b,off+j * 4+1,none⟩=some (.int .i64 l[j].num)∧w.cell? ⟨b,off+j * 4+2,none⟩=some (.string l[j].name)∧w.cell? ⟨b,off+j * 4+3,none⟩=some (.slice A' l[j].args.length cap')∧TmsAt B w A' l[j].args:=TmsK.get h j hj
theorem TmsAt.keep {B:Nat} {w w':World} {A:Option Addr} {l:List Tm} (h:TmsAt B w A l) (hB:Below B w w'):TmsAt B w' A l:=TmsK.keep h (fun b hb=>hB.block b hb) (fun _ h=>h)
theorem TmsAt.mono {B B':Nat} {w:World} {A:Option Addr} {l:List Tm} (h:TmsAt B w A l) (hB:B≤B'):TmsAt B' w A l:=TmsK.keep h (fun _ _=>rfl) (fun _ h=>Nat.lt_of_lt_of_le h hB)
theorem TmsK.at {K:Nat→Prop} {w:World} {A:Option Addr} {l:List Tm} (h:TmsK K w A l) (hK:∀b,K b→b<w.heap.size):TmsAt w.heap.size w A l:=TmsK.keep h (fun _ _=>rfl) hK
def tmV (t:Tm) (A:Option Addr) (cap:Nat):Value:=.agg #[.int .i64 t.kind,.int .i64 t.num,.string t.name,.slice A t.args.length cap]
def Tm.nodes:Tm→Nat
 | .mk _ _ _ l=>1+(l.attach.map fun ⟨a,_⟩=>a.nodes).sum
theorem Tm.nodes_eq (t:Tm):t.nodes=1+(t.args.map Tm.nodes).sum:=by
 cases t with
 | mk k n s l=>unfold Tm.nodes Tm.args;simp
def nodeOk (t:Tm):Bool :=
 if t.kind=0 then decide (0≤t.num)&&decide (t.num≤1099511627776)&&t.name.toList==[]&&t.args.length==0
 else if t.kind=1 then t.name.toList==[]&&t.args.length==0
 else if t.kind=2 then t.num==0&&decide (t.name.size≤100)&&t.args.length==0
 else if t.kind=3 then t.num==0&&decide (t.name.size≤100)&&decide (0<t.args.length)&&decide (t.args.length≤8)
 else false
def Tm.allOk:Tm→Bool
 | .mk k n s l=>nodeOk (.mk k n s l)&&l.attach.all fun ⟨a,_⟩=>a.allOk
theorem Tm.allOk_eq (t:Tm):t.allOk=(nodeOk t&&t.args.all Tm.allOk):=by
 cases t with
 | mk k n s l=> 
  have h:l.attach.all (fun x=>x.1.allOk)=(l.attach.map Subtype.val).all Tm.allOk:=by rw [List.all_map];rfl
  rw [List.attach_map_subtype_val] at h
  unfold Tm.allOk
  show (_&&l.attach.all fun x=>x.1.allOk)=(nodeOk _&&l.all Tm.allOk)
  rw [h]
def validT (t:Tm):Bool:=decide (t.nodes≤2000)&&t.allOk
structure Only (g:Nat) (w w':World):Prop where
 os:w'.os=w.os
 tape:w'.tape=w.tape
 output:w'.output=w.output
 size:w.heap.size≤w'.heap.size
 block:∀k,k<w.heap.size→k≠g→w'.heap[k]? = w.heap[k]?
theorem Only.refl (g:Nat) (w:World):Only g w w:=⟨rfl,rfl,rfl,Nat.le_refl _,fun _ _ _=>rfl⟩
theorem Only.trans {g:Nat} {a b c:World} (h:Only g a b) (k:Only g b c):Only g a c :=
 ⟨k.os.trans h.os,k.tape.trans h.tape,k.output.trans h.output,Nat.le_trans h.size k.size,fun i hi hg=>(k.block i (Nat.lt_of_lt_of_le hi h.size) hg).trans (h.block i hi hg)⟩
theorem Only.of {g:Nat} {a b:World} (h:Below a.heap.size a b):Only g a b:=⟨h.os,h.tape,h.output,h.size,fun k hk _=>h.block k hk⟩
theorem Only.below {g B:Nat} {a b:World} (h:Only g a b) (hB:B≤g) (hs:B≤a.heap.size):Below B a b:=⟨h.os,h.tape,h.output,h.size,fun k hk=>h.block k (by omega) (by omega)⟩
theorem Only.cell {g:Nat} {a b:World} (h:Only g a b) {p:Addr} (hp:p.block<a.heap.size) (hg:p.block≠g):b.cell? p=a.cell? p:=World.cell?_of_block (h.block _ hp hg)
theorem Only.set (g o:Nat) (w:World) (v:Value):Only g w (w.setCell ⟨g,o,none⟩ v):=⟨rfl,rfl,rfl,by simp,fun k _ hk=>heap_setCell_other w ⟨g,o,none⟩ k v (fun e=>hk (by simp [e]))⟩
theorem Only.alloc (g:Nat) (w:World) (o:Obj):Only g w (w.alloc o):=.of ((Below.refl _ _).alloc (Nat.le_refl _) o)
theorem tl_loopO (s:ByteArray):∀(d i:Nat) (r:List UInt8),s.size-i=d→ByteArray.toList.loop s i r=r.reverse++s.data.toList.drop i
 | 0,i,r,h=>by
  unfold ByteArray.toList.loop
  rw [if_neg (by omega),List.drop_of_length_le (by simp;omega)];simp
 | d+1,i,r,h=>by
  have hi:i<s.size:=by omega
  have hi':i<s.data.toList.length:=by simpa using hi
  unfold ByteArray.toList.loop
  rw [if_pos hi,tl_loopO s d (i+1) _ (by omega),List.drop_eq_getElem_cons hi']
  simp [ByteArray.get!,hi]
  first | rfl | (have:s.data[i]! = s.data[i]:=getElem!_pos s.data i hi;simp [this]) | skip
theorem tl_dataO (s:ByteArray):s.toList=s.data.toList:=by
 unfold ByteArray.toList
 rw [tl_loopO s _ 0 [] rfl];simp
structure OpR where
 name:ByteArray
 typ:Int
 prec:Int
deriving Inhabited,DecidableEq
def opCells (o:OpR):List Value:=[.string o.name,.int .i64 o.typ,.int .i64 o.prec]
def opV (o:OpR):Value:=.agg #[.string o.name,.int .i64 o.typ,.int .i64 o.prec]
def clsOp (t:Int):Int:=if t<1 then 0 else if t≤3 then 2 else if t≤5 then 1 else if t≤7 then 3 else 0
def cmpS (a b:ByteArray):Int:=if Op.bytesLess a.toList b.toList=true then -1 else if (!a.toList==b.toList)=true then 1 else 0
def cmpN (a b:Int):Int:=if a<b then -1 else if b<a then 1 else 0
def orI (a b:Int):Int:=if a=0 then b else a
def cmpOp (a b:OpR):Int:=orI (cmpS a.name b.name) (cmpN (clsOp a.typ) (clsOp b.typ))
def isN (o:OpR) (l:List UInt8):Bool:=o.name.toList==l
def opOk (o:OpR):Bool :=
 if decide (100<(o.name.size:Int))||(clsOp o.typ==0||(decide (o.prec<1)||decide (1200<o.prec))) then false
 else if isN o [91,93]||isN o [123,125] then false
 else if isN o [44] then o.typ==2&&o.prec==1000
 else if isN o [124] then clsOp o.typ==2&&decide (1001≤o.prec)
 else true
def opLt (a b:OpR):Bool:=decide (cmpOp a b<0) && !(a.name.toList==b.name.toList&&clsOp a.typ==2)
def okJ (l:List OpR) (j:Nat):Bool:=opOk (l.getD j default)&&(j==0||opLt (l.getD (j-1) default) (l.getD j default))
def opsValid (l:List OpR):Bool:=decide (l.length≤100)&&(List.range l.length).all (okJ l)
theorem opsValid_no (l:List OpR) (k:Nat) (hk:k<l.length) (h:okJ l k=false):opsValid l=false:=by
 unfold opsValid
 rw [Bool.and_eq_false_iff]
 refine .inr ?_
 rw [List.all_eq_false]
 exact ⟨k,List.mem_range.2 hk,by simp [h]⟩
theorem opsValid_long (l:List OpR) (h:100<l.length):opsValid l=false:=by
 unfold opsValid
 rw [Bool.and_eq_false_iff]
 exact .inl (by simpa using h)
theorem opsValid_yes (l:List OpR) (hn:l.length≤100) (h:∀j,j<l.length→okJ l j=true):opsValid l=true:=by
 unfold opsValid
 rw [Bool.and_eq_true,List.all_eq_true]
 exact ⟨by simpa using hn,fun j hj=>h j (List.mem_range.1 hj)⟩
theorem opsValid_at (l:List OpR) (h:opsValid l=true):l.length≤100∧∀j,j<l.length→okJ l j=true:=by
 unfold opsValid at h
 rw [Bool.and_eq_true,List.all_eq_true] at h
 exact ⟨by simpa using h.1,fun j hj=>h.2 j (List.mem_range.2 hj)⟩
theorem getD_at (l:List OpR) (j:Nat) (h:j<l.length):l.getD j default=l[j]:=by rw [List.getD_eq_getElem?_getD,List.getElem?_eq_getElem h];rfl
def befOp (a b:OpR):Bool:=if (a.name.toList==b.name.toList)=true then decide (clsOp a.typ<clsOp b.typ) else Op.bytesLess a.name.toList b.name.toList
theorem cmpN_neg (a b:Int):cmpN a b<0↔a<b:=by unfold cmpN;grind
theorem bytesLess_irrefl:∀(l:List UInt8),Op.bytesLess l l=false:=by
 intro l
 rw [Go.Proofs.bytesLess_eq]
 simp
theorem befOp_cmp (a b:OpR):befOp a b=decide (cmpOp a b<0):=by
 unfold befOp cmpOp orI cmpS
 by_cases h:a.name.toList=b.name.toList
 ·rw [h,bytesLess_irrefl]
  simp [cmpN_neg]
 ·have h2:(a.name.toList==b.name.toList)=false:=by simpa using h
  rw [h2]
  cases h3:Op.bytesLess a.name.toList b.name.toList <;> simp
end Hb
namespace Hb
theorem cls_at (t:Int):(t<1∧clsOp t=0)∨(8≤t∧clsOp t=0)∨(t=1∧clsOp t=2)∨(t=2∧clsOp t=2)∨(t=3∧clsOp t=2)∨(t=4∧clsOp t=1)∨(t=5∧clsOp t=1)∨(t=6∧clsOp t=3)∨(t=7∧clsOp t=3):=by
 unfold clsOp
 grind
end Hb
namespace Go.Proofs.YtbojljpldcijgaaGreat
open Go.RowKit Hb
set_option maxRecDepth 100000
theorem nan_str (a:ByteArray) (w:World):Calls Tryz.prog 165 #[.string a] w fun e w'=>e=.returned (.bool false)∧w'=w:=by
 go_enter Tryz.func165,Tryz.ntmps165
 go_wp2_with fail
 go_ret
 exact ⟨rfl,rfl⟩
theorem nan_int (a:Int) (w:World):Calls Tryz.prog 166 #[.int .i64 a] w fun e w'=>e=.returned (.bool false)∧w'=w:=by
 go_enter Tryz.func166,Tryz.ntmps166
 go_wp2_with fail
 go_ret
 exact ⟨rfl,rfl⟩
theorem cmp_str (a b:ByteArray) (w:World):Calls Tryz.prog 119 #[.string a,.string b] w fun e w'=>e=.returned (.int .i64 (cmpS a b))∧w'=w:=by
 go_enter Tryz.func119,Tryz.ntmps119
 go_wp2_with (first | (go_at_call 165;first | ((with_reducible refine (nan_str a _).mono ?_);rintro e w1 ⟨rfl,rfl⟩) | ((with_reducible refine (nan_str b _).mono ?_);rintro e w1 ⟨rfl,rfl⟩)))
 all_goals go_ret
 all_goals refine ⟨ret_int ?_,rfl⟩
 all_goals unfold cmpS
 all_goals simp_all
theorem cmp_int (a b:Int) (w:World):Calls Tryz.prog 120 #[.int .i64 a,.int .i64 b] w fun e w'=>e=.returned (.int .i64 (cmpN a b))∧w'=w:=by
 go_enter Tryz.func120,Tryz.ntmps120
 go_wp2_with (first | (go_at_call 166;first | ((with_reducible refine (nan_int a _).mono ?_);rintro e w1 ⟨rfl,rfl⟩) | ((with_reducible refine (nan_int b _).mono ?_);rintro e w1 ⟨rfl,rfl⟩)))
 all_goals go_ret
 all_goals refine ⟨ret_int ?_,rfl⟩
 all_goals unfold cmpN
 all_goals grind
theorem op_class_up (t:Int) (w:World):Calls Tryz.prog 76 #[.int .i64 t] w fun e w'=>e=.returned (.int .i64 (clsOp t))∧Below w.heap.size w w'∧w.drawn≤w'.drawn:=by
 rcases cls_at t with ⟨h,e⟩ | ⟨h,e⟩ | ⟨rfl,e⟩ | ⟨rfl,e⟩ | ⟨rfl,e⟩ | ⟨rfl,e⟩ | ⟨rfl,e⟩ | ⟨rfl,e⟩ | ⟨rfl,e⟩
 all_goals rw [e]
 all_goals clear e
 all_goals go_enter Tryz.func76,Tryz.ntmps76
 all_goals go_wp2_with fail
 all_goals go_ret
 all_goals exact ⟨rfl,(Below.refl _ _).alloc (Nat.le_refl _) _,Nat.le_refl _⟩
theorem op_class (t:Int) (w:World):Calls Tryz.prog 76 #[.int .i64 t] w fun e w'=>e=.returned (.int .i64 (clsOp t))∧Below w.heap.size w w' :=
 (op_class_up t w).mono fun _ _ ⟨he,hb,_⟩=>⟨he,hb⟩
theorem cmp_or (a b:Int) (w:World) (W:World) (e:TypeId) (hW:W=w.alloc (.cells #[.int .i64 a,.int .i64 b] e)):Calls Tryz.prog 118 #[.slice (some ⟨w.heap.size,0,none⟩) 2 2] W fun e w'=>e=.returned (.int .i64 (orI a b))∧w'=W:=by
 have c0:W.cell? ⟨w.heap.size,0,none⟩=some (.int .i64 a):=by rw [hW];exact World.cell?_alloc_new _ _ _ 0
 have c1:W.cell? ⟨w.heap.size,1,none⟩=some (.int .i64 b):=by rw [hW];exact World.cell?_alloc_new _ _ _ 1
 clear hW
 by_cases d0:a=0
 ·subst d0
  by_cases d1:b=0
  ·subst d1
   go_enter Tryz.func118,Tryz.ntmps118
   go_wp2_with fail
   refine wp_loop_rounds 3 ?_
   rw [rounds_succ]
   go_wp2_with fail
   rw [rounds_succ]
   go_wp2_with fail
   rw [rounds_succ]
   go_wp2_with fail
   go_ret
   exact ⟨ret_int rfl,rfl⟩
  ·have b1:(b==0)=false:=by simpa using d1
   have e1:orI 0 b=b:=rfl
   go_enter Tryz.func118,Tryz.ntmps118
   go_wp2_with fail
   refine wp_loop_rounds 2 ?_
   rw [rounds_succ]
   go_wp2_with fail
   rw [rounds_succ]
   go_wp2_with fail
   go_ret
   exact ⟨ret_int e1.symm,rfl⟩
 ·have b1:(a==0)=false:=by simpa using d0
  have e1:orI a b=a:=if_neg d0
  go_enter Tryz.func118,Tryz.ntmps118
  go_wp2_with fail
  refine wp_loop_rounds 1 ?_
  rw [rounds_succ]
  go_wp2_with fail
  go_ret
  exact ⟨ret_int e1.symm,rfl⟩
end Go.Proofs.YtbojljpldcijgaaGreat
namespace Hb
open Go Go.RowKit
structure CmpHeld (w0 w:World) (a b:OpR):Prop where
 bel:Below w0.heap.size w0 w
 lt:w0.heap.size+1<w.heap.size
 dr:w0.drawn≤w.drawn
 a0:w.cell? ⟨w0.heap.size,0,none⟩=some (.string a.name)
 a1:w.cell? ⟨w0.heap.size,1,none⟩=some (.int .i64 a.typ)
 b0:w.cell? ⟨w0.heap.size+1,0,none⟩=some (.string b.name)
 b1:w.cell? ⟨w0.heap.size+1,1,none⟩=some (.int .i64 b.typ)
section
variable {w0 w w':World} {a b:OpR}
theorem CmpHeld.keep (h:CmpHeld w0 w a b):w.cell? ⟨w0.heap.size,0,none⟩=some (.string a.name)∧w.cell? ⟨w0.heap.size,1,none⟩=some (.int .i64 a.typ)∧w.cell? ⟨w0.heap.size+1,0,none⟩=some (.string b.name)∧w.cell? ⟨w0.heap.size+1,1,none⟩=some (.int .i64 b.typ)∧CmpHeld w0 w a b:=⟨h.a0,h.a1,h.b0,h.b1,h⟩
theorem CmpHeld.of (h:w.cell? ⟨w0.heap.size,0,none⟩=some (.string a.name)∧w.cell? ⟨w0.heap.size,1,none⟩=some (.int .i64 a.typ)∧w.cell? ⟨w0.heap.size+1,0,none⟩=some (.string b.name)∧w.cell? ⟨w0.heap.size+1,1,none⟩=some (.int .i64 b.typ)∧CmpHeld w0 w a b):CmpHeld w0 w a b:=h.2.2.2.2
theorem CmpHeld.call (hB:Below w.heap.size w w') (hD:w.drawn≤w'.drawn) (h:CmpHeld w0 w a b):CmpHeld w0 w' a b where
 bel:=h.bel.trans (hB.mono (by have:=h.lt;omega))
 lt:=Nat.lt_of_lt_of_le h.lt hB.size
 dr:=Nat.le_trans h.dr hD
 a0:=(hB.cell (p:=⟨_,_,none⟩) (by have:=h.lt;show w0.heap.size<_;omega)).trans h.a0
 a1:=(hB.cell (p:=⟨_,_,none⟩) (by have:=h.lt;show w0.heap.size<_;omega)).trans h.a1
 b0:=(hB.cell (p:=⟨_,_,none⟩) h.lt).trans h.b0
 b1:=(hB.cell (p:=⟨_,_,none⟩) h.lt).trans h.b1
theorem CmpHeld.drew (h:CmpHeld w0 w a b):CmpHeld w0 w.drew a b:=h.call (Below.refl w.heap.size w).drew (Nat.le_succ _)
theorem CmpHeld.alloc (h:CmpHeld w0 w a b) (o:Obj):CmpHeld w0 (w.alloc o) a b:=h.call ((Below.refl w.heap.size w).alloc (Nat.le_refl _) o) (Nat.le_refl _)
theorem CmpHeld.start (w:World) (a b:OpR) (e:TypeId):CmpHeld w ((w.alloc (.cells #[.string a.name,.int .i64 a.typ,.int .i64 a.prec] e)).alloc (.cells #[.string b.name,.int .i64 b.typ,.int .i64 b.prec] e)) a b where
 bel:=((Below.refl _ _).alloc (Nat.le_refl _) _).alloc (by simp) _
 lt:=by simp
 dr:=Nat.le_refl _
 a0:=(World.grownBy_alloc _ _ none).cell (World.cell?_alloc_new _ _ _ 0) (by simp)
 a1:=(World.grownBy_alloc _ _ none).cell (World.cell?_alloc_new _ _ _ 1) (by simp)
 b0:=by
  rw [show w.heap.size+1=(w.alloc (.cells #[.string a.name,.int .i64 a.typ,.int .i64 a.prec] e)).heap.size by simp]
  exact World.cell?_alloc_new _ _ _ 0
 b1:=by
  rw [show w.heap.size+1=(w.alloc (.cells #[.string a.name,.int .i64 a.typ,.int .i64 a.prec] e)).heap.size by simp]
  exact World.cell?_alloc_new _ _ _ 1
end
end Hb
namespace Go.Proofs.YtbojljpldcijgaaGreat
open Go.RowKit Hb
set_option maxRecDepth 100000
set_option maxHeartbeats 1600000 in
theorem op_compare_up (a b : OpR) (w : World) : Calls Tryz.prog 75 #[opV a, opV b] w fun e w' => e = .returned (.int .i64 (cmpOp a b)) ∧ Below w.heap.size w w' ∧ w.drawn ≤ w'.drawn := by
 unfold opV
 have HK := Lib.hid (show cmpOp a b = orI (cmpS a.name b.name) (cmpN (clsOp a.typ) (clsOp b.typ)) from rfl)
 have H1 := CmpHeld.start w a b 61
 go_enter Tryz.func75, Tryz.ntmps75
 go_wp2_with fail
 go_region_held3 (fun w' => w'.cell? ⟨w.heap.size, 0, none⟩ = some (.string a.name) ∧ w'.cell? ⟨w.heap.size, 1, none⟩ = some (.int .i64 a.typ) ∧ w'.cell? ⟨w.heap.size + 1, 0, none⟩ = some (.string b.name) ∧ w'.cell? ⟨w.heap.size + 1, 1, none⟩ = some (.int .i64 b.typ) ∧ CmpHeld w w' a b)
  (first | with_reducible exact H1.drew.keep | with_reducible exact CmpHeld.keep (CmpHeld.of (by with_reducible assumption)) | with_reducible exact CmpHeld.keep (CmpHeld.call (by with_reducible assumption) (by with_reducible assumption) (CmpHeld.of (by with_reducible assumption))) | with_reducible exact CmpHeld.keep (CmpHeld.alloc (CmpHeld.of (by with_reducible assumption)) _))
  (first
   | (go_at_call 119; (with_reducible refine (cmp_str a.name b.name _).mono ?_); rintro e w2 ⟨rfl, rfl⟩)
   | (go_at_call 76; first | ((with_reducible refine (op_class_up a.typ _).mono ?_); rintro e w2 ⟨rfl, hB2, hD2⟩) | ((with_reducible refine (op_class_up b.typ _).mono ?_); rintro e w2 ⟨rfl, hB2, hD2⟩))
   | (go_at_call 120; (with_reducible refine (cmp_int (clsOp a.typ) (clsOp b.typ) _).mono ?_); rintro e w2 ⟨rfl, rfl⟩)
   | (go_at_call 118; (with_reducible refine (cmp_or (cmpS a.name b.name) (cmpN (clsOp a.typ) (clsOp b.typ)) _ _ _ rfl).mono ?_); rintro e w2 ⟨rfl, rfl⟩))
 all_goals go_wp2_with fail
 all_goals go_ret
 all_goals exact ⟨ret_int HK.out.symm, CmpHeld.bel (CmpHeld.of (by with_reducible assumption)), CmpHeld.dr (CmpHeld.of (by with_reducible assumption))⟩
theorem op_compare (a b:OpR) (w:World):Calls Tryz.prog 75 #[opV a,opV b] w fun e w'=>e=.returned (.int .i64 (cmpOp a b))∧Below w.heap.size w w' :=
 (op_compare_up a b w).mono fun _ _ ⟨he,hb,_⟩=>⟨he,hb⟩
end Go.Proofs.YtbojljpldcijgaaGreat
namespace Hb
open Go Go.RowKit
structure BoxAt (w0 w:World) (o:OpR):Prop where
 bel:Below w0.heap.size w0 w
 lt:w0.heap.size<w.heap.size
 c0:w.cell? ⟨w0.heap.size,0,none⟩=some (.string o.name)
 c1:w.cell? ⟨w0.heap.size,1,none⟩=some (.int .i64 o.typ)
 c2:w.cell? ⟨w0.heap.size,2,none⟩=some (.int .i64 o.prec)
theorem BoxAt.call {w0 w w':World} {o:OpR} (h:BoxAt w0 w o) (hB:Below w.heap.size w w'):BoxAt w0 w' o where
 bel:=h.bel.trans (hB.mono (Nat.le_of_lt h.lt))
 lt:=Nat.lt_of_lt_of_le h.lt hB.size
 c0:=(hB.cell (p:=⟨_,_,none⟩) h.lt).trans h.c0
 c1:=(hB.cell (p:=⟨_,_,none⟩) h.lt).trans h.c1
 c2:=(hB.cell (p:=⟨_,_,none⟩) h.lt).trans h.c2
theorem BoxAt.start (w:World) (o:OpR) (e:TypeId):BoxAt w (w.alloc (.cells #[.string o.name,.int .i64 o.typ,.int .i64 o.prec] e)) o where
 bel:=(Below.refl _ _).alloc (Nat.le_refl _) _
 lt:=by simp
 c0:=World.cell?_alloc_new _ _ _ 0
 c1:=World.cell?_alloc_new _ _ _ 1
 c2:=World.cell?_alloc_new _ _ _ 2
end Hb
namespace Go.Proofs.YtbojljpldcijgaaGreat
open Go.RowKit Hb
set_option maxRecDepth 100000
theorem op_class_box {w0 w:World} {o:OpR} (h:BoxAt w0 w o) (t:Int):Calls Tryz.prog 76 #[.int .i64 t] w fun e w'=>e=.returned (.int .i64 (clsOp t))∧BoxAt w0 w' o :=
 (op_class t w).mono fun _ _ ⟨he,hb⟩=>⟨he,h.call hb⟩
set_option maxHeartbeats 1600000 in
theorem op_valid (o:OpR) (w:World):Calls Tryz.prog 83 #[opV o] w fun e w'=>e=.returned (.bool (opOk o))∧Below w.heap.size w w':=by
 have hX:=BoxAt.start w o 61
 have HK:=Lib.hid (show opOk o=_ from rfl)
 unfold opV
 go_enter Tryz.func83,Tryz.ntmps83
 go_wp2_with (first | (go_at_call 76;(with_reducible refine (op_class_box (by with_reducible assumption) o.typ).mono ?_);rintro e w2 ⟨rfl,hX2⟩;have c0:=hX2.c0;have c1:=hX2.c1;have c2:=hX2.c2))
 all_goals go_ret
 all_goals refine ⟨ret_bool ?_,BoxAt.bel (o:=o) (by with_reducible assumption)⟩
 all_goals unfold opOk isN
 all_goals grind
end Go.Proofs.YtbojljpldcijgaaGreat
namespace Hb
open Go Go.RowKit
def OpsAt (w:World) (A:Option Addr) (l:List OpR):Prop :=
 ∀j (h:j<l.length),∃b off,A=some ⟨b,off,none⟩∧b<w.heap.size∧w.cell? ⟨b,off+j * 3,none⟩=some (.string l[j].name)∧w.cell? ⟨b,off+j * 3+1,none⟩=some (.int .i64 l[j].typ)∧w.cell? ⟨b,off+j * 3+2,none⟩=some (.int .i64 l[j].prec)
theorem OpsAt.nil (w:World) (A:Option Addr):OpsAt w A []:=fun _ h=>absurd h (by simp)
theorem OpsAt.below {w w':World} {A:Option Addr} {l:List OpR} (h:OpsAt w A l) (hb:Below w.heap.size w w'):OpsAt w' A l:=fun j hj=>by
 obtain ⟨b,off,e,hlt,c0,c1,c2⟩:=h j hj
 exact ⟨b,off,e,Nat.lt_of_lt_of_le hlt hb.size,(hb.cell (p:=⟨b,_,none⟩) hlt).trans c0,(hb.cell (p:=⟨b,_,none⟩) hlt).trans c1,(hb.cell (p:=⟨b,_,none⟩) hlt).trans c2⟩
end Hb
namespace Hb
theorem okJ_1 (l:List OpR) (k:Nat) (hk:k<l.length) (h:opOk l[k]=false):okJ l k=false:=by unfold okJ;rw [getD_at l k hk,h];rfl
theorem okJ_0 (l:List OpR) (k:Nat) (hk:k<l.length) (h0:k=0) (h:opOk l[k]=true):okJ l k=true:=by subst h0;unfold okJ;rw [getD_at l 0 hk,h];rfl
theorem okJ_s (l:List OpR) (k:Nat) (hk:k<l.length) (h0:0<k) (h:opOk l[k]=true):okJ l k=opLt (l[k-1]'(by omega)) l[k]:=by
 unfold okJ;rw [getD_at l k hk,getD_at l (k-1) (by omega),h]
 have:(k==0)=false:=by simp;omega
 rw [this];rfl
end Hb
namespace Go.Proofs.YtbojljpldcijgaaGreat
open Go.RowKit Hb
set_option maxRecDepth 100000
set_option maxHeartbeats 3200000 in
theorem ops_valid (A:Option Addr) (n cap:Nat) (l:List OpR) (w:World) (hn:n=l.length) (hm:n≤400) (hp:OpsAt w A l) :
  Calls Tryz.prog 50 #[.slice A n cap] w fun e w'=>e=.returned (.bool (opsValid l))∧Below w.heap.size w w':=by
 by_cases c1:100<n
 ·have b1:decide ((100:Int)<n)=true:=by simp;omega
  have HV:=Lib.hid (opsValid_long l (by omega))
  clear hn hp c1
  go_enter Tryz.func50,Tryz.ntmps50
  go_wp2_with fail
  go_ret
  exact ⟨ret_bool HV.out.symm,Below.refl _ _⟩
 have b1:decide ((100:Int)<n)=false:=by simp;omega
 have h100:n≤100:=by omega
 have HN:=Lib.hid hn
 have HP:=Lib.hid hp
 clear hn hp c1
 go_enter Tryz.func50,Tryz.ntmps50
 go_wp2_with fail
 go_loopw [11] (fun i wr=>∃k:Nat,k≤n∧i=.int .i64 k∧Below w.heap.size w wr∧Hid (∀j,j<k→okJ l j=true)) (fun i _=>n-(intOf i).toNat)
 case atStart=>exact ⟨0,Nat.zero_le _,rfl,Below.refl _ _,fun j hj=>absurd hj (by omega)⟩
 case round=>
  obtain ⟨k,hk,rfl,hB,HA⟩:=hrel
  by_cases hlt:k<n
  ·have hbs:=hB.size
   have hkl:k<l.length:=by have:=HN.out;omega
   obtain ⟨b,off,rfl,hb,c0,c1,c2⟩:=(HP.out.below hB) k hkl
   have hprev:0<k→wr.cell? ⟨b,off+(k-1) * 3,none⟩=some (.string (l[k-1]'(by omega)).name)∧wr.cell? ⟨b,off+(k-1) * 3+1,none⟩=some (.int .i64 (l[k-1]'(by omega)).typ)∧wr.cell? ⟨b,off+(k-1) * 3+2,none⟩=some (.int .i64 (l[k-1]'(by omega)).prec):=fun h0=>by
    obtain ⟨b',off',e',_,d0,d1,d2⟩:=(HP.out.below hB) (k-1) (by omega)
    injection e' with e'
    injection e' with e1 e2 _
    subst e1 e2
    exact ⟨d0,d1,d2⟩
   have HPr:=Lib.hid hprev
   have J1:=Lib.hid (okJ_1 l k hkl)
   have J0:=Lib.hid (okJ_0 l k hkl)
   have JS:=Lib.hid (okJ_s l k hkl)
   have HNO:=Lib.hid (opsValid_no l k hkl)
   generalize l[k]=o at *
   have hX:=BoxAt.start wr o 61
   clear hprev
   cases hok:opOk o
   ·have HO:=Lib.hid hok
    have HW:=Lib.hid (op_valid o (wr.alloc (.cells #[.string o.name,.int .i64 o.typ,.int .i64 o.prec] 61)))
    rw [hok] at HW
    clear hok
    unfold opV at HW
    go_wp2_with fail
    refine HW.out.mono ?_;rintro e w1 ⟨rfl,hB1⟩
    go_wp2_with fail
    go_ret
    exact ⟨ret_bool (HNO.out (J1.out HO.out)).symm,hB.trans ((hX.call hB1).bel.mono hbs)⟩
   ·have HO:=Lib.hid hok
    have HW:=Lib.hid (op_valid o (wr.alloc (.cells #[.string o.name,.int .i64 o.typ,.int .i64 o.prec] 61)))
    rw [hok] at HW
    clear hok
    unfold opV at HW
    by_cases h0:k=0
    ·have b0:((k:Int)==0)=true:=by simp [h0]
     have HJ:=Lib.hid (J0.out h0 HO.out)
     clear h0
     go_wp2_with fail
     refine HW.out.mono ?_;rintro e w1 ⟨rfl,hB1⟩
     go_wp2_with fail
     go_roundw
     case rel=>exact ⟨k+1,by omega,by go_num,hB.trans ((hX.call hB1).bel.mono hbs),fun j hj=>by
       rcases Nat.lt_or_ge j k with h | h
       ·exact HA.out j h
       ·have:j=k:=by omega
        subst this;exact HJ.out⟩
     case measure=>simp [intOf] <;> omega
    ·have b0:((k:Int)==0)=false:=by simpa using h0
     have h0':0<k:=by omega
     have HJ:=Lib.hid (JS.out h0' HO.out)
     obtain ⟨d0,d1,d2⟩:=HPr.out h0'
     generalize l[k-1]'(by omega)=p at *
     clear h0
     go_wp2_with fail
     refine HW.out.mono ?_;rintro e w1 ⟨rfl,hB1⟩
     have hX1:=hX.call hB1
     have xl:=hX1.lt
     have x0:=hX1.c0
     have x1:=hX1.c1
     have x2:=hX1.c2
     have d0':=(hX1.bel.cell (p:=⟨b,off+(k-1) * 3,none⟩) hb).trans d0
     have d1':=(hX1.bel.cell (p:=⟨b,off+(k-1) * 3+1,none⟩) hb).trans d1
     have d2':=(hX1.bel.cell (p:=⟨b,off+(k-1) * 3+2,none⟩) hb).trans d2
     clear d0 d1 d2
     go_wp2_with fail
     refine (op_compare p o _).mono ?_;rintro e w2 ⟨rfl,hB2⟩
     have hY:=(BoxAt.start w1 p 61).call hB2
     have hX2:=(hX1.call ((Below.refl w1.heap.size w1).alloc (Nat.le_refl _) (.cells #[.string p.name,.int .i64 p.typ,.int .i64 p.prec] 61))).call hB2
     have y0:=hY.c0
     have y1:=hY.c1
     have z0:=hX2.c0
     have hB3:=hB.trans (hX2.bel.mono hbs)
     clear x0 x1 x2 d0' d1' d2' hB2
     have hcase:(decide (0≤cmpOp p o)=true∧Hid (opLt p o=false))∨(decide (0≤cmpOp p o)=false∧(p.name.toList==o.name.toList)=false∧Hid (opLt p o=true))∨(decide (0≤cmpOp p o)=false∧(p.name.toList==o.name.toList)=true∧(clsOp p.typ==2)=true∧Hid (opLt p o=false))∨(decide (0≤cmpOp p o)=false∧(p.name.toList==o.name.toList)=true∧(clsOp p.typ==2)=false∧Hid (opLt p o=true)):=by
      unfold Hid opLt
      grind
     rcases hcase with ⟨e1,HL⟩ | ⟨e1,e2,HL⟩ | ⟨e1,e2,e3,HL⟩ | ⟨e1,e2,e3,HL⟩
     ·go_wp2_with fail
      go_ret
      exact ⟨ret_bool (HNO.out (HJ.out.trans HL.out)).symm,hB3⟩
     ·have e2':¬p.name.toList=o.name.toList:=by simpa using e2
      go_wp2_with fail
      go_roundw
      case rel=>exact ⟨k+1,by omega,by go_num,hB3,fun j hj=>by
       rcases Nat.lt_or_ge j k with h | h
       ·exact HA.out j h
       ·have:j=k:=by omega
        subst this;exact HJ.out.trans HL.out⟩
      case measure=>simp [intOf] <;> omega
     ·have e2':p.name.toList=o.name.toList:=by simpa using e2
      have e3':clsOp p.typ=2:=by simpa using e3
      go_wp2_with fail
      refine (op_class_box hX2 p.typ).mono ?_;rintro e w3 ⟨rfl,hX3⟩
      go_wp2_with fail
      go_ret
      exact ⟨ret_bool (HNO.out (HJ.out.trans HL.out)).symm,hB.trans (hX3.bel.mono hbs)⟩
     ·have e2':p.name.toList=o.name.toList:=by simpa using e2
      have e3':¬clsOp p.typ=2:=by simpa using e3
      go_wp2_with fail
      refine (op_class_box hX2 p.typ).mono ?_;rintro e w3 ⟨rfl,hX3⟩
      go_wp2_with fail
      go_roundw
      case rel=>exact ⟨k+1,by omega,by go_num,hB.trans (hX3.bel.mono hbs),fun j hj=>by
       rcases Nat.lt_or_ge j k with h | h
       ·exact HA.out j h
       ·have:j=k:=by omega
        subst this;exact HJ.out.trans HL.out⟩
      case measure=>simp [intOf] <;> omega
  ·obtain rfl:k=n:=by omega
   have HY:=Lib.hid (opsValid_yes l (by have:=HN.out;omega) (fun j hj=>HA.out j (by have:=HN.out;omega)))
   go_wp2_with fail
   go_ret
   exact ⟨ret_bool HY.out.symm,hB⟩
end Go.Proofs.YtbojljpldcijgaaGreat
namespace Hb
open Go Go.RowKit
def idxI (p:OpR→Bool) (l:List OpR):Int:=if l.any p=true then (l.findIdx p:Int) else -1
theorem idxI_hit (p:OpR→Bool) (l:List OpR) (k:Nat) (hk:k<l.length) (h:p l[k]=true) (hb:∀j (hj:j<k),p (l[j]'(by omega))=false):idxI p l=k:=by
 unfold idxI
 rw [if_pos (List.any_eq_true.2 ⟨l[k],List.getElem_mem hk,h⟩),(List.findIdx_eq hk).2 ⟨h,hb⟩]
theorem idxI_miss (p:OpR→Bool) (l:List OpR) (hb:∀j (hj:j<l.length),p l[j]=false):idxI p l=-1:=by
 unfold idxI
 rw [if_neg]
 rw [Bool.not_eq_true,List.any_eq_false]
 intro x hx
 obtain ⟨j,hj,rfl⟩:=List.getElem_of_mem hx
 simp [hb j hj]
theorem find_hit (p:OpR→Bool) (l:List OpR) (k:Nat) (hk:k<l.length) (h:p l[k]=true) (hb:∀j (hj:j<k),p (l[j]'(by omega))=false):l.find? p=some l[k]:=by
 rw [List.find?_eq_some_iff_getElem]
 exact ⟨h,k,hk,rfl,fun j hj=>by simp [hb j hj]⟩
theorem find_miss (p:OpR→Bool) (l:List OpR) (hb:∀j (hj:j<l.length),p l[j]=false):l.find? p=none:=by
 rw [List.find?_eq_none]
 intro x hx
 obtain ⟨j,hj,rfl⟩:=List.getElem_of_mem hx
 simp [hb j hj]
def isOp (name:ByteArray) (c:Int) (o:OpR):Bool:=o.name.toList==name.toList&&clsOp o.typ==c
def op0:OpR:=⟨⟨#[]⟩,0,0⟩
def findR (l:List OpR) (name:ByteArray) (c:Int):Option OpR:=if opsValid l=true then l.find? (isOp name c) else none
structure FHeld (w0 w:World) (o:OpR) (g1 g2:Nat) (name:ByteArray) (c:Int):Prop where
 bel:Below w0.heap.size w0 w
 lt:w0.heap.size<w.heap.size
 a0:w.cell? ⟨w0.heap.size,0,none⟩=some (.string o.name)
 a1:w.cell? ⟨w0.heap.size,1,none⟩=some (.int .i64 o.typ)
 n0:w.cell? ⟨g1,0,none⟩=some (.string name)
 f0:w.cell? ⟨g2,0,none⟩=some (.int .i64 c)
 l1:g1<w0.heap.size
 l2:g2<w0.heap.size
section
variable {w0 w w':World} {o:OpR} {g1 g2:Nat} {name:ByteArray} {c:Int}
theorem FHeld.keep (h:FHeld w0 w o g1 g2 name c):w.cell? ⟨w0.heap.size,0,none⟩=some (.string o.name)∧w.cell? ⟨w0.heap.size,1,none⟩=some (.int .i64 o.typ)∧w.cell? ⟨g1,0,none⟩=some (.string name)∧w.cell? ⟨g2,0,none⟩=some (.int .i64 c)∧FHeld w0 w o g1 g2 name c:=⟨h.a0,h.a1,h.n0,h.f0,h⟩
theorem FHeld.of (h:w.cell? ⟨w0.heap.size,0,none⟩=some (.string o.name)∧w.cell? ⟨w0.heap.size,1,none⟩=some (.int .i64 o.typ)∧w.cell? ⟨g1,0,none⟩=some (.string name)∧w.cell? ⟨g2,0,none⟩=some (.int .i64 c)∧FHeld w0 w o g1 g2 name c):FHeld w0 w o g1 g2 name c:=h.2.2.2.2
theorem FHeld.call (hB:Below w.heap.size w w') (h:FHeld w0 w o g1 g2 name c):FHeld w0 w' o g1 g2 name c where
 bel:=h.bel.trans (hB.mono (by have:=h.lt;omega))
 lt:=Nat.lt_of_lt_of_le h.lt hB.size
 a0:=(hB.cell (p:=⟨_,_,none⟩) h.lt).trans h.a0
 a1:=(hB.cell (p:=⟨_,_,none⟩) h.lt).trans h.a1
 n0:=(hB.cell (p:=⟨_,_,none⟩) (Nat.lt_trans h.l1 h.lt)).trans h.n0
 f0:=(hB.cell (p:=⟨_,_,none⟩) (Nat.lt_trans h.l2 h.lt)).trans h.f0
 l1:=h.l1
 l2:=h.l2
theorem FHeld.drew (h:FHeld w0 w o g1 g2 name c):FHeld w0 w.drew o g1 g2 name c:=h.call (Below.refl w.heap.size w).drew
theorem FHeld.start (e:TypeId) (n0:w.cell? ⟨g1,0,none⟩=some (.string name)) (f0:w.cell? ⟨g2,0,none⟩=some (.int .i64 c)) (l1:g1<w.heap.size) (l2:g2<w.heap.size):FHeld w (w.alloc (.cells #[.string o.name,.int .i64 o.typ,.int .i64 o.prec] e)) o g1 g2 name c where
 bel:=(Below.refl _ _).alloc (Nat.le_refl _) _
 lt:=by simp
 a0:=World.cell?_alloc_new _ _ _ 0
 a1:=World.cell?_alloc_new _ _ _ 1
 n0:=(World.grownBy_alloc _ _ none).cell n0 (by simp)
 f0:=(World.grownBy_alloc _ _ none).cell f0 (by simp)
 l1:=l1
 l2:=l2
end
structure RHeld (w0 w:World) (name:ByteArray) (c:Int):Prop where
 bel:Below w0.heap.size w0 w
 lt:w0.heap.size+1+1<w.heap.size
 n0:w.cell? ⟨w0.heap.size,0,none⟩=some (.string name)
 f0:w.cell? ⟨w0.heap.size+1,0,none⟩=some (.int .i64 c)
 r0:∃v,w.cell? ⟨w0.heap.size+1+1,0,none⟩=some v
 r1:∃v,w.cell? ⟨w0.heap.size+1+1,1,none⟩=some v
 r2:∃v,w.cell? ⟨w0.heap.size+1+1,2,none⟩=some v
 fr:∀o,w.frozen? ⟨w0.heap.size+1+1,o,none⟩=false
theorem RHeld.call {w0 w w':World} {name:ByteArray} {c:Int} (h:RHeld w0 w name c) (hB:Below w.heap.size w w'):RHeld w0 w' name c where
 bel:=h.bel.trans (hB.mono (by have:=h.lt;omega))
 lt:=Nat.lt_of_lt_of_le h.lt hB.size
 n0:=(hB.cell (p:=⟨_,_,none⟩) (by have:=h.lt;show w0.heap.size<_;omega)).trans h.n0
 f0:=(hB.cell (p:=⟨_,_,none⟩) (by have:=h.lt;show w0.heap.size+1<_;omega)).trans h.f0
 r0:=h.r0.imp fun _ hh=>(hB.cell (p:=⟨_,_,none⟩) h.lt).trans hh
 r1:=h.r1.imp fun _ hh=>(hB.cell (p:=⟨_,_,none⟩) h.lt).trans hh
 r2:=h.r2.imp fun _ hh=>(hB.cell (p:=⟨_,_,none⟩) h.lt).trans hh
 fr:=fun o=>(hB.frozen (p:=⟨_,o,none⟩) h.lt).trans (h.fr o)
theorem RHeld.start (w:World) (name:ByteArray) (c:Int) (t1 t2 t3:TypeId):RHeld w (((w.alloc (.cells #[.string name] t1)).alloc (.cells #[.int .i64 c] t2)).alloc (.cells #[.string ⟨#[]⟩,.int .i64 0,.int .i64 0] t3)) name c where
 bel:=(((Below.refl w.heap.size w).alloc (Nat.le_refl _) _).alloc (by simp) _).alloc (by simp;omega) _
 lt:=by simp
 n0:=(World.grownBy_alloc _ _ none).cell ((World.grownBy_alloc _ _ none).cell (World.cell?_alloc_new _ _ _ 0) (by simp)) (by simp)
 f0:=(World.grownBy_alloc _ _ none).cell (by
  rw [show w.heap.size+1=(w.alloc (.cells #[.string name] t1)).heap.size by simp]
  exact World.cell?_alloc_new _ _ _ 0) (by simp)
 r0:=⟨_,by
  rw [show w.heap.size+1+1=((w.alloc (.cells #[.string name] t1)).alloc (.cells #[.int .i64 c] t2)).heap.size by simp]
  exact World.cell?_alloc_new _ _ _ 0⟩
 r1:=⟨_,by
  rw [show w.heap.size+1+1=((w.alloc (.cells #[.string name] t1)).alloc (.cells #[.int .i64 c] t2)).heap.size by simp]
  exact World.cell?_alloc_new _ _ _ 1⟩
 r2:=⟨_,by
  rw [show w.heap.size+1+1=((w.alloc (.cells #[.string name] t1)).alloc (.cells #[.int .i64 c] t2)).heap.size by simp]
  exact World.cell?_alloc_new _ _ _ 2⟩
 fr:=fun o=>by
  rw [show w.heap.size+1+1=((w.alloc (.cells #[.string name] t1)).alloc (.cells #[.int .i64 c] t2)).heap.size by simp]
  exact World.frozen?_alloc_new _ _ _ _
end Hb
namespace Go.Proofs.YtbojljpldcijgaaGreat
open Go.RowKit Hb
set_option maxRecDepth 100000
set_option maxHeartbeats 1600000 in
theorem find_1 (o:OpR) (g1 g2:Nat) (name:ByteArray) (c:Int) (w:World) (n0:w.cell? ⟨g1,0,none⟩=some (.string name)) (f0:w.cell? ⟨g2,0,none⟩=some (.int .i64 c)) (l1:g1<w.heap.size) (l2:g2<w.heap.size) :
  Calls Tryz.prog 167 #[opV o,.pointer (some ⟨g1,0,none⟩),.pointer (some ⟨g2,0,none⟩)] w fun e w'=>e=.returned (.bool (isOp name c o))∧Below w.heap.size w w':=by
 have H1:=FHeld.start (o:=o) 61 n0 f0 l1 l2
 unfold opV
 have HS:=Lib.hid (show isOp name c o=(o.name.toList==name.toList&&clsOp o.typ==c) from rfl)
 cases h:(o.name.toList==name.toList)
 ·rw [h] at HS
  have h2:¬o.name.toList=name.toList:=by simpa using h
  go_enter Tryz.func167,Tryz.ntmps167
  go_wp2_with fail
  go_quiet (fail)
  go_wp2_with fail
  go_ret
  exact ⟨ret_bool HS.out.symm,bl_drewN H1.bel _⟩
 ·rw [h] at HS
  have h2:o.name.toList=name.toList:=by simpa using h
  go_enter Tryz.func167,Tryz.ntmps167
  go_wp2_with fail
  go_region_held3 (fun w'=>w'.cell? ⟨w.heap.size,0,none⟩=some (.string o.name)∧w'.cell? ⟨w.heap.size,1,none⟩=some (.int .i64 o.typ)∧w'.cell? ⟨g1,0,none⟩=some (.string name)∧w'.cell? ⟨g2,0,none⟩=some (.int .i64 c)∧FHeld w w' o g1 g2 name c)
   (first | with_reducible exact H1.drew.keep | with_reducible exact FHeld.keep (FHeld.of (by with_reducible assumption)) | with_reducible exact FHeld.keep (FHeld.call (by with_reducible assumption) (FHeld.of (by with_reducible assumption))))
   (first | (go_at_call 76;(with_reducible refine (op_class o.typ _).mono ?_);rintro e w2 ⟨rfl,hB2⟩))
  all_goals go_wp2_with fail
  all_goals go_ret
  all_goals exact ⟨ret_bool HS.out.symm,FHeld.bel (FHeld.of (by with_reducible assumption))⟩
set_option maxHeartbeats 1600000 in
theorem ops_index (A:Option Addr) (n cap:Nat) (l:List OpR) (g1 g2:Nat) (name:ByteArray) (c:Int) (w:World) (hn:n=l.length) (hm:n≤400) (hp:OpsAt w A l) (n0:w.cell? ⟨g1,0,none⟩=some (.string name)) (f0:w.cell? ⟨g2,0,none⟩=some (.int .i64 c)) (l1:g1<w.heap.size) (l2:g2<w.heap.size) :
  Calls Tryz.prog 122 #[.slice A n cap,.func (.func 167) #[] #[.pointer (some ⟨g1,0,none⟩),.pointer (some ⟨g2,0,none⟩)]] w fun e w'=>e=.returned (.int .i64 (idxI (isOp name c) l))∧Below w.heap.size w w':=by
 have HN:=Lib.hid hn
 have HP:=Lib.hid hp
 clear hn hp
 go_enter Tryz.func122,Tryz.ntmps122
 go_wp2_with fail
 go_loopw [8] (fun i wr=>∃k:Nat,k≤n∧i=.int .i64 k∧Below w.heap.size w wr∧Hid (∀j (hj:j<l.length),j<k→isOp name c l[j]=false)) (fun i _=>n-(intOf i).toNat)
 case atStart=>exact ⟨0,Nat.zero_le _,rfl,Below.refl _ _,fun j _ hj=>absurd hj (by omega)⟩
 case round=>
  obtain ⟨k,hk,rfl,hB,HA⟩:=hrel
  by_cases hlt:k<n
  ·have hbs:=hB.size
   have hkl:k<l.length:=by have:=HN.out;omega
   obtain ⟨b,off,rfl,hb,c0,c1,c2⟩:=(HP.out.below hB) k hkl
   have HH:=Lib.hid (fun h=>idxI_hit (isOp name c) l k hkl h (fun j hj=>HA.out j (by omega) hj))
   have HC:=Lib.hid (find_1 l[k] g1 g2 name c wr ((hB.cell (p:=⟨g1,0,none⟩) l1).trans n0) ((hB.cell (p:=⟨g2,0,none⟩) l2).trans f0) (Nat.lt_of_lt_of_le l1 hbs) (Nat.lt_of_lt_of_le l2 hbs))
   have HR:=Lib.hid (fun (h:isOp name c l[k]=false)=>(show ∀j (hj:j<l.length),j<k+1→isOp name c l[j]=false from fun j hj hjk=>by
    rcases Nat.lt_or_ge j k with h' | h'
    ·exact HA.out j hj h'
    ·have:j=k:=by omega
     subst this;exact h))
   generalize l[k]=o at *
   unfold opV at HC
   cases hi:isOp name c o
   ·rw [hi] at HC
    have HI:=Lib.hid hi
    clear hi
    go_wp2_with fail
    refine HC.out.mono ?_;rintro e w1 ⟨rfl,hB1⟩
    go_wp2_with fail
    go_roundw
    case rel=>exact ⟨k+1,by omega,by go_num,hB.trans (hB1.mono hbs),HR.out HI.out⟩
    case measure=>simp [intOf] <;> omega
   ·rw [hi] at HC
    have HI:=Lib.hid hi
    clear hi
    go_wp2_with fail
    refine HC.out.mono ?_;rintro e w1 ⟨rfl,hB1⟩
    go_wp2_with fail
    go_ret
    exact ⟨ret_int (HH.out HI.out).symm,hB.trans (hB1.mono hbs)⟩
  ·obtain rfl:k=n:=by omega
   have HM:=Lib.hid (idxI_miss (isOp name c) l (fun j hj=>HA.out j hj (by have:=HN.out;omega)))
   go_wp2_with fail
   go_ret
   exact ⟨ret_int HM.out.symm,hB⟩
set_option maxHeartbeats 1600000 in
theorem ops_find (A:Option Addr) (n cap:Nat) (l:List OpR) (name:ByteArray) (c:Int) (w:World) (hn:n=l.length) (hm:n≤400) (hp:OpsAt w A l) :
  Calls Tryz.prog 121 #[.slice A n cap,.string name,.int .i64 c] w fun e w'=>e=.returned (.tuple #[opV ((findR l name c).getD op0),.bool (findR l name c).isSome])∧Below w.heap.size w w':=by
 have HP:=Lib.hid hp
 have HN:=Lib.hid hn
 clear hp
 have hX:=RHeld.start w name c 9 3 61
 have HV:=Lib.hid (ops_valid A n cap l _ hn hm (HP.out.below hX.bel))
 clear hn
 cases hv:opsValid l
 ·rw [hv] at HV
  have HF:=Lib.hid (show findR l name c=none by unfold findR;rw [hv];rfl)
  clear hv
  go_enter Tryz.func121,Tryz.ntmps121
  go_wp2_with fail
  refine HV.out.mono ?_;rintro e w1 ⟨rfl,hB1⟩
  have hY:=hX.call hB1
  obtain ⟨hb,lt,n0,f0,⟨v0,r0⟩,⟨v1,r1⟩,⟨v2,r2⟩,fr⟩:=id hY
  have fr0:=fr 0
  go_wp2_with fail
  refine bodyPost_ret (v:=.tuple #[opV op0,.bool false]) (by simp [opV,op0,results,Tryz.results121,go_sem,r0,r1,r2]) rfl ⟨by rw [HF.out];rfl,by
   have hs:w.heap.size≤w.heap.size+1+1:=by omega
   exact ((hb.setCell (p:=⟨_,_,none⟩) hs _).setCell (p:=⟨_,_,none⟩) hs _).setCell (p:=⟨_,_,none⟩) hs _⟩
 ·rw [hv] at HV
  have HF:=Lib.hid (show findR l name c=l.find? (isOp name c) by unfold findR;rw [hv];rfl)
  clear hv
  have HI:=Lib.hid (fun (w1:World) (hY:RHeld w w1 name c)=>ops_index A n cap l w.heap.size (w.heap.size+1) name c w1 HN.out hm (HP.out.below hY.bel) hY.n0 hY.f0 (by have:=hY.lt;omega) (by have:=hY.lt;omega))
  by_cases hex:∃k,∃hk:k<l.length,isOp name c l[k]=true∧∀j (hj:j<k),isOp name c (l[j]'(by omega))=false
  ·obtain ⟨k,hkl,h1,h2⟩:=hex
   have hkn:k<n:=by have:=HN.out;omega
   have HE:=Lib.hid (HF.out.trans (find_hit _ l k hkl h1 h2))
   rw [idxI_hit _ l k hkl h1 h2] at HI
   obtain ⟨b,off,rfl,hbb,q0,q1,q2⟩:=HP.out k hkl
   generalize l[k]=o at *
   clear h1 h2
   go_enter Tryz.func121,Tryz.ntmps121
   go_wp2_with fail
   refine HV.out.mono ?_;rintro e w1 ⟨rfl,hB1⟩
   have hY:=hX.call hB1
   go_wp2_with fail
   refine (HI.out w1 hY).mono ?_;rintro e w2 ⟨rfl,hB2⟩
   have hZ:=hY.call hB2
   obtain ⟨hb,lt,n0,f0,⟨v0,r0⟩,⟨v1,r1⟩,⟨v2,r2⟩,fr⟩:=id hZ
   have fr0:=fr 0
   have q0':=(hb.cell (p:=⟨b,off+k * 3,none⟩) hbb).trans q0
   have q1':=(hb.cell (p:=⟨b,off+k * 3+1,none⟩) hbb).trans q1
   have q2':=(hb.cell (p:=⟨b,off+k * 3+2,none⟩) hbb).trans q2
   clear q0 q1 q2
   go_wp2_with fail
   refine bodyPost_ret (v:=.tuple #[opV o,.bool true]) (by simp [opV,results,Tryz.results121,go_sem,r0,r1,r2]) rfl ⟨by rw [HE.out];rfl,by
    have hs:w.heap.size≤w.heap.size+1+1:=by omega
    exact ((hb.setCell (p:=⟨_,_,none⟩) hs _).setCell (p:=⟨_,_,none⟩) hs _).setCell (p:=⟨_,_,none⟩) hs _⟩
  ·have hno:∀j (hj:j<l.length),isOp name c l[j]=false:=by
    intro j
    induction j using Nat.strongRecOn with
    | ind j ih=>
     intro hj
     cases hc:isOp name c l[j] with
     | false=>rfl
     | true=>exact absurd ⟨j,hj,hc,fun i hi=>ih i hi (by omega)⟩ hex
   have HE:=Lib.hid (HF.out.trans (find_miss _ l hno))
   rw [idxI_miss _ l hno] at HI
   clear hno hex
   go_enter Tryz.func121,Tryz.ntmps121
   go_wp2_with fail
   refine HV.out.mono ?_;rintro e w1 ⟨rfl,hB1⟩
   have hY:=hX.call hB1
   go_wp2_with fail
   refine (HI.out w1 hY).mono ?_;rintro e w2 ⟨rfl,hB2⟩
   have hZ:=hY.call hB2
   obtain ⟨hb,lt,n0,f0,⟨v0,r0⟩,⟨v1,r1⟩,⟨v2,r2⟩,fr⟩:=id hZ
   have fr0:=fr 0
   go_wp2_with fail
   refine bodyPost_ret (v:=.tuple #[opV op0,.bool false]) (by simp [opV,op0,results,Tryz.results121,go_sem,r0,r1,r2]) rfl ⟨by rw [HE.out];rfl,by
    have hs:w.heap.size≤w.heap.size+1+1:=by omega
    exact ((hb.setCell (p:=⟨_,_,none⟩) hs _).setCell (p:=⟨_,_,none⟩) hs _).setCell (p:=⟨_,_,none⟩) hs _⟩
end Go.Proofs.YtbojljpldcijgaaGreat
namespace Hb
open Go Go.RowKit
structure R3 (w0 w:World):Prop where
 bel:Below w0.heap.size w0 w
 lt:w0.heap.size<w.heap.size
 r0:∃v,w.cell? ⟨w0.heap.size,0,none⟩=some v
 r1:∃v,w.cell? ⟨w0.heap.size,1,none⟩=some v
 r2:∃v,w.cell? ⟨w0.heap.size,2,none⟩=some v
 fr:∀o,w.frozen? ⟨w0.heap.size,o,none⟩=false
theorem R3.call {w0 w w':World} (h:R3 w0 w) (hB:Below w.heap.size w w'):R3 w0 w' where
 bel:=h.bel.trans (hB.mono (Nat.le_of_lt h.lt))
 lt:=Nat.lt_of_lt_of_le h.lt hB.size
 r0:=h.r0.imp fun _ hh=>(hB.cell (p:=⟨_,_,none⟩) h.lt).trans hh
 r1:=h.r1.imp fun _ hh=>(hB.cell (p:=⟨_,_,none⟩) h.lt).trans hh
 r2:=h.r2.imp fun _ hh=>(hB.cell (p:=⟨_,_,none⟩) h.lt).trans hh
 fr:=fun o=>(hB.frozen (p:=⟨_,o,none⟩) h.lt).trans (h.fr o)
theorem R3.start (w:World) (e:TypeId):R3 w (w.alloc (.cells #[.string ⟨#[]⟩,.int .i64 0,.int .i64 0] e)) where
 bel:=(Below.refl _ _).alloc (Nat.le_refl _) _
 lt:=by simp
 r0:=⟨_,World.cell?_alloc_new _ _ _ 0⟩
 r1:=⟨_,World.cell?_alloc_new _ _ _ 1⟩
 r2:=⟨_,World.cell?_alloc_new _ _ _ 2⟩
 fr:=fun o=>World.frozen?_alloc_new _ _ _ _
theorem R3.put {w0 w:World} (h:R3 w0 w) (x y z:Value):Below w0.heap.size w0 (((w.setCell ⟨w0.heap.size,0,none⟩ x).setCell ⟨w0.heap.size,1,none⟩ y).setCell ⟨w0.heap.size,2,none⟩ z) :=
 ((h.bel.setCell (p:=⟨_,_,none⟩) (Nat.le_refl _) _).setCell (p:=⟨_,_,none⟩) (Nat.le_refl _) _).setCell (p:=⟨_,_,none⟩) (Nat.le_refl _) _
def sideL (o:OpR):Int:=if o.prec<1∨1200<o.prec then 0 else if o.typ=1∨o.typ=2∨o.typ=6 then o.prec-1 else if o.typ=3∨o.typ=7 then o.prec else 0
def sideR (o:OpR):Int:=if o.prec<1∨1200<o.prec then 0 else if o.typ=1∨o.typ=3∨o.typ=5 then o.prec-1 else if o.typ=2∨o.typ=4 then o.prec else 0
end Hb
namespace Go.Proofs.YtbojljpldcijgaaGreat
open Go.RowKit Hb
set_option maxRecDepth 100000
set_option maxHeartbeats 1600000 in
theorem ops_prefix (A:Option Addr) (n cap:Nat) (l:List OpR) (name:ByteArray) (w:World) (hn:n=l.length) (hm:n≤400) (hp:OpsAt w A l) :
  Calls Tryz.prog 181 #[.slice A n cap,.string name] w fun e w'=>e=.returned (.tuple #[opV ((findR l name 1).getD op0),.bool (findR l name 1).isSome])∧Below w.heap.size w w':=by
 have hX:=R3.start w 61
 have HV:=Lib.hid (ops_find A n cap l name 1 _ hn hm (hp.below hX.bel))
 clear hn hp
 generalize (findR l name 1).getD op0=r at *
 generalize (findR l name 1).isSome=b at *
 unfold opV at *
 go_enter Tryz.func181,Tryz.ntmps181
 go_wp2_with fail
 refine HV.out.mono ?_;rintro e w1 ⟨rfl,hB1⟩
 have hY:=hX.call hB1
 obtain ⟨hb,lt,⟨v0,r0⟩,⟨v1,r1⟩,⟨v2,r2⟩,fr⟩:=id hY
 have fr0:=fr 0
 go_wp2_with fail
 exact bodyPost_ret (v:=.tuple #[.agg #[.string r.name,.int .i64 r.typ,.int .i64 r.prec],.bool b]) (by simp [results,Tryz.results181,go_sem,r0,r1,r2]) rfl ⟨rfl,hY.put _ _ _⟩
set_option maxHeartbeats 1600000 in
theorem ops_infix (A:Option Addr) (n cap:Nat) (l:List OpR) (name:ByteArray) (w:World) (hn:n=l.length) (hm:n≤400) (hp:OpsAt w A l) :
  Calls Tryz.prog 145 #[.slice A n cap,.string name] w fun e w'=>e=.returned (.tuple #[opV ((findR l name 2).getD op0),.bool (findR l name 2).isSome])∧Below w.heap.size w w':=by
 have hX:=R3.start w 61
 have HV:=Lib.hid (ops_find A n cap l name 2 _ hn hm (hp.below hX.bel))
 clear hn hp
 generalize (findR l name 2).getD op0=r at *
 generalize (findR l name 2).isSome=b at *
 unfold opV at *
 go_enter Tryz.func145,Tryz.ntmps145
 go_wp2_with fail
 refine HV.out.mono ?_;rintro e w1 ⟨rfl,hB1⟩
 have hY:=hX.call hB1
 obtain ⟨hb,lt,⟨v0,r0⟩,⟨v1,r1⟩,⟨v2,r2⟩,fr⟩:=id hY
 have fr0:=fr 0
 go_wp2_with fail
 exact bodyPost_ret (v:=.tuple #[.agg #[.string r.name,.int .i64 r.typ,.int .i64 r.prec],.bool b]) (by simp [results,Tryz.results145,go_sem,r0,r1,r2]) rfl ⟨rfl,hY.put _ _ _⟩
set_option maxHeartbeats 1600000 in
theorem ops_postfix (A:Option Addr) (n cap:Nat) (l:List OpR) (name:ByteArray) (w:World) (hn:n=l.length) (hm:n≤400) (hp:OpsAt w A l) :
  Calls Tryz.prog 146 #[.slice A n cap,.string name] w fun e w'=>e=.returned (.tuple #[opV ((findR l name 3).getD op0),.bool (findR l name 3).isSome])∧Below w.heap.size w w':=by
 have hX:=R3.start w 61
 have HV:=Lib.hid (ops_find A n cap l name 3 _ hn hm (hp.below hX.bel))
 clear hn hp
 generalize (findR l name 3).getD op0=r at *
 generalize (findR l name 3).isSome=b at *
 unfold opV at *
 go_enter Tryz.func146,Tryz.ntmps146
 go_wp2_with fail
 refine HV.out.mono ?_;rintro e w1 ⟨rfl,hB1⟩
 have hY:=hX.call hB1
 obtain ⟨hb,lt,⟨v0,r0⟩,⟨v1,r1⟩,⟨v2,r2⟩,fr⟩:=id hY
 have fr0:=fr 0
 go_wp2_with fail
 exact bodyPost_ret (v:=.tuple #[.agg #[.string r.name,.int .i64 r.typ,.int .i64 r.prec],.bool b]) (by simp [results,Tryz.results146,go_sem,r0,r1,r2]) rfl ⟨rfl,hY.put _ _ _⟩
set_option maxHeartbeats 1600000 in
theorem ops_sides (o:OpR) (w:World) (hp:-9223372036854775808≤o.prec∧o.prec≤9223372036854775807):Calls Tryz.prog 96 #[opV o] w fun e w'=>e=.returned (.tuple #[.int .i64 (sideL o),.int .i64 (sideR o)])∧Below w.heap.size w w':=by
 unfold opV
 generalize hL:sideL o=x
 generalize hR:sideR o=y
 have HL:=Lib.hid hL
 have HR:=Lib.hid hR
 clear hL hR
 obtain ⟨name,typ,prec⟩:=o
 have hd:prec<1∨1200<prec∨((1≤prec∧prec≤1200)∧(typ=1∨typ=2∨typ=3∨typ=4∨typ=5∨typ=6∨typ=7∨(¬typ=1∧¬typ=2∧¬typ=3∧¬typ=4∧¬typ=5∧¬typ=6∧¬typ=7))):=by omega
 rcases hd with h | h | ⟨⟨h1,h2⟩,rfl|rfl|rfl|rfl|rfl|rfl|rfl | ⟨n1,n2,n3,n4,n5,n6,n7⟩⟩
 all_goals
  go_enter Tryz.func96,Tryz.ntmps96
  go_wp2_with fail
  try (go_quiet (fail);go_wp2_with fail)
  refine bodyPost_ret (v:=.tuple #[.int .i64 x,.int .i64 y]) ?_ rfl ⟨rfl,by first | exact (Below.refl _ _).alloc (Nat.le_refl _) _ | exact bl_drewN ((Below.refl _ _).alloc (Nat.le_refl _) _) _⟩
  have hl:=HL.out
  have hr:=HR.out
  unfold sideL at hl
  unfold sideR at hr
  simp [results,Tryz.results96,go_sem]
  grind
end Go.Proofs.YtbojljpldcijgaaGreat
namespace Hb
def bAt (l:List UInt8) (k:Nat):Int:=((l.getD k 0).toNat:Int)
theorem bAt_lo (l:List UInt8) (k:Nat):0≤bAt l k:=by unfold bAt;omega
theorem bAt_hi (l:List UInt8) (k:Nat):bAt l k≤255:=by unfold bAt;have:=(l.getD k 0).toNat_lt;omega
theorem bAt_get (l:List UInt8) (k:Nat) (h:k<l.length):(l[k].toNat:Int)=bAt l k:=by
 unfold bAt;rw [List.getD_eq_getElem?_getD,List.getElem?_eq_getElem h];rfl
theorem bAt_mk (s:ByteArray) (k:Nat) (h:k<s.size):(s[k].toNat:Int)=bAt s.data.toList k:=by
 have h':k<s.data.toList.length:=by simpa using h
 rw [←bAt_get _ _ h'];rfl
def isCh (c:Int):Bool:=decide (0≤c)&&decide (c≤255)
theorem isCh_iff (c:Int):isCh c=true↔0≤c∧c≤255:=by simp [isCh]
def among (l:List UInt8) (c:Int):Bool:=l.any fun b=>(b.toNat:Int)==c
theorem among_snoc (l:List UInt8) (k:Nat) (c:Int) (h:k<l.length):among (l.take (k+1)) c=(among (l.take k) c||(bAt l k==c)):=by
 unfold among;rw [List.take_succ_eq_append_getElem h,List.any_append,←bAt_get _ _ h];simp
theorem among_stop (l:List UInt8) (k:Nat) (c:Int) (h:k<l.length) (e:bAt l k=c):among l c=true:=by
 unfold among;rw [List.any_eq_true];exact ⟨l[k],List.getElem_mem h,by rw [bAt_get _ _ h,e];simp⟩
theorem among_all (l:List UInt8) (k:Nat) (c:Int) (h:l.length≤k) (e:among (l.take k) c=false):among l c=false:=by
 rwa [List.take_of_length_le h] at e
def cls (c:Int):Int :=
 if ¬(0≤c∧c≤255) then 0
 else if (9≤c∧c≤13)∨c=32 then 1
 else if 97≤c∧c≤122 then 2
 else if (65≤c∧c≤90)∨c=95 then 3
 else if 48≤c∧c≤57 then 4
 else if among [35,36,38,42,43,45,46,47,58,60,61,62,63,64,94,126,92] c then 5
 else if among [33,40,41,44,59,91,93,123,125,37,124] c then 6
 else if among [39,34,96] c then 7
 else 8
theorem cls_ite (P:Int→Prop) (c:Prop) [Decidable c] (a b:Int) (ha:P a) (hb:P b):P (if c then a else b):=by split <;> assumption
theorem cls_lo (c:Int):0≤cls c:=by
 unfold cls;repeat' (refine cls_ite (0 ≤ ·) _ _ _ (by omega) ?_)
 omega
theorem cls_hi (c:Int):cls c≤8:=by
 unfold cls;repeat' (refine cls_ite (· ≤ 8) _ _ _ (by omega) ?_)
 omega
theorem cls_out (c:Int) (h:¬(0≤c∧c≤255)):cls c=0:=by unfold cls;rw [if_pos h]
def alnum (c:Int):Bool:=cls c==2||(cls c==3||cls c==4)
def rowOf:List (List UInt8):=[[9,10,11,12,13,32],
 [97,98,99,100,101,102,103,104,105,106,107,108,109,110,111,112,113,114,115,116,117,118,119,120,121,122],
 [65,66,67,68,69,70,71,72,73,74,75,76,77,78,79,80,81,82,83,84,85,86,87,88,89,90,95],
 [48,49,50,51,52,53,54,55,56,57],[35,36,38,42,43,45,46,47,58,60,61,62,63,64,94,126,92],
 [33,40,41,44,59,91,93,123,125,37,124],[39,34,96]]
def rowIx (c:Int):Nat:=rowOf.findIdx fun l=>among l c
theorem rowIx_cls:∀n:Nat,n<256→cls (n:Int)=(rowIx (n:Int):Int)+1:=by decide +kernel
theorem rowIx_le (c:Int):rowIx c≤7:=List.findIdx_le_length
def dig (c base:Int):Option Int :=
 if base<2∨36<base then none
 else
  let v:=if 48≤c∧c≤57 then c-48 else if 97≤c∧c≤122 then c-97+10 else if 65≤c∧c≤90 then c-65+10 else 36
  if v<base then some v else none
def digV (c base:Int):Int:=(dig c base).getD 0
def digOk (c base:Int):Bool:=(dig c base).isSome
def une (c:Int):Option Int :=
 if c=92∨c=39∨c=34∨c=96 then some c
 else if c=97 then some 7 else if c=98 then some 8 else if c=116 then some 9 else if c=110 then some 10
 else if c=118 then some 11 else if c=102 then some 12 else if c=114 then some 13 else none
def uneV (c:Int):Int:=(une c).getD 0
def uneOk (c:Int):Bool:=(une c).isSome
def letters:List UInt8:=[97,98,116,110,118,102,114]
theorem une_at (k:Nat) (h:k<7) (c:Int) (e:bAt letters k=c):une c=some (7+k):=by
 subst e
 match k,h with
 | 0,_=>rfl
 | 1,_=>rfl
 | 2,_=>rfl
 | 3,_=>rfl
 | 4,_=>rfl
 | 5,_=>rfl
 | 6,_=>rfl
theorem une_no (c:Int) (h:among letters c=false):une c=if among [92,39,34,96] c then some c else none:=by
 simp only [among,letters,List.any_cons,List.any_nil,Bool.or_eq_false_iff,beq_eq_false_iff_ne,ne_eq,Bool.or_eq_true,beq_iff_eq] at h ⊢
 obtain ⟨h1,h2,h3,h4,h5,h6,h7,_⟩:=h
 simp at h1 h2 h3 h4 h5 h6 h7
 unfold une
 by_cases e:c=92∨c=39∨c=34∨c=96
 ·rw [if_pos e,if_pos (by simp;omega)]
 ·rw [if_neg e,if_neg (by omega),if_neg (by omega),if_neg (by omega),if_neg (by omega),if_neg (by omega),if_neg (by omega),if_neg (by omega),if_neg (by simp;omega)]
def prF (l:List (Int×Int)) (j:Nat):Int:=(l.getD j (0,0)).1
def prT (l:List (Int×Int)) (j:Nat):Int:=(l.getD j (0,0)).2
theorem prF_get (l:List (Int×Int)) (j:Nat) (h:j<l.length):l[j].1=prF l j:=by
 unfold prF;rw [List.getD_eq_getElem?_getD,List.getElem?_eq_getElem h];rfl
theorem prT_get (l:List (Int×Int)) (j:Nat) (h:j<l.length):l[j].2=prT l j:=by
 unfold prT;rw [List.getD_eq_getElem?_getD,List.getElem?_eq_getElem h];rfl
def okAt (l:List (Int×Int)) (j:Nat):Bool:=isCh (prF l j)&&(isCh (prT l j)&&(!(prF l j==prT l j)&&(j==0||decide (prF l (j-1)<prF l j))))
theorem okAt_1 (l k) (h:isCh (prF l k)=false):okAt l k=false:=by unfold okAt;rw [h];rfl
theorem okAt_2 (l k) (h:isCh (prF l k)=true) (h2:isCh (prT l k)=false):okAt l k=false:=by unfold okAt;rw [h,h2];rfl
theorem okAt_3 (l k) (h:isCh (prF l k)=true) (h2:isCh (prT l k)=true) (h3:(prF l k==prT l k)=true):okAt l k=false:=by unfold okAt;rw [h,h2,h3];rfl
theorem okAt_4 (l k) (h0:k=0) (h:isCh (prF l k)=true) (h2:isCh (prT l k)=true) (h3:(prF l k==prT l k)=false):okAt l k=true:=by unfold okAt;rw [h,h2,h3,h0];rfl
theorem okAt_5 (l k) (h:isCh (prF l k)=true) (h2:isCh (prT l k)=true) (h3:(prF l k==prT l k)=false) (h4:prF l (k-1)<prF l k):okAt l k=true:=by unfold okAt;rw [h,h2,h3];simp [h4]
theorem okAt_6 (l k) (h:isCh (prF l k)=true) (h2:isCh (prT l k)=true) (h3:(prF l k==prT l k)=false) (h0:0<k) (h4:¬prF l (k-1)<prF l k):okAt l k=false:=by unfold okAt;rw [h,h2,h3];simp;omega
def pvalid (l:List (Int×Int)):Bool:=(List.range l.length).all (okAt l)
theorem pvalid_all (l:List (Int×Int)) (h:∀j,j<l.length→okAt l j=true):pvalid l=true:=by
 unfold pvalid;rw [List.all_eq_true];intro x hx;exact h x (List.mem_range.1 hx)
theorem pvalid_no (l:List (Int×Int)) (j:Nat) (hj:j<l.length) (h:okAt l j=false):pvalid l=false:=by
 unfold pvalid;rw [List.all_eq_false];exact ⟨j,List.mem_range.2 hj,by simp [h]⟩
theorem pvalid_at (l:List (Int×Int)) (h:pvalid l=true) (j:Nat) (hj:j<l.length):okAt l j=true:=by
 unfold pvalid at h;rw [List.all_eq_true] at h;exact h j (List.mem_range.2 hj)
def convT (l:List (Int×Int)) (c:Int):Int:=l.foldl (fun t p=>if p.1=c then p.2 else t) c
def rawAt (l:List UInt8) (i:Nat):Int:=if i<l.length then bAt l i else -1
theorem rawAt_in (l:List UInt8) (i:Nat) (h:i<l.length):rawAt l i=bAt l i:=by unfold rawAt;rw [if_pos h]
theorem rawAt_out (l:List UInt8) (i:Nat) (h:l.length≤i):rawAt l i=-1:=by unfold rawAt;rw [if_neg (by omega)]
theorem rawAt_hi (l:List UInt8) (i:Nat):rawAt l i≤255:=by
 unfold rawAt;split
 ·exact bAt_hi l i
 ·omega
theorem rawAt_neg (l:List UInt8) (i:Nat):rawAt l i<0↔l.length≤i:=by
 unfold rawAt;split
 ·have:=bAt_lo l i;omega
 ·omega
theorem bAt_drop (l:List UInt8) (i j:Nat):bAt (l.drop i) j=bAt l (i+j):=by
 unfold bAt;simp [List.getD_eq_getElem?_getD,List.getElem?_drop]
theorem rawAt_drop (l:List UInt8) (i j:Nat):rawAt (l.drop i) j=rawAt l (i+j):=by
 unfold rawAt;rw [bAt_drop,List.length_drop]
 by_cases h:j<l.length-i
 ·rw [if_pos h,if_pos (by omega)]
 ·rw [if_neg h,if_neg (by omega)]
theorem rawAt_cons (b:UInt8) (l:List UInt8):rawAt (b::l) 0=(b.toNat:Int):=by
 unfold rawAt bAt;simp
theorem rawAt_succ (b:UInt8) (l:List UInt8) (i:Nat):rawAt (b::l) (i+1)=rawAt l i:=by
 unfold rawAt bAt;simp
def cvt (tab:Int→Int) (l:List UInt8):List UInt8:=l.map fun b=>(tab (b.toNat:Int)).toNat.toUInt8
theorem cvt_len (tab:Int→Int) (l:List UInt8):(cvt tab l).length=l.length:=by simp [cvt]
def TabOk (tab:Int→Int):Prop:=∀c,0≤c→c≤255→0≤tab c∧tab c≤255
theorem cvt_at (tab:Int→Int) (ht:TabOk tab) (l:List UInt8) (i:Nat) (h:i<l.length):tab (bAt l i)=bAt (cvt tab l) i:=by
 have h2:i<(cvt tab l).length:=by rw [cvt_len];exact h
 have hb:=ht (bAt l i) (bAt_lo l i) (bAt_hi l i)
 rw [←bAt_get _ _ h2,←bAt_get _ _ h] at *
 simp only [cvt,List.getElem_map]
 simp;omega
def isSym (c:Int):Bool:=cls c==5
def span (q:Int→Bool):List UInt8→Nat
 | []=>0
 | b::l=>if q (b.toNat:Int) then span q l+1 else 0
theorem span_le (q : Int → Bool) : ∀ l, span q l ≤ l.length
  | [] => Nat.le_refl _
  | b :: l => by unfold span; split; · have := span_le q l; simp; omega
                 · exact Nat.zero_le _
theorem drop_cons (l:List UInt8) (k:Nat) (h:k<l.length):l.drop k=l[k]::l.drop (k+1):=List.drop_eq_getElem_cons h
theorem span_yes (q:Int→Bool) (l:List UInt8) (k:Nat) (h:k<l.length) (hq:q (bAt l k)=true):span q (l.drop k)=span q (l.drop (k+1))+1:=by
 rw [drop_cons l k h,span,bAt_get _ _ h,if_pos hq]
theorem span_no (q:Int→Bool) (l:List UInt8) (k:Nat) (h:k<l.length) (hq:q (bAt l k)=false):span q (l.drop k)=0:=by
 rw [drop_cons l k h,span,bAt_get _ _ h,hq];rfl
theorem span_end (q:Int→Bool) (l:List UInt8) (k:Nat) (h:l.length≤k):span q (l.drop k)=0:=by
 rw [List.drop_of_length_le h];rfl
def closeAt:List UInt8→Option Nat
 | []=>none
 | b::l=>if b=42∧rawAt l 0=47 then some 0 else (closeAt l).map (· + 1)
def notNl (c:Int):Bool:=!(c==10)
def skipF:Nat→List UInt8→Nat
 | 0,_=>0
 | f+1,l=>
  if l.isEmpty then 0
  else if cls (rawAt l 0)=1 then 1+skipF f (l.drop 1)
  else if rawAt l 0=37 then span notNl l+skipF f (l.drop (span notNl l))
  else if rawAt l 0=47∧rawAt l 1=42 then
   match closeAt (l.drop 2) with
   | none=>0
   | some k=>(k+4)+skipF f (l.drop (k+4))
  else 0
theorem span_pos (q:Int→Bool) (l:List UInt8) (h:0<l.length) (hq:q (rawAt l 0)=true):1≤span q l:=by
 match l,h with
 | b::l,_=>rw [rawAt_cons] at hq;rw [span,if_pos hq];omega
theorem skipF_fuel:∀(f g:Nat) (l:List UInt8),l.length≤f→l.length≤g→skipF f l=skipF g l
 | 0,0,_,_,_=>rfl
 | 0,g+1,l,h,_=>by
  have:l=[]:=List.eq_nil_of_length_eq_zero (by omega)
  subst this;rfl
 | f+1,0,l,_,h=>by
  have:l=[]:=List.eq_nil_of_length_eq_zero (by omega)
  subst this;rfl
 | f+1,g+1,l,h1,h2=>by
  unfold skipF
  by_cases h0:l.isEmpty
  ·rw [if_pos h0,if_pos h0]
  ·rw [if_neg h0,if_neg h0]
   have hl:0<l.length:=by
    cases l with
    | nil=>simp at h0
    | cons=>simp
   rw [skipF_fuel f g (l.drop 1) (by simp;omega) (by simp;omega)]
   by_cases hp:rawAt l 0=37
   ·have:=span_pos notNl l hl (by rw [hp];rfl)
    rw [skipF_fuel f g (l.drop (span notNl l)) (by simp;omega) (by simp;omega)]
    simp only [if_pos hp]
   ·simp only [if_neg hp]
    cases closeAt (l.drop 2) with
    | none=>rfl
    | some k=>simp only [];rw [skipF_fuel f g (l.drop (k+4)) (by simp;omega) (by simp;omega)]
def skipN (l:List UInt8):Nat:=skipF l.length l
theorem skipN_eq (l:List UInt8):skipN l =
  if l.isEmpty then 0
  else if cls (rawAt l 0)=1 then 1+skipN (l.drop 1)
  else if rawAt l 0=37 then span notNl l+skipN (l.drop (span notNl l))
  else if rawAt l 0=47∧rawAt l 1=42 then
   match closeAt (l.drop 2) with
   | none=>0
   | some k=>(k+4)+skipN (l.drop (k+4))
  else 0:=by
 unfold skipN
 rw [skipF_fuel l.length (l.length+1) l (Nat.le_refl _) (by omega),skipF]
 rw [skipF_fuel l.length (l.drop 1).length (l.drop 1) (by simp) (Nat.le_refl _),skipF_fuel l.length (l.drop (span notNl l)).length (l.drop (span notNl l)) (by simp) (Nat.le_refl _)]
 cases closeAt (l.drop 2) with
 | none=>rfl
 | some k=>simp only [];rw [skipF_fuel l.length (l.drop (k+4)).length (l.drop (k+4)) (by simp) (Nat.le_refl _)]
theorem closeAt_le:∀(l:List UInt8) (k:Nat),closeAt l=some k→k+2≤l.length
 | [],k,h=>by simp [closeAt] at h
 | b::l,k,h=>by
  unfold closeAt at h
  split at h
  ·rename_i hb
   injection h with h
   subst h
   have:=rawAt_neg l 0
   simp;omega
  ·cases hc:closeAt l with
   | none=>rw [hc] at h;simp at h
   | some j=>
    rw [hc] at h
    have:=closeAt_le l j hc
    simp at h;simp;omega
theorem skipF_le:∀(f:Nat) (l:List UInt8),skipF f l≤l.length
 | 0,_=>Nat.zero_le _
 | f+1,l=>by
  unfold skipF
  by_cases h0:l.isEmpty
  ·rw [if_pos h0];omega
  ·rw [if_neg h0]
   have hl:0<l.length:=by
    cases l with
    | nil=>simp at h0
    | cons=>simp
   have h1:=skipF_le f (l.drop 1)
   have h2:=skipF_le f (l.drop (span notNl l))
   have h3:=span_le notNl l
   simp only [List.length_drop] at h1 h2
   by_cases a1:cls (rawAt l 0)=1
   ·rw [if_pos a1];omega
   rw [if_neg a1]
   by_cases a2:rawAt l 0=37
   ·rw [if_pos a2];omega
   rw [if_neg a2]
   by_cases a3:rawAt l 0=47∧rawAt l 1=42
   ·rw [if_pos a3]
    cases hc:closeAt (l.drop 2) with
    | none=>simp
    | some k=>
     have:=closeAt_le _ _ hc
     have h4:=skipF_le f (l.drop (k+4))
     simp only [List.length_drop] at this h4 ⊢
     omega
   ·rw [if_neg a3];omega
theorem skipN_le (l:List UInt8):skipN l≤l.length:=skipF_le _ _
theorem closeAt_yes (l:List UInt8) (k:Nat) (h:k<l.length) (h1:rawAt l k=42) (h2:rawAt l (k+1)=47):closeAt (l.drop k)=some 0:=by
 rw [rawAt_in _ _ h] at h1
 rw [←bAt_get _ _ h] at h1
 have e:l[k]=42:=UInt8.toNat_inj.1 (by show l[k].toNat=42;omega)
 rw [drop_cons l k h,closeAt,rawAt_drop,Nat.add_zero,if_pos ⟨e,h2⟩]
theorem closeAt_no (l:List UInt8) (k:Nat) (h:k<l.length) (h1:¬(rawAt l k=42∧rawAt l (k+1)=47)):closeAt (l.drop k)=(closeAt (l.drop (k+1))).map (· + 1):=by
 rw [rawAt_in _ _ h] at h1
 rw [drop_cons l k h,closeAt,rawAt_drop,Nat.add_zero,if_neg]
 rintro ⟨a,b⟩
 refine h1 ⟨?_,b⟩
 rw [←bAt_get _ _ h,a];rfl
theorem closeAt_end (l:List UInt8) (k:Nat) (h:l.length≤k):closeAt (l.drop k)=none:=by
 rw [List.drop_of_length_le h];rfl
theorem skip_at (l:List UInt8) (k:Nat) (h:k<l.length):skipN (l.drop k) =
  if cls (rawAt l k)=1 then 1+skipN (l.drop (k+1))
  else if rawAt l k=37 then span notNl (l.drop k)+skipN (l.drop (k+span notNl (l.drop k)))
  else if rawAt l k=47∧rawAt l (k+1)=42 then
   match closeAt (l.drop (k+2)) with
   | none=>0
   | some j=>(j+4)+skipN (l.drop (k+(j+4)))
  else 0:=by
 rw [skipN_eq]
 have:(l.drop k).isEmpty=false:=by
  rw [drop_cons l k h];rfl
 rw [this]
 simp only [Bool.false_eq_true,if_false,rawAt_drop,List.drop_drop,Nat.add_zero]
theorem skip_end (l:List UInt8) (k:Nat) (h:l.length≤k):skipN (l.drop k)=0:=by
 rw [List.drop_of_length_le h];rfl
theorem skip_lay (l:List UInt8) (k:Nat) (h:k<l.length) (h1:cls (rawAt l k)=1):skipN (l.drop k)=1+skipN (l.drop (k+1)):=by rw [skip_at l k h,if_pos h1]
theorem skip_pct (l:List UInt8) (k:Nat) (h:k<l.length) (h1:¬cls (rawAt l k)=1) (h2:rawAt l k=37):skipN (l.drop k)=span notNl (l.drop k)+skipN (l.drop (k+span notNl (l.drop k))):=by rw [skip_at l k h,if_neg h1,if_pos h2]
theorem skip_open (l:List UInt8) (k:Nat) (h:k<l.length) (h1:rawAt l k=47) (h2:rawAt l (k+1)=42) (h3:closeAt (l.drop (k+2))=none):skipN (l.drop k)=0:=by
 rw [skip_at l k h,if_neg (by rw [h1];decide),if_neg (by rw [h1];decide),if_pos ⟨h1,h2⟩,h3]
theorem skip_com (l:List UInt8) (k j:Nat) (h:k<l.length) (h1:rawAt l k=47) (h2:rawAt l (k+1)=42) (h3:closeAt (l.drop (k+2))=some j):skipN (l.drop k)=(j+4)+skipN (l.drop (k+(j+4))):=by
 rw [skip_at l k h,if_neg (by rw [h1];decide),if_neg (by rw [h1];decide),if_pos ⟨h1,h2⟩,h3]
theorem skip_no (l:List UInt8) (k:Nat) (h:k<l.length) (h1:¬cls (rawAt l k)=1) (h2:¬rawAt l k=37) (h3:¬(rawAt l k=47∧rawAt l (k+1)=42)):skipN (l.drop k)=0:=by
 rw [skip_at l k h,if_neg h1,if_neg h2,if_neg h3]
theorem zq {p:Prop} (h:p):Go.RowKit.Hid p:=Go.Lib.hid h
theorem bz {a w w':Go.World} (h:Go.RowKit.Hid (Go.RowKit.Below a.heap.size a w)) (hB:Go.RowKit.Below w.heap.size w w'):Go.RowKit.Hid (Go.RowKit.Below a.heap.size a w'):=zq (h.out.trans (hB.mono h.out.size))
theorem lz {α:Type} (a:α):∃x,Go.RowKit.Hid (x=a):=⟨_,zq rfl⟩
theorem oz {p:Prop} [Decidable p] (h:decide p=true):p:=of_decide_eq_true h
end Hb
