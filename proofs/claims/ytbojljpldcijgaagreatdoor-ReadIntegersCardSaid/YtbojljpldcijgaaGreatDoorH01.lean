/- Parts of the proof. -/
import Derived.WalkKit
import Derived.WalkSpells
import Derived.WalkLawsBesides
import Derived.LoopTactic
import Derived.Outline
import Derived.Lib.Hide
import Derived.Deep.QuietTactic
import Derived.BigQuiet
import Derived.Laws.Strings
import Derived.Maps.AppendAt
import Derived.Deep.DeepMust
namespace Hb
open Go Go.RowKit
theorem ret_int {k:IntKind} {a b:Int} (h:a=b):Ending.returned (.int k a)=.returned (.int k b):=by rw [h]
theorem ret_bool {a b:Bool} (h:a=b):Ending.returned (.bool a)=.returned (.bool b):=by rw [h]
theorem ret_str {a b:ByteArray} (h:a=b):Ending.returned (.string a)=.returned (.string b):=by rw [h]
theorem ret_ib {k:IntKind} {a a':Int} {b b':Bool} (h:a=a') (h':b=b'):Ending.returned (.tuple #[.int k a,.bool b])=.returned (.tuple #[.int k a',.bool b']):=by rw [h,h']
theorem ret_val {a b:Value} (h:a=b):Ending.returned a=.returned b:=by rw [h]
theorem quiet0 {P:Program} {f:FuncId} {args:Array Value} {w:World} {n:Nat} {v:Value}
  (h:Calls P f args (w.drewN n) fun e w'=>e=.returned v∧w.drewN n=w'):Calls P f args (w.drewN n) fun e w''=>e=.returned v∧∃m,w''=w.drewN m :=
 h.mono fun _ _ ⟨he,hm⟩=>⟨he,n,hm.symm⟩
theorem bl_drewN {B:Nat} {a w:World} (h:Below B a w) (n:Nat):Below B a (w.drewN n):=h.trans ⟨rfl,rfl,rfl,Nat.le_refl _,fun _ _=>rfl⟩
theorem size_data (s:ByteArray):s.data.toList.length=s.size:=by simp
def byteCells (l:List UInt8):List Value:=l.map fun b=>.int .u8 (b.toNat:Int)
theorem byteCells_snoc (l:List UInt8) (b:UInt8):byteCells (l++[b])=byteCells l++[.int .u8 (b.toNat:Int)]:=by simp [byteCells]
theorem byteCells_len (l:List UInt8):(byteCells l).length=l.length:=by simp [byteCells]
theorem conv_own {P:Program} (w:World) (src dst e:TypeId) (hs:P.underlying src=some (.slice e)) (he:P.underlying e=some (.int .u8)) (hd:P.underlying dst=some .string)
  (base:Nat) (v:Value) (n:Nat) (l:List UInt8) (hown:w.ownsRow base e 1 v n (byteCells l)) :
  (convert src dst v).run P w=.ok (.string ⟨l.toArray⟩) w:=by
 have hlen:=hown.1
 rw [byteCells_len,Nat.mul_one] at hlen
 rcases hown.2 with ⟨rfl,h0⟩ | ⟨g,cap,cur,rfl,_,hh,hn,_,hsz,ht⟩
 ·have:l=[]:=List.eq_nil_of_length_eq_zero (by omega)
  subst this
  exact run_convert_bytes_nil w src e hs he _ _ dst hd
 ·subst hlen
  refine run_convert_bytes_back w src dst e ⟨g,0,none⟩ cap l hs he hd fun j hj=>?_
  have e1:(⟨g,0,none⟩:Addr).add j=⟨g,j,none⟩:=by unfold Addr.add;split <;> simp_all
  rw [e1]
  have e2:cur.toList[j]? = some (.int .u8 (l[j].toNat:Int)):=by
   have:(byteCells l)[j]? = some (.int .u8 (l[j].toNat:Int)):=by simp [byteCells,List.getElem?_eq_getElem hj]
   rw [←ht,List.getElem?_take_of_lt (by omega)] at this
   exact this
  show World.cell? w _=_
  unfold World.cell?
  simp only [hh]
  simpa using e2
theorem wpList_append_one {P:Program} {w:World} {ops:Array Oper} {rest:List Oper} {o:Oper} {a:Act} {Q:Exit→Act→World→Prop} (hgd:o.guard=none) (s x:Operand) (t e:TypeId)
  (ho:o.op=.call { callee:=.builtin .append,args:=#[s,x],argTypes:=#[t,t] }) (ht:P.underlying t=some (.slice e)) (z:Value) (size bytes:Nat)
  (hinfo:(P.info? e).map (fun i=>(i.zero,i.size,i.bytes))=some (some z,size,bytes)) (hzs:z.cells.size=size) (hsz:0<size)
  (base:Nat) (v:Value) (n:Nat) (xs:List Value) (hs:a.eval s=v) (W:World) (hown:W.ownsRow base e size v n xs) (cs:Array Value) (hcs:cs.size=size) (h1:∀u∈cs.toList,u.oneCell'=true)
  (hw:w=W.alloc (.cells cs e)) (hx:a.eval x=.slice (some ⟨W.heap.size,0,none⟩) 1 1) (h63:n+1≤4611686018427387904) (hbytes:(n+1) * bytes≤140737488355328) (hbase:base≤W.heap.size)
  (h:∀v' w',w'.ownsRow base e size v' (n+1) (xs++cs.toList)→Below base W w'→w.grownBy w' v.ownBlock→wpList P ops Q rest (a.put o.dst v') w'):wpList P ops Q (o::rest) a w:=by
 subst hw
 obtain ⟨i,hi,hz0,hz1,hz2⟩:=info_parts hinfo
 refine wpList_append_own _ hgd s x t ho base e i z size bytes ht hi hz0 hz1 hz2 hzs hsz v n xs hs (hown.alloc _) ⟨W.heap.size,0,none⟩ 1 1 cs.toList hx (by simp [hcs]) ?_ h1 (by unfold maxLen;omega) hbytes (by simp;omega) ?_
 ·intro j u hu
  have e1:(⟨W.heap.size,0,none⟩:Addr).add j=⟨W.heap.size,j,none⟩:=by unfold Addr.add;split <;> simp_all
  rw [e1,World.cell?_alloc_new]
  simpa using hu
 ·intro v' w' ho' hg' _
  refine h v' w' ho' ?_ hg'
  refine (((Below.refl base W).alloc hbase _).grown hg' (by simp;omega) ?_)
  intro k hk
  rcases hown.2 with ⟨rfl,_⟩ | ⟨g,cap,cur,rfl,hbg,_⟩
  ·simp [Value.ownBlock] at hk
  ·simp [Value.ownBlock] at hk;omega
theorem wpList_append_byte {P:Program} {w:World} {ops:Array Oper} {rest:List Oper} {o:Oper} {a:Act} {Q:Exit→Act→World→Prop} (hgd:o.guard=none) (s x:Operand) (t e:TypeId)
  (ho:o.op=.call { callee:=.builtin .append,args:=#[s,x],argTypes:=#[t,t] }) (ht:P.underlying t=some (.slice e))
  (hinfo:(P.info? e).map (fun i=>(i.zero,i.size,i.bytes))=some (some (.int .u8 0),1,1))
  (base:Nat) (v:Value) (n:Nat) (l:List UInt8) (hs:a.eval s=v) (W:World) (hown:W.ownsRow base e 1 v n (byteCells l)) (c:Int) (h0:0≤c) (h1:c≤255)
  (hw:w=W.alloc (.cells #[.int .u8 c] e)) (hx:a.eval x=.slice (some ⟨W.heap.size,0,none⟩) 1 1) (h63:n≤70368744177664) (hbase:base≤W.heap.size)
  (h:∀v' w',w'.ownsRow base e 1 v' (n+1) (byteCells (l++[c.toNat.toUInt8]))→Below base W w'→wpList P ops Q rest (a.put o.dst v') w'):wpList P ops Q (o::rest) a w:=by
 refine wpList_append_one hgd s x t e ho ht _ 1 1 hinfo rfl (by decide) base v n _ hs W hown #[.int .u8 c] rfl (by simp [Value.oneCell']) hw hx (by omega) (by omega) hbase fun v' w' ho' hb' _=>h v' w' ?_ hb'
 rw [byteCells_snoc]
 have:((c.toNat.toUInt8).toNat:Int)=c:=by simp;omega
 rw [this];exact ho'
def Pairs (w:World) (A:Option Addr) (l:List (Int×Int)):Prop :=
 ∀j (h:j<l.length),∃b off,A=some ⟨b,off,none⟩∧b<w.heap.size∧w.cell? ⟨b,off+j * 2,none⟩=some (.int .i64 l[j].1)∧w.cell? ⟨b,off+j * 2+1,none⟩=some (.int .i64 l[j].2)
theorem Pairs.below {w w':World} {A:Option Addr} {l:List (Int×Int)} (h:Pairs w A l) (hb:Below w.heap.size w w'):Pairs w' A l:=fun j hj=>by
 obtain ⟨b,off,e,hlt,c1,c2⟩:=h j hj
 exact ⟨b,off,e,Nat.lt_of_lt_of_le hlt hb.size,(hb.cell (p:=⟨b,_,none⟩) hlt).trans c1,(hb.cell (p:=⟨b,_,none⟩) hlt).trans c2⟩
theorem Pairs.nil (w:World) (A:Option Addr):Pairs w A []:=fun j h=>absurd h (by simp)
end Hb
namespace Hb
def bAt (l:List UInt8) (k:Nat):Int:=((l.getD k 0).toNat:Int)
theorem bAt_lo (l:List UInt8) (k:Nat):0≤bAt l k:=by unfold bAt;omega
theorem bAt_hi (l:List UInt8) (k:Nat):bAt l k≤255:=by unfold bAt;have:=(l.getD k 0).toNat_lt;omega
theorem bAt_get (l:List UInt8) (k:Nat) (h:k<l.length):(l[k].toNat:Int)=bAt l k:=by
 unfold bAt;rw [List.getD_eq_getElem?_getD,List.getElem?_eq_getElem h];rfl
theorem bAt_mk (s:ByteArray) (k:Nat) (h:k<s.size):(s[k].toNat:Int)=bAt s.data.toList k:=by
 have h':k<s.data.toList.length:=by simpa using h
 rw [←bAt_get _ _ h'];rfl
def isCh (c:Int):Bool:=decide (0≤c)&&decide (c≤255)
theorem isCh_iff (c:Int):isCh c=true↔0≤c∧c≤255:=by simp [isCh]
def among (l:List UInt8) (c:Int):Bool:=l.any fun b=>(b.toNat:Int)==c
def cls (c:Int):Int :=
 if ¬(0≤c∧c≤255) then 0
 else if (9≤c∧c≤13)∨c=32 then 1
 else if 97≤c∧c≤122 then 2
 else if (65≤c∧c≤90)∨c=95 then 3
 else if 48≤c∧c≤57 then 4
 else if among [35,36,38,42,43,45,46,47,58,60,61,62,63,64,94,126,92] c then 5
 else if among [33,40,41,44,59,91,93,123,125,37,124] c then 6
 else if among [39,34,96] c then 7
 else 8
theorem cls_ite (P:Int→Prop) (c:Prop) [Decidable c] (a b:Int) (ha:P a) (hb:P b):P (if c then a else b):=by split <;> assumption
theorem cls_lo (c:Int):0≤cls c:=by
 unfold cls;repeat' (refine cls_ite (0 ≤ ·) _ _ _ (by omega) ?_)
 omega
theorem cls_hi (c:Int):cls c≤8:=by
 unfold cls;repeat' (refine cls_ite (· ≤ 8) _ _ _ (by omega) ?_)
 omega
theorem cls_out (c:Int) (h:¬(0≤c∧c≤255)):cls c=0:=by unfold cls;rw [if_pos h]
def alnum (c:Int):Bool:=cls c==2||(cls c==3||cls c==4)
def rowOf:List (List UInt8):=[[9,10,11,12,13,32],
 [97,98,99,100,101,102,103,104,105,106,107,108,109,110,111,112,113,114,115,116,117,118,119,120,121,122],
 [65,66,67,68,69,70,71,72,73,74,75,76,77,78,79,80,81,82,83,84,85,86,87,88,89,90,95],
 [48,49,50,51,52,53,54,55,56,57],[35,36,38,42,43,45,46,47,58,60,61,62,63,64,94,126,92],
 [33,40,41,44,59,91,93,123,125,37,124],[39,34,96]]
def rowIx (c:Int):Nat:=rowOf.findIdx fun l=>among l c
theorem rowIx_cls:∀n:Nat,n<256→cls (n:Int)=(rowIx (n:Int):Int)+1:=by decide +kernel
theorem rowIx_le (c:Int):rowIx c≤7:=List.findIdx_le_length
def dig (c base:Int):Option Int :=
 if base<2∨36<base then none
 else
  let v:=if 48≤c∧c≤57 then c-48 else if 97≤c∧c≤122 then c-97+10 else if 65≤c∧c≤90 then c-65+10 else 36
  if v<base then some v else none
def digV (c base:Int):Int:=(dig c base).getD 0
def digOk (c base:Int):Bool:=(dig c base).isSome
def une (c:Int):Option Int :=
 if c=92∨c=39∨c=34∨c=96 then some c
 else if c=97 then some 7 else if c=98 then some 8 else if c=116 then some 9 else if c=110 then some 10
 else if c=118 then some 11 else if c=102 then some 12 else if c=114 then some 13 else none
def uneV (c:Int):Int:=(une c).getD 0
def uneOk (c:Int):Bool:=(une c).isSome
def letters:List UInt8:=[97,98,116,110,118,102,114]
def prF (l:List (Int×Int)) (j:Nat):Int:=(l.getD j (0,0)).1
def prT (l:List (Int×Int)) (j:Nat):Int:=(l.getD j (0,0)).2
theorem prF_get (l:List (Int×Int)) (j:Nat) (h:j<l.length):l[j].1=prF l j:=by
 unfold prF;rw [List.getD_eq_getElem?_getD,List.getElem?_eq_getElem h];rfl
theorem prT_get (l:List (Int×Int)) (j:Nat) (h:j<l.length):l[j].2=prT l j:=by
 unfold prT;rw [List.getD_eq_getElem?_getD,List.getElem?_eq_getElem h];rfl
def okAt (l:List (Int×Int)) (j:Nat):Bool:=isCh (prF l j)&&(isCh (prT l j)&&(!(prF l j==prT l j)&&(j==0||decide (prF l (j-1)<prF l j))))
theorem okAt_1 (l k) (h:isCh (prF l k)=false):okAt l k=false:=by unfold okAt;rw [h];rfl
theorem okAt_2 (l k) (h:isCh (prF l k)=true) (h2:isCh (prT l k)=false):okAt l k=false:=by unfold okAt;rw [h,h2];rfl
theorem okAt_3 (l k) (h:isCh (prF l k)=true) (h2:isCh (prT l k)=true) (h3:(prF l k==prT l k)=true):okAt l k=false:=by unfold okAt;rw [h,h2,h3];rfl
theorem okAt_4 (l k) (h0:k=0) (h:isCh (prF l k)=true) (h2:isCh (prT l k)=true) (h3:(prF l k==prT l k)=false):okAt l k=true:=by unfold okAt;rw [h,h2,h3,h0];rfl
theorem okAt_5 (l k) (h:isCh (prF l k)=true) (h2:isCh (prT l k)=true) (h3:(prF l k==prT l k)=false) (h4:prF l (k-1)<prF l k):okAt l k=true:=by unfold okAt;rw [h,h2,h3];simp [h4]
theorem okAt_6 (l k) (h:isCh (prF l k)=true) (h2:isCh (prT l k)=true) (h3:(prF l k==prT l k)=false) (h0:0<k) (h4:¬prF l (k-1)<prF l k):okAt l k=false:=by unfold okAt;rw [h,h2,h3];simp;omega
def pvalid (l:List (Int×Int)):Bool:=(List.range l.length).all (okAt l)
theorem pvalid_all (l:List (Int×Int)) (h:∀j,j<l.length→okAt l j=true):pvalid l=true:=by
 unfold pvalid;rw [List.all_eq_true];intro x hx;exact h x (List.mem_range.1 hx)
theorem pvalid_no (l:List (Int×Int)) (j:Nat) (hj:j<l.length) (h:okAt l j=false):pvalid l=false:=by
 unfold pvalid;rw [List.all_eq_false];exact ⟨j,List.mem_range.2 hj,by simp [h]⟩
theorem pvalid_at (l:List (Int×Int)) (h:pvalid l=true) (j:Nat) (hj:j<l.length):okAt l j=true:=by
 unfold pvalid at h;rw [List.all_eq_true] at h;exact h j (List.mem_range.2 hj)
def convT (l:List (Int×Int)) (c:Int):Int:=l.foldl (fun t p=>if p.1=c then p.2 else t) c
def rawAt (l:List UInt8) (i:Nat):Int:=if i<l.length then bAt l i else -1
theorem rawAt_in (l:List UInt8) (i:Nat) (h:i<l.length):rawAt l i=bAt l i:=by unfold rawAt;rw [if_pos h]
theorem rawAt_out (l:List UInt8) (i:Nat) (h:l.length≤i):rawAt l i=-1:=by unfold rawAt;rw [if_neg (by omega)]
theorem rawAt_hi (l:List UInt8) (i:Nat):rawAt l i≤255:=by
 unfold rawAt;split
 ·exact bAt_hi l i
 ·omega
theorem rawAt_neg (l:List UInt8) (i:Nat):rawAt l i<0↔l.length≤i:=by
 unfold rawAt;split
 ·have:=bAt_lo l i;omega
 ·omega
theorem bAt_drop (l:List UInt8) (i j:Nat):bAt (l.drop i) j=bAt l (i+j):=by
 unfold bAt;simp [List.getD_eq_getElem?_getD,List.getElem?_drop]
theorem rawAt_drop (l:List UInt8) (i j:Nat):rawAt (l.drop i) j=rawAt l (i+j):=by
 unfold rawAt;rw [bAt_drop,List.length_drop]
 by_cases h:j<l.length-i
 ·rw [if_pos h,if_pos (by omega)]
 ·rw [if_neg h,if_neg (by omega)]
theorem rawAt_cons (b:UInt8) (l:List UInt8):rawAt (b::l) 0=(b.toNat:Int):=by
 unfold rawAt bAt;simp
theorem rawAt_succ (b:UInt8) (l:List UInt8) (i:Nat):rawAt (b::l) (i+1)=rawAt l i:=by
 unfold rawAt bAt;simp
def cvt (tab:Int→Int) (l:List UInt8):List UInt8:=l.map fun b=>(tab (b.toNat:Int)).toNat.toUInt8
theorem cvt_len (tab:Int→Int) (l:List UInt8):(cvt tab l).length=l.length:=by simp [cvt]
def TabOk (tab:Int→Int):Prop:=∀c,0≤c→c≤255→0≤tab c∧tab c≤255
theorem cvt_at (tab:Int→Int) (ht:TabOk tab) (l:List UInt8) (i:Nat) (h:i<l.length):tab (bAt l i)=bAt (cvt tab l) i:=by
 have h2:i<(cvt tab l).length:=by rw [cvt_len];exact h
 have hb:=ht (bAt l i) (bAt_lo l i) (bAt_hi l i)
 rw [←bAt_get _ _ h2,←bAt_get _ _ h] at *
 simp only [cvt,List.getElem_map]
 simp;omega
def isSym (c:Int):Bool:=cls c==5
def span (q:Int→Bool):List UInt8→Nat
 | []=>0
 | b::l=>if q (b.toNat:Int) then span q l+1 else 0
theorem span_le (q : Int → Bool) : ∀ l, span q l ≤ l.length
  | [] => Nat.le_refl _
  | b :: l => by unfold span; split; · have := span_le q l; simp; omega
                 · exact Nat.zero_le _
theorem drop_cons (l:List UInt8) (k:Nat) (h:k<l.length):l.drop k=l[k]::l.drop (k+1):=List.drop_eq_getElem_cons h
theorem span_yes (q:Int→Bool) (l:List UInt8) (k:Nat) (h:k<l.length) (hq:q (bAt l k)=true):span q (l.drop k)=span q (l.drop (k+1))+1:=by
 rw [drop_cons l k h,span,bAt_get _ _ h,if_pos hq]
theorem span_no (q:Int→Bool) (l:List UInt8) (k:Nat) (h:k<l.length) (hq:q (bAt l k)=false):span q (l.drop k)=0:=by
 rw [drop_cons l k h,span,bAt_get _ _ h,hq];rfl
theorem span_end (q:Int→Bool) (l:List UInt8) (k:Nat) (h:l.length≤k):span q (l.drop k)=0:=by
 rw [List.drop_of_length_le h];rfl
def closeAt:List UInt8→Option Nat
 | []=>none
 | b::l=>if b=42∧rawAt l 0=47 then some 0 else (closeAt l).map (· + 1)
def notNl (c:Int):Bool:=!(c==10)
def skipF:Nat→List UInt8→Nat
 | 0,_=>0
 | f+1,l=>
  if l.isEmpty then 0
  else if cls (rawAt l 0)=1 then 1+skipF f (l.drop 1)
  else if rawAt l 0=37 then span notNl l+skipF f (l.drop (span notNl l))
  else if rawAt l 0=47∧rawAt l 1=42 then
   match closeAt (l.drop 2) with
   | none=>0
   | some k=>(k+4)+skipF f (l.drop (k+4))
  else 0
theorem span_pos (q:Int→Bool) (l:List UInt8) (h:0<l.length) (hq:q (rawAt l 0)=true):1≤span q l:=by
 match l,h with
 | b::l,_=>rw [rawAt_cons] at hq;rw [span,if_pos hq];omega
theorem skipF_fuel:∀(f g:Nat) (l:List UInt8),l.length≤f→l.length≤g→skipF f l=skipF g l
 | 0,0,_,_,_=>rfl
 | 0,g+1,l,h,_=>by
  have:l=[]:=List.eq_nil_of_length_eq_zero (by omega)
  subst this;rfl
 | f+1,0,l,_,h=>by
  have:l=[]:=List.eq_nil_of_length_eq_zero (by omega)
  subst this;rfl
 | f+1,g+1,l,h1,h2=>by
  unfold skipF
  by_cases h0:l.isEmpty
  ·rw [if_pos h0,if_pos h0]
  ·rw [if_neg h0,if_neg h0]
   have hl:0<l.length:=by
    cases l with
    | nil=>simp at h0
    | cons=>simp
   rw [skipF_fuel f g (l.drop 1) (by simp;omega) (by simp;omega)]
   by_cases hp:rawAt l 0=37
   ·have:=span_pos notNl l hl (by rw [hp];rfl)
    rw [skipF_fuel f g (l.drop (span notNl l)) (by simp;omega) (by simp;omega)]
    simp only [if_pos hp]
   ·simp only [if_neg hp]
    cases closeAt (l.drop 2) with
    | none=>rfl
    | some k=>simp only [];rw [skipF_fuel f g (l.drop (k+4)) (by simp;omega) (by simp;omega)]
def skipN (l:List UInt8):Nat:=skipF l.length l
theorem skipN_eq (l:List UInt8):skipN l =
  if l.isEmpty then 0
  else if cls (rawAt l 0)=1 then 1+skipN (l.drop 1)
  else if rawAt l 0=37 then span notNl l+skipN (l.drop (span notNl l))
  else if rawAt l 0=47∧rawAt l 1=42 then
   match closeAt (l.drop 2) with
   | none=>0
   | some k=>(k+4)+skipN (l.drop (k+4))
  else 0:=by
 unfold skipN
 rw [skipF_fuel l.length (l.length+1) l (Nat.le_refl _) (by omega),skipF]
 rw [skipF_fuel l.length (l.drop 1).length (l.drop 1) (by simp) (Nat.le_refl _),skipF_fuel l.length (l.drop (span notNl l)).length (l.drop (span notNl l)) (by simp) (Nat.le_refl _)]
 cases closeAt (l.drop 2) with
 | none=>rfl
 | some k=>simp only [];rw [skipF_fuel l.length (l.drop (k+4)).length (l.drop (k+4)) (by simp) (Nat.le_refl _)]
theorem closeAt_le:∀(l:List UInt8) (k:Nat),closeAt l=some k→k+2≤l.length
 | [],k,h=>by simp [closeAt] at h
 | b::l,k,h=>by
  unfold closeAt at h
  split at h
  ·rename_i hb
   injection h with h
   subst h
   have:=rawAt_neg l 0
   simp;omega
  ·cases hc:closeAt l with
   | none=>rw [hc] at h;simp at h
   | some j=>
    rw [hc] at h
    have:=closeAt_le l j hc
    simp at h;simp;omega
theorem skipF_le:∀(f:Nat) (l:List UInt8),skipF f l≤l.length
 | 0,_=>Nat.zero_le _
 | f+1,l=>by
  unfold skipF
  by_cases h0:l.isEmpty
  ·rw [if_pos h0];omega
  ·rw [if_neg h0]
   have hl:0<l.length:=by
    cases l with
    | nil=>simp at h0
    | cons=>simp
   have h1:=skipF_le f (l.drop 1)
   have h2:=skipF_le f (l.drop (span notNl l))
   have h3:=span_le notNl l
   simp only [List.length_drop] at h1 h2
   by_cases a1:cls (rawAt l 0)=1
   ·rw [if_pos a1];omega
   rw [if_neg a1]
   by_cases a2:rawAt l 0=37
   ·rw [if_pos a2];omega
   rw [if_neg a2]
   by_cases a3:rawAt l 0=47∧rawAt l 1=42
   ·rw [if_pos a3]
    cases hc:closeAt (l.drop 2) with
    | none=>simp
    | some k=>
     have:=closeAt_le _ _ hc
     have h4:=skipF_le f (l.drop (k+4))
     simp only [List.length_drop] at this h4 ⊢
     omega
   ·rw [if_neg a3];omega
theorem skipN_le (l:List UInt8):skipN l≤l.length:=skipF_le _ _
theorem closeAt_yes (l:List UInt8) (k:Nat) (h:k<l.length) (h1:rawAt l k=42) (h2:rawAt l (k+1)=47):closeAt (l.drop k)=some 0:=by
 rw [rawAt_in _ _ h] at h1
 rw [←bAt_get _ _ h] at h1
 have e:l[k]=42:=UInt8.toNat_inj.1 (by show l[k].toNat=42;omega)
 rw [drop_cons l k h,closeAt,rawAt_drop,Nat.add_zero,if_pos ⟨e,h2⟩]
theorem closeAt_no (l:List UInt8) (k:Nat) (h:k<l.length) (h1:¬(rawAt l k=42∧rawAt l (k+1)=47)):closeAt (l.drop k)=(closeAt (l.drop (k+1))).map (· + 1):=by
 rw [rawAt_in _ _ h] at h1
 rw [drop_cons l k h,closeAt,rawAt_drop,Nat.add_zero,if_neg]
 rintro ⟨a,b⟩
 refine h1 ⟨?_,b⟩
 rw [←bAt_get _ _ h,a];rfl
theorem closeAt_end (l:List UInt8) (k:Nat) (h:l.length≤k):closeAt (l.drop k)=none:=by
 rw [List.drop_of_length_le h];rfl
theorem skip_at (l:List UInt8) (k:Nat) (h:k<l.length):skipN (l.drop k) =
  if cls (rawAt l k)=1 then 1+skipN (l.drop (k+1))
  else if rawAt l k=37 then span notNl (l.drop k)+skipN (l.drop (k+span notNl (l.drop k)))
  else if rawAt l k=47∧rawAt l (k+1)=42 then
   match closeAt (l.drop (k+2)) with
   | none=>0
   | some j=>(j+4)+skipN (l.drop (k+(j+4)))
  else 0:=by
 rw [skipN_eq]
 have:(l.drop k).isEmpty=false:=by
  rw [drop_cons l k h];rfl
 rw [this]
 simp only [Bool.false_eq_true,if_false,rawAt_drop,List.drop_drop,Nat.add_zero]
theorem skip_end (l:List UInt8) (k:Nat) (h:l.length≤k):skipN (l.drop k)=0:=by
 rw [List.drop_of_length_le h];rfl
theorem skip_lay (l:List UInt8) (k:Nat) (h:k<l.length) (h1:cls (rawAt l k)=1):skipN (l.drop k)=1+skipN (l.drop (k+1)):=by rw [skip_at l k h,if_pos h1]
theorem skip_pct (l:List UInt8) (k:Nat) (h:k<l.length) (h1:¬cls (rawAt l k)=1) (h2:rawAt l k=37):skipN (l.drop k)=span notNl (l.drop k)+skipN (l.drop (k+span notNl (l.drop k))):=by rw [skip_at l k h,if_neg h1,if_pos h2]
theorem skip_open (l:List UInt8) (k:Nat) (h:k<l.length) (h1:rawAt l k=47) (h2:rawAt l (k+1)=42) (h3:closeAt (l.drop (k+2))=none):skipN (l.drop k)=0:=by
 rw [skip_at l k h,if_neg (by rw [h1];decide),if_neg (by rw [h1];decide),if_pos ⟨h1,h2⟩,h3]
theorem skip_com (l:List UInt8) (k j:Nat) (h:k<l.length) (h1:rawAt l k=47) (h2:rawAt l (k+1)=42) (h3:closeAt (l.drop (k+2))=some j):skipN (l.drop k)=(j+4)+skipN (l.drop (k+(j+4))):=by
 rw [skip_at l k h,if_neg (by rw [h1];decide),if_neg (by rw [h1];decide),if_pos ⟨h1,h2⟩,h3]
theorem skip_no (l:List UInt8) (k:Nat) (h:k<l.length) (h1:¬cls (rawAt l k)=1) (h2:¬rawAt l k=37) (h3:¬(rawAt l k=47∧rawAt l (k+1)=42)):skipN (l.drop k)=0:=by
 rw [skip_at l k h,if_neg h1,if_neg h2,if_neg h3]
structure LexR where
 kind:Int
 text:List UInt8
 n:Int
 at_:Int
 end_:Int
 err:Int
def errR (e:Int):LexR:=⟨0,[],0,0,0,e⟩
def namedR (kind:Int) (text:List UInt8) (at_ end_:Int):LexR:=if 100<text.length then errR 2 else ⟨kind,text,0,at_,end_,0⟩
def wordKind (c:Int):Int:=if cls c=3 then 3 else 1
def soloKind (c:Int):Int:=if c=33∨c=59 then 1 else 6
def wordR (m:List UInt8) (p:Nat):LexR:=namedR (wordKind (rawAt m p)) ((m.drop p).take (span alnum (m.drop p))) p (p+span alnum (m.drop p))
def endNext (c:Int):Bool:=decide (c<0)||(c==37||cls c==1)
def symR (m:List UInt8) (p:Nat):LexR :=
 if rawAt m p=46∧endNext (rawAt m (p+1))=true then ⟨7,[46],0,p,p+1,0⟩
 else namedR 1 ((m.drop p).take (span isSym (m.drop p))) p (p+span isSym (m.drop p))
def soloR (m:List UInt8) (p:Nat):LexR:=namedR (soloKind (rawAt m p)) ((m.drop p).take 1) p (p+1)
def natOf (base:Int) (l:List UInt8):Nat:=l.foldl (fun a b=>a * base.toNat+(digV (b.toNat:Int) base).toNat) 0
def intR (base:Int) (text:List UInt8) (p e:Int):LexR :=
 if natOf base text≤9223372036854775808 then ⟨4,[],if natOf base text=9223372036854775808 then -9223372036854775808 else natOf base text,p,e,0⟩ else errR 7
def isDig (base:Int) (c:Int):Bool:=digOk c base
def escBase (l:List UInt8):Int:=if rawAt l 1=120 then 16 else 8
def escFrom (l:List UInt8):Nat:=if rawAt l 1=120 then 2 else 1
def escLen (l:List UInt8):Nat:=span (isDig (escBase l)) (l.drop (escFrom l))
def escNum (l:List UInt8):Nat:=natOf (escBase l) ((l.drop (escFrom l)).take (escLen l))
def quotedS (l:List UInt8) (q:Int):Option (Int×Nat) :=
 if rawAt l 0<0∨rawAt l 0=10 then none
 else if rawAt l 0=q then (if rawAt l 1=q then some (q,2) else none)
 else if rawAt l 0≠92 then some (rawAt l 0,1)
 else if uneOk (rawAt l 1)=true then some (uneV (rawAt l 1),2)
 else if 0<escLen l∧escNum l≤255∧rawAt l (escFrom l+escLen l)=92 then some (escNum l,escFrom l+escLen l+1)
 else none
def numBase (m:List UInt8) (p:Nat):Int:=if rawAt m p=48 then (if rawAt m (p+1)=120 then 16 else if rawAt m (p+1)=111 then 8 else if rawAt m (p+1)=98 then 2 else 0) else 0
def numR (m l:List UInt8) (p:Nat):LexR :=
 if rawAt m p=48∧rawAt m (p+1)=39 then
  match quotedS (l.drop (p+2)) 39 with
  | none=>errR 7
  | some (c,k)=>⟨4,[],c,p,p+2+k,0⟩
 else if 0<numBase m p∧0<span (isDig (numBase m p)) (m.drop (p+2)) then
  intR (numBase m p) ((m.drop (p+2)).take (span (isDig (numBase m p)) (m.drop (p+2)))) p (p+2+span (isDig (numBase m p)) (m.drop (p+2)))
 else intR 10 ((m.drop p).take (span (isDig 10) (m.drop p))) p (p+span (isDig 10) (m.drop p))
def itemF:Nat→List UInt8→Int→Option (List UInt8×Nat)
 | 0,_,_=>none
 | f+1,l,q=>
  if rawAt l 0=q∧¬rawAt l 1=q then some ([],0)
  else if rawAt l 0=92∧rawAt l 1=10 then (itemF f (l.drop 2) q).map fun x=>(x.1,x.2+2)
  else match quotedS l q with
   | none=>none
   | some (c,k)=>(itemF f (l.drop k) q).map fun x=>(c.toNat.toUInt8::x.1,x.2+k)
def item (l:List UInt8) (q:Int):Option (List UInt8×Nat):=itemF (l.length+1) l q
def strRes (p:Nat):Option (List UInt8×Nat)→LexR
 | none=>errR 7
 | some x=>⟨5,x.1,0,p,p+1+x.2+1,0⟩
def nmRes (p:Nat):Option (List UInt8×Nat)→LexR
 | none=>errR 7
 | some x=>namedR 2 x.1 p (p+1+x.2+1)
def quoteR (m l:List UInt8) (p:Nat):LexR :=
 if rawAt m p=34 then strRes p (item (l.drop (p+1)) 34)
 else if rawAt m p=39 then nmRes p (item (l.drop (p+1)) 39)
 else errR 7
def tokR (m l:List UInt8) (p:Nat):LexR :=
 if rawAt m p=47∧rawAt m (p+1)=42 then errR 7
 else if cls (rawAt m p)=2∨cls (rawAt m p)=3 then wordR m p
 else if cls (rawAt m p)=4 then numR m l p
 else if cls (rawAt m p)=5 then symR m p
 else if cls (rawAt m p)=6 then soloR m p
 else if cls (rawAt m p)=7 then quoteR m l p
 else errR 7
structure NextR where
 r:LexR
 lay:Bool
 where_:Int
def nextR (m l:List UInt8) (a:Nat):NextR :=
 let p:=a+skipN (m.drop a)
 if p=l.length then ⟨errR 14,false,p⟩
 else if (tokR m l p).err=0 then ⟨tokR m l p,decide (a<p),0⟩
 else ⟨errR (tokR m l p).err,false,p⟩
def dgt (c:Int):Int:=if 48≤c∧c≤57 then c-48 else if 97≤c∧c≤122 then c-97+10 else if 65≤c∧c≤90 then c-65+10 else 36
theorem dgt_lo (c:Int):0≤dgt c:=by unfold dgt;grind
theorem dgt_hi (c:Int):dgt c≤36:=by unfold dgt;grind
theorem dig_dgt (c base:Int) (h1:2≤base) (h2:base≤36):dig c base=if dgt c<base then some (dgt c) else none:=by
 unfold dig dgt;grind
theorem digOk_dgt (c base:Int) (h1:2≤base) (h2:base≤36):digOk c base=decide (dgt c<base):=by
 unfold digOk;rw [dig_dgt c base h1 h2];grind
theorem digV_dgt (c base:Int) (h1:2≤base) (h2:base≤36) (h:dgt c<base):digV c base=dgt c:=by
 unfold digV;rw [dig_dgt c base h1 h2,if_pos h];rfl
theorem natOf_snoc (base:Int) (l:List UInt8) (b:UInt8):natOf base (l++[b])=natOf base l * base.toNat+(digV (b.toNat:Int) base).toNat:=by
 unfold natOf;rw [List.foldl_append];rfl
theorem natOf_take (base:Int) (l:List UInt8) (k:Nat) (h:k<l.length):natOf base (l.take (k+1))=natOf base (l.take k) * base.toNat+(digV (bAt l k) base).toNat:=by
 rw [List.take_succ_eq_append_getElem h,natOf_snoc,bAt_get _ _ h]
theorem natOf_foldl_mono (base:Int) (h:1≤base):∀(l:List UInt8) (a:Nat),a≤l.foldl (fun a b=>a * base.toNat+(digV (b.toNat:Int) base).toNat) a
 | [],a=>Nat.le_refl _
 | b::l,a=>by
  have:=natOf_foldl_mono base h l (a * base.toNat+(digV (b.toNat:Int) base).toNat)
  have h1:1≤base.toNat:=by omega
  have h2:a≤a * base.toNat:=Nat.le_mul_of_pos_right a h1
  rw [List.foldl_cons];omega
theorem natOf_mono (base:Int) (h:1≤base) (l:List UInt8) (k:Nat):natOf base (l.take k)≤natOf base l:=by
 have e:natOf base l=(l.drop k).foldl (fun a b=>a * base.toNat+(digV (b.toNat:Int) base).toNat) (natOf base (l.take k)):=by
  unfold natOf
  rw [←List.foldl_append,List.take_append_drop]
 rw [e];exact natOf_foldl_mono base h _ _
theorem tdiv_lt (n a b:Int) (hb:0<b) (ha:a≤0):n<a.tdiv b↔n * b<a:=by
 obtain ⟨m,rfl⟩:∃m,a=-m:=⟨-a,by omega⟩
 rw [Int.neg_tdiv,Int.tdiv_eq_ediv_of_nonneg (by omega)]
 constructor
 ·intro h
  have h1:m / b < -n:=by omega
  have h2:=(Int.ediv_lt_iff_lt_mul hb).1 h1
  rw [Int.neg_mul] at h2;omega
 ·intro h
  have h1:m < -n * b:=by rw [Int.neg_mul];omega
  have h2:=(Int.ediv_lt_iff_lt_mul hb).2 h1
  omega
theorem parse_step (a d b:Int) (hb:0<b) (hd0:0≤d) (hd1:d≤36):-a<(-9223372036854775808+d).tdiv b↔9223372036854775808<a * b+d:=by
 rw [tdiv_lt _ _ _ hb (by omega),Int.neg_mul];omega
theorem span_rest (q:Int→Bool):∀(l:List UInt8) (j:Nat),j<span q l→q (rawAt l j)=true∧j<l.length
 | [],j,h=>by simp [span] at h
 | b::l,j,h=>by
  rw [span] at h
  split at h
  ·rename_i hb
   match j with
   | 0=>rw [rawAt_cons];exact ⟨hb,by simp⟩
   | j+1=>
    have:=span_rest q l j (by omega)
    rw [rawAt_succ];exact ⟨this.1,by simp;exact this.2⟩
  ·omega
theorem span_stop (q:Int→Bool) (h:q (-1)=false):∀(l:List UInt8),q (rawAt l (span q l))=false
 | []=>by rw [rawAt_out _ _ (by simp)];exact h
 | b::l=>by
  rw [span]
  split
  ·rw [rawAt_succ];exact span_stop q h l
  ·rename_i hb
   rw [rawAt_cons];simpa using hb
theorem isDig_end (base:Int):isDig base (-1)=false:=by
 unfold isDig digOk dig
 split
 ·rfl
 ·rename_i h
  rw [if_neg]
  ·rfl
  ·simp;omega
theorem natOf_step (base:Int) (h0:2≤base) (h1:base≤36) (l:List UInt8) (j:Nat) (hj:j<span (isDig base) l):(natOf base (l.take (j+1)):Int)=natOf base (l.take j) * base+digV (rawAt l j) base∧0≤digV (rawAt l j) base∧digV (rawAt l j) base≤36:=by
 obtain ⟨hq,hl⟩:=span_rest _ _ _ hj
 rw [rawAt_in _ _ hl] at hq ⊢
 unfold isDig at hq
 rw [digOk_dgt _ _ h0 h1] at hq
 have hd:dgt (bAt l j)<base:=by simpa using hq
 have:=dgt_lo (bAt l j)
 have:=dgt_hi (bAt l j)
 rw [natOf_take _ _ _ hl,digV_dgt _ _ h0 h1 hd]
 refine ⟨?_,by omega,by omega⟩
 push_cast
 rw [Int.toNat_of_nonneg (by omega),Int.toNat_of_nonneg (by omega)]
theorem esc_none1 (l:List UInt8) (q:Int) (h:rawAt l 0=92) (hq:¬rawAt l 0=q) (hu:uneOk (rawAt l 1)=false) (hx:¬(0<escLen l∧escNum l≤255∧rawAt l (escFrom l+escLen l)=92)):quotedS l q=none:=by
 unfold quotedS;rw [if_neg (by omega),if_neg hq,if_neg (fun hh=>hh h),hu,if_neg (by simp),if_neg hx]
theorem esc_some1 (l:List UInt8) (q:Int) (h:rawAt l 0=92) (hq:¬rawAt l 0=q) (hu:uneOk (rawAt l 1)=false) (hx:0<escLen l∧escNum l≤255∧rawAt l (escFrom l+escLen l)=92):quotedS l q=some ((escNum l:Int),escFrom l+escLen l+1):=by
 unfold quotedS;rw [if_neg (by omega),if_neg hq,if_neg (fun hh=>hh h),hu,if_neg (by simp),if_pos hx]
theorem une_bd (c:Int) (h:uneOk c=true):0≤uneV c∧uneV c≤255∧0≤c∧c≤255:=by
 unfold uneOk uneV une at *
 grind (splits:=30)
theorem quotedS_ok (l:List UInt8) (q c:Int) (k:Nat) (hq:0≤q∧q≤255) (h:quotedS l q=some (c,k)):1≤k∧k≤l.length∧0≤c∧c≤255:=by
 unfold quotedS at h
 have n0:=rawAt_neg l 0
 have n1:=rawAt_neg l 1
 by_cases h1:rawAt l 0<0∨rawAt l 0=10
 ·rw [if_pos h1] at h;cases h
 rw [if_neg h1] at h
 by_cases h2:rawAt l 0=q
 ·rw [if_pos h2] at h
  by_cases h3:rawAt l 1=q
  ·rw [if_pos h3] at h;injection h with h;injection h with e1 e2;subst e1;subst e2;omega
  ·rw [if_neg h3] at h;cases h
 rw [if_neg h2] at h
 by_cases h3:rawAt l 0≠92
 ·rw [if_pos h3] at h;injection h with h;injection h with e1 e2;subst e1;subst e2
  have:=rawAt_hi l 0
  omega
 rw [if_neg h3] at h
 by_cases h4:uneOk (rawAt l 1)=true
 ·rw [if_pos h4] at h;injection h with h;injection h with e1 e2;subst e1;subst e2
  have:=une_bd _ h4
  omega
 rw [if_neg h4] at h
 by_cases h5:0<escLen l∧escNum l≤255∧rawAt l (escFrom l+escLen l)=92
 ·rw [if_pos h5] at h;injection h with h;injection h with e1 e2;subst e1;subst e2
  have n2:=rawAt_neg l (escFrom l+escLen l)
  omega
 ·rw [if_neg h5] at h;cases h
theorem itemF_fuel (q:Int) (hq:0≤q∧q≤255):∀(f g:Nat) (l:List UInt8),l.length<f→l.length<g→itemF f l q=itemF g l q
 | 0,_,_,h,_=>absurd h (by omega)
 | _+1,0,_,_,h=>absurd h (by omega)
 | f+1,g+1,l,h1,h2=>by
  unfold itemF
  have n0:=rawAt_neg l 0
  by_cases a1:rawAt l 0=q∧¬rawAt l 1=q
  ·rw [if_pos a1,if_pos a1]
  rw [if_neg a1,if_neg a1]
  by_cases a2:rawAt l 0=92∧rawAt l 1=10
  ·have n1:=rawAt_neg l 1
   rw [if_pos a2,if_pos a2,itemF_fuel q hq f g (l.drop 2) (by simp;omega) (by simp;omega)]
  rw [if_neg a2,if_neg a2]
  cases hs:quotedS l q with
  | none=>rfl
  | some ck=>
   obtain ⟨c,k⟩:=ck
   have:=quotedS_ok l q c k hq hs
   simp only []
   rw [itemF_fuel q hq f g (l.drop k) (by simp;omega) (by simp;omega)]
theorem item_eq (l:List UInt8) (q:Int) (hq:0≤q∧q≤255):item l q =
  if rawAt l 0=q∧¬rawAt l 1=q then some ([],0)
  else if rawAt l 0=92∧rawAt l 1=10 then (item (l.drop 2) q).map fun x=>(x.1,x.2+2)
  else match quotedS l q with
   | none=>none
   | some (c,k)=>(item (l.drop k) q).map fun x=>(c.toNat.toUInt8::x.1,x.2+k):=by
 have n0:=rawAt_neg l 0
 unfold item
 rw [itemF]
 by_cases a1:rawAt l 0=q∧¬rawAt l 1=q
 ·rw [if_pos a1,if_pos a1]
 rw [if_neg a1,if_neg a1]
 by_cases a2:rawAt l 0=92∧rawAt l 1=10
 ·have n1:=rawAt_neg l 1
  rw [if_pos a2,if_pos a2,itemF_fuel q hq l.length ((l.drop 2).length+1) (l.drop 2) (by simp;omega) (by omega)]
 rw [if_neg a2,if_neg a2]
 cases hs:quotedS l q with
 | none=>rfl
 | some ck=>
  obtain ⟨c,k⟩:=ck
  have:=quotedS_ok l q c k hq hs
  simp only []
  rw [itemF_fuel q hq l.length ((l.drop k).length+1) (l.drop k) (by simp;omega) (by omega)]
def itemAt (l:List UInt8) (q:Int) (acc:List UInt8) (j:Nat):Option (List UInt8×Nat):=(item (l.drop j) q).map fun x=>(acc++x.1,j+x.2)
theorem itemAt_end (l:List UInt8) (q:Int) (hq:0≤q∧q≤255) (acc:List UInt8) (j:Nat) (h1:rawAt l j=q) (h2:¬rawAt l (j+1)=q):itemAt l q acc j=some (acc,j):=by
 unfold itemAt;rw [item_eq _ _ hq,rawAt_drop,rawAt_drop,Nat.add_zero,if_pos ⟨h1,h2⟩];simp
theorem itemAt_cont (l:List UInt8) (q:Int) (hq:0≤q∧q≤255) (acc:List UInt8) (j:Nat) (h0:¬(rawAt l j=q∧¬rawAt l (j+1)=q)) (h1:rawAt l j=92) (h2:rawAt l (j+1)=10):itemAt l q acc j=itemAt l q acc (j+2):=by
 unfold itemAt;rw [item_eq _ _ hq,rawAt_drop,rawAt_drop,Nat.add_zero,if_neg h0,if_pos ⟨h1,h2⟩,List.drop_drop,Option.map_map]
 congr 1;funext x;simp;omega
theorem itemAt_none (l:List UInt8) (q:Int) (hq:0≤q∧q≤255) (acc:List UInt8) (j:Nat) (h0:¬(rawAt l j=q∧¬rawAt l (j+1)=q)) (h1:¬(rawAt l j=92∧rawAt l (j+1)=10)) (h2:quotedS (l.drop j) q=none):itemAt l q acc j=none:=by
 unfold itemAt;rw [item_eq _ _ hq,rawAt_drop,rawAt_drop,Nat.add_zero,if_neg h0,if_neg h1,h2];rfl
theorem itemAt_some (l:List UInt8) (q:Int) (hq:0≤q∧q≤255) (acc:List UInt8) (j k:Nat) (c:Int) (h0:¬(rawAt l j=q∧¬rawAt l (j+1)=q)) (h1:¬(rawAt l j=92∧rawAt l (j+1)=10)) (h2:quotedS (l.drop j) q=some (c,k)):itemAt l q acc j=itemAt l q (acc++[c.toNat.toUInt8]) (j+k):=by
 unfold itemAt;rw [item_eq _ _ hq,rawAt_drop,rawAt_drop,Nat.add_zero,if_neg h0,if_neg h1,h2]
 simp only []
 rw [List.drop_drop,Option.map_map]
 congr 1;funext x;simp;omega
theorem item_len (q:Int) (hq:0≤q∧q≤255):∀(f:Nat) (l:List UInt8) (t:List UInt8) (k:Nat),itemF f l q=some (t,k)→k+1≤l.length
 | 0,_,_,_,h=>by cases h
 | f+1,l,t,k,h=>by
  unfold itemF at h
  have n0:=rawAt_neg l 0
  by_cases a1:rawAt l 0=q∧¬rawAt l 1=q
  ·rw [if_pos a1] at h;injection h with h;injection h with e1 e2;subst e2;omega
  rw [if_neg a1] at h
  by_cases a2:rawAt l 0=92∧rawAt l 1=10
  ·have n1:=rawAt_neg l 1
   rw [if_pos a2] at h
   cases hi:itemF f (l.drop 2) q with
   | none=>rw [hi] at h;cases h
   | some x=>
    obtain ⟨t',k'⟩:=x
    have:=item_len q hq f (l.drop 2) t' k' hi
    rw [hi] at h;injection h with h;injection h with e1 e2;subst e2
    rw [List.length_drop] at this;simp only [];omega
  rw [if_neg a2] at h
  cases hs:quotedS l q with
  | none=>rw [hs] at h;cases h
  | some ck=>
   obtain ⟨c,j⟩:=ck
   have hok:=quotedS_ok l q c j hq hs
   rw [hs] at h
   simp only [] at h
   cases hi:itemF f (l.drop j) q with
   | none=>rw [hi] at h;cases h
   | some x=>
    obtain ⟨t',k'⟩:=x
    have:=item_len q hq f (l.drop j) t' k' hi
    rw [hi] at h;injection h with h;injection h with e1 e2;subst e2
    rw [List.length_drop] at this;simp only [];omega
theorem named_end (kind:Int) (t:List UInt8) (a e:Int) (h:(namedR kind t a e).err=0):(namedR kind t a e).at_=a∧(namedR kind t a e).end_=e∧(namedR kind t a e).kind=kind∧(namedR kind t a e).text=t:=by
 unfold namedR at *
 by_cases hk:100<t.length
 ·rw [if_pos hk] at h;exact absurd h (by decide)
 ·rw [if_neg hk];exact ⟨rfl,rfl,rfl,rfl⟩
theorem int_end (base:Int) (t:List UInt8) (a e:Int) (h:(intR base t a e).err=0):(intR base t a e).at_=a∧(intR base t a e).end_=e:=by
 unfold intR at *
 by_cases hk:natOf base t≤9223372036854775808
 ·rw [if_pos hk];exact ⟨rfl,rfl⟩
 ·rw [if_neg hk] at h;exact absurd h (by decide)
theorem cls_alnum (c:Int) (h:cls c=2∨cls c=3):alnum c=true:=by unfold alnum;rcases h with h | h <;> rw [h] <;> rfl
theorem cls_digit (c:Int) (h:cls c=4):isDig 10 c=true:=by
 have hc:48≤c∧c≤57:=by unfold cls at h;grind (splits:=30)
 unfold isDig;rw [digOk_dgt _ _ (by decide) (by decide)];unfold dgt;rw [if_pos hc];simp;omega
theorem tok_end (m l:List UInt8) (hl:m.length=l.length) (p:Nat) (hp:p<l.length) (h:(tokR m l p).err=0):(tokR m l p).at_=p∧∃e:Nat,(tokR m l p).end_=e∧p<e∧e≤l.length:=by
 unfold tokR at *
 have hd:0<(m.drop p).length:=by simp;omega
 have hr:rawAt (m.drop p) 0=rawAt m p:=by rw [rawAt_drop,Nat.add_zero]
 by_cases a0:rawAt m p=47∧rawAt m (p+1)=42
 ·rw [if_pos a0] at h;exact absurd h (by decide)
 rw [if_neg a0] at *
 by_cases a1:cls (rawAt m p)=2∨cls (rawAt m p)=3
 ·rw [if_pos a1] at *
  have h1:=span_pos alnum (m.drop p) hd (by rw [hr];exact cls_alnum _ a1)
  have h2:=span_le alnum (m.drop p)
  rw [List.length_drop] at h2
  obtain ⟨e1,e2,_⟩:=named_end _ _ _ _ h
  exact ⟨e1,p+span alnum (m.drop p),by unfold wordR;rw [e2];simp,by omega,by omega⟩
 rw [if_neg a1] at *
 by_cases a2:cls (rawAt m p)=4
 ·rw [if_pos a2] at *
  unfold numR at *
  by_cases b1:rawAt m p=48∧rawAt m (p+1)=39
  ·rw [if_pos b1] at *
   cases hq:quotedS (l.drop (p+2)) 39 with
   | none=>rw [hq] at h;exact absurd h (by show ¬(7:Int)=0;decide)
   | some ck=>
    obtain ⟨c,k⟩:=ck
    have hok:=quotedS_ok _ _ _ _ (by decide) hq
    rw [List.length_drop] at hok
    exact ⟨rfl,p+2+k,by simp,by omega,by omega⟩
  rw [if_neg b1] at *
  by_cases b2:0<numBase m p∧0<span (isDig (numBase m p)) (m.drop (p+2))
  ·rw [if_pos b2] at *
   have h2:=span_le (isDig (numBase m p)) (m.drop (p+2))
   rw [List.length_drop] at h2
   obtain ⟨e1,e2⟩:=int_end _ _ _ _ h
   exact ⟨e1,p+2+span (isDig (numBase m p)) (m.drop (p+2)),by rw [e2];simp,by omega,by omega⟩
  ·rw [if_neg b2] at *
   have h1:=span_pos (isDig 10) (m.drop p) hd (by rw [hr];exact cls_digit _ a2)
   have h2:=span_le (isDig 10) (m.drop p)
   rw [List.length_drop] at h2
   obtain ⟨e1,e2⟩:=int_end _ _ _ _ h
   exact ⟨e1,p+span (isDig 10) (m.drop p),by rw [e2];simp,by omega,by omega⟩
 rw [if_neg a2] at *
 by_cases a3:cls (rawAt m p)=5
 ·rw [if_pos a3] at *
  unfold symR at *
  by_cases b1:rawAt m p=46∧endNext (rawAt m (p+1))=true
  ·rw [if_pos b1];exact ⟨rfl,p+1,by simp,by omega,by omega⟩
  ·rw [if_neg b1] at *
   have h1:=span_pos isSym (m.drop p) hd (by rw [hr];unfold isSym;rw [a3];rfl)
   have h2:=span_le isSym (m.drop p)
   rw [List.length_drop] at h2
   obtain ⟨e1,e2,_⟩:=named_end _ _ _ _ h
   exact ⟨e1,p+span isSym (m.drop p),by rw [e2];simp,by omega,by omega⟩
 rw [if_neg a3] at *
 by_cases a4:cls (rawAt m p)=6
 ·rw [if_pos a4] at *
  obtain ⟨e1,e2,_⟩:=named_end _ _ _ _ h
  exact ⟨e1,p+1,by unfold soloR;rw [e2];simp,by omega,by omega⟩
 rw [if_neg a4] at *
 by_cases a5:cls (rawAt m p)=7
 ·rw [if_pos a5] at *
  unfold quoteR at *
  by_cases b1:rawAt m p=34
  ·rw [if_pos b1] at *
   cases hi:item (l.drop (p+1)) 34 with
   | none=>rw [hi] at h;exact absurd h (by show ¬(7:Int)=0;decide)
   | some x=>
    obtain ⟨t,k⟩:=x
    have:=item_len 34 (by decide) _ _ _ _ hi
    rw [List.length_drop] at this
    exact ⟨rfl,p+1+k+1,by simp [strRes],by omega,by omega⟩
  rw [if_neg b1] at *
  by_cases b2:rawAt m p=39
  ·rw [if_pos b2] at *
   cases hi:item (l.drop (p+1)) 39 with
   | none=>rw [hi] at h;exact absurd h (by show ¬(7:Int)=0;decide)
   | some x=>
    obtain ⟨t,k⟩:=x
    have:=item_len 39 (by decide) _ _ _ _ hi
    rw [List.length_drop] at this
    rw [hi] at h
    obtain ⟨e1,e2,_⟩:=named_end _ _ _ _ h
    exact ⟨e1,p+1+k+1,by unfold nmRes;rw [e2];simp,by omega,by omega⟩
  ·rw [if_neg b2] at h;exact absurd h (by decide)
 ·rw [if_neg a5] at h;exact absurd h (by decide)
theorem next_end (m l:List UInt8) (hl:m.length=l.length) (a:Nat) (ha:a≤l.length) (h:(nextR m l a).r.err=0) :
  ∃p e:Nat,(nextR m l a).r.at_=p∧a≤p∧(nextR m l a).r.end_=e∧p<e∧e≤l.length∧(nextR m l a).lay=decide (a<p)∧(nextR m l a).where_=0:=by
 unfold nextR at *
 have hs:=skipN_le (m.drop a)
 rw [List.length_drop] at hs
 by_cases e1:a+skipN (m.drop a)=l.length
 ·simp only [if_pos e1] at h;exact absurd h (by decide)
 simp only [if_neg e1] at *
 by_cases e2:(tokR m l (a+skipN (m.drop a))).err=0
 ·simp only [if_pos e2] at *
  obtain ⟨e3,e,e4,e5,e6⟩:=tok_end m l hl (a+skipN (m.drop a)) (by omega) h
  exact ⟨_,e,e3,by omega,e4,e5,e6,rfl,by first | trivial | rfl⟩
 ·simp only [if_neg e2] at h
  exact absurd h e2
structure AllR where
 l:List NextR
 where_:Int
 err:Int
def allF:Nat→List UInt8→List UInt8→Nat→List NextR→AllR
 | 0,_,_,_,_=>⟨[],0,99⟩
 | f+1,m,l,a,acc=>
  if (nextR m l a).r.err=14∧acc≠[] then ⟨[],(nextR m l a).where_,7⟩
  else if ¬(nextR m l a).r.err=0 then ⟨[],(nextR m l a).where_,(nextR m l a).r.err⟩
  else if (nextR m l a).r.kind=7 then ⟨acc++[nextR m l a],0,0⟩
  else allF f m l (nextR m l a).r.end_.toNat (acc++[nextR m l a])
def allR (m l:List UInt8) (a:Nat):AllR:=allF (l.length+1) m l a []
theorem allF_succ (f:Nat) (m l:List UInt8) (a:Nat) (acc:List NextR):allF (f+1) m l a acc =
  if (nextR m l a).r.err=14∧acc≠[] then ⟨[],(nextR m l a).where_,7⟩
  else if ¬(nextR m l a).r.err=0 then ⟨[],(nextR m l a).where_,(nextR m l a).r.err⟩
  else if (nextR m l a).r.kind=7 then ⟨acc++[nextR m l a],0,0⟩
  else allF f m l (nextR m l a).r.end_.toNat (acc++[nextR m l a]):=rfl
def every (q:Int→Bool) (s:List UInt8):Bool:=s.all fun b=>q (b.toNat:Int)
def glueN (a b:List UInt8):Bool :=
 !a.isEmpty&&(!b.isEmpty&&((alnum (rawAt a (a.length-1))&&alnum (rawAt b 0))||((isSym (rawAt a (a.length-1))&&isSym (rawAt b 0))||((rawAt a (a.length-1)==rawAt b 0&&cls (rawAt a (a.length-1))==7)||(a==[48]&&rawAt b 0==39)))))
theorem tl_loop (s:ByteArray):∀(d i:Nat) (r:List UInt8),s.size-i=d→ByteArray.toList.loop s i r=r.reverse++s.data.toList.drop i
 | 0,i,r,h=>by
  unfold ByteArray.toList.loop
  rw [if_neg (by omega),List.drop_of_length_le (by simp;omega)];simp
 | d+1,i,r,h=>by
  have hi:i<s.size:=by omega
  have hi':i<s.data.toList.length:=by simpa using hi
  unfold ByteArray.toList.loop
  rw [if_pos hi,tl_loop s d (i+1) _ (by omega),List.drop_eq_getElem_cons hi']
  simp [ByteArray.get!,hi]
  first | rfl | (have:s.data[i]! = s.data[i]:=getElem!_pos s.data i hi;simp [this]) | skip
theorem tl_data (s:ByteArray):s.toList=s.data.toList:=by
 unfold ByteArray.toList
 rw [tl_loop s _ 0 [] rfl];simp
theorem span_all (q:Int→Bool):∀s:List UInt8,span q s=s.length↔every q s=true
 | []=>by simp [span,every]
 | b::s=>by
  have ih:=span_all q s
  have hl:=span_le q s
  unfold every at ih ⊢
  rw [span,List.all_cons]
  by_cases h:q (b.toNat:Int)=true
  ·rw [if_pos h,h,Bool.true_and,List.length_cons,←ih];omega
  ·rw [if_neg h]
   have:q (b.toNat:Int)=false:=by simpa using h
   rw [this,Bool.false_and,List.length_cons];simp
theorem every_at (q:Int→Bool) (s:List UInt8) (h:every q s=true) (k:Nat) (hk:k<s.length):q (rawAt s k)=true:=by
 unfold every at h
 rw [List.all_eq_true] at h
 have:=h s[k] (List.getElem_mem hk)
 rwa [rawAt_in _ _ hk,←bAt_get _ _ hk]
theorem raw_take1 (s:List UInt8) (h:s.length=1) (c:UInt8) (hc:rawAt s 0=(c.toNat:Int)):s=[c]:=by
 match s,h with
 | [b],_=>
  rw [rawAt_cons] at hc
  have:b=c:=UInt8.toNat_inj.1 (by omega)
  rw [this]
def okBase (b:Nat):Prop:=b=2∨b=8∨b=10∨b=16
theorem base_lo (b:Nat) (hb:okBase b):2≤b∧b≤16:=by rcases hb with rfl|rfl|rfl|rfl <;> decide
theorem dec_head (s:List UInt8) (h:every (isDig 10) s=true) (k:Nat) (hk:k<s.length):48≤rawAt s k∧rawAt s k≤57:=by
 have:=every_at _ _ h k hk
 have h0:=rawAt_in _ _ hk
 have h1:=bAt_lo s k
 have h2:=bAt_hi s k
 unfold isDig at this
 rw [digOk_dgt _ _ (by decide) (by decide)] at this
 have h3:dgt (rawAt s k)<10:=by simpa using this
 unfold dgt at h3
 grind
theorem zq {p:Prop} (h:p):Go.RowKit.Hid p:=Go.Lib.hid h
theorem bz {a w w':Go.World} (h:Go.RowKit.Hid (Go.RowKit.Below a.heap.size a w)) (hB:Go.RowKit.Below w.heap.size w w'):Go.RowKit.Hid (Go.RowKit.Below a.heap.size a w'):=zq (h.out.trans (hB.mono h.out.size))
theorem lz {α:Type} (a:α):∃x,Go.RowKit.Hid (x=a):=⟨_,zq rfl⟩
theorem oz {p:Prop} [Decidable p] (h:decide p=true):p:=of_decide_eq_true h
end Hb
