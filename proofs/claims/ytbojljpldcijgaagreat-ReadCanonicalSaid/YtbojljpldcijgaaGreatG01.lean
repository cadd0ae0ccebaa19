/- Parts of the proof. -/
import Derived.Test.YtbojljpldcijgaaGreatH01
import Derived.Test.YtbojljpldcijgaaGreatH02
import Derived.Test.YtbojljpldcijgaaGreatH03
import Derived.Test.YtbojljpldcijgaaGreatH04
import Derived.Test.YtbojljpldcijgaaGreatH05
import Derived.Test.YtbojljpldcijgaaGreatH06
import Derived.Test.YtbojljpldcijgaaGreatH07
import Derived.Test.YtbojljpldcijgaaGreatH08
import Derived.Test.YtbojljpldcijgaaGreatH09
import Derived.Test.YtbojljpldcijgaaGreatH10
import Derived.Test.YtbojljpldcijgaaGreatH11
import Derived.Test.YtbojljpldcijgaaGreatH12
import Derived.Test.YtbojljpldcijgaaGreatH13
import Derived.Test.YtbojljpldcijgaaGreatH14
import Derived.Test.YtbojljpldcijgaaGreatH15
import Derived.Test.YtbojljpldcijgaaGreatH16
import Derived.Test.YtbojljpldcijgaaGreatH17
import Derived.Test.YtbojljpldcijgaaGreatH18
import Derived.Test.YtbojljpldcijgaaGreatH19
import Derived.Test.YtbojljpldcijgaaGreatH20
import Derived.Test.YtbojljpldcijgaaGreatH21
import Derived.Test.YtbojljpldcijgaaGreatH22
import Derived.Test.YtbojljpldcijgaaGreatH23
import Derived.Test.YtbojljpldcijgaaGreatH24
import Derived.Test.YtbojljpldcijgaaGreatH25
import Derived.Test.YtbojljpldcijgaaGreatH26
import Derived.Test.YtbojljpldcijgaaGreatH27
import Derived.Test.YtbojljpldcijgaaGreatProg
import Derived.Lib.Builder
import Derived.Lib.AppendStr
import Derived.Lib.UnsafeStr
import Derived.Laws.Externs
import Derived.Laws.AppendOwnNone
import Derived.SliceStrings
import Derived.Deep.Slices
import Derived.ProofKit
import Derived.Maps.OwnSet
namespace Hb
open Go Go.RowKit
theorem own_below {w w':World} {base e size:Nat} {v:Value} {n:Nat} {xs:List Value} (h:w.ownsRow base e size v n xs) (hB:Below w.heap.size w w'):w'.ownsRow base e size v n xs:=by
 refine ⟨h.1,?_⟩
 rcases h.2 with hn | ⟨g,cap,cur,hv,hbg,hh,rest⟩
 ·exact .inl hn
 ·exact .inr ⟨g,cap,cur,hv,hbg,(hB.block g (by rw [Array.getElem?_eq_some_iff] at hh;exact hh.1)).trans hh,rest⟩
def SrcRow (w:World) (A:Option Addr) (m cap size:Nat) (ys:List Value):Prop :=
 (A=none∧m=0∧cap=0∧ys=[])∨∃ad:Addr,A=some ad∧ys.length=m * size∧∀j u,ys[j]? = some u→w.cell? (ad.add j)=some u
section
variable {w0 w w':World} {e:TypeId} {t:Tm} {A:Option Addr} {cap:Nat} {v:Value} {rs:List TR}
theorem sc_ne (w:World) (g i j:Nat) (v:Value) (h:j≠i):(w.setCell ⟨g,i,none⟩ v).cell? ⟨g,j,none⟩=w.cell? ⟨g,j,none⟩:=World.cell?_setCell_other _ _ _ _ (fun e=>h (by injection e with _ e2 _;first | exact e2 | exact e2.symm))
theorem put4_cells (w:World) (g:Nat) (x y z u:Value) {y0 y1 y2 y3:Value} (h0:w.cell? ⟨g,0,none⟩=some y0) (h1:w.cell? ⟨g,1,none⟩=some y1) (h2:w.cell? ⟨g,2,none⟩=some y2) (h3:w.cell? ⟨g,3,none⟩=some y3) (W:World) (hW:W=(((w.setCell ⟨g,0,none⟩ x).setCell ⟨g,1,none⟩ y).setCell ⟨g,2,none⟩ z).setCell ⟨g,3,none⟩ u) :
  W.cell? ⟨g,0,none⟩=some x∧W.cell? ⟨g,1,none⟩=some y∧W.cell? ⟨g,2,none⟩=some z∧W.cell? ⟨g,3,none⟩=some u∧∀p,W.frozen? p=w.frozen? p:=by
 obtain ⟨w1,e1⟩:∃w1,w1=w.setCell ⟨g,0,none⟩ x:=⟨_,rfl⟩
 obtain ⟨w2,e2⟩:∃w2,w2=w1.setCell ⟨g,1,none⟩ y:=⟨_,rfl⟩
 obtain ⟨w3,e3⟩:∃w3,w3=w2.setCell ⟨g,2,none⟩ z:=⟨_,rfl⟩
 rw [←e1,←e2,←e3] at hW
 have a0:w1.cell? ⟨g,0,none⟩=some x:=by rw [e1];exact World.cell?_setCell_same _ _ _ h0
 have a1:w1.cell? ⟨g,1,none⟩=some y1:=by rw [e1,sc_ne _ _ _ _ _ (by decide)];exact h1
 have a2:w1.cell? ⟨g,2,none⟩=some y2:=by rw [e1,sc_ne _ _ _ _ _ (by decide)];exact h2
 have a3:w1.cell? ⟨g,3,none⟩=some y3:=by rw [e1,sc_ne _ _ _ _ _ (by decide)];exact h3
 have b0:w2.cell? ⟨g,0,none⟩=some x:=by rw [e2,sc_ne _ _ _ _ _ (by decide)];exact a0
 have b1:w2.cell? ⟨g,1,none⟩=some y:=by rw [e2];exact World.cell?_setCell_same _ _ _ a1
 have b2:w2.cell? ⟨g,2,none⟩=some y2:=by rw [e2,sc_ne _ _ _ _ _ (by decide)];exact a2
 have b3:w2.cell? ⟨g,3,none⟩=some y3:=by rw [e2,sc_ne _ _ _ _ _ (by decide)];exact a3
 have c0:w3.cell? ⟨g,0,none⟩=some x:=by rw [e3,sc_ne _ _ _ _ _ (by decide)];exact b0
 have c1:w3.cell? ⟨g,1,none⟩=some y:=by rw [e3,sc_ne _ _ _ _ _ (by decide)];exact b1
 have c2:w3.cell? ⟨g,2,none⟩=some z:=by rw [e3];exact World.cell?_setCell_same _ _ _ b2
 have c3:w3.cell? ⟨g,3,none⟩=some y3:=by rw [e3,sc_ne _ _ _ _ _ (by decide)];exact b3
 refine ⟨?_,?_,?_,?_,fun p=>by rw [hW,e3,e2,e1,World.frozen?_setCell,World.frozen?_setCell,World.frozen?_setCell,World.frozen?_setCell]⟩
 ·rw [hW,sc_ne _ _ _ _ _ (by decide)];exact c0
 ·rw [hW,sc_ne _ _ _ _ _ (by decide)];exact c1
 ·rw [hW,sc_ne _ _ _ _ _ (by decide)];exact c2
 ·rw [hW];exact World.cell?_setCell_same _ _ _ c3
end
inductive Tm.All (P:Tm→Prop):Tm→Prop
 | mk (t:Tm) (h:P t) (ha:∀a∈t.args,Tm.All P a):Tm.All P t
theorem Tm.All.here {P:Tm→Prop} {t:Tm} (h:Tm.All P t):P t:=by cases h;assumption
theorem Tm.All.sub {P:Tm→Prop} {t:Tm} (h:Tm.All P t):∀a∈t.args,Tm.All P a:=by cases h;assumption
theorem Tm.All.imp {P Q:Tm→Prop} (hi:∀t,P t→Q t):∀t:Tm,Tm.All P t→Tm.All Q t:=Tm.ind fun t ih h=>.mk t (hi t h.here) fun a ha=>ih a ha (h.sub a ha)
def ren (f:Int→Int):Tm→Tm
 | .mk k n s l=>.mk k (if k=0 then f n else n) s (l.attach.map fun ⟨a,_⟩=>ren f a)
theorem ren_eq (f:Int→Int) (t:Tm):ren f t=.mk t.kind (if t.kind=0 then f t.num else t.num) t.name (t.args.map (ren f)):=by
 cases t with
 | mk k n s l=>unfold ren Tm.kind Tm.num Tm.name Tm.args;simp
def varsT:Tm→List Int→List Int
 | .mk k n _ l=>fun acc=>l.attach.foldl (fun acc ⟨a,_⟩=>varsT a acc) (if k=0∧n ∉ acc then acc++[n] else acc)
def varH (t:Tm) (acc:List Int):List Int:=if t.kind=0∧t.num ∉ acc then acc++[t.num] else acc
theorem varsT_eq (t:Tm) (acc:List Int):varsT t acc=t.args.foldl (fun acc a=>varsT a acc) (varH t acc):=by
 cases t with
 | mk k n s l=>
  conv=>lhs;unfold varsT
  show _=l.foldl (fun acc a=>varsT a acc) (if k=0∧n ∉ acc then acc++[n] else acc)
  simp
theorem varH_sub (t:Tm) (acc:List Int):(∀n∈acc,n∈varH t acc)∧(varH t acc).length≤acc.length+1∧(t.kind=0→t.num∈varH t acc):=by
 unfold varH
 split
 ·rename_i h
  exact ⟨fun n hn=>List.mem_append_left _ hn,by simp,fun _=>by simp⟩
 ·rename_i h
  refine ⟨fun n hn=>hn,by omega,fun h0=>?_⟩
  exact Classical.byContradiction fun hn=>h ⟨h0,hn⟩
theorem varsT_all:∀(t:Tm) (acc:List Int),(∀n∈acc,n∈varsT t acc)∧(varsT t acc).length≤acc.length+t.nodes∧Tm.All (fun x=>x.kind=0→x.num∈varsT t acc) t:=by
 refine Tm.ind fun t ih=>?_
 intro acc
 obtain ⟨h1,h2,h3⟩:=varH_sub t acc
 have key:∀(l:List Tm),(∀a∈l,a∈t.args)→∀ac:List Int,(∀n∈ac,n∈l.foldl (fun acc a=>varsT a acc) ac)∧(l.foldl (fun acc a=>varsT a acc) ac).length≤ac.length+(l.map Tm.nodes).sum∧∀a∈l,Tm.All (fun x=>x.kind=0→x.num∈l.foldl (fun acc a=>varsT a acc) ac) a:=by
  intro l
  induction l with
  | nil=>intro _ ac;exact ⟨fun n hn=>hn,by simp,fun a ha=>by cases ha⟩
  | cons a l ihl=>
   intro hl ac
   obtain ⟨k1,k2,k3⟩:=ih a (hl a (List.mem_cons_self ..)) ac
   obtain ⟨m1,m2,m3⟩:=ihl (fun x hx=>hl x (List.mem_cons_of_mem _ hx)) (varsT a ac)
   rw [List.foldl_cons,List.map_cons,List.sum_cons]
   refine ⟨fun n hn=>m1 n (k1 n hn),by omega,fun x hx=>?_⟩
   rcases List.mem_cons.1 hx with rfl | hx
   ·exact Tm.All.imp (fun y hy h0=>m1 _ (hy h0)) _ k3
   ·exact m3 x hx
 obtain ⟨k1,k2,k3⟩:=key t.args (fun _ h=>h) (varH t acc)
 rw [varsT_eq]
 refine ⟨fun n hn=>k1 n (h1 n hn),by rw [Tm.nodes_eq t];omega,.mk _ (fun h0=>k1 _ (h3 h0)) k3⟩
def posI (l:List Int) (n:Int):Int:=if n∈l then (l.idxOf n:Int) else -1
def canT (t:Tm):Tm:=if validT t=true then ren (posI (varsT t [])) t else tm0
def AtB (w:World) (v v':Value):Prop:=v'.ownBlock=v.ownBlock∨∃k,v'.ownBlock=some k∧w.heap.size≤k
theorem AtB.trans {a w:World} {v v1 v2:Value} (h:AtB a v v1) (k:AtB w v1 v2) (hs:a.heap.size≤w.heap.size):AtB a v v2:=by
 rcases k with k | ⟨g,k,hg⟩
 ·rw [AtB,k];exact h
 ·exact .inr ⟨g,k,Nat.le_trans hs hg⟩
theorem grown_on {a w w':World} {v v1:Value} (h:a.grownBy w v.ownBlock) (hv:AtB a v v1) (k:w.grownBy w' v1.ownBlock):a.grownBy w' v.ownBlock:=by
 refine ⟨k.os.trans h.os,k.tape.trans h.tape,k.output.trans h.output,Nat.le_trans h.size k.size,fun i hi hne=>(k.block i (Nat.lt_of_lt_of_le hi h.size) fun e=>?_).trans (h.block i hi hne)⟩
 rcases hv with hv | ⟨g,hv,hg⟩
 ·rw [hv] at e;exact hne e
 ·rw [hv] at e;injection e with e;omega
theorem bel_grown {a w w':World} {row:Option Nat} (h:Below a.heap.size a w) (k:w.grownBy w' row):a.grownBy w' row :=
 ⟨k.os.trans h.os,k.tape.trans h.tape,k.output.trans h.output,Nat.le_trans h.size k.size,fun i hi hne=>(k.block i (Nat.lt_of_lt_of_le hi h.size) hne).trans (h.block i hi)⟩
theorem grown_none {w w':World} (h:w.grownBy w' none):Below w.heap.size w w':=⟨h.os,h.tape,h.output,h.size,fun i hi=>h.block i hi (by simp)⟩
theorem grown_self (w:World) (row:Option Nat):w.grownBy w row:=⟨rfl,rfl,rfl,Nat.le_refl _,fun _ _ _=>rfl⟩
theorem gro_cell {a w:World} {row:Option Nat} (h:a.grownBy w row) {k:Nat} (j:Nat) (hk:k<a.heap.size) (hne:row≠some k):w.cell? ⟨k,j,none⟩=a.cell? ⟨k,j,none⟩:=h.cell_far ⟨k,j,none⟩ hk (fun e=>hne e.symm)
def sumT (l:List Tm):Nat:=(l.map Tm.nodes).sum
theorem sumT_take (l:List Tm) (k:Nat) (h:k<l.length):sumT (l.take (k+1))=sumT (l.take k)+l[k].nodes:=by
 unfold sumT
 rw [List.take_succ_eq_append_getElem h,List.map_append,List.sum_append];simp
theorem sumT_le (l:List Tm) (k:Nat):sumT (l.take k)≤sumT l:=by
 have e:sumT l=sumT (l.take k)+sumT (l.drop k):=by
  unfold sumT
  rw [←List.sum_append,←List.map_append,List.take_append_drop]
 omega
structure TBx (w:World) (g:Nat) (t:Tm) (A:Option Addr) (cap:Nat):Prop where
 lt:g<w.heap.size
 c0:w.cell? ⟨g,0,none⟩=some (.int .i64 t.kind)
 c1:w.cell? ⟨g,1,none⟩=some (.int .i64 t.num)
 c2:w.cell? ⟨g,2,none⟩=some (.string t.name)
 c3:w.cell? ⟨g,3,none⟩=some (.slice A t.args.length cap)
theorem TBx.start (w:World) (t:Tm) (A:Option Addr) (cap LN:Nat) (e:TypeId) (hL:LN=t.args.length):TBx (w.alloc (.cells #[.int .i64 t.kind,.int .i64 t.num,.string t.name,.slice A LN cap] e)) w.heap.size t A cap :=
 ⟨by simp,World.cell?_alloc_new _ _ _ 0,World.cell?_alloc_new _ _ _ 1,World.cell?_alloc_new _ _ _ 2,by rw [←hL];exact World.cell?_alloc_new _ _ _ 3⟩
theorem wpList_append_rowA {P:Program} {w:World} {ops:Array Oper} {rest:List Oper} {o:Oper} {a:Act} {Q:Exit→Act→World→Prop} (hgd:o.guard=none) (s x:Operand) (t e:TypeId)
  (ho:o.op=.call { callee:=.builtin .append,args:=#[s,x],argTypes:=#[t,t] }) (ht:P.underlying t=some (.slice e)) (z:Value) (size bytes:Nat)
  (hinfo:(P.info? e).map (fun i=>(i.zero,i.size,i.bytes))=some (some z,size,bytes)) (hzs:z.cells.size=size) (hsz:0<size)
  (base:Nat) (v:Value) (n:Nat) (xs:List Value) (hs:a.eval s=v) (hown:w.ownsRow base e size v n xs) (A:Option Addr) (m cap:Nat) (ys:List Value) (hx:a.eval x=.slice A m cap) (hrow:SrcRow w A m cap size ys)
  (h1:∀u∈ys,u.oneCell'=true) (h63:n+m≤4611686018427387904) (hbytes:(n+m) * bytes≤140737488355328) (hbase:base≤w.heap.size)
  (h:∀v' w',w'.ownsRow base e size v' (n+m) (xs++ys)→w.grownBy w' v.ownBlock→(v'.ownBlock=v.ownBlock∨v'.ownBlock=some w.heap.size)→wpList P ops Q rest (a.put o.dst v') w'):wpList P ops Q (o::rest) a w:=by
 obtain ⟨i,hi,hz0,hz1,hz2⟩:=info_parts hinfo
 rcases hrow with ⟨rfl,rfl,rfl,rfl⟩ | ⟨ad,rfl,hl,hc⟩
 ·refine wpList_append_own_none hgd s x t ho base e i size ht hi v n xs hs hown hx ?_
  exact h v w (by rw [Nat.add_zero,List.append_nil];exact hown) ⟨rfl,rfl,rfl,Nat.le_refl _,fun _ _ _=>rfl⟩ (.inl rfl)
 ·refine wpList_append_own_at _ hgd s x t ho base e i z size bytes ht hi hz0 hz1 hz2 hzs hsz v n xs hs hown ad m cap ys hx hl hc h1 (by unfold maxLen;omega) hbytes hbase ?_
  intro v' w' ho' hg' _ hat
  exact h v' w' ho' hg' hat
def IntsAt (w:World) (A:Option Addr) (l:List Int):Prop :=
 ∀j (hj:j<l.length),∃g off,A=some ⟨g,off,none⟩∧g<w.heap.size∧w.cell? ⟨g,off+j,none⟩=some (.int .i64 l[j])
theorem IntsAt.below {w w':World} {A:Option Addr} {l:List Int} (h:IntsAt w A l) (hb:Below w.heap.size w w'):IntsAt w' A l:=fun j hj=>by
 obtain ⟨g,off,hA,hg,hc⟩:=h j hj
 exact ⟨g,off,hA,Nat.lt_of_lt_of_le hg hb.size,(hb.cell (p:=⟨_,_,none⟩) hg).trans hc⟩
def OwnI (e:TypeId) (b:Nat) (w:World) (v:Value) (l:List Int):Prop:=w.ownsRow b e 1 v l.length (l.map fun n=>Value.int .i64 n)
theorem OwnI.below {e b:Nat} {w w':World} {v:Value} {l:List Int} (h:OwnI e b w v l) (hB:Below w.heap.size w w'):OwnI e b w' v l:=own_below h hB
theorem OwnI.low {e b:Nat} {w:World} {v:Value} {l:List Int} (h:OwnI e b w v l) {k:Nat} (hk:v.ownBlock=some k):b≤k∧k<w.heap.size:=⟨(World.ownsRow.lt h k hk).1,(World.ownsRow.lt h k hk).2⟩
theorem OwnI.nil (e b:Nat) (w:World):OwnI e b w (.slice none 0 0) []:=World.ownsRow_nil _ _ _ _
theorem OwnI.ints {e b:Nat} {w:World} {v:Value} {l:List Int} (h:OwnI e b w v l):∃A cap,v=.slice A l.length cap∧IntsAt w A l:=by
 rcases h.2 with ⟨hv,h0⟩ | ⟨g,cap,cur,hv,hg,hh,hn,hm,rest⟩
 ·have:l=[]:=List.eq_nil_of_length_eq_zero h0
  subst this
  exact ⟨_,_,hv,fun j hj=>absurd hj (by simp)⟩
 ·refine ⟨some ⟨g,0,none⟩,cap,hv,fun j hj=>⟨g,0,rfl,(Array.getElem?_eq_some_iff.1 hh).1,?_⟩⟩
  have:=World.ownsRow.cells h (g:=g) (by rw [hv];rfl) j (.int .i64 l[j]) (by rw [List.getElem?_map,List.getElem?_eq_getElem hj];rfl)
  rw [addr_add] at this
  exact this
theorem posI_at {l:List Int} {x:Int} {k:Nat} (hk:k<l.length) (h:∀j (hj:j<l.length),j<k→¬l[j]=x) (he:l[k]=x):posI l x=k:=by
 have hm:x∈l:=by rw [←he];exact List.getElem_mem hk
 unfold posI
 rw [if_pos hm]
 have h1:=List.idxOf_lt_length_of_mem hm
 have h2:l[l.idxOf x]=x:=List.getElem_idxOf h1
 rcases Nat.lt_trichotomy (l.idxOf x) k with h3 | h3 | h3
 ·exact absurd h2 (h _ h1 h3)
 ·omega
 ·have:=List.not_of_lt_findIdx (p:=fun y=>y==x) (xs:=l) (i:=k) h3
  simp [he] at this
theorem posI_no {l:List Int} {x:Int} (h:∀j (hj:j<l.length),¬l[j]=x):posI l x=-1:=by
 unfold posI
 rw [if_neg]
 intro hm
 obtain ⟨j,hj,e⟩:=List.getElem_of_mem hm
 exact h j hj e
theorem posI_neg {l:List Int} {x:Int}:posI l x<0↔x ∉ l:=by
 unfold posI
 split
 ·rename_i h;simp [h]
 ·rename_i h;simp [h]
theorem posI_range {l:List Int} (x:Int) (h:l.length≤100000):-1≤posI l x∧posI l x≤100000:=by
 unfold posI
 split
 ·rename_i hm;have:=List.idxOf_lt_length_of_mem hm;omega
 ·omega
theorem bel_grown_on {a w w':World} {row:Option Nat} (h:Below a.heap.size a w) (k:w.grownBy w' row):a.grownBy w' row:=bel_grown h k
end Hb
namespace Go.Proofs.YtbojljpldcijgaaGreat
open Go.RowKit Hb
set_option maxRecDepth 100000
theorem infoI64:(Tryz.prog.info? 2).map (fun i=>(i.zero,i.size,i.bytes))=some (some (.int .i64 0),1,8):=by kernel_rfl
set_option maxHeartbeats 800000 in
theorem r3_position (A:Option Addr) (n cap:Nat) (l:List Int) (x:Int) (w:World) (hn:n=l.length) (hm:n≤100000) (h:IntsAt w A l) :
  Calls Tryz.prog 71 #[.slice A n cap,.int .i64 x] w fun e w'=>e=.returned (.int .i64 (posI l x))∧w=w':=by
 have HN:=Lib.hid hn
 have HI:=Lib.hid h
 clear h hn
 go_enter Tryz.func71,Tryz.ntmps71
 go_wp2_with fail
 go_loop [5] (fun i=>∃k:Nat,k≤n∧i=.int .i64 k∧Hid (∀j (hj:j<l.length),j<k→¬l[j]=x)) (fun i=>n-(intOf i).toNat)
 case atStart=>exact ⟨0,Nat.zero_le _,rfl,Lib.hid fun j _ hj=>absurd hj (by omega)⟩
 case round=>
  obtain ⟨k,hk,rfl,HK⟩:=hrel
  by_cases hlt:k<n
  ·have hkl:k<l.length:=by have:=HN.out;omega
   obtain ⟨g,off,rfl,hg,cc⟩:=HI.out k hkl
   have HAT:=Lib.hid (posI_at hkl HK.out)
   have HNX:Hid (¬l[k]=x→∀j (hj:j<l.length),j<k+1→¬l[j]=x):=Lib.hid (fun hne j hj hjk=>by
    by_cases e:j=k
    ·subst e;exact hne
    ·exact HK.out j hj (by omega))
   generalize l[k]=y at *
   by_cases hy:y=x
   ·subst hy
    have HR:=Lib.hid (HAT.out rfl)
    go_wp2_with fail
    go_ret
    exact ⟨by show Ending.returned (.int .i64 _)=_;rw [HR.out],rfl⟩
   ·have hb:(y==x)=false:=by simpa using hy
    go_wp2_with fail
    go_round
    case rel=>exact ⟨k+1,by omega,by go_num,Lib.hid (HNX.out hy)⟩
    case measure=>simp [intOf];omega
  ·have HR:=Lib.hid (posI_no (l:=l) (x:=x) fun j hj=>HK.out j hj (by have:=HN.out;omega))
   go_wp2_with fail
   go_ret
   exact ⟨by show Ending.returned (.int .i64 _)=_;rw [HR.out],rfl⟩
def VOK (w0:World) (t:Tm):Prop:=∀(A:Option Addr) (cap:Nat) (w:World) (v:Value) (acc:List Int),Below w0.heap.size w0 w→TmsAt w0.heap.size w0 A t.args→OwnI 2 w0.heap.size w v acc→acc.length+t.nodes≤100000 →
 Calls Tryz.prog 44 #[v,tmV t A cap] w fun e w'=>∃v',e=.returned v'∧OwnI 2 w0.heap.size w' v' (varsT t acc)∧w.grownBy w' v.ownBlock∧AtB w v v'
theorem at_appII {ops:Array Oper} {rest:List Oper} {a:Act} {Q:Exit→Act→World→Prop} {w:World} {d t p f x g} (h:wpList Tryz.prog ops Q (⟨d,.call { callee:=.builtin .append,args:=x,argTypes:=#[41,41] },t,p,f,g⟩::rest) a w):wpList Tryz.prog ops Q (⟨d,.call { callee:=.builtin .append,args:=x,argTypes:=#[41,41] },t,p,f,g⟩::rest) a w:=h
theorem varsT_leaf {t:Tm} (h:t.args.length=0) (acc:List Int):varsT t acc=varH t acc:=by
 rw [varsT_eq,List.eq_nil_of_length_eq_zero h];rfl
theorem varsT_node {t:Tm} (h:¬t.kind=0) (acc:List Int):varsT t acc=t.args.foldl (fun acc a=>varsT a acc) acc:=by
 rw [varsT_eq];unfold varH;rw [if_neg (fun e=>h e.1)]
theorem foldV_len (l:List Tm):∀acc:List Int,(l.foldl (fun acc a=>varsT a acc) acc).length≤acc.length+sumT l:=by
 induction l with
 | nil=>intro acc;exact Nat.le_add_right _ _
 | cons a l ih=>
  intro acc
  have h1:=ih (varsT a acc)
  have h2:=(varsT_all a acc).2.1
  have e:sumT (a::l)=a.nodes+sumT l:=by unfold sumT;rw [List.map_cons,List.sum_cons]
  rw [List.foldl_cons,e];omega
set_option maxHeartbeats 3200000 in
theorem r3_vars0 (w0:World) (t:Tm) (hk:t.kind=0) (hl:t.args.length=0):VOK w0 t:=by
 intro A cap w v acc hB hT hO hlen
 have HVT:=Lib.hid (varsT_leaf hl acc)
 have HVI:=Lib.hid (fun (h:t.num∈acc)=>(by unfold varH;rw [if_neg (fun e=>e.2 h)]:varH t acc=acc))
 have HVN:=Lib.hid (fun (h:¬t.num∈acc)=>(by unfold varH;rw [if_pos ⟨hk,h⟩]:varH t acc=acc++[t.num]))
 have HPN:=Lib.hid (posI_neg (l:=acc) (x:=t.num))
 obtain ⟨A',c',rfl,hI⟩:=hO.ints
 have HLOW:=Lib.hid (fun k (hk:(Value.slice A' acc.length c').ownBlock=some k)=>(hO.low hk).2)
 have hB1:=(Below.refl w.heap.size w).alloc (Nat.le_refl _) (.cells #[.int .i64 t.kind,.int .i64 t.num,.string t.name,.slice A t.args.length cap] 30)
 have HTB:=Lib.hid (TBx.start w t A cap t.args.length 30 rfl)
 have HOW:=Lib.hid (hO.below hB1)
 have HPO:=Lib.hid (r3_position A' acc.length c' acc t.num _ rfl (by omega) (hI.below hB1))
 have hbw:=hB.trans (hB1.mono hB.size)
 have hal:acc.length≤100000:=by omega
 have HB1:=Lib.hid hB1
 unfold tmV
 rw [HVT.out,hl]
 rw [hl] at HTB hB1 hbw HPO HOW HB1
 generalize varH t acc=res at *
 have h0:=HTB.out.c0
 have h1:=HTB.out.c1
 have h2:=HTB.out.c2
 have h3:=HTB.out.c3
 have hlt:=HTB.out.lt
 rw [hl] at h3
 rw [hk] at h0 hB1 hbw HPO HOW HB1 hlt h1 h2 h3 ⊢
 clear HTB HVT hB hT hO hI hlen
 go_enter Tryz.func44,Tryz.ntmps44
 go_wp2_with fail
 generalize w.alloc (.cells #[.int .i64 0,.int .i64 t.num,.string t.name,.slice A 0 cap] 30)=W at *
 refine HPO.out.mono ?_;rintro e W' ⟨rfl,rfl⟩
 have hsw:=hbw.size
 by_cases hin:t.num∈acc
 ·have hp:¬posI acc t.num<0:=fun e=>HPN.out.1 e hin
  have hp2:decide (posI acc t.num<0)=false:=by simpa using hp
  have HR:=Lib.hid (HVI.out hin)
  have hbb:=hB1
  go_wp2_with fail
  go_loopw [0,5] (fun v' i wr=>v'=.slice A' acc.length c'∧i=.int .i64 0∧wr=W) (fun _ _ _=>0)
  case atStart=>exact ⟨rfl,rfl,rfl⟩
  case round=>
   obtain ⟨rfl,rfl,rfl⟩:=hrel
   go_wp2_with fail
   go_ret
   exact ⟨_,rfl,by rw [HR.out];exact HOW.out,bel_grown hbb (grown_self _ _),.inl rfl⟩
 ·have hp:posI acc t.num<0:=HPN.out.2 hin
  have hp2:decide (posI acc t.num<0)=true:=by simpa using hp
  have HR:=Lib.hid (HVN.out hin)
  have hB2:=(Below.refl W.heap.size W).alloc (Nat.le_refl _) (.cells #[.int .i64 t.num] 2)
  have HOX:=Lib.hid (HOW.out.below hB2)
  have HSRC:Hid (SrcRow (W.alloc (.cells #[.int .i64 t.num] 2)) (some ⟨W.heap.size,0,none⟩) 1 1 1 [.int .i64 t.num]):=Lib.hid (.inr ⟨_,rfl,rfl,World.news_of_block (heap_alloc_new W _)⟩)
  have hs2:w0.heap.size≤(W.alloc (.cells #[.int .i64 t.num] 2)).heap.size:=Nat.le_trans hsw hB2.size
  go_wp2_with ((with_reducible refine at_appII ?_);refine wpList_append_rowA rfl _ _ 41 2 rfl Tryz.underlying41 _ 1 8 infoI64 rfl (by decide) w0.heap.size _ _ _ rfl HOX.out (some ⟨W.heap.size,0,none⟩) 1 1 [.int .i64 t.num] rfl HSRC.out (by intro u hu;rw [List.mem_singleton] at hu;subst hu;rfl) (by omega) (by omega) hs2 ?_;intro v6 w6 ho6 hg6 hat6)
  have HO6:Hid (OwnI 2 w0.heap.size w6 v6 res):=Lib.hid (by
   rw [HR.out]
   unfold OwnI
   rw [List.length_append,List.map_append]
   exact ho6)
  have hgw:w.grownBy w6 (Value.slice A' acc.length c').ownBlock:=bel_grown_on HB1.out (bel_grown_on hB2 hg6)
  have hat:AtB w (.slice A' acc.length c') v6:=by
   rcases hat6 with h | h
   ·exact .inl h
   ·exact .inr ⟨_,h,Nat.le_trans HB1.out.size hB2.size⟩
  have hT6:w6.cell? ⟨w.heap.size,3,none⟩=some (.slice A 0 cap):=by
   rw [gro_cell hg6 (k:=w.heap.size) 3 (Nat.lt_of_lt_of_le hlt hB2.size) (fun e=>by have:=HLOW.out _ e;omega),hB2.cell (p:=⟨w.heap.size,3,none⟩) hlt];exact h3
  clear ho6 hg6 hat6
  go_loopw [0,5] (fun v' i wr=>v'=v6∧i=.int .i64 0∧wr=w6) (fun _ _ _=>0)
  case atStart=>exact ⟨rfl,rfl,rfl⟩
  case round=>
   obtain ⟨rfl,rfl,rfl⟩:=hrel
   go_wp2_with fail
   go_ret
   exact ⟨_,rfl,HO6.out,hgw,hat⟩
set_option maxHeartbeats 3200000 in
theorem r3_vars (w0:World):∀(t:Tm),t.allOk=true→VOK w0 t:=by
 refine Tm.ind fun t ih hok=>?_
 by_cases hk:t.kind=0
 ·refine r3_vars0 w0 t hk ?_
  rw [Tm.allOk_eq,Bool.and_eq_true] at hok
  have:=hok.1
  unfold nodeOk at this
  rw [if_pos hk] at this
  simp at this
  exact List.length_eq_zero_iff.2 (by simpa using this.2)
 ·intro A cap w v acc hB hT hO hlen
  have HIH:Hid (∀a∈t.args,VOK w0 a):=Lib.hid (fun a ha=>ih a ha (by
   rw [Tm.allOk_eq,Bool.and_eq_true] at hok
   exact List.all_eq_true.1 hok.2 a ha))
  have HVT:=Lib.hid (varsT_node hk acc)
  have hB1:=(Below.refl w.heap.size w).alloc (Nat.le_refl _) (.cells #[.int .i64 t.kind,.int .i64 t.num,.string t.name,.slice A t.args.length cap] 30)
  have HTB:=Lib.hid (TBx.start w t A cap t.args.length 30 rfl)
  have HLOW:=Lib.hid (fun k (hk:v.ownBlock=some k)=>hO.low hk)
  have HOW:=Lib.hid (hO.below hB1)
  have HBW:=Lib.hid (hB.trans (hB1.mono hB.size))
  have HB1:=Lib.hid hB1
  have HT:=Lib.hid hT
  have hm:=hT.len
  unfold maxLen at hm
  have HLEN:=Lib.hid hlen
  have HNS:Hid (t.nodes=1+sumT t.args):=Lib.hid (Tm.nodes_eq t)
  have hkb:(t.kind==0)=false:=by simpa using hk
  clear ih hok hB hT hO hlen hB1
  unfold tmV
  rw [HVT.out]
  generalize hLN:t.args.length=LN at *
  have HL:=Lib.hid hLN
  have hlt:=HTB.out.lt
  clear hLN
  go_enter Tryz.func44,Tryz.ntmps44
  go_wp2_with fail
  generalize w.alloc (.cells #[.int .i64 t.kind,.int .i64 t.num,.string t.name,.slice A LN cap] 30)=W at *
  go_loopw [0,5] (fun vk i wr=>∃k:Nat,k≤LN∧i=.int .i64 k∧Hid (OwnI 2 w0.heap.size wr vk ((t.args.take k).foldl (fun acc a=>varsT a acc) acc))∧Hid (W.grownBy wr v.ownBlock)∧Hid (AtB W v vk)) (fun _ i _=>LN-(intOf i).toNat)
  case atStart=>exact ⟨0,Nat.zero_le _,rfl,HOW,Lib.hid (grown_self _ _),Lib.hid (.inl rfl)⟩
  case round=>
   obtain ⟨k,hkl,rfl,HO,HG,HA⟩:=hrel
   have b3:wr.cell? ⟨w.heap.size,3,none⟩=some (.slice A LN cap):=by
    rw [gro_cell HG.out (k:=w.heap.size) 3 hlt (fun e=>by have:=(HLOW.out _ e).2;omega)]
    have:=HTB.out.c3
    rw [HL.out] at this
    exact this
   by_cases hlt2:k<LN
   ·have hkt:k<t.args.length:=by have:=HL.out;omega
    obtain ⟨b,off,A',cap',rfl,hb,c0,c1,c2,c3,hs⟩:=HT.out.get k hkt
    have hcw:∀j,wr.cell? ⟨b,j,none⟩=w0.cell? ⟨b,j,none⟩:=fun j=>by
     rw [gro_cell HG.out (k:=b) j (Nat.lt_of_lt_of_le hb HBW.out.size) (fun e=>by have:=(HLOW.out _ e).1;omega)]
     exact HBW.out.cell (p:=⟨b,j,none⟩) hb
    have d0:=(hcw _).trans c0
    have d1:=(hcw _).trans c1
    have d2:=(hcw _).trans c2
    have d3:=(hcw _).trans c3
    have hbr:Below w0.heap.size w0 wr:=HBW.out.grown HG.out HBW.out.size (fun j hj=>(HLOW.out _ hj).1)
    have hfl:=foldV_len (t.args.take k) acc
    have hs1:=sumT_take t.args k hkt
    have hs2:=sumT_le t.args (k+1)
    have HC:=Lib.hid (HIH.out t.args[k] (List.getElem_mem hkt) A' cap' wr u0 _ hbr hs HO.out (by have:=HLEN.out;have:=HNS.out;omega))
    have HFE:Hid ((t.args.take (k+1)).foldl (fun acc a=>varsT a acc) acc=varsT t.args[k] ((t.args.take k).foldl (fun acc a=>varsT a acc) acc)):=Lib.hid (by rw [List.take_succ_eq_append_getElem hkt,List.foldl_append];rfl)
    have k0:(0:Int)≤(k:Int):=by omega
    have k1:(k:Int)<(LN:Int):=by omega
    clear hcw c0 c1 c2 c3 hs hbr hfl hs1 hs2
    unfold tmV at HC
    generalize t.args[k]=a at *
    go_wp2_with fail
    refine HC.out.mono ?_;rintro e w6 ⟨v6,rfl,hO6,hG6,hA6⟩
    have HO6:=Lib.hid hO6
    have HG6:=Lib.hid (grown_on HG.out HA.out hG6)
    have HA6:=Lib.hid (HA.out.trans hA6 HG.out.size)
    clear hO6 hG6 hA6 d0 d1 d2 d3 b3
    go_wp2_with fail
    go_roundw
    case rel=>exact ⟨k+1,by omega,by go_num,Lib.hid (by rw [HFE.out];exact HO6.out),HG6,HA6⟩
    case measure=>simp [intOf] <;> omega
   ·have hkn:k=LN:=by omega
    subst hkn
    have HTK:Hid (t.args.take k=t.args):=Lib.hid (List.take_of_length_le (by have:=HL.out;omega))
    rw [HTK.out] at HO
    go_wp2_with fail
    go_ret
    exact ⟨_,rfl,HO.out,bel_grown HB1.out HG.out,HA.out.imp id fun ⟨q,h1,h2⟩=>⟨q,h1,Nat.le_trans HB1.out.size h2⟩⟩
end Go.Proofs.YtbojljpldcijgaaGreat
namespace Hb
open Go Go.RowKit
theorem R4.put4 {w0 w:World} {g:Nat} (h:R4 w0 w g) (x y z u:Value):R4 w0 ((((w.setCell ⟨g,0,none⟩ x).setCell ⟨g,1,none⟩ y).setCell ⟨g,2,none⟩ z).setCell ⟨g,3,none⟩ u) g:=by
 obtain ⟨u0,r0⟩:=h.r0
 obtain ⟨u1,r1⟩:=h.r1
 obtain ⟨u2,r2⟩:=h.r2
 obtain ⟨u3,r3⟩:=h.r3
 obtain ⟨q0,q1,q2,q3,qf⟩:=put4_cells w g x y z u r0 r1 r2 r3 _ rfl
 exact ⟨h.put x y z u,h.le,by rw [put4_size];exact h.lt,⟨_,q0⟩,⟨_,q1⟩,⟨_,q2⟩,⟨_,q3⟩,fun o=>(qf _).trans (h.fr o)⟩
structure CnH (w X:World) (t:Tm) (A:Option Addr) (cap:Nat):Prop where
 r:R4 w X (w.heap.size+1)
 b:TBoxT w X t A cap
theorem CnH.call {w X X':World} {t:Tm} {A:Option Addr} {cap:Nat} (h:CnH w X t A cap) (hB:Below X.heap.size X X'):CnH w X' t A cap:=⟨h.r.call hB,h.b.call hB⟩
theorem CnH.drew {w X:World} {t:Tm} {A:Option Addr} {cap:Nat} (h:CnH w X t A cap):CnH w X.drew t A cap:=h.call (Below.refl _ _).drew
theorem CnH.put4 {w X:World} {t:Tm} {A:Option Addr} {cap:Nat} (h:CnH w X t A cap) (x y z u:Value):CnH w ((((X.setCell ⟨w.heap.size+1,0,none⟩ x).setCell ⟨w.heap.size+1,1,none⟩ y).setCell ⟨w.heap.size+1,2,none⟩ z).setCell ⟨w.heap.size+1,3,none⟩ u) t A cap:=by
 have hr:=h.r.put4 x y z u
 have hc:∀j,((((X.setCell ⟨w.heap.size+1,0,none⟩ x).setCell ⟨w.heap.size+1,1,none⟩ y).setCell ⟨w.heap.size+1,2,none⟩ z).setCell ⟨w.heap.size+1,3,none⟩ u).cell? ⟨w.heap.size,j,none⟩=X.cell? ⟨w.heap.size,j,none⟩:=fun j=>World.cell?_of_block (put4_block X (w.heap.size+1) x y z u w.heap.size (by omega))
 exact ⟨hr,⟨hr.bel,by rw [put4_size];exact h.b.lt,(hc 0).trans h.b.c0,(hc 1).trans h.b.c1,(hc 2).trans h.b.c2,(hc 3).trans h.b.c3⟩⟩
end Hb
namespace Go.Proofs.YtbojljpldcijgaaGreat
open Go.RowKit Hb
set_option maxRecDepth 100000
set_option maxHeartbeats 1600000 in
theorem r3_number0 (l:List Int) (hll:l.length≤100000) (D:Option Addr) (lc:Nat) (t:Tm) (hk:t.kind=0) (hl:t.args.length=0) (A:Option Addr) (cap:Nat) (w:World) (hI:IntsAt w D l) :
  Calls Tryz.prog 70 #[.slice D l.length lc,tmV t A cap] w fun e w'=>∃A' cap',e=.returned (tmV (ren (posI l) t) A' cap')∧Below w.heap.size w w'∧NewT w w' A' (ren (posI l) t).args:=by
 have HRE:Hid (ren (posI l) t=.mk 0 (posI l t.num) t.name []):=Lib.hid (by rw [ren_eq,if_pos hk,hk,List.eq_nil_of_length_eq_zero hl];rfl)
 have hB3:∀o1 o2 o3,Below w.heap.size w (((w.alloc o1).alloc o2).alloc o3):=fun o1 o2 o3=>(((Below.refl _ _).alloc (Nat.le_refl _) _).alloc (by simp) _).alloc (by simp;omega) _
 have HP:=Lib.hid (fun o1 o2 o3=>r3_position D l.length lc l t.num (((w.alloc o1).alloc o2).alloc o3) rfl hll (hI.below (hB3 o1 o2 o3)))
 obtain ⟨hp1,hp2⟩:=posI_range t.num hll
 unfold tmV
 rw [HRE.out,hk,hl]
 show Calls _ _ _ _ (fun e w'=>∃A' cap',e=.returned (.agg #[.int .i64 0,.int .i64 (posI l t.num),.string t.name,.slice A' 0 cap'])∧Below w.heap.size w w'∧NewT w w' A' [])
 clear HRE
 generalize posI l t.num=ps at *
 generalize t.num=a1 at *
 generalize t.name=a2 at *
 clear hk hl hI
 go_enter Tryz.func70,Tryz.ntmps70
 go_wp2_with fail
 refine (HP.out _ _ _).mono ?_;rintro e W' ⟨rfl,rfl⟩
 go_wp2_with fail
 go_loopw [6] (fun i wr=>i=.int .i64 0∧wr=(((w.alloc (.cells #[.int .i64 0,.int .i64 a1,.string a2,.slice A 0 cap] 30)).alloc (.cells #[.int .i64 0,.int .i64 0,.string ⟨#[]⟩,.slice none 0 0] 30)).alloc (.cells #[.int .i64 0,.int .i64 ps,.string a2,.slice none 0 0] 30))) (fun _ _=>0)
 case atStart=>exact ⟨rfl,rfl⟩
 case round=>
  obtain ⟨rfl,rfl⟩:=hrel
  go_wp2_with fail
  exact bodyPost_ret (v:=.agg #[.int .i64 0,.int .i64 ps,.string a2,.slice none 0 0]) (by simp [results,Tryz.results70,go_sem]) rfl ⟨none,0,rfl,hB3 _ _ _,TmsK.nil⟩
set_option maxHeartbeats 6400000 in
theorem r3_number (l : List Int) (hll : l.length ≤ 100000) (D : Option Addr) (lc : Nat) : ∀ (t : Tm) (A : Option Addr) (cap : Nat) (w : World), IntsAt w D l → TmsAt w.heap.size w A t.args → t.allOk = true →
    Calls Tryz.prog 70 #[.slice D l.length lc, tmV t A cap] w fun e w' => ∃ A' cap', e = .returned (tmV (ren (posI l) t) A' cap') ∧ Below w.heap.size w w' ∧ NewT w w' A' (ren (posI l) t).args := by
  refine Tm.ind fun t ih => ?_
  intro A cap w hI hT hok
  by_cases hk0 : t.kind = 0
  · exact r3_number0 l hll D lc t hk0 (by
      rw [Tm.allOk_eq, Bool.and_eq_true] at hok
      have := hok.1
      unfold nodeOk at this
      rw [if_pos hk0] at this
      simp at this
      exact List.length_eq_zero_iff.2 (by simpa using this.2)) A cap w hI
  have HI2 := Lib.hid hI
  have hkb : (t.kind == 0) = false := by simpa using hk0
  have HRE : Hid (ren (posI l) t = .mk t.kind t.num t.name (t.args.map (ren (posI l)))) := Lib.hid (by rw [ren_eq, if_neg hk0])
  rw [HRE.out]
  show Calls _ _ _ _ (fun e w' => ∃ A' cap', e = .returned (.agg #[.int .i64 t.kind, .int .i64 t.num, .string t.name, .slice A' (t.args.map (ren (posI l))).length cap']) ∧ Below w.heap.size w w' ∧ NewT w w' A' (t.args.map (ren (posI l))))
  rw [List.length_map]
  clear hI HRE hk0
  obtain ⟨i, hi, hz0, hz1, hz2⟩ := info_parts infoTm
  have HI := Lib.hid hi
  have HZ0 := Lib.hid hz0
  have HZ1 := Lib.hid hz1
  have HZ2 := Lib.hid hz2
  clear hi hz0 hz1 hz2
  have HT := Lib.hid hT
  have hm : t.args.length ≤ 8 := by
    rw [Tm.allOk_eq, Bool.and_eq_true] at hok
    have := hok.1
    unfold nodeOk at this
    grind
  have HOKA : Hid (∀ a ∈ t.args, a.allOk = true) := Lib.hid (by
    rw [Tm.allOk_eq, Bool.and_eq_true, List.all_eq_true] at hok
    exact hok.2)
  have HIH := Lib.hid ih
  clear hT ih hok
  obtain ⟨L, HL⟩ : ∃ L, Hid (L = t.args.length) := ⟨_, Lib.hid rfl⟩
  have HST := Lib.hid (CpH.start w t A cap L 30 HL.out)
  unfold tmV at *
  rw [← HL.out] at hm ⊢
  go_enter Tryz.func70, Tryz.ntmps70
  go_wp2_with fail
  go_loopw [6] (fun i wr => ∃ k : Nat, ∃ v : Value, ∃ rs : List TR, k ≤ L ∧ i = .int .i64 k ∧ Hid (CpH w wr 30 t A cap v rs) ∧ Hid (rs.map (·.1) = (t.args.take k).map (ren (posI l)))) (fun i _ => L - (intOf i).toNat)
  case atStart => exact ⟨0, _, [], Nat.zero_le _, rfl, HST, Lib.hid (by simp)⟩
  case round =>
    obtain ⟨k, v, rs, hk, rfl, HB, HR⟩ := hrel
    have b3 := HB.out.b3
    rw [← HL.out] at b3
    by_cases hlt : k < L
    · have hkl : k < t.args.length := by have := HL.out; omega
      obtain ⟨b, off, A', cap', rfl, hb, c0, c1, c2, c3, hs⟩ := (HT.out.keep HB.out.bel).get k hkl
      have hD := HB.out.drew
      have HA := Lib.hid (HIH.out t.args[k] (List.getElem_mem hkl) A' cap' wr.drew ((HI2.out.below HB.out.bel).below (Below.refl _ wr).drew) ((hs.keep (Below.refl _ wr).drew).mono HB.out.bel.size) (HOKA.out _ (List.getElem_mem hkl)))
      have HC : Hid (Calls Tryz.prog 70 #[.slice D l.length lc, .agg #[.int .i64 t.args[k].kind, .int .i64 t.args[k].num, .string t.args[k].name, .slice A' t.args[k].args.length cap']] wr.drew fun e w' => ∃ A2 c2, e = .returned (.agg #[.int .i64 (ren (posI l) t.args[k]).kind, .int .i64 (ren (posI l) t.args[k]).num, .string (ren (posI l) t.args[k]).name, .slice A2 (ren (posI l) t.args[k]).args.length c2]) ∧ CpH w w' 30 t (some ⟨b, off, none⟩) cap v rs ∧ TmsK (fun b => w.heap.size + 3 ≤ b ∧ b < w'.heap.size ∧ v.ownBlock ≠ some b) w' A2 (ren (posI l) t.args[k]).args) :=
        Lib.hid (HA.out.mono fun e w' hh => by
          obtain ⟨A2, c2, he, hB, hN⟩ := hh
          refine ⟨A2, c2, he, hD.call hB, hN.keep (fun _ _ => rfl) fun b hb => ⟨Nat.le_trans hD.lt hb.1, hb.2, fun ee => ?_⟩⟩
          have := (hD.own.own.lt b ee).2
          have h1 := hb.1
          omega)
      have hrl : rs.length = k := by
        have := congrArg List.length HR.out
        rw [List.length_map, List.length_map, List.length_take] at this; omega
      have HR2 : Hid ((rs ++ [((ren (posI l) t.args[k], none, 0) : TR)]).map (fun x : TR => x.1) = (t.args.take (k + 1)).map (ren (posI l))) := Lib.hid (by
        rw [List.map_append, HR.out, List.take_succ_eq_append_getElem hkl, List.map_append]; simp)
      have hk3 := HB.out.c3
      have hkf := HB.out.cf 3
      have hk0 : (0 : Int) ≤ (k : Int) := by omega
      have hk1 : (k : Int) < (L : Int) := by omega
      clear hs HA
      obtain ⟨x, HXE⟩ : ∃ x, Hid (x = t.args[k]) := ⟨_, Lib.hid rfl⟩
      rw [← HXE.out] at HC HR2 c0 c1 c2 c3
      obtain ⟨a, HAE⟩ : ∃ a, Hid (a = ren (posI l) x) := ⟨_, Lib.hid rfl⟩
      rw [← HAE.out] at HC HR2
      go_wp2_with fail
      go_region_law (first
        | (go_simp; go_at_call 70; (with_reducible refine HC.out.mono ?_); rintro e w2 ⟨A2, c2', rfl, hC2, hS2⟩; have k3 := hC2.c3; have kf := hC2.cf 3; have hCa := hC2.call ((Below.refl _ _).alloc (Nat.le_refl _) (.cells #[.int .i64 a.kind, .int .i64 a.num, .string a.name, .slice A2 a.args.length c2'] 30)); have k5 := hCa.c3; have kf5 := hCa.cf 3)
        | go_must (have q1 : rs.length + 1 ≤ maxLen := by unfold maxLen; omega
                   have q2 : (rs.length + 1) * 56 ≤ 140737488355328 := by omega
                   have q3 : w.heap.size + 3 ≤ (w2.alloc (.cells #[.int .i64 a.kind, .int .i64 a.num, .string a.name, .slice A2 a.args.length c2'] 30)).heap.size := hCa.lt
                   have q4 : ∀ j u, (rowC (a, A2, c2'))[j]? = some u → (w2.alloc (.cells #[.int .i64 a.kind, .int .i64 a.num, .string a.name, .slice A2 a.args.length c2'] 30)).cell? ((⟨w2.heap.size, 0, none⟩ : Addr).add j) = some u := World.news_of_block (heap_alloc_new w2 _)
                   have q5 : (w2.alloc (.cells #[.int .i64 a.kind, .int .i64 a.num, .string a.name, .slice A2 a.args.length c2'] 30)).heap.size = w2.heap.size + 1 := by simp
                   refine step_append_lies _ (by rfl) _ _ 28 (by rfl) (w.heap.size + 3) 30 i _ 4 56 Tryz.underlying28 HI.out HZ0.out HZ1.out HZ2.out (by rfl) (by decide) v rs.length (rowsC rs) (by rfl) hCa.own.own ⟨w2.heap.size, 0, none⟩ 1 1 (rowC (a, A2, c2')) (by rfl) (by rfl) q4 (rowC_one _) (by decide) q1 q2 q3 (w2.heap.size + 1) q5 ?_; intro g2 cp2 w3 hown3 hg3 hat3 hlt3; clear q1 q2 q3 q4 q5; have k4 := (hCa.far hg3 (w.heap.size + 2) 3 (by omega)).1.trans hCa.c3; have kf4 := (hCa.far hg3 (w.heap.size + 2) 3 (by omega)).2.trans (hCa.cf 3))
        | fail)
      all_goals
        have HN := Lib.hid (hCa.app (a, A2, c2') (hS2.keep (fun b hb => heap_alloc_old w2 _ hb.2.1) fun b hb => ⟨hb.1, by simp; omega, hb.2.2⟩) hown3 hg3 (by
          rcases hat3 with h' | h'
          · exact .inl h'.symm
          · exact .inr (by rw [h']; simp [Value.ownBlock])))
        rw [hrl] at HN
        have HR3 : Hid ((rs ++ [((a, A2, c2') : TR)]).map (fun x : TR => x.1) = (t.args.take (k + 1)).map (ren (posI l))) := Lib.hid (by rw [← HR2.out]; simp)
        clear k3 kf k4 kf4 k5 kf5 hC2 hS2 hCa hown3 hg3 hD
        go_wp2_with fail
        go_roundw
        case rel => exact ⟨k + 1, _, rs ++ [(a, A2, c2')], by omega, by go_num, HN, HR3⟩
        case measure => simp [intOf] <;> omega
    · have hkL : k = L := by omega
      subst hkL
      obtain ⟨A2, c2, rfl, hN⟩ := HB.out.own.tms
      have hrl : rs.length = k := by
        have := congrArg List.length HR.out
        rw [List.length_map, List.length_map, List.length_take, ← HL.out] at this; omega
      have hra : rs.map (fun x : TR => x.1) = t.args.map (ren (posI l)) := by rw [HR.out, HL.out, List.take_length]
      rw [hrl] at HB
      have k0 := HB.out.c0
      have k1 := HB.out.c1
      have k2 := HB.out.c2
      have k3 := HB.out.c3
      obtain ⟨v0, r0⟩ := HB.out.r0
      obtain ⟨v1, r1⟩ := HB.out.r1
      obtain ⟨v2, r2⟩ := HB.out.r2
      obtain ⟨v3, r3⟩ := HB.out.r3
      have f0 := HB.out.rf 0
      have f1 := HB.out.rf 1
      have f2 := HB.out.rf 2
      have f3 := HB.out.rf 3
      have HP := Lib.hid (HB.out.put (.int .i64 t.kind) (.int .i64 t.num) (.string t.name) (.slice A2 k c2))
      have HNA : Hid (NewT w ((((wr.setCell ⟨w.heap.size + 1, 0, none⟩ (.int .i64 t.kind)).setCell ⟨w.heap.size + 1, 1, none⟩ (.int .i64 t.num)).setCell ⟨w.heap.size + 1, 2, none⟩ (.string t.name)).setCell ⟨w.heap.size + 1, 3, none⟩ (.slice A2 k c2)) A2 (t.args.map (ren (posI l)))) := Lib.hid (by
        obtain ⟨A3, c3, he, h3⟩ := HP.out.2.tms
        rw [hra] at h3
        injection he with he _ _
        subst he
        exact h3.keep (fun _ _ => rfl) fun b hb => ⟨by have := hb.1; omega, hb.2⟩)
      clear hN hra hrl
      go_wp2_with fail
      exact bodyPost_ret (v := .agg #[.int .i64 t.kind, .int .i64 t.num, .string t.name, .slice A2 k c2]) (by simp [results, Tryz.results70, go_sem, r0, r1, r2, r3]) rfl ⟨A2, c2, rfl, HP.out.1, HNA.out⟩
set_option maxHeartbeats 3200000 in
theorem ref_canon (t : Tm) (A : Option Addr) (cap : Nat) (w : World) (hT : TmsAt w.heap.size w A t.args) :
  Calls Tryz.prog 43 #[tmV t A cap] w fun e w' => ∃ A' cap', e = .returned (tmV (canT t) A' cap') ∧ Below w.heap.size w w' ∧ NewT w w' A' (canT t).args := by
 have hX0 := R4.start (w0 := w) (w := w.alloc (.cells #[.int .i64 t.kind, .int .i64 t.num, .string t.name, .slice A t.args.length cap] 30)) ((Below.refl _ _).alloc (Nat.le_refl _) _) (.int .i64 0) (.int .i64 0) (.string ⟨#[]⟩) (.slice none 0 0) 30
 have hs : (w.alloc (.cells #[.int .i64 t.kind, .int .i64 t.num, .string t.name, .slice A t.args.length cap] 30)).heap.size = w.heap.size + 1 := by simp
 rw [hs] at hX0
 have HX := Lib.hid hX0
 have HB0 : Hid (TBoxT w ((w.alloc (.cells #[.int .i64 t.kind, .int .i64 t.num, .string t.name, .slice A t.args.length cap] 30)).alloc (.cells #[.int .i64 0, .int .i64 0, .string ⟨#[]⟩, .slice none 0 0] 30)) t A cap) :=
  Lib.hid ((TBoxT.start w t A cap 30).call ((Below.refl _ _).alloc (Nat.le_refl _) _))
 have HV := Lib.hid (fun (W : World) (h : R4 w W (w.heap.size + 1)) => ref_tvalid t A cap W ((hT.keep h.bel).mono h.bel.size))
 cases hv : validT t
 ·have HE := Lib.hid (show canT t = tm0 by unfold canT; rw [hv]; rfl)
  rw [hv] at HV
  clear hv HB0 hT
  rw [HE.out]
  unfold tmV at *
  generalize t.kind = a0 at *
  generalize t.num = a1 at *
  generalize t.name = a2 at *
  generalize t.args.length = a3 at *
  go_enter Tryz.func43, Tryz.ntmps43
  go_wp2_with fail
  refine (HV.out _ HX.out).mono ?_; rintro e w1 ⟨rfl, hB1⟩
  have hX1 := HX.out.call hB1
  obtain ⟨v0, r0⟩ := hX1.r0
  obtain ⟨v1, r1⟩ := hX1.r1
  obtain ⟨v2, r2⟩ := hX1.r2
  obtain ⟨v3, r3⟩ := hX1.r3
  have f0 := hX1.fr 0
  have f1 := hX1.fr 1
  have f2 := hX1.fr 2
  have f3 := hX1.fr 3
  have hput := hX1.put (.int .i64 0) (.int .i64 0) (.string ⟨#[]⟩) (.slice none 0 0)
  go_wp2_with fail
  exact bodyPost_ret (v := .agg #[.int .i64 0, .int .i64 0, .string ⟨#[]⟩, .slice none 0 0]) (by simp [results, Tryz.results43, go_sem, r0, r1, r2, r3]) rfl ⟨none, 0, rfl, hput, TmsK.nil⟩
 ·obtain ⟨hnd, hok⟩ := (validT_iff t).1 hv
  have HE := Lib.hid (show canT t = ren (posI (varsT t [])) t by unfold canT; rw [hv]; rfl)
  have hvl := (varsT_all t []).2.1
  rw [hv] at HV
  rw [HE.out]
  have HVA := Lib.hid (fun (W : World) (h : CnH w W t A cap) => (r3_vars W t hok A cap W (.slice none 0 0) [] (Below.refl _ _) ((hT.keep h.r.bel).mono h.r.bel.size) (OwnI.nil _ _ _) (by simp; omega)).mono (R' := fun e w' => ∃ v', e = .returned v' ∧ Below W.heap.size W w' ∧ OwnI 2 W.heap.size w' v' (varsT t [])) fun _ _ ⟨v', he, hO, hg, _⟩ => ⟨v', he, grown_none hg, hO⟩)
  have HNU := Lib.hid (fun (W : World) (h : CnH w W t A cap) (D : Option Addr) (lc : Nat) (hI : IntsAt W D (varsT t [])) => r3_number (varsT t []) (by simp at hvl; omega) D lc t A cap W hI ((hT.keep h.r.bel).mono h.r.bel.size) hok)
  obtain ⟨u, hu⟩ : ∃ u, u = ren (posI (varsT t [])) t := ⟨_, rfl⟩
  rw [← hu] at HNU ⊢
  have HCN := Lib.hid (fun W (h : R4 w W (w.heap.size + 1)) (h2 : TBoxT w W t A cap) => (⟨h, h2⟩ : CnH w W t A cap))
  have HKEEP : Hid (∀ w', CnH w w' t A cap → w'.cell? ⟨w.heap.size, 0, none⟩ = some (.int .i64 t.kind) ∧ w'.cell? ⟨w.heap.size, 1, none⟩ = some (.int .i64 t.num) ∧ w'.cell? ⟨w.heap.size, 2, none⟩ = some (.string t.name) ∧ w'.cell? ⟨w.heap.size, 3, none⟩ = some (.slice A t.args.length cap) ∧ CnH w w' t A cap) := Lib.hid (fun w' h => ⟨h.b.c0, h.b.c1, h.b.c2, h.b.c3, h⟩)
  have HOF : Hid (∀ w', (w'.cell? ⟨w.heap.size, 0, none⟩ = some (.int .i64 t.kind) ∧ w'.cell? ⟨w.heap.size, 1, none⟩ = some (.int .i64 t.num) ∧ w'.cell? ⟨w.heap.size, 2, none⟩ = some (.string t.name) ∧ w'.cell? ⟨w.heap.size, 3, none⟩ = some (.slice A t.args.length cap) ∧ CnH w w' t A cap) → CnH w w' t A cap) := Lib.hid (fun w' h => h.2.2.2.2)
  clear hv hT hX0 hs hu hvl hok hnd HE
  generalize varsT t [] = vl at *
  unfold tmV at *
  generalize hK0 : t.kind = a0 at *
  generalize hK1 : t.num = a1 at *
  generalize hK2 : t.name = a2 at *
  generalize hK3 : t.args.length = a3 at *
  clear hK0 hK1 hK2 hK3
  go_enter Tryz.func43, Tryz.ntmps43
  go_wp2_with fail
  refine (HV.out _ HX.out).mono ?_; rintro e w1 ⟨rfl, hB1⟩
  have HST := Lib.hid (CnH.drew (HCN.out _ (HX.out.call hB1) (HB0.out.call hB1)))
  clear HX HB0 hB1 HV
  go_wp2_with fail
  go_region_held3 (fun w' => w'.cell? ⟨w.heap.size, 0, none⟩ = some (.int .i64 a0) ∧ w'.cell? ⟨w.heap.size, 1, none⟩ = some (.int .i64 a1) ∧ w'.cell? ⟨w.heap.size, 2, none⟩ = some (.string a2) ∧ w'.cell? ⟨w.heap.size, 3, none⟩ = some (.slice A a3 cap) ∧ CnH w w' t A cap)
   (first
    | with_reducible exact HKEEP.out _ HST.out
    | with_reducible exact HKEEP.out _ (CnH.call (HOF.out _ (by with_reducible assumption)) (by with_reducible assumption))
    | with_reducible exact HKEEP.out _ hX5
    | with_reducible exact HKEEP.out _ (CnH.put4 (HOF.out _ (by with_reducible assumption)) _ _ _ _))
   (first
    | (go_at_call 44; (with_reducible refine (HVA.out _ (HOF.out _ (by with_reducible assumption))).mono ?_); rintro e w4 ⟨v4, rfl, hB4, hO4⟩; obtain ⟨D, lc, rfl, hI4⟩ := hO4.ints)
    | (go_at_call 70; have hX4 := HOF.out w4 (by with_reducible assumption); (with_reducible refine (HNU.out _ hX4 D lc hI4).mono ?_); rintro e w5 ⟨A5, c5, rfl, hB5, hN5⟩; have hX5 := hX4.call hB5; have hlt5 := hX4.r.lt; obtain ⟨u0, r0⟩ := hX5.r.r0; obtain ⟨u1, r1⟩ := hX5.r.r1; obtain ⟨u2, r2⟩ := hX5.r.r2; obtain ⟨u3, r3⟩ := hX5.r.r3; have f0 := hX5.r.fr 0; have f1 := hX5.r.fr 1; have f2 := hX5.r.fr 2; have f3 := hX5.r.fr 3)
    | fail)
  have HP := Lib.hid (hX5.r.put (.int .i64 u.kind) (.int .i64 u.num) (.string u.name) (.slice A5 u.args.length c5))
  have HNA : Hid (NewT w ((((w5.setCell ⟨w.heap.size + 1, 0, none⟩ (.int .i64 u.kind)).setCell ⟨w.heap.size + 1, 1, none⟩ (.int .i64 u.num)).setCell ⟨w.heap.size + 1, 2, none⟩ (.string u.name)).setCell ⟨w.heap.size + 1, 3, none⟩ (.slice A5 u.args.length c5)) A5 u.args) :=
   Lib.hid (TmsK.keep hN5 (fun b hb => put4_block w5 (w.heap.size + 1) _ _ _ _ b (by omega)) (fun b hb => ⟨by omega, by rw [put4_size]; exact hb.2⟩))
  go_wp2_with fail
  exact bodyPost_ret (v := .agg #[.int .i64 u.kind, .int .i64 u.num, .string u.name, .slice A5 u.args.length c5]) (by simp [results, Tryz.results43, go_sem, r0, r1, r2, r3]) rfl ⟨A5, c5, rfl, HP.out, HNA.out⟩
end Go.Proofs.YtbojljpldcijgaaGreat
namespace Hb
open Go Go.RowKit
theorem ren_congr {f g:Int→Int}:∀t:Tm,Tm.All (fun x=>x.kind=0→f x.num=g x.num) t→ren f t=ren g t:=Tm.ind fun t ih h=>by
 rw [ren_eq f,ren_eq g]
 have e1:(if t.kind=0 then f t.num else t.num)=(if t.kind=0 then g t.num else t.num):=by
  by_cases c:t.kind=0
  ·rw [if_pos c,if_pos c,h.here c]
  ·rw [if_neg c,if_neg c]
 rw [e1,List.map_congr_left fun a ha=>ih a ha (h.sub a ha)]
theorem Bks.cell {X:World} {l:List (Nat×List Value)} (h:Bks X l) (j i:Nat) {g:Nat} {vs:List Value} {v:Value} (hx:l[j]? = some (g,vs)) (hv:vs[i]? = some v):X.cell? ⟨g,i,none⟩=some v:=(h.at j g vs hx).c i v hv
def vpTm (x:Tm):List Value→Prop | [v]=>∃a c,v=.agg #[.int .i64 x.kind,.int .i64 x.num,.string x.name,.slice a x.args.length c] | _=>False
def vcTm (lo:Nat) (x:Tm):List Value→(Nat→Prop)→World→Prop | [v],N,X=>∃a c,v=.agg #[.int .i64 x.kind,.int .i64 x.num,.string x.name,.slice a x.args.length c]∧TmsK (fun b=>N b∧lo≤b) X a x.args | _,_,_=>False
def rTm (A:List Nat) (j lo:Nat) (x:Tm):ROp:=rCall A [j] (vpTm x) (vcTm lo x) fun vs _ _ _ _ h hk hN _=>match vs,h with | [_],⟨a,c,e,ht⟩=>⟨a,c,e,ht.keep (fun b hb=>hk b hb.1) (fun b hb=>⟨hN b hb.1,hb.2⟩)⟩
def vl:Tm→List Int
 | .mk k n _ l=>(if k=0 then [n] else [])++l.attach.flatMap fun ⟨a,_⟩=>vl a
theorem vl_eq (t:Tm):vl t=(if t.kind=0 then [t.num] else [])++t.args.flatMap vl:=by
 cases t with
 | mk k n s l=>
  conv=>lhs;unfold vl
  show _=(if k=0 then [n] else [])++l.flatMap vl
  simp [List.flatMap]
def addL (acc:List Int) (x:Int):List Int:=if x∈acc then acc else acc++[x]
theorem varsT_vl:∀(t:Tm) (acc:List Int),varsT t acc=(vl t).foldl addL acc:=Tm.ind fun t ih acc=>by
 rw [varsT_eq,vl_eq,List.foldl_append]
 have h1:varH t acc=(if t.kind=0 then [t.num] else []).foldl addL acc:=by
  unfold varH
  by_cases hk:t.kind=0
  ·rw [if_pos hk]
   show _=addL acc t.num
   unfold addL
   by_cases hm:t.num∈acc
   ·rw [if_pos hm,if_neg (fun h=>h.2 hm)]
   ·rw [if_neg hm,if_pos ⟨hk,hm⟩]
  ·rw [if_neg hk,if_neg (fun h=>hk h.1)];rfl
 rw [h1]
 generalize (if t.kind=0 then [t.num] else []).foldl addL acc=ac
 have key:∀(l:List Tm) (ac:List Int),(∀a∈l,a∈t.args)→l.foldl (fun acc a=>varsT a acc) ac=(l.flatMap vl).foldl addL ac:=by
  intro l
  induction l with
  | nil=>intro ac _;rfl
  | cons a l il=>
   intro ac hl
   rw [List.foldl_cons,List.flatMap_cons,List.foldl_append,←ih a (hl a (List.mem_cons_self ..)) ac]
   exact il _ fun x hx=>hl x (List.mem_cons_of_mem _ hx)
 exact key t.args ac fun _ h=>h
theorem vl_st (s:ByteArray) (l:List Tm):vl (stT s l)=l.flatMap vl:=by rw [vl_eq];rfl
theorem vl_at (s:ByteArray):vl (atT s)=[]:=by rw [vl_eq];rfl
theorem vl_in (n:Int):vl (inT n)=[]:=by rw [vl_eq];rfl
theorem vl_va (n:Int):vl (vaT n)=[n]:=by rw [vl_eq];rfl
theorem vl_ls:∀(l:List Tm) (t:Tm),vl (lsT l t)=l.flatMap vl++vl t
 | [],_=>rfl
 | x::l,t=>by
  show vl (stT ⟨#[46]⟩ [x,lsT l t])=_
  rw [vl_st,List.flatMap_cons,List.flatMap_cons,List.flatMap_nil,List.append_nil,vl_ls l t,List.flatMap_cons,List.append_assoc]
theorem vl_sg (q:Int) (s:List UInt8):vl (sgT q s)=[]:=by
 unfold sgT
 split
 ·exact vl_at _
 ·rw [vl_ls,show vl nilT=[] from vl_at _,List.append_nil,List.flatMap_eq_nil_iff]
  intro x hx
  rw [List.mem_map] at hx
  obtain ⟨c,_,rfl⟩:=hx
  unfold chT
  split
  ·exact vl_in _
  ·exact vl_at _
def VT (E:RE):Prop:=∀n,isV (E.at n)=true→n<E.T.length
def RE.O (E:RE) (n:Nat):List Int:=(vsAt E.T n).o.map fun k:Nat=>(k:Int)
theorem O_skip {E:RE} {n:Nat} (hk:isV (E.at n)=false):E.O (n+1)=E.O n:=by
 unfold RE.O
 by_cases h:n<E.T.length
 ·rw [vs_skip h hk]
 ·unfold vsAt;rw [List.take_of_length_le (by omega),List.take_of_length_le (by omega)]
theorem O_take {E:RE} {n:Nat} (h:n<E.T.length) (hk:isV (E.at n)=true):E.O (n+1)=E.O n++[((vsAt E.T n).num (E.at n).r.text:Int)]:=by
 unfold RE.O
 rw [vs_take h hk]
 unfold VS.step
 rw [List.map_append];rfl
theorem isP_nv {t:NextR} {s:List UInt8} (h:isP t s=true):isV t=false:=by
 unfold isP at h
 rw [Bool.and_eq_true,beq_iff_eq] at h
 unfold isV
 rw [h.1];rfl
theorem isNam_nv {t:NextR} (h:isNam t=true):isV t=false:=by
 unfold isNam at h
 rw [Bool.or_eq_true,beq_iff_eq,beq_iff_eq] at h
 unfold isV
 rcases h with h | h <;> rw [h] <;> rfl
theorem kind_nv {t:NextR} {k:Int} (h:t.r.kind=k) (hk:k≠3):isV t=false:=by
 unfold isV;rw [h];simpa using hk
section
variable {E:RE} {S:PT}
def Good (E:RE) (S:PT):Prop:=∀most n t p m,S most n=.ok (t,p,m)→E.O m=E.O n++vl t
theorem need_O {α:Type} {s:List UInt8} {n m:Nat} {a b:α} (h:needG E s n a=.ok (b,m)):b=a∧E.O m=E.O n:=by
 unfold needG at h
 split at h
 ·rename_i hp
  injection h with h
  injection h with h1 h2
  subst h1 h2
  exact ⟨rfl,O_skip (isP_nv hp)⟩
 ·cases h
theorem row_O (hS:Good E S):∀(k n m:Nat) (l:List Tm),rowG E S k n=.ok (l,m)→E.O m=E.O n++l.flatMap vl
 | 0,_,_,_,h=>by cases h
 | k+1,n,m,l,h=>by
  unfold rowG at h
  cases h1:S 999 n with
  | error e=>rw [h1] at h;cases h
  | ok x=>
   obtain ⟨t,p,m1⟩:=x
   have h2:=hS _ _ _ _ _ h1
   rw [h1] at h
   simp only at h
   split at h
   ·rename_i hp
    cases h3:rowG E S k (m1+1) with
    | error e=>rw [h3] at h;cases h
    | ok y=>
     obtain ⟨l2,i⟩:=y
     have h4:=row_O hS k _ _ _ h3
     rw [h3] at h
     simp only at h
     injection h with h
     injection h with e1 e2
     subst e1 e2
     rw [h4,O_skip (isP_nv hp),h2,List.flatMap_cons,List.append_assoc]
   ·injection h with h
    injection h with e1 e2
    subst e1 e2
    rw [h2];simp
theorem comp_O (hS:Good E S) {s:ByteArray} {n m:Nat} {o:Option Tm} (h:compG E S s n=.ok (o,m)):(∃u,o=some u∧E.O m=E.O n++vl u)∨(o=none∧m=n):=by
 unfold compG at h
 split at h
 ·rename_i hp
  have hp:isV (E.at n)=false:=by
   unfold opn at hp;rw [Bool.and_eq_true] at hp;exact isP_nv hp.1
  cases h1:rowX E S (n+1) with
  | error e=>rw [h1] at h;cases h
  | ok x=>
   obtain ⟨l,m1⟩:=x
   have h2:=row_O hS _ _ _ _ h1
   rw [h1] at h
   obtain ⟨h3,h4⟩:=need_O h
   exact .inl ⟨_,h3,by rw [h4,h2,O_skip hp,vl_st]⟩
 ·injection h with h
  injection h with e1 e2
  exact .inr ⟨e1.symm,e2.symm⟩
theorem nmd_O (hS:Good E S) {t:NextR} {most:Int} {n m:Nat} {u:Tm} {p:Int} (h:nmdG E S t most n=.ok (u,p,m)):E.O m=E.O n++vl u:=by
 unfold nmdG at h
 cases h1:compG E S t.txt n with
 | error e=>rw [h1] at h;cases h
 | ok x=>
  obtain ⟨o,m1⟩:=x
  rw [h1] at h
  rcases comp_O hS h1 with ⟨v,rfl,h2⟩ | ⟨rfl,rfl⟩
  ·simp only at h
   injection h with h
   injection h with e1 h
   injection h with e2 e3
   subst e1 e2 e3
   exact h2
  ·simp only at h
   split at h
   ·rename_i hm
    have hv:isV (E.at m1)=false:=by
     unfold minusG at hm
     simp only [Bool.and_eq_true,beq_iff_eq] at hm
     exact kind_nv hm.2.2.1 (by decide)
    injection h with h
    injection h with e1 h
    injection h with e2 e3
    subst e1 e2 e3
    rw [vl_in,List.append_nil,O_skip hv]
   split at h
   ·cases h2:S (sideR ((findR E.P t.txt 1).getD op0)) m1 with
    | error e=>rw [h2] at h;cases h
    | ok y=>
     obtain ⟨u2,p2,m2⟩:=y
     have h3:=hS _ _ _ _ _ h2
     rw [h2] at h
     simp only at h
     injection h with h
     injection h with e1 h
     injection h with e2 e3
     subst e1 e2 e3
     rw [h3,vl_st];simp
   ·injection h with h
    injection h with e1 h
    injection h with e2 e3
    subst e1 e2 e3
    rw [vl_at,List.append_nil]
theorem empty_O (hS:Good E S) {s:ByteArray} {n m:Nat} {u:Tm} (h:emptyG E S s n=.ok (u,m)):E.O m=E.O n++vl u:=by
 unfold emptyG at h
 cases h1:compG E S s n with
 | error e=>rw [h1] at h;cases h
 | ok x=>
  obtain ⟨o,m1⟩:=x
  rw [h1] at h
  rcases comp_O hS h1 with ⟨v,rfl,h2⟩ | ⟨rfl,rfl⟩
  ·simp only at h
   injection h with h
   injection h with e1 e2
   subst e1 e2
   exact h2
  ·simp only at h
   injection h with h
   injection h with e1 e2
   subst e1 e2
   rw [vl_at,List.append_nil]
theorem tail_O (hS:Good E S) {n m:Nat} {u:Tm} (h:tailG E S n=.ok (u,m)):E.O m=E.O n++vl u:=by
 unfold tailG at h
 split at h
 ·rename_i hp
  cases h1:S 999 (n+1) with
  | error e=>rw [h1] at h;cases h
  | ok x=>
   obtain ⟨t,p,m1⟩:=x
   have h2:=hS _ _ _ _ _ h1
   rw [h1] at h
   simp only at h
   injection h with h
   injection h with e1 e2
   subst e1 e2
   rw [h2,O_skip (isP_nv hp)]
 ·injection h with h
  injection h with e1 e2
  subst e1 e2
  rw [show vl nilT=[] from vl_at _,List.append_nil]
theorem list_O (hS:Good E S) {n m:Nat} {u:Tm} (h:listG E S n=.ok (u,m)):E.O m=E.O n++vl u:=by
 unfold listG at h
 cases h1:rowX E S n with
 | error e=>rw [h1] at h;cases h
 | ok x=>
  obtain ⟨l,m1⟩:=x
  have h2:=row_O hS _ _ _ _ h1
  rw [h1] at h
  simp only at h
  cases h3:tailG E S m1 with
  | error e=>rw [h3] at h;cases h
  | ok y=>
   obtain ⟨t,i⟩:=y
   have h4:=tail_O hS h3
   rw [h3] at h
   obtain ⟨rfl,h5⟩:=need_O h
   rw [h5,h4,h2,vl_ls,List.append_assoc]
theorem par_O (hS:Good E S) {s:List UInt8} {F:Tm→Tm} (hF:∀t,vl (F t)=vl t) {n m:Nat} {u:Tm} (h:parG E S s F n=.ok (u,m)):E.O m=E.O n++vl u:=by
 unfold parG at h
 cases h1:S 1200 n with
 | error e=>rw [h1] at h;cases h
 | ok x=>
  obtain ⟨t,p,m1⟩:=x
  have h2:=hS _ _ _ _ _ h1
  rw [h1] at h
  obtain ⟨rfl,h5⟩:=need_O h
  rw [h5,h2,hF]
theorem brk_O (hS:Good E S) {s:List UInt8} {n m:Nat} {u:Tm} (h:brkG E S s n=.ok (u,m)):E.O m=E.O n++vl u:=by
 unfold brkG at h
 split at h
 ·exact par_O hS (fun _=>rfl) h
 split at h
 ·rename_i hc
  rw [empty_O hS h,O_skip (isP_nv hc.2)]
 split at h
 ·rename_i hc
  rw [empty_O hS h,O_skip (isP_nv hc.2)]
 split at h
 ·exact list_O hS h
 ·exact par_O hS (fun t=>by rw [vl_st];simp) h
theorem isBrk_nv {t:NextR} (h:isBrk t=true):isV t=false:=by
 unfold isBrk at h
 rw [Bool.or_eq_true,Bool.or_eq_true] at h
 rcases h with h | h | h <;> exact isP_nv h
theorem opd_O (hS:Good E S) (hV:VT E) {most:Int} {n m:Nat} {u:Tm} {p:Int} (h:opdG E S most n=.ok (u,p,m)):E.O m=E.O n++vl u:=by
 unfold opdG at h
 simp only at h
 split at h
 ·rename_i hk
  injection h with h
  injection h with e1 h
  injection h with e2 e3
  subst e1 e2 e3
  rw [vl_in,List.append_nil,O_skip (kind_nv hk.1 (by decide))]
 split at h
 ·rename_i hk
  have hv:isV (E.at n)=true:=by unfold isV;rw [hk];rfl
  injection h with h
  injection h with e1 h
  injection h with e2 e3
  subst e1 e2 e3
  rw [vl_va,O_take (hV n hv) hv]
 split at h
 ·rename_i hk
  injection h with h
  injection h with e1 h
  injection h with e2 e3
  subst e1 e2 e3
  rw [vl_sg,List.append_nil,O_skip (kind_nv hk (by decide))]
 split at h
 ·rename_i hk
  cases h1:brkG E S (E.at n).r.text (n+1) with
  | error e=>rw [h1] at h;cases h
  | ok x=>
   obtain ⟨t,m1⟩:=x
   have h2:=brk_O hS h1
   rw [h1] at h
   simp only at h
   injection h with h
   injection h with e1 h
   injection h with e2 e3
   subst e1 e2 e3
   rw [h2,O_skip (isBrk_nv hk)]
 split at h
 ·rename_i hk
  rw [nmd_O hS h,O_skip (isNam_nv hk)]
 ·cases h
theorem opr_nv {n:Nat} (h:(oprG E n).2=true):isV (E.at n)=false:=by
 unfold oprG at h
 simp only at h
 split at h
 ·cases h
 ·rename_i hk
  cases hn:isNam (E.at n) with
  | true=>exact isNam_nv hn
  | false=>
   cases h4:isP (E.at n) [44] with
   | true=>exact isP_nv h4
   | false=>
    cases h5:isP (E.at n) [124] with
    | true=>exact isP_nv h5
    | false=>rw [hn,h4,h5] at hk;exact absurd rfl hk
theorem loop_O (hS:Good E S) {most:Int}:∀(k:Nat) (t:Tm) (prec:Int) (n m:Nat) (u:Tm) (p:Int) (X:List Int),loopG E S most k t prec n=.ok (u,p,m)→E.O n=X++vl t→E.O m=X++vl u
 | 0,_,_,_,_,_,_,_,h,_=>by cases h
 | k+1,t,prec,n,m,u,p,X,h,hX=>by
  unfold loopG at h
  split at h
  ·injection h with h
   injection h with e1 h
   injection h with e2 e3
   subst e1 e2 e3
   exact hX
  rename_i he
  have hv:isV (E.at n)=false:=opr_nv (by
   unfold endsG at he
   cases ho:(oprG E n).2 with
   | true=>rfl
   | false=>rw [ho] at he;exact absurd rfl he)
  split at h
  ·exact loop_O hS k _ _ _ _ _ _ X h (by rw [O_skip hv,hX,vl_st];simp)
  cases h1:S (sideR (oprG E n).1) (n+1) with
  | error e=>rw [h1] at h;cases h
  | ok x=>
   obtain ⟨v,p2,m2⟩:=x
   have h2:=hS _ _ _ _ _ h1
   rw [h1] at h
   simp only at h
   exact loop_O hS k _ _ _ _ _ _ X h (by rw [h2,O_skip hv,hX,vl_st];simp)
theorem trm_O (hS:Good E S) (hV:VT E):Good E (trmG E S):=fun most n t p m h=>by
 unfold trmG at h
 cases h1:opdG E S most n with
 | error e=>rw [h1] at h;cases h
 | ok x=>
  obtain ⟨v,p2,m2⟩:=x
  have h2:=opd_O hS hV h1
  rw [h1] at h
  exact loop_O hS _ _ _ _ _ _ _ (E.O n) h h2
theorem trmF_O (hV:VT E):∀f,Good E (trmF E f)
 | 0=>fun _ _ _ _ _ h=>by cases h
 | f+1=>trm_O (trmF_O hV f) hV
end
theorem whole_O {E:RE} (hV:VT E) {t:Tm} {m:Nat} (h:wholeG E=.ok (t,m)):vl t=E.O m:=by
 unfold wholeG at h
 cases h1:trmF E E.T.length 1200 0 with
 | error e=>rw [h1] at h;cases h
 | ok x=>
  obtain ⟨v,p2,m2⟩:=x
  have h2:=trmF_O hV _ _ _ _ _ _ h1
  rw [h1] at h
  simp only at h
  split at h
  ·injection h with h
   injection h with e1 e2
   subst e1 e2
   have h0:E.O 0=[]:=by unfold RE.O;rw [vsAt_zero];rfl
   rw [h2,h0,List.nil_append]
  ·cases h
def upto (c:Nat):List Int:=(List.range c).map fun k:Nat=>(k:Int)
theorem mem_upto {c:Nat} {x:Int}:x∈upto c↔0≤x∧x<c:=by
 unfold upto
 rw [List.mem_map]
 constructor
 ·rintro ⟨k,hk,rfl⟩
  have:=List.mem_range.1 hk
  omega
 ·rintro ⟨h1,h2⟩
  exact ⟨x.toNat,List.mem_range.2 (by omega),by omega⟩
theorem upto_len (c:Nat):(upto c).length=c:=by unfold upto;simp
theorem upto_at (c k:Nat) (h:k<(upto c).length):(upto c)[k]=(k:Int):=(List.getElem_map _).trans (congrArg _ (List.getElem_range _))
theorem upto_succ (c:Nat):upto (c+1)=upto c++[(c:Int)]:=by unfold upto;rw [List.range_succ,List.map_append];rfl
structure VS.Inv (v:VS):Prop where
 o:(v.o.map fun k:Nat=>(k:Int)).foldl addL []=upto v.c
 m:∀p∈v.m,p.2<v.c∧p.1≠[95]∧p.1≠[]
 d:v.m.Pairwise fun p q=>p.1≠q.1∧p.2<q.2
theorem vs0_inv:vs0.Inv:=⟨rfl,fun p h=>(by cases h),List.Pairwise.nil⟩
theorem VS.look_some {v:VS} {x:List UInt8} {k:Nat} (h:v.look x=some k):∃p∈v.m,p.1=x∧p.2=k:=by
 unfold VS.look at h
 rw [Option.map_eq_some_iff] at h
 obtain ⟨p,h1,h2⟩:=h
 exact ⟨p,List.mem_of_find?_eq_some h1,by simpa using List.find?_some h1,h2⟩
theorem VS.look_none {v:VS} {x:List UInt8} (h:v.look x=none):∀p∈v.m,p.1≠x:=by
 unfold VS.look at h
 rw [Option.map_eq_none_iff,List.find?_eq_none] at h
 exact fun p hp=>by simpa using h p hp
theorem VS.Inv.step {v:VS} (h:v.Inv) {x:List UInt8} (hx:x≠[]):(v.step x).Inv:=by
 have ho:∀n:Nat,((v.o++[n]).map fun k:Nat=>(k:Int)).foldl addL []=addL (upto v.c) n:=fun n=>by
  rw [List.map_append,List.foldl_append,h.o];rfl
 by_cases h1:x=[95]
 ·have e1:v.old x=false:=by unfold VS.old;rw [h1];simp
  have e2:v.num x=v.c:=by unfold VS.num;rw [if_pos h1]
  unfold VS.step
  rw [e1,e2]
  refine ⟨?_,?_,?_⟩
  ·show ((v.o++[v.c]).map _).foldl addL []=upto (v.c+1)
   rw [ho,addL,if_neg (by rw [mem_upto];omega),upto_succ]
  ·simp only [h1,or_true,if_true]
   intro p hp
   have:=h.m p hp
   exact ⟨by simp;omega,this.2⟩
  ·simp only [h1,or_true,if_true]
   exact h.d
 ·cases hl:v.look x with
  | some k=>
   obtain ⟨p,hp,e1,e2⟩:=VS.look_some hl
   have e3:v.old x=true:=by unfold VS.old;rw [hl];simpa using h1
   have e4:v.num x=k:=by unfold VS.num;rw [if_neg h1,hl];rfl
   have hk:=(h.m p hp).1
   unfold VS.step
   rw [e3,e4]
   refine ⟨?_,?_,?_⟩
   ·show ((v.o++[k]).map _).foldl addL []=upto v.c
    rw [ho,addL,if_pos (by rw [mem_upto];omega)]
   ·simpa using h.m
   ·simpa using h.d
  | none=>
   have hn:=VS.look_none hl
   have e3:v.old x=false:=by unfold VS.old;rw [hl];simp
   have e4:v.num x=v.c:=by unfold VS.num;rw [if_neg h1,hl];rfl
   unfold VS.step
   rw [e3,e4]
   refine ⟨?_,?_,?_⟩
   ·show ((v.o++[v.c]).map _).foldl addL []=upto (v.c+1)
    rw [ho,addL,if_neg (by rw [mem_upto];omega),upto_succ]
   ·simp only [Bool.false_eq_true,h1,or_self,if_false]
    intro p hp
    rcases List.mem_append.1 hp with hp | hp
    ·have:=h.m p hp
     exact ⟨by omega,this.2⟩
    ·rw [List.mem_singleton.1 hp]
     exact ⟨by simp,h1,hx⟩
   ·simp only [Bool.false_eq_true,h1,or_self,if_false]
    rw [List.pairwise_append]
    refine ⟨h.d,List.pairwise_singleton _ _,fun p hp q hq=>?_⟩
    rw [List.mem_singleton.1 hq]
    exact ⟨hn p hp,(h.m p hp).1⟩
theorem vsOf_inv (T:List NextR) (hT:∀t∈T,isV t=true→t.r.text≠[]):(vsOf T).Inv:=by
 have key:∀(l:List NextR) (v:VS),v.Inv→(∀t∈l,t.r.text≠[])→(l.foldl (fun v t=>v.step t.r.text) v).Inv:=by
  intro l
  induction l with
  | nil=>exact fun v h _=>h
  | cons t l ih=>exact fun v h hl=>ih _ (h.step (hl t (List.mem_cons_self ..))) fun x hx=>hl x (List.mem_cons_of_mem _ hx)
 exact key _ _ vs0_inv fun t ht=>hT t (List.mem_filter.1 ht).1 (List.mem_filter.1 ht).2
theorem named_kind (k:Int) (t:List UInt8) (a e:Int):(namedR k t a e).kind=0∨((namedR k t a e).kind=k∧(namedR k t a e).text=t):=by
 unfold namedR
 split
 ·exact .inl rfl
 ·exact .inr ⟨rfl,rfl⟩
theorem int_kind (b:Int) (t:List UInt8) (a e:Int):¬(intR b t a e).kind=3:=by
 unfold intR
 split
 ·show ¬(4:Int)=3;decide
 ·show ¬(0:Int)=3;decide
theorem tok_var (m l:List UInt8) (p:Nat) (hp:p<m.length) (h:(tokR m l p).kind=3):(tokR m l p).text≠[]:=by
 unfold tokR at h ⊢
 have z:∀e,¬(errR e).kind=3:=fun _=>by show ¬(0:Int)=3;decide
 split at h
 ·exact absurd h (z _)
 rename_i h0
 rw [if_neg h0]
 split at h
 ·rename_i h1
  rw [if_pos h1]
  unfold wordR at h ⊢
  rcases named_kind (wordKind (rawAt m p)) ((m.drop p).take (span alnum (m.drop p))) p (p+span alnum (m.drop p)) with h2 | ⟨_,h2⟩
  ·rw [h2] at h;cases h
  ·rw [h2]
   have h3:=span_pos alnum (m.drop p) (by simp;omega) (by rw [rawAt_drop,Nat.add_zero];exact cls_alnum _ h1)
   intro h4
   have h5:=congrArg List.length h4
   rw [List.length_take,List.length_drop] at h5
   simp at h5
   omega
 split at h
 ·exfalso
  unfold numR at h
  split at h
  ·cases hq:quotedS (l.drop (p+2)) 39 with
   | none=>rw [hq] at h;exact z _ h
   | some ck=>rw [hq] at h;exact absurd h (by show ¬(4:Int)=3;decide)
  split at h
  ·exact int_kind _ _ _ _ h
  ·exact int_kind _ _ _ _ h
 split at h
 ·exfalso
  unfold symR at h
  split at h
  ·exact absurd h (by show ¬(7:Int)=3;decide)
  ·rcases named_kind 1 ((m.drop p).take (span isSym (m.drop p))) p (p+span isSym (m.drop p)) with h2 | ⟨h2,_⟩ <;> rw [h2] at h <;> cases h
 split at h
 ·exfalso
  unfold soloR at h
  rcases named_kind (soloKind (rawAt m p)) ((m.drop p).take 1) p (p+1) with h2 | ⟨h2,_⟩
  ·rw [h2] at h;cases h
  ·rw [h2] at h
   unfold soloKind at h
   split at h <;> cases h
 split at h
 ·exfalso
  unfold quoteR at h
  split at h
  ·cases hi:item (l.drop (p+1)) 34 with
   | none=>rw [hi] at h;exact z _ h
   | some x=>rw [hi] at h;exact absurd h (by show ¬(5:Int)=3;decide)
  split at h
  ·cases hi:item (l.drop (p+1)) 39 with
   | none=>rw [hi] at h;exact z _ h
   | some x=>
    rw [hi] at h
    unfold nmRes at h
    rcases named_kind 2 x.1 p (p+1+x.2+1) with h2 | ⟨h2,_⟩ <;> rw [h2] at h <;> cases h
  ·exact z _ h
 ·exact absurd h (z _)
theorem next_var (m l:List UInt8) (hl:m.length=l.length) (a:Nat) (ha:a≤l.length) (h:isV (nextR m l a)=true):(nextR m l a).r.text≠[]:=by
 unfold isV at h
 rw [beq_iff_eq] at h
 have hs:=skipN_le (m.drop a)
 rw [List.length_drop] at hs
 unfold nextR at h ⊢
 simp only at h ⊢
 split at h
 ·cases h
 rename_i h1
 rw [if_neg h1]
 split at h
 ·rename_i h2
  rw [if_pos h2]
  exact tok_var _ _ _ (by omega) h
 ·cases h
theorem all_var (m l:List UInt8) (hl:m.length=l.length):∀(f a:Nat) (acc:List NextR),a≤l.length→(∀t∈acc,isV t=true→t.r.text≠[])→∀t∈(allF f m l a acc).l,isV t=true→t.r.text≠[]
 | 0,_,_,_,_,t,h=>by cases h
 | f+1,a,acc,h2,ha,t,h=>by
  have he:=next_end m l hl a h2
  rw [allF_succ] at h
  split at h
  ·cases h
  split at h
  ·cases h
  rename_i h3
  have h3:(nextR m l a).r.err=0:=by simpa using h3
  obtain ⟨p,e,h4,h5,h6,h7,h8,_⟩:=he h3
  have hx:∀t∈acc++[nextR m l a],isV t=true→t.r.text≠[]:=fun t ht=>by
   rcases List.mem_append.1 ht with ht | ht
   ·exact ha t ht
   ·rw [List.mem_singleton.1 ht];exact next_var m l hl a h2
  split at h
  ·exact hx t h
  ·rw [h6,Int.toNat_natCast] at h
   exact all_var m l hl f e _ h8 hx t h
theorem ren_id:∀t:Tm,ren (fun x=>x) t=t:=Tm.ind fun t ih=>by
 cases t with
 | mk k n s l=>
  have h:l.map (ren fun x=>x)=l:=by
   conv=>rhs;rw [←List.map_id l]
   exact List.map_congr_left fun a ha=>ih a ha
  rw [ren_eq]
  show Tm.mk k (if k=0 then n else n) s (l.map (ren fun x=>x))=_
  rw [h];split <;> rfl
structure CanR (L:List UInt8) (a:Nat) (r:RdR):Prop where
 t:validT r.t=true
 c:canT r.t=r.t
 v:∃c,varsT r.t []=upto c∧∀p∈r.names,p.2<c∧p.1≠[95]∧p.1≠[]
 d:r.names.Pairwise fun p q=>p.1≠q.1∧p.2<q.2
 s:r.singles=r.names.filter fun p=>(vl r.t).count (p.2:Int)==1
 w:r.where_=0
 e:(a:Int)<r.end_∧r.end_≤L.length
theorem count_cast (l:List Nat) (n:Nat):(l.map fun k:Nat=>(k:Int)).count (n:Int)=l.count n:=by
 induction l with
 | nil=>rfl
 | cons a l ih=>
  rw [List.map_cons,List.count_cons,List.count_cons,ih]
  congr 1
  by_cases h:a=n
  ·subst h;simp
  ·have h2:¬(a:Int)=(n:Int):=by omega
   simp [h,h2]
theorem posI_upto {c:Nat} {x:Int} (h:x∈upto c):posI (upto c) x=x:=by
 obtain ⟨h1,h2⟩:=mem_upto.1 h
 unfold posI
 rw [if_pos h]
 have h3:=List.idxOf_lt_length_of_mem h
 have h4:(upto c)[(upto c).idxOf x]=x:=List.getElem_idxOf h3
 rw [upto_at] at h4
 exact h4
theorem vt_toks {L:List UInt8} {a:Nat} {s:Sy} (ha:a≤L.length) (h:(toksOf L a s).err=0):VT ⟨(toksOf L a s).l,s.P,s.q⟩:=fun n hn=>by
 have hk:ToksOk L.length (toksOf L a s).l:=allR_toks _ _ (cvt_len _ _) _ ha h
 refine Classical.byContradiction fun hc=>?_
 have hp:=hk.pos
 have hc:(toksOf L a s).l.length≤n:=by simpa using hc
 have e:RE.at ⟨(toksOf L a s).l,s.P,s.q⟩ n=(toksOf L a s).l[(toksOf L a s).l.length-1]'(by omega):=by
  unfold RE.at tokA
  rw [Nat.min_eq_right (by show (toksOf L a s).l.length-1≤n;omega),List.getD_eq_getElem?_getD,List.getElem?_eq_getElem (by show (toksOf L a s).l.length-1<(toksOf L a s).l.length;omega)];rfl
 have h7:=(hk.last ((toksOf L a s).l.length-1) (by omega)).2 (by omega)
 rw [e] at hn
 unfold isV at hn
 rw [h7] at hn
 cases hn
theorem canR (L:List UInt8) (a:Nat) (s:Sy) (ha:a≤L.length) (hL:L.length≤16384) (he:(readS L a s).err=0):CanR L a (readS L a s):=by
 obtain ⟨_,h2,_,h4,h5,_⟩:=read_in L a s ha hL
 have hv:∀t∈(toksOf L a s).l,isV t=true→t.r.text≠[]:=all_var _ _ (cvt_len _ _) _ a [] ha (fun _ h=>by cases h)
 have hvt:=vt_toks (s:=s) ha
 have hw:=h5 he
 unfold readS at he h2 h4 hw ⊢
 split at he
 ·cases he
 rename_i g1
 rw [if_neg g1] at h2 h4 hw ⊢
 split at he
 ·rename_i g2;exact absurd he g2
 rename_i g2
 rw [if_neg g2] at h2 h4 hw ⊢
 have hvt:=hvt (by simpa using g2)
 unfold readT at he h2 h4 hw ⊢
 cases hg:wholeG ⟨(toksOf L a s).l,s.P,s.q⟩ with
 | error k=>rw [hg] at he;cases he
 | ok x=>
  obtain ⟨t,m⟩:=x
  have hO:=whole_O hvt hg
  rw [hg] at he h2 h4 hw
  simp only at he h2 h4 hw ⊢
  unfold readOk at he h2 h4 hw ⊢
  split at he
  ·rename_i hva
   rw [if_pos hva] at h2 h4 hw ⊢
   have hi:(vsAt (toksOf L a s).l m).Inv:=vsOf_inv _ fun t ht=>hv t (List.mem_of_mem_take ht)
   have hvl:vl t=(vsAt (toksOf L a s).l m).o.map fun k:Nat=>(k:Int):=hO
   have hvt2:varsT t []=upto (vsAt (toksOf L a s).l m).c:=by rw [varsT_vl,hvl];exact hi.o
   refine ⟨hva,?_,⟨_,hvt2,hi.m⟩,hi.d,?_,rfl,hw.2,h2.2⟩
   ·show canT t=t
    unfold canT
    rw [if_pos hva,hvt2]
    have hal:=(varsT_all t []).2.2
    rw [hvt2] at hal
    rw [ren_congr (g:=fun x=>x) t (Tm.All.imp (fun y hy h0=>posI_upto (hy h0)) _ hal)]
    exact ren_id t
   ·show sglV _=_
    unfold sglV
    refine List.filter_congr fun p _=>?_
    show ((vsAt (toksOf L a s).l m).o.count p.2==1)=((vl t).count (p.2:Int)==1)
    rw [hvl,count_cast]
  ·exact absurd he (by show ¬(2:Int)=0;decide)
end Hb
