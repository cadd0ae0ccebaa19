/- Parts of the proof. -/
import Derived.Test.YtbojljpldcijgaaGreatH01
import Derived.Test.YtbojljpldcijgaaGreatH02
import Derived.Test.YtbojljpldcijgaaGreatH03
import Derived.Test.YtbojljpldcijgaaGreatH04
import Derived.Test.YtbojljpldcijgaaGreatH05
import Derived.Test.YtbojljpldcijgaaGreatH06
import Derived.Test.YtbojljpldcijgaaGreatH07
import Derived.Test.YtbojljpldcijgaaGreatH08
import Derived.Test.YtbojljpldcijgaaGreatH09
import Derived.Test.YtbojljpldcijgaaGreatH10
import Derived.Test.YtbojljpldcijgaaGreatH11
import Derived.Test.YtbojljpldcijgaaGreatH12
import Derived.Test.YtbojljpldcijgaaGreatH13
import Derived.Test.YtbojljpldcijgaaGreatH14
import Derived.Test.YtbojljpldcijgaaGreatH15
import Derived.Test.YtbojljpldcijgaaGreatH16
import Derived.Test.YtbojljpldcijgaaGreatH17
import Derived.Test.YtbojljpldcijgaaGreatH18
import Derived.Test.YtbojljpldcijgaaGreatH21
import Derived.Test.YtbojljpldcijgaaGreatH22
import Derived.Test.YtbojljpldcijgaaGreatH23
import Derived.Test.YtbojljpldcijgaaGreatH24
import Derived.Test.YtbojljpldcijgaaGreatH25
import Derived.Test.YtbojljpldcijgaaGreatH26
import Derived.Test.YtbojljpldcijgaaGreatH27
import Derived.Sort.Walk0
import Derived.Laws.Rows
import Derived.Laws.Tables
import Derived.Laws.CopyOwn
import Derived.Laws.AppendOwnNone
import Derived.Laws.OwnMore
import Derived.Lib.SliceRun
import Derived.Deep.RegionHeld3
import Derived.Laws.Shifts
import Derived.Lib.AppendZerosOnto
import Derived.Lib.Overlaps
import Derived.Shelf.Spec.SlicesInsert
namespace Hb
open Go Go.RowKit
theorem cmpN_zero (a b:Int):cmpN a b=0↔a=b:=by unfold cmpN;grind
theorem opLt_ref (a b:OpR):opLt a b=(befOp a b && !(a.name.toList==b.name.toList&&(clsOp a.typ==2&&clsOp b.typ==3))):=by
 rw [befOp_cmp]
 unfold opLt
 cases h:decide (cmpOp a b<0)
 ·rfl
 ·rw [←befOp_cmp] at h
  unfold befOp at h
  cases h2:(a.name.toList==b.name.toList)
  ·rfl
  ·rw [h2,if_pos rfl] at h
   have h3:clsOp a.typ<clsOp b.typ:=by simpa using h
   have h4:clsOp b.typ≤3:=by unfold clsOp;grind
   cases h5:(clsOp a.typ==2)
   ·rfl
   ·have:clsOp a.typ=2:=by simpa using h5
    have:clsOp b.typ=3:=by omega
    simp [this]
variable {P:Program} {ops:Array Oper} {sp:List ROp} {BP:List Value→Prop} {B:Nat} {w0:World} {a0:Act} {T:List Value→World→Prop}
variable {j:Nat} {o:Oper}
theorem srv_mk (hc:(opAt sp j).cl=.call) (hg:o.guard=none) (h:∀val E X N,EOf ops val a0 o E→AtC BP B w0 X N→VPs sp j val→VCs sp j val N X→∃v X',(execOp E o).run P X=.ok (.value v) X'∧Below X.heap.size X X'∧(opAt sp j).vp (vals sp j (updV val j v))∧∀N':Nat→Prop,(∀b,N b→N' b)→(∀b,X.heap.size≤b→b<X'.heap.size→N' b)→(opAt sp j).vc (vals sp j (updV val j v)) N' X'):SrvAt P ops sp BP B w0 a0 T j o:=by
 unfold SrvAt;rw [hc]
 refine fun val X N h1 h2 h3 h4 hA hC=>⟨fun _=>?_,fun hf=>by rw [want_none hg] at hf;cases hf⟩
 obtain ⟨v,X',h5,h6⟩:=h val _ X N (EOf.at _ _ _ _) ⟨h1,h2,h3,h4⟩ hA hC
 exact .inl ⟨v,X',h5,h6⟩
def setL (X:World) (g:Nat):Nat→List Value→World
 | _,[]=>X
 | i,v::vs=>setL (X.setCell ⟨g,i,none⟩ v) g (i+1) vs
theorem setL_size (g:Nat):∀(us:List Value) (X:World) (i:Nat),(setL X g i us).heap.size=X.heap.size:=by
 intro us
 induction us with
 | nil=>intros;rfl
 | cons u us ih=>intro X i;unfold setL;rw [ih];simp
theorem setL_other {g k:Nat} (h:k≠g):∀(us:List Value) (X:World) (i:Nat),(setL X g i us).heap[k]? = X.heap[k]?:=by
 intro us
 induction us with
 | nil=>intros;rfl
 | cons u us ih=>intro X i;unfold setL;rw [ih];exact heap_setCell_other _ _ _ _ h
theorem setL_below {B g:Nat} {w:World} (hg:B≤g):∀(us:List Value) (X:World) (i:Nat),Below B w X→Below B w (setL X g i us):=by
 intro us
 induction us with
 | nil=>intro _ _ h;exact h
 | cons u us ih=>intro X i h;unfold setL;exact ih _ _ (h.setCell (p:=⟨g,_,none⟩) hg _)
theorem setL_bk {g:Nat}:∀(us:List Value) (X:World) (i:Nat) (vs:List Value),Bk X g vs→i+us.length=vs.length→Bk (setL X g i us) g (vs.take i++us):=by
 intro us
 induction us with
 | nil=>intro X i vs h hl;unfold setL;rw [List.append_nil,List.take_of_length_le (by simp at hl;omega)];exact h
 | cons u us ih=>
  intro X i vs h hl
  unfold setL
  simp only [List.length_cons] at hl
  have:=ih (X.setCell ⟨g,i,none⟩ u) (i+1) (vs.set i u) (h.set i u) (by simp;omega)
  rw [List.take_succ_eq_append_getElem (by simp;omega),List.take_set,List.set_eq_of_length_le (by rw [List.length_take];omega)] at this
  simpa using this
theorem Bks.put {X:World} {l:List (Nat×List Value)} (h:Bks X l) (j:Nat) {g:Nat} {vs:List Value} (hx:l[j]? = some (g,vs)) (us:List Value) (hl:us.length=vs.length):Bks (setL X g 0 us) (l.set j (g,us)):=by
 have hm:(l.set j (g,us)).map (·.1)=l.map (·.1):=by
  rw [List.map_set]
  refine List.ext_getElem? fun k=>?_
  rw [List.getElem?_set]
  split
  ·rename_i e
   subst e
   split
   ·rw [List.getElem?_map,hx];rfl
   ·rename_i hn
    rw [List.getElem?_eq_none (by simpa using hn)]
  ·rfl
 refine ⟨fun x hx2=>?_,by rw [hm];exact h.ord⟩
 obtain ⟨k,hk⟩:=List.mem_iff_getElem?.1 hx2
 rw [List.getElem?_set] at hk
 split at hk
 ·split at hk
  ·injection hk with hk;subst hk
   have:=setL_bk us X 0 vs (h.at j g vs hx) (by omega)
   simpa using this
  ·cases hk
 ·rename_i hne
  have hkx:=h.bk x (List.mem_of_getElem? hk)
  refine hkx.keeps (setL_other (fun e=>?_) us X 0)
  have h1:(l.map (·.1))[k]? = some x.1:=by rw [List.getElem?_map,hk];rfl
  have h2:(l.map (·.1))[j]? = some g:=by rw [List.getElem?_map,hx];rfl
  obtain ⟨k1,e1⟩:=List.getElem?_eq_some_iff.1 h1
  obtain ⟨k2,e2⟩:=List.getElem?_eq_some_iff.1 h2
  have hp:=List.pairwise_iff_getElem.1 h.ord
  rcases Nat.lt_or_gt_of_ne (fun e=>hne e:j≠k) with hlt | hlt
  ·have:=hp j k k2 k1 hlt
   rw [e1,e2] at this;omega
  ·have:=hp k j k1 k2 hlt
   rw [e1,e2] at this;omega
end Hb
namespace Hb
open Go Go.RowKit
theorem defL_ok:opsValid defL=true:=by decide +kernel
theorem opsCells_len (l:List OpR):(opsCells l).length=l.length * 3:=by
 unfold opsCells;induction l with
 | nil=>rfl
 | cons p l ih=>rw [List.flatMap_cons,List.length_append,ih];simp [opCells];omega
theorem oc_get:∀(l:List OpR) (i:Nat) (h:i<l.length),(opsCells l)[i * 3]? = some (.string l[i].name)∧(opsCells l)[i * 3+1]? = some (.int .i64 l[i].typ)∧(opsCells l)[i * 3+2]? = some (.int .i64 l[i].prec)
 | p::l,0,_=>⟨rfl,rfl,rfl⟩
 | p::l,i+1,h=>by
  have:=oc_get l i (by simpa using h)
  have e:opsCells (p::l)=.string p.name::.int .i64 p.typ::.int .i64 p.prec::opsCells l:=rfl
  rw [e,show (i+1) * 3=i * 3+3 by omega]
  exact ⟨by simpa using this.1,by simpa using this.2.1,by simpa using this.2.2⟩
theorem oc_one (l:List OpR):∀u∈opsCells l,u.oneCell'=true:=by
 intro u hu
 unfold opsCells at hu
 rw [List.mem_flatMap] at hu
 obtain ⟨p,_,hp⟩:=hu
 simp [opCells] at hp
 rcases hp with rfl|rfl|rfl <;> rfl
def OpsIn (w:World) (b off:Nat) (l:List OpR):Prop :=
 ∀j (hj:j<l.length),w.cell? ⟨b,off+j * 3,none⟩=some (.string l[j].name)∧w.cell? ⟨b,off+j * 3+1,none⟩=some (.int .i64 l[j].typ)∧w.cell? ⟨b,off+j * 3+2,none⟩=some (.int .i64 l[j].prec)
theorem add_at (b o j:Nat):(⟨b,o,none⟩:Addr).add j=⟨b,o+j,none⟩:=by unfold Addr.add;split <;> simp_all
theorem oc_at {w:World} {b off:Nat} {l:List OpR} (h:OpsIn w b off l) (j:Nat) (u:Value) (hu:(opsCells l)[j]? = some u):w.cell? ((⟨b,off,none⟩:Addr).add j)=some u:=by
 have hj:j<(opsCells l).length:=by
  rcases Nat.lt_or_ge j (opsCells l).length with hh | hh
  ·exact hh
  ·rw [List.getElem?_eq_none hh] at hu;cases hu
 rw [opsCells_len] at hj
 have hi:j / 3<l.length:=by omega
 obtain ⟨p1,p2,p3⟩:=oc_get l (j / 3) hi
 obtain ⟨q1,q2,q3⟩:=h (j / 3) hi
 rw [add_at]
 have hc:j=j / 3 * 3∨j=j / 3 * 3+1∨j=j / 3 * 3+2:=by omega
 rcases hc with e2 | e2 | e2
 ·rw [e2,p1] at hu;injection hu with hu;rw [e2,←hu];exact q1
 ·rw [e2,p2] at hu;injection hu with hu;rw [e2,←hu,←Nat.add_assoc];exact q2
 ·rw [e2,p3] at hu;injection hu with hu;rw [e2,←hu,←Nat.add_assoc];exact q3
theorem OpsAt.cases {w:World} {A:Option Addr} {l:List OpR} (h:OpsAt w A l):l=[]∨∃b off,A=some ⟨b,off,none⟩∧b<w.heap.size∧OpsIn w b off l:=by
 cases l with
 | nil=>exact .inl rfl
 | cons a l=>
  obtain ⟨b,off,e,hb,_⟩:=h 0 (by simp)
  refine .inr ⟨b,off,e,hb,fun j hj=>?_⟩
  obtain ⟨b',off',e',_,c⟩:=h j hj
  rw [e] at e';injection e' with e';injection e' with e1 e2 _;subst e1;subst e2
  exact c
theorem OpsIn.ops {w:World} {b off:Nat} {l:List OpR} (h:OpsIn w b off l) (hb:b<w.heap.size):OpsAt w (some ⟨b,off,none⟩) l:=fun j hj=>⟨b,off,rfl,hb,h j hj⟩
theorem OpsIn.below {w w':World} {b off:Nat} {l:List OpR} (h:OpsIn w b off l) (hb:b<w.heap.size) (hB:Below w.heap.size w w'):OpsIn w' b off l:=fun j hj=>by
 obtain ⟨c0,c1,c2⟩:=h j hj
 exact ⟨(hB.cell (p:=⟨b,_,none⟩) hb).trans c0,(hB.cell (p:=⟨b,_,none⟩) hb).trans c1,(hB.cell (p:=⟨b,_,none⟩) hb).trans c2⟩
theorem own_sliceO {w:World} {base e size:Nat} {v:Value} {n:Nat} {xs:List Value} (h:w.ownsRow base e size v n xs):∃A cap,v=.slice A n cap:=by
 rcases h.2 with ⟨rfl,h0⟩ | ⟨g,cap,cur,rfl,_⟩
 ·exact ⟨none,0,by rw [h0]⟩
 ·exact ⟨_,cap,rfl⟩
theorem own_in {w:World} {base e n g cap:Nat} {l:List OpR} (h:w.ownsRow base e 3 (.slice (some ⟨g,0,none⟩) n cap) n (opsCells l)):OpsIn w g 0 l:=by
 have hn:n=l.length:=by have:=h.1;rw [opsCells_len] at this;omega
 intro j hj
 obtain ⟨p1,p2,p3⟩:=oc_get l j hj
 exact ⟨by rw [Nat.zero_add,h.cellAt _ (by omega)];exact p1,by rw [Nat.zero_add,h.cellAt _ (by omega)];exact p2,by rw [Nat.zero_add,h.cellAt _ (by omega)];exact p3⟩
theorem ops_own {w:World} {base e n cap:Nat} {A:Option Addr} {l:List OpR} (h:w.ownsRow base e 3 (.slice A n cap) n (opsCells l)):OpsAt w A l:=by
 have hn:n=l.length:=by have:=h.1;rw [opsCells_len] at this;omega
 rcases h.2 with ⟨hv,h0⟩ | ⟨g,cap',cur,hv,hbg,hh,rest⟩
 ·intro j hj;omega
 ·injection hv with hA _ _
  subst hA
  exact (own_in h).ops (h.lt g rfl).2
theorem own_emptyO (w:World) (base e size:Nat) (hb:base≤w.heap.size):(w.alloc (.cells #[] e)).ownsRow base e size (.slice (some ⟨w.heap.size,0,none⟩) 0 0) 0 [] :=
 ⟨by simp,.inr ⟨w.heap.size,0,#[],rfl,hb,by show (w.heap.push _)[w.heap.size]? = _;simp,Nat.le_refl _,Nat.zero_le _,by simp,by simp⟩⟩
end Hb
namespace Go.Proofs.YtbojljpldcijgaaGreat
open Go.RowKit Hb
set_option maxRecDepth 100000
set_option maxHeartbeats 800000 in
theorem ops_clone (A:Option Addr) (n cap:Nat) (l:List OpR) (w:World) (hn:n=l.length) (hm:n≤400) (hp:OpsAt w A l) (hA:n=0→(Value.slice A n cap=.slice none 0 0∨∃ad,A=some ad)) :
  Calls Tryz.prog 79 #[.slice A n cap] w fun e w'=>∃A' cap',e=.returned (.slice A' n cap')∧Below w.heap.size w w'∧w'.ownsRow w.heap.size 61 3 (.slice A' n cap') n (opsCells l):=by
 obtain ⟨i,hi,hz0,hz1,hz2⟩:=info_parts infoOp
 have HI:=Lib.hid hi
 have HZ0:=Lib.hid hz0
 have HZ1:=Lib.hid hz1
 have HZ2:=Lib.hid hz2
 have hE:=Lib.hid (own_emptyO w w.heap.size 61 3 (Nat.le_refl _))
 have hB0:=(Below.refl w.heap.size w).alloc (Nat.le_refl _) (.cells #[] 61)
 rcases hp.cases with hl0 | ⟨b,off,rfl,hb,hin⟩
 ·subst hl0
  rw [List.length_nil] at hn
  subst hn
  rcases hA rfl with hv | ⟨ad,rfl⟩
  ·injection hv with h1 h2 h3
   subst h1;subst h3
   clear hi hz0 hz1 hz2 hA hp h2
   have q22:∀(w:World) (a:Option Addr) (n c n' c':Nat),(binOp .eql 22 (.slice a n c) (.slice none n' c')).run Tryz.prog w=.ok (.bool a.isNone) w:=fun w a n c n' c'=>Lib.run_eql_slice_nil w _ _ a n c n' c' Tryz.underlying22
   go_enter Tryz.func79,Tryz.ntmps79
   go_wp2_with fail
   go_ret
   first | exact ⟨none,⟨0,rfl⟩,Below.refl _ _,World.ownsRow_nil _ _ _ _⟩ | exact ⟨none,0,rfl,Below.refl _ _,World.ownsRow_nil _ _ _ _⟩
  ·clear hi hz0 hz1 hz2 hA hp
   have q22:∀(w:World) (a:Option Addr) (n c n' c':Nat),(binOp .eql 22 (.slice a n c) (.slice none n' c')).run Tryz.prog w=.ok (.bool a.isNone) w:=fun w a n c n' c'=>Lib.run_eql_slice_nil w _ _ a n c n' c' Tryz.underlying22
   go_enter Tryz.func79,Tryz.ntmps79
   go_wp2_with (at_builtin;go_must (refine wpList_append_own _ rfl _ _ 22 rfl w.heap.size 61 i _ 3 32 Tryz.underlying22 HI.out HZ0.out HZ1.out HZ2.out rfl (by decide) _ 0 [] rfl hE.out ad 0 cap [] rfl rfl (by intro j u hu;cases hu) (by intro u hu;cases hu) (by unfold maxLen;omega) (by omega) (by simp) ?_;intro v1 w1 hown1 hg1 _))
   have hB1:Below w.heap.size w w1:=hB0.grown hg1 (by simp) (fun k hk=>Nat.le_of_eq (Option.some.inj (show some w.heap.size=some k from hk)))
   rw [Nat.zero_add,List.nil_append] at hown1
   obtain ⟨A',cap',rfl⟩:=own_sliceO hown1
   have HO:=Lib.hid hown1
   clear hown1
   go_ret
   first | exact ⟨A',⟨cap',rfl⟩,hB1,HO.out⟩ | exact ⟨A',cap',rfl,hB1,HO.out⟩
 ·have HC:=Lib.hid (hin.below hb hB0)
  have HN:=Lib.hid hn
  clear hi hz0 hz1 hz2 hA hp hin hn
  have q22:∀(w:World) (a:Option Addr) (n c n' c':Nat),(binOp .eql 22 (.slice a n c) (.slice none n' c')).run Tryz.prog w=.ok (.bool a.isNone) w:=fun w a n c n' c'=>Lib.run_eql_slice_nil w _ _ a n c n' c' Tryz.underlying22
  go_enter Tryz.func79,Tryz.ntmps79
  go_wp2_with (at_builtin;go_must (refine wpList_append_own _ rfl _ _ 22 rfl w.heap.size 61 i _ 3 32 Tryz.underlying22 HI.out HZ0.out HZ1.out HZ2.out rfl (by decide) _ 0 [] rfl hE.out ⟨b,off,none⟩ n cap (opsCells l) rfl (by rw [opsCells_len,HN.out]) (oc_at HC.out) (oc_one l) (by unfold maxLen;omega) (by omega) (by simp) ?_;intro v1 w1 hown1 hg1 _))
  rw [Nat.zero_add,List.nil_append] at hown1
  have hB1:Below w.heap.size w w1:=hB0.grown hg1 (by simp) (fun k hk=>Nat.le_of_eq (Option.some.inj (show some w.heap.size=some k from hk)))
  obtain ⟨A',cap',rfl⟩:=own_sliceO hown1
  have HO:=Lib.hid hown1
  clear hown1
  go_ret
  first | exact ⟨A',⟨cap',rfl⟩,hB1,HO.out⟩ | exact ⟨A',cap',rfl,hB1,HO.out⟩
end Go.Proofs.YtbojljpldcijgaaGreat
namespace Hb
open Go Go.RowKit
structure BHeld (w0 w:World) (o a:OpR) (b p:Nat):Prop where
 bel:Below w0.heap.size w0 w
 lt:w0.heap.size<w.heap.size
 o0:w.cell? ⟨w0.heap.size,0,none⟩=some (.string o.name)
 o1:w.cell? ⟨w0.heap.size,1,none⟩=some (.int .i64 o.typ)
 o2:w.cell? ⟨w0.heap.size,2,none⟩=some (.int .i64 o.prec)
 bl:b<w0.heap.size
 a0:w.cell? ⟨b,p,none⟩=some (.string a.name)
 a1:w.cell? ⟨b,p+1,none⟩=some (.int .i64 a.typ)
 a2:w.cell? ⟨b,p+2,none⟩=some (.int .i64 a.prec)
section
variable {w0 w w':World} {o a:OpR} {b p:Nat}
theorem BHeld.keep (h:BHeld w0 w o a b p):w.cell? ⟨w0.heap.size,0,none⟩=some (.string o.name)∧w.cell? ⟨w0.heap.size,1,none⟩=some (.int .i64 o.typ)∧w.cell? ⟨w0.heap.size,2,none⟩=some (.int .i64 o.prec)∧w.cell? ⟨b,p,none⟩=some (.string a.name)∧w.cell? ⟨b,p+1,none⟩=some (.int .i64 a.typ)∧w.cell? ⟨b,p+2,none⟩=some (.int .i64 a.prec)∧BHeld w0 w o a b p:=⟨h.o0,h.o1,h.o2,h.a0,h.a1,h.a2,h⟩
theorem BHeld.of (h:w.cell? ⟨w0.heap.size,0,none⟩=some (.string o.name)∧w.cell? ⟨w0.heap.size,1,none⟩=some (.int .i64 o.typ)∧w.cell? ⟨w0.heap.size,2,none⟩=some (.int .i64 o.prec)∧w.cell? ⟨b,p,none⟩=some (.string a.name)∧w.cell? ⟨b,p+1,none⟩=some (.int .i64 a.typ)∧w.cell? ⟨b,p+2,none⟩=some (.int .i64 a.prec)∧BHeld w0 w o a b p):BHeld w0 w o a b p:=h.2.2.2.2.2.2
theorem BHeld.call (hB:Below w.heap.size w w') (h:BHeld w0 w o a b p):BHeld w0 w' o a b p where
 bel:=h.bel.trans (hB.mono (by have:=h.lt;omega))
 lt:=Nat.lt_of_lt_of_le h.lt hB.size
 o0:=(hB.cell (p:=⟨_,_,none⟩) h.lt).trans h.o0
 o1:=(hB.cell (p:=⟨_,_,none⟩) h.lt).trans h.o1
 o2:=(hB.cell (p:=⟨_,_,none⟩) h.lt).trans h.o2
 bl:=h.bl
 a0:=(hB.cell (p:=⟨_,_,none⟩) (Nat.lt_trans h.bl h.lt)).trans h.a0
 a1:=(hB.cell (p:=⟨_,_,none⟩) (Nat.lt_trans h.bl h.lt)).trans h.a1
 a2:=(hB.cell (p:=⟨_,_,none⟩) (Nat.lt_trans h.bl h.lt)).trans h.a2
theorem BHeld.drew (h:BHeld w0 w o a b p):BHeld w0 w.drew o a b p:=h.call (Below.refl w.heap.size w).drew
end
structure TBox (w0 w:World) (o:OpR):Prop where
 bel:Below w0.heap.size w0 w
 lt:w0.heap.size<w.heap.size
 o0:w.cell? ⟨w0.heap.size,0,none⟩=some (.string o.name)
 o1:w.cell? ⟨w0.heap.size,1,none⟩=some (.int .i64 o.typ)
 o2:w.cell? ⟨w0.heap.size,2,none⟩=some (.int .i64 o.prec)
theorem TBox.start (w:World) (o:OpR) (e:TypeId):TBox w (w.alloc (.cells #[.string o.name,.int .i64 o.typ,.int .i64 o.prec] e)) o where
 bel:=(Below.refl _ _).alloc (Nat.le_refl _) _
 lt:=by simp
 o0:=World.cell?_alloc_new _ _ _ 0
 o1:=World.cell?_alloc_new _ _ _ 1
 o2:=World.cell?_alloc_new _ _ _ 2
theorem TBox.held {w0 w:World} {o a:OpR} {b p:Nat} (h:TBox w0 w o) (hb:b<w0.heap.size) (c:w0.cell? ⟨b,p,none⟩=some (.string a.name)∧w0.cell? ⟨b,p+1,none⟩=some (.int .i64 a.typ)∧w0.cell? ⟨b,p+2,none⟩=some (.int .i64 a.prec)):BHeld w0 w o a b p where
 bel:=h.bel
 lt:=h.lt
 o0:=h.o0
 o1:=h.o1
 o2:=h.o2
 bl:=hb
 a0:=(h.bel.cell (p:=⟨b,_,none⟩) hb).trans c.1
 a1:=(h.bel.cell (p:=⟨b,_,none⟩) hb).trans c.2.1
 a2:=(h.bel.cell (p:=⟨b,_,none⟩) hb).trans c.2.2
theorem BHeld.box {w0 w:World} {o a:OpR} {b p:Nat} (h:BHeld w0 w o a b p):TBox w0 w o:=⟨h.bel,h.lt,h.o0,h.o1,h.o2⟩
structure Parts (o:OpR) (l:List OpR) (lo hi:Nat):Prop where
 le:lo≤hi
 hl:hi≤l.length
 pre:∀j (hj:j<l.length),j<lo→cmpOp l[j] o<0
 post:∀j (hj:j<l.length),hi≤j→¬cmpOp l[j] o<0
def Mono (o:OpR) (l:List OpR):Prop:=∀i j (hj:j<l.length) (hij:i≤j),cmpOp l[j] o<0→cmpOp (l[i]'(by omega)) o<0
theorem Parts.up {o:OpR} {l:List OpR} {lo hi m:Nat} (h:Parts o l lo hi) (hM:Mono o l) (h2:m<hi) (hm:m<l.length) (hc:cmpOp l[m] o<0):Parts o l (m+1) hi where
 le:=h2
 hl:=h.hl
 pre:=fun j hj hjm=>hM j m hm (by omega) hc
 post:=h.post
theorem Parts.down {o:OpR} {l:List OpR} {lo hi m:Nat} (h:Parts o l lo hi) (hM:Mono o l) (h1:lo≤m) (hm:m<l.length) (hc:¬cmpOp l[m] o<0):Parts o l lo m where
 le:=h1
 hl:=by omega
 pre:=h.pre
 post:=fun j hj hmj hcj=>hc (hM m j hj hmj hcj)
theorem Parts.start (o:OpR) (l:List OpR):Parts o l 0 l.length:=⟨Nat.zero_le _,Nat.le_refl _,fun j _ h=>absurd h (by omega),fun j hj h=>absurd hj (by omega)⟩
end Hb
namespace Go.Proofs.YtbojljpldcijgaaGreat
open Go.RowKit Hb
set_option maxRecDepth 100000
theorem at_shr {ops:Array Oper} {rest:List Oper} {a:Act} {Q:Exit→Act→World→Prop} {w:World} {d x y t p f g} (h:wpList Tryz.prog ops Q (⟨d,.binOp .shr 153 x y 153,t,p,f,g⟩::rest) a w):wpList Tryz.prog ops Q (⟨d,.binOp .shr 153 x y 153,t,p,f,g⟩::rest) a w:=h
theorem wpList_half {ops:Array Oper} {rest:List Oper} {o:Oper} {a:Act} {Q:Exit→Act→World→Prop} {w:World} (hgd:o.guard=none) (x y:Operand) (ho:o.op=.binOp .shr 153 x y 153) (k m:Int) (hx:a.eval x=.int .u64 k) (hy:a.eval y=.int .u64 1) (hm:k / 2=m)
  (h:wpList Tryz.prog ops Q rest (a.put o.dst (.int .u64 m)) w):wpList Tryz.prog ops Q (o::rest) a w:=by
 refine wpList_plain hgd fun K hK=>?_
 have hb1:min (Int.toNat 1) IntKind.u64.bits=1:=by decide
 have e:(execOp a.eval o).run Tryz.prog w=.ok (.value (.int .u64 m)) w:=by
  unfold execOp
  rw [ho]
  simp only [hx,hy]
  rw [←hm,binOp_shr,shift_shr_any _ _ _ _ (by decide),hb1]
  rfl
 unfold Oper.wp
 rw [e]
 exact hK _ _ h
set_option maxHeartbeats 3200000 in
theorem ops_search (A:Option Addr) (n cap:Nat) (l:List OpR) (o:OpR) (w:World) (hn:n=l.length) (hm:n≤400) (hp:OpsAt w A l) (hM:Mono o l) :
  Calls Tryz.prog 81 #[.slice A n cap,opV o,.func (.func 75) #[] #[]] w fun e w'=>∃(i:Nat) (b:Bool),e=.returned (.tuple #[.int .i64 i,.bool b])∧Parts o l i i∧Below w.heap.size w w':=by
 have HP:=Lib.hid hp
 have HN:=Lib.hid hn
 have HM:=Lib.hid hM
 have hX:=TBox.start w o 61
 have HS:=Lib.hid (Parts.start o l)
 rw [←hn] at HS
 have HC:=Lib.hid (fun a W=>op_compare a o W)
 clear hp hn hM
 unfold opV at *
 go_enter Tryz.func81,Tryz.ntmps81
 go_wp2_with fail
 have HX:Hid (TBox w _ o):=Lib.hid hX
 go_loopw [9,10] (fun s9 s10 wr=>∃lo hi:Nat,s9=.int .i64 lo∧s10=.int .i64 hi∧lo≤hi∧hi≤n∧Hid (TBox w wr o)∧Hid (Parts o l lo hi)) (fun s9 s10 _=>(intOf s10-intOf s9).toNat)
 case atStart=>exact ⟨0,n,rfl,rfl,Nat.zero_le _,Nat.le_refl _,HX,HS⟩
 case round=>
  clear HX hX HS
  obtain ⟨lo,hi,rfl,rfl,hlh,hin,HT,HI⟩:=hrel
  by_cases hlt:lo<hi
  ·obtain ⟨m,hmd⟩:∃m,m=(lo+hi) / 2:=⟨_,rfl⟩
   have hm1:lo≤m∧m<hi:=by omega
   have hme:((lo:Int)+(hi:Int)) / 2=(m:Int):=by omega
   obtain ⟨hm1,hm2⟩:=hm1
   clear hmd
   have hmn:m<n:=by omega
   have hmi0:(0:Int)≤(m:Int):=by omega
   have hmi1:(m:Int)<(n:Int):=by omega
   have hml:m<l.length:=by have:=HN.out;omega
   obtain ⟨b,off,rfl,hb,c⟩:=HP.out m hml
   have HU:=Lib.hid (fun h=>HI.out.up HM.out hm2 hml h)
   have HD:=Lib.hid (fun h=>HI.out.down HM.out hm1 hml h)
   have HC1:=Lib.hid (fun W=>HC.out l[m] W)
   have H1:=HT.out.held hb c
   clear c
   generalize l[m]=a at *
   obtain ⟨c,hce⟩:∃c,Hid (c=cmpOp a o):=⟨_,Lib.hid rfl⟩
   rw [←hce.out] at HU HD HC1
   go_wp2_with ((with_reducible refine at_shr ?_);refine wpList_half rfl _ _ rfl _ _ rfl rfl hme ?_)
   go_region_held3 (fun w'=>w'.cell? ⟨w.heap.size,0,none⟩=some (.string o.name)∧w'.cell? ⟨w.heap.size,1,none⟩=some (.int .i64 o.typ)∧w'.cell? ⟨w.heap.size,2,none⟩=some (.int .i64 o.prec)∧w'.cell? ⟨b,off+m * 3,none⟩=some (.string a.name)∧w'.cell? ⟨b,off+m * 3+1,none⟩=some (.int .i64 a.typ)∧w'.cell? ⟨b,off+m * 3+2,none⟩=some (.int .i64 a.prec)∧BHeld w w' o a b (off+m * 3))
    (first | with_reducible exact H1.drew.keep | with_reducible exact BHeld.keep (BHeld.of (by with_reducible assumption)) | with_reducible exact BHeld.keep (BHeld.call (by with_reducible assumption) (BHeld.of (by with_reducible assumption))))
    (first | (go_at_call 75;(with_reducible refine (HC1.out _).mono ?_);rintro e w2 ⟨rfl,hB2⟩))
   all_goals have HTn:Hid (TBox w w2 o):=Lib.hid (BHeld.box (BHeld.of (by with_reducible assumption)))
   by_cases hcc:c<0
   ·go_wp2_with fail
    go_roundw
    case rel=>exact ⟨m+1,hi,by go_num,rfl,by omega,hin,HTn,Lib.hid (HU.out hcc)⟩
    case measure=>simp [intOf] <;> omega
   ·go_wp2_with fail
    go_roundw
    case rel=>exact ⟨lo,m,rfl,rfl,by omega,by omega,HTn,Lib.hid (HD.out (by omega))⟩
    case measure=>simp [intOf] <;> omega
  ·obtain rfl:hi=lo:=by omega
   by_cases hlo:hi<n
   ·have hil:hi<l.length:=by have:=HN.out;omega
    obtain ⟨b,off,rfl,hb,c⟩:=HP.out hi hil
    have HC1:=Lib.hid (fun W=>HC.out l[hi] W)
    have H1:=HT.out.held hb c
    clear c
    generalize l[hi]=a at *
    obtain ⟨c,hce⟩:∃c,Hid (c=cmpOp a o):=⟨_,Lib.hid rfl⟩
    rw [←hce.out] at HC1
    have hmi0:(0:Int)≤(hi:Int):=by omega
    have hmi1:(hi:Int)<(n:Int):=by omega
    go_wp2_with fail
    go_region_held3 (fun w'=>w'.cell? ⟨w.heap.size,0,none⟩=some (.string o.name)∧w'.cell? ⟨w.heap.size,1,none⟩=some (.int .i64 o.typ)∧w'.cell? ⟨w.heap.size,2,none⟩=some (.int .i64 o.prec)∧w'.cell? ⟨b,off+hi * 3,none⟩=some (.string a.name)∧w'.cell? ⟨b,off+hi * 3+1,none⟩=some (.int .i64 a.typ)∧w'.cell? ⟨b,off+hi * 3+2,none⟩=some (.int .i64 a.prec)∧BHeld w w' o a b (off+hi * 3))
     (first | with_reducible exact H1.drew.keep | with_reducible exact BHeld.keep (BHeld.of (by with_reducible assumption)) | with_reducible exact BHeld.keep (BHeld.call (by with_reducible assumption) (BHeld.of (by with_reducible assumption))))
     (first | (go_at_call 75;(with_reducible refine (HC1.out _).mono ?_);rintro e w2 ⟨rfl,hB2⟩))
    all_goals have hbf:=BHeld.bel (BHeld.of (by with_reducible assumption))
    all_goals have HPs:=HI.out
    all_goals go_wp2_with fail
    all_goals go_ret2
    all_goals exact ⟨hi,c==0,rfl,HPs,hbf⟩
   ·obtain rfl:hi=n:=by omega
    go_wp2_with fail
    go_quiet (fail)
    have hbf:=bl_drewN HT.out.bel nq
    have HPs:=HI.out
    go_wp2_with fail
    go_ret2
    exact ⟨hi,false,rfl,HPs,hbf⟩
end Go.Proofs.YtbojljpldcijgaaGreat
namespace Hb
open Go Go.RowKit
def eqOp (o a:OpR):Bool:=cmpOp a o==0
def restL (o:OpR) (l:List OpR):List OpR:=l.filter fun a=>!eqOp o a
theorem opsCells_take:∀(l:List OpR) (i:Nat),(opsCells l).take (i * 3)=opsCells (l.take i)
 | [],i=>by simp [opsCells]
 | p::l,0=>by simp [opsCells]
 | p::l,i+1=>by
  have e:opsCells (p::l)=.string p.name::.int .i64 p.typ::.int .i64 p.prec::opsCells l:=rfl
  rw [e,show (i+1) * 3=i * 3+3 by omega,List.take_succ_cons,List.take_succ_cons,List.take_succ_cons,opsCells_take l i]
  rfl
theorem opsCells_set:∀(l:List OpR) (i:Nat) (o:OpR),((((opsCells l).set (i * 3) (.string o.name)).set (i * 3+1) (.int .i64 o.typ)).set (i * 3+2) (.int .i64 o.prec))=opsCells (l.set i o)
 | [],i,o=>by simp [opsCells]
 | p::l,0,o=>rfl
 | p::l,i+1,o=>by
  have e:opsCells (p::l)=.string p.name::.int .i64 p.typ::.int .i64 p.prec::opsCells l:=rfl
  have e2:opsCells ((p::l).set (i+1) o)=.string p.name::.int .i64 p.typ::.int .i64 p.prec::opsCells (l.set i o):=rfl
  rw [e,e2,←opsCells_set l i o,show (i+1) * 3=i * 3+3 by omega]
  rfl
theorem stored3 {w:World} {base e n g cap:Nat} {l:List OpR} (h:w.ownsRow base e 3 (.slice (some ⟨g,0,none⟩) n cap) n (opsCells l)) (i:Nat) (o:OpR) :
  (((w.setCell ⟨g,i * 3,none⟩ (.string o.name)).setCell ⟨g,i * 3+1,none⟩ (.int .i64 o.typ)).setCell ⟨g,i * 3+2,none⟩ (.int .i64 o.prec)).ownsRow base e 3 (.slice (some ⟨g,0,none⟩) n cap) n (opsCells (l.set i o)):=by
 have h3:=(((h.stored (i * 3) (.string o.name)).1.stored (i * 3+1) (.int .i64 o.typ)).1.stored (i * 3+2) (.int .i64 o.prec)).1
 rw [opsCells_set] at h3
 exact h3
theorem filt_yes (q:OpR→Bool) (l:List OpR) (j:Nat) (hj:j<l.length) (h:q l[j]=true):(l.take (j+1)).filter q=(l.take j).filter q++[l[j]]:=by
 rw [List.take_succ_eq_append_getElem hj,List.filter_append];simp [h]
theorem filt_no (q:OpR→Bool) (l:List OpR) (j:Nat) (hj:j<l.length) (h:q l[j]=false):(l.take (j+1)).filter q=(l.take j).filter q:=by
 rw [List.take_succ_eq_append_getElem hj,List.filter_append];simp [h]
theorem own_len {w:World} {base e n:Nat} {v:Value} {l:List OpR} (h:w.ownsRow base e 3 v n (opsCells l)):l.length=n:=by
 have:=h.1;rw [opsCells_len] at this;omega
theorem own_belowO {w w':World} {base e n:Nat} {v:Value} {xs:List Value} (h:w.ownsRow base e 3 v n xs) (hB:Below w.heap.size w w'):w'.ownsRow base e 3 v n xs:=by
 refine ⟨h.1,?_⟩
 rcases h.2 with hn | ⟨g,cap,cur,hv,hb,hg,rest⟩
 ·exact .inl hn
 ·refine .inr ⟨g,cap,cur,hv,hb,?_,rest⟩
  have hlt:g<w.heap.size:=(Array.getElem?_eq_some_iff.1 hg).1
  rw [←hg];exact hB.block g hlt
structure Done (q:OpR→Bool) (l L:List OpR) (i j:Nat):Prop where
 len:L.length=l.length
 le:i<j
 jl:j≤l.length
 pre:L.take i=(l.take j).filter q
 post:L.drop j=l.drop j
theorem Done.start {q:OpR→Bool} {l:List OpR} {k:Nat} (hk:k<l.length) (h:q l[k]=false) (hb:∀j (hj:j<k),q (l[j]'(by omega))=true):Done q l l k (k+1) where
 len:=rfl
 le:=by omega
 jl:=hk
 pre:=by
  rw [filt_no q l k hk h]
  refine (List.filter_eq_self.2 fun a ha=>?_).symm
  obtain ⟨j,hj,rfl⟩:=List.getElem_of_mem ha
  rw [List.length_take] at hj
  rw [List.getElem_take]
  exact hb j (by omega)
 post:=rfl
theorem Done.no {q:OpR→Bool} {l L:List OpR} {i j:Nat} (h:Done q l L i j) (hj:j<l.length) (hq:q l[j]=false):Done q l L i (j+1) where
 len:=h.len
 le:=by have:=h.le;omega
 jl:=hj
 pre:=by rw [filt_no q l j hj hq];exact h.pre
 post:=by rw [←List.drop_drop,h.post,List.drop_drop]
theorem Done.yes {q:OpR→Bool} {l L:List OpR} {i j:Nat} (h:Done q l L i j) (hj:j<l.length) (hq:q l[j]=true):Done q l (L.set i l[j]) (i+1) (j+1) where
 len:=by rw [List.length_set];exact h.len
 le:=by have:=h.le;omega
 jl:=hj
 pre:=by
  have hi:i<L.length:=by have:=h.le;have:=h.len;omega
  rw [filt_yes q l j hj hq,←h.pre,List.take_succ_eq_append_getElem (by rw [List.length_set];exact hi),List.take_set_of_le (Nat.le_refl i),List.getElem_set_self]
 post:=by rw [List.drop_set_of_lt (by have:=h.le;omega),←List.drop_drop,h.post,List.drop_drop]
theorem Done.at {q:OpR→Bool} {l L:List OpR} {i j:Nat} (h:Done q l L i j) (hj:j<l.length) (hj2:j<L.length):L[j]=l[j]:=by
 have:(L.drop j)[0]? = (l.drop j)[0]?:=by rw [h.post]
 rw [List.getElem?_drop,List.getElem?_drop,Nat.add_zero,List.getElem?_eq_getElem hj,List.getElem?_eq_getElem hj2] at this
 exact Option.some.inj this
theorem Done.last {q:OpR→Bool} {l L:List OpR} {i:Nat} (h:Done q l L i l.length):L.take i=l.filter q:=by rw [h.pre,List.take_length]
end Hb
namespace Go.Proofs.YtbojljpldcijgaaGreat
open Go.RowKit Hb
set_option maxRecDepth 100000
theorem set_1 (a o:OpR) (g1:Nat) (w:World) (n0:w.cell? ⟨g1,0,none⟩=some (.string o.name)) (n1:w.cell? ⟨g1,1,none⟩=some (.int .i64 o.typ)) (n2:w.cell? ⟨g1,2,none⟩=some (.int .i64 o.prec)) (_l1:g1<w.heap.size) :
  Calls Tryz.prog 80 #[opV a,.pointer (some ⟨g1,0,none⟩)] w fun e w'=>e=.returned (.bool (eqOp o a))∧Below w.heap.size w w':=by
 have HC:=Lib.hid (fun W=>op_compare a o W)
 unfold opV at *
 have HS:=Lib.hid (show eqOp o a=(cmpOp a o==0) from rfl)
 have hB0:=(Below.refl w.heap.size w).alloc (Nat.le_refl _) (.cells #[.string a.name,.int .i64 a.typ,.int .i64 a.prec] 61)
 have m0:=(World.grownBy_alloc w (.cells #[.string a.name,.int .i64 a.typ,.int .i64 a.prec] 61) none).cell n0 (by simp)
 have m1:=(World.grownBy_alloc w (.cells #[.string a.name,.int .i64 a.typ,.int .i64 a.prec] 61) none).cell n1 (by simp)
 have m2:=(World.grownBy_alloc w (.cells #[.string a.name,.int .i64 a.typ,.int .i64 a.prec] 61) none).cell n2 (by simp)
 generalize cmpOp a o=c at *
 go_enter Tryz.func80,Tryz.ntmps80
 go_wp2_with fail
 refine (HC.out _).mono ?_;rintro e w1 ⟨rfl,hB1⟩
 go_wp2_with fail
 go_ret
 exact ⟨ret_bool HS.out.symm,hB0.trans (hB1.mono (by simp))⟩
set_option maxHeartbeats 1600000 in
theorem ops_index2 (A:Option Addr) (n cap:Nat) (l:List OpR) (g1:Nat) (o:OpR) (w:World) (hn:n=l.length) (hm:n≤400) (hp:OpsAt w A l) (n0:w.cell? ⟨g1,0,none⟩=some (.string o.name)) (n1:w.cell? ⟨g1,1,none⟩=some (.int .i64 o.typ)) (n2:w.cell? ⟨g1,2,none⟩=some (.int .i64 o.prec)) (l1:g1<w.heap.size) :
  Calls Tryz.prog 122 #[.slice A n cap,.func (.func 80) #[] #[.pointer (some ⟨g1,0,none⟩)]] w fun e w'=>e=.returned (.int .i64 (idxI (eqOp o) l))∧Below w.heap.size w w':=by
 have HN:=Lib.hid hn
 have HP:=Lib.hid hp
 clear hn hp
 go_enter Tryz.func122,Tryz.ntmps122
 go_wp2_with fail
 go_loopw [8] (fun i wr=>∃k:Nat,k≤n∧i=.int .i64 k∧Below w.heap.size w wr∧Hid (∀j (hj:j<l.length),j<k→eqOp o l[j]=false)) (fun i _=>n-(intOf i).toNat)
 case atStart=>exact ⟨0,Nat.zero_le _,rfl,Below.refl _ _,fun j _ hj=>absurd hj (by omega)⟩
 case round=>
  obtain ⟨k,hk,rfl,hB,HA⟩:=hrel
  by_cases hlt:k<n
  ·have hbs:=hB.size
   have hkl:k<l.length:=by have:=HN.out;omega
   obtain ⟨b,off,rfl,hb,c0,c1,c2⟩:=(HP.out.below hB) k hkl
   have HH:=Lib.hid (fun h=>idxI_hit (eqOp o) l k hkl h (fun j hj=>HA.out j (by omega) hj))
   have HC:=Lib.hid (set_1 l[k] o g1 wr ((hB.cell (p:=⟨g1,0,none⟩) l1).trans n0) ((hB.cell (p:=⟨g1,1,none⟩) l1).trans n1) ((hB.cell (p:=⟨g1,2,none⟩) l1).trans n2) (Nat.lt_of_lt_of_le l1 hbs))
   have HR:=Lib.hid (fun (h:eqOp o l[k]=false)=>(show ∀j (hj:j<l.length),j<k+1→eqOp o l[j]=false from fun j hj hjk=>by
    rcases Nat.lt_or_ge j k with h' | h'
    ·exact HA.out j hj h'
    ·have:j=k:=by omega
     subst this;exact h))
   generalize l[k]=a at *
   unfold opV at HC
   cases hi:eqOp o a
   ·rw [hi] at HC
    have HI:=Lib.hid hi
    clear hi
    go_wp2_with fail
    refine HC.out.mono ?_;rintro e w1 ⟨rfl,hB1⟩
    go_wp2_with fail
    go_roundw
    case rel=>exact ⟨k+1,by omega,by go_num,hB.trans (hB1.mono hbs),HR.out HI.out⟩
    case measure=>simp [intOf] <;> omega
   ·rw [hi] at HC
    have HI:=Lib.hid hi
    clear hi
    go_wp2_with fail
    refine HC.out.mono ?_;rintro e w1 ⟨rfl,hB1⟩
    go_wp2_with fail
    go_ret
    exact ⟨ret_int (HH.out HI.out).symm,hB.trans (hB1.mono hbs)⟩
  ·obtain rfl:k=n:=by omega
   have HM:=Lib.hid (idxI_miss (eqOp o) l (fun j hj=>HA.out j hj (by have:=HN.out;omega)))
   go_wp2_with fail
   go_ret
   exact ⟨ret_int HM.out.symm,hB⟩
theorem zero_len (k:Nat):(Builtin.zeroCells (Value.agg #[.string ⟨#[]⟩,.int .i64 0,.int .i64 0]).cells k).toList.length=k * 3:=by
 rw [Array.length_toList,size_zeroCells];rfl
theorem zero_size (k:Nat):(Builtin.zeroCells (Value.agg #[.string ⟨#[]⟩,.int .i64 0,.int .i64 0]).cells k).size=k * 3:=by
 rw [size_zeroCells];rfl
theorem zero_one (k:Nat):∀u∈(Builtin.zeroCells (Value.agg #[.string ⟨#[]⟩,.int .i64 0,.int .i64 0]).cells k).toList,u.oneCell'=true:=by
 intro u hu
 obtain ⟨j,hj,rfl⟩:=List.getElem_of_mem hu
 simp [Builtin.zeroCells,Value.cells]
 have:j % 3=0∨j % 3=1∨j % 3=2:=by omega
 rcases this with h | h | h <;> simp [h,Value.oneCell']
theorem at_clear {ops:Array Oper} {rest:List Oper} {a:Act} {Q:Exit→Act→World→Prop} {w:World} {d t p f x g} (h:wpList Tryz.prog ops Q (⟨d,.call { callee:=.builtin .clear,args:=x,argTypes:=#[22] },t,p,f,g⟩::rest) a w):wpList Tryz.prog ops Q (⟨d,.call { callee:=.builtin .clear,args:=x,argTypes:=#[22] },t,p,f,g⟩::rest) a w:=h
theorem wpList_clear_op {w:World} {ops:Array Oper} {rest:List Oper} {o:Oper} {a:Act} {Q:Exit→Act→World→Prop} (hgd:o.guard=none) (x:Operand)
  (ho:o.op=.call { callee:=.builtin .clear,args:=#[x],argTypes:=#[22] })
  (base g n cap i z c:Nat) (L:List OpR) (hown:w.ownsRow base 61 3 (.slice (some ⟨g,0,none⟩) n cap) n (opsCells L)) (hi:i<n) (hz:z=0) (hx:a.eval x=.slice (some ⟨g,z+i * 3,none⟩) (n-i) c)
  (h:∀w',w'.ownsRow base 61 3 (.slice (some ⟨g,0,none⟩) i cap) i (opsCells (L.take i))→(∀B w0,Below B w0 w→B≤base→Below B w0 w')→wpList Tryz.prog ops Q rest (a.put o.dst (.tuple #[])) w'):wpList Tryz.prog ops Q (o::rest) a w:=by
 subst hz
 rw [Nat.zero_add] at hx
 refine wpList_plain hgd fun K hK=>?_
 have hlen:=own_len hown
 rcases hown.2 with ⟨hv,_⟩ | ⟨g',cap',cur,hv,hb,hg,hnc,hcm,hcs,htake⟩
 ·cases hv
 ·injection hv with h1 h2 h3
  injection h1 with h1
  injection h1 with h1 _ _
  subst h1;subst h3
  have hst:=run_storeCells_at Tryz.prog g (i * 3) 61 (Builtin.zeroCells (Value.agg #[.string ⟨#[]⟩,.int .i64 0,.int .i64 0]).cells (n-i)).toList 0 cur w hg (by rw [zero_len,hcs];omega) (zero_one _)
  rw [Nat.add_zero] at hst
  obtain ⟨m,hm⟩:∃m,n-i=m+1:=⟨n-i-1,by omega⟩
  have hrun:(Builtin.clear_ #[22] o.type #[.slice (some ⟨g,i * 3,none⟩) (n-i) c]).run Tryz.prog w=.ok (.tuple #[]) (w.setRow g (cur.toList.take (i * 3)++(Builtin.zeroCells (Value.agg #[.string ⟨#[]⟩,.int .i64 0,.int .i64 0]).cells (n-i)).toList++cur.toList.drop (i * 3+(Builtin.zeroCells (Value.agg #[.string ⟨#[]⟩,.int .i64 0,.int .i64 0]).cells (n-i)).toList.length)).toArray):=by
   rw [hm] at hst ⊢
   simp [Builtin.clear_,run_underlying Tryz.underlying22,hst]
  unfold Oper.wp
  simp only [execOp,ho,resolve,invoke,builtin,Sem.run_bind,Sem.run_pure,Result.andThen_ok,List.map_toArray,List.map_cons,List.map_nil,hx,hrun]
  refine hK _ _ (h _ ⟨by rw [opsCells_len,List.length_take];omega,.inr ⟨g,cap,_,rfl,hb,setRow_heap w g _ _ _ _ hg,by omega,hcm,?_,?_⟩⟩ fun B w0 hB hbb=>below_setRow hB (Nat.le_trans hbb hb) _)
  ·simp only [List.size_toArray,List.length_append,List.length_take,List.length_drop,Array.length_toList,zero_size,hcs]
   omega
  ·rw [←opsCells_take,←htake,List.take_take,List.take_append_of_le_length (by simp only [List.length_append,List.length_take,Array.length_toList,hcs];omega),List.take_append_of_le_length (by simp only [List.length_take,Array.length_toList,hcs];omega),List.take_take]
   congr 1;omega
set_option maxHeartbeats 3200000 in
theorem ops_delete (A:Option Addr) (n cap:Nat) (l:List OpR) (o:OpR) (g1 base:Nat) (w:World) (hm:n≤400) (hown:w.ownsRow base 61 3 (.slice A n cap) n (opsCells l)) (hg1:g1<base) (hbw:base≤w.heap.size) (n0:w.cell? ⟨g1,0,none⟩=some (.string o.name)) (n1:w.cell? ⟨g1,1,none⟩=some (.int .i64 o.typ)) (n2:w.cell? ⟨g1,2,none⟩=some (.int .i64 o.prec)) :
  Calls Tryz.prog 78 #[.slice A n cap,.func (.func 80) #[] #[.pointer (some ⟨g1,0,none⟩)]] w fun e w'=>∃n',e=.returned (.slice A n' cap)∧Below base w w'∧w'.ownsRow base 61 3 (.slice A n' cap) n' (opsCells (restL o l)):=by
 have hnl:=own_len hown
 have HI:=Lib.hid (ops_index2 A n cap l g1 o w hnl.symm hm (ops_own hown) n0 n1 n2 (by omega))
 by_cases hex:∃k,∃hk:k<l.length,eqOp o l[k]=true∧∀j (hj:j<k),eqOp o (l[j]'(by omega))=false
 ·obtain ⟨k,hkl,h1,h2⟩:=hex
  have HD:=Lib.hid (Done.start (q:=fun a=>!eqOp o a) hkl (by simp [h1]) (fun j hj=>by simp [h2 j hj]))
  rw [idxI_hit _ l k hkl h1 h2] at HI
  obtain ⟨g,cap',hAA⟩:=own_some hown (by omega)
  injection hAA with hA _ hc
  subst hA;subst hc
  have hcap:n≤cap∧cap≤maxLen:=by
   rcases hown.2 with ⟨hv,_⟩ | ⟨g',cap',cur,hv,_,_,h5,h6,_⟩
   ·cases hv
   ·injection hv with _ _ h3;subst h3;exact ⟨h5,h6⟩
  have hgb:base≤g:=(hown.lt g rfl).1
  obtain ⟨hcap1,hcap2⟩:=hcap
  unfold maxLen at hcap2
  have HO:=Lib.hid hown
  have HNL:=Lib.hid hnl
  have hkn:k<n:=by omega
  clear hown h1 h2 hnl hkl
  obtain ⟨z,HZ⟩:∃z,Hid (z=0):=⟨0,Lib.hid rfl⟩
  have HZ':=Lib.hid (show (⟨g,0,none⟩:Addr)=⟨g,z,none⟩ by rw [HZ.out])
  rw [HZ'.out] at HI ⊢
  have HQ:=Lib.hid (show restL o l=l.filter (fun a=>!eqOp o a) from rfl)
  go_enter Tryz.func78,Tryz.ntmps78
  go_wp2_with fail
  refine HI.out.mono ?_;rintro e w1 ⟨rfl,hB1⟩
  have hkm:((k:Int) == -1)=false:=by rw [beq_eq_false_iff_ne];omega
  go_wp2_with fail
  have hO1:=own_belowO HO.out hB1
  have hB1':=hB1.mono hbw
  have hw1:=hB1.size
  have HN1:=Lib.hid (⟨(hB1.cell (p:=⟨g1,0,none⟩) (by show g1<_;omega)).trans n0,(hB1.cell (p:=⟨g1,1,none⟩) (by show g1<_;omega)).trans n1,(hB1.cell (p:=⟨g1,2,none⟩) (by show g1<_;omega)).trans n2⟩:w1.cell? ⟨g1,0,none⟩=some (.string o.name)∧w1.cell? ⟨g1,1,none⟩=some (.int .i64 o.typ)∧w1.cell? ⟨g1,2,none⟩=some (.int .i64 o.prec))
  clear n0 n1 n2
  go_loopw [5,6] (fun vi vj wr=>∃i j:Nat,vi=.int .i64 i∧vj=.int .i64 j∧Below base w wr∧w1.heap.size≤wr.heap.size∧Below base w1 wr∧Hid (∃L,Done (fun a=>!eqOp o a) l L i j∧wr.ownsRow base 61 3 (.slice (some ⟨g,0,none⟩) n cap) n (opsCells L))) (fun _ vj _=>n-(intOf vj).toNat)
  case atStart=>exact ⟨k,k+1,rfl,by go_num,hB1',Nat.le_refl _,Below.refl _ _,l,HD.out,hO1⟩
  case round=>
   obtain ⟨i,j,rfl,rfl,hB,hsz,hBr,HL⟩:=hrel
   have hij:i<j∧j≤n:=by
    obtain ⟨L,hd,_⟩:=HL.out
    have h1:=hd.le;have h2:=hd.jl;have h3:=HNL.out
    exact ⟨h1,by omega⟩
   obtain ⟨hij1,hij2⟩:=hij
   by_cases hlt:j<n
   ·have hjl:j<l.length:=by have:=HNL.out;omega
    have HLJ:Hid (wr.cell? ⟨g,z+j * 3,none⟩=some (.string l[j].name)∧wr.cell? ⟨g,z+j * 3+1,none⟩=some (.int .i64 l[j].typ)∧wr.cell? ⟨g,z+j * 3+2,none⟩=some (.int .i64 l[j].prec)):=by
     obtain ⟨L,hd,ho⟩:=HL.out
     have h5:j<L.length:=by rw [hd.len];exact hjl
     have h6:=(own_in ho) j h5
     rw [hd.at hjl h5] at h6
     rw [HZ.out]
     exact Lib.hid h6
    have HC:=Lib.hid (fun (W:World) (hW:Below base w1 W) (hs:w1.heap.size≤W.heap.size)=>set_1 l[j] o g1 W ((hW.cell (p:=⟨g1,0,none⟩) hg1).trans HN1.out.1) ((hW.cell (p:=⟨g1,1,none⟩) hg1).trans HN1.out.2.1) ((hW.cell (p:=⟨g1,2,none⟩) hg1).trans HN1.out.2.2) (by omega))
    have HY:=Lib.hid (fun (h:eqOp o l[j]=false)=>(show ∀L,Done (fun a=>!eqOp o a) l L i j→Done (fun a=>!eqOp o a) l (L.set i l[j]) (i+1) (j+1) from fun L hd=>hd.yes hjl (by simp [h])))
    have HX:=Lib.hid (fun (h:eqOp o l[j]=true)=>(show ∀L,Done (fun a=>!eqOp o a) l L i j→Done (fun a=>!eqOp o a) l L i (j+1) from fun L hd=>hd.no hjl (by simp [h])))
    generalize l[j]=a at *
    unfold opV at HC
    obtain ⟨c0,c1,c2⟩:=HLJ.out
    have hgr:g<wr.heap.size:=by obtain ⟨L,hd,ho⟩:=HL.out;exact (ho.lt g rfl).2
    have hbr:base≤wr.heap.size:=by omega
    have hBx:=(Below.refl wr.heap.size wr).alloc (Nat.le_refl _) (.cells #[.string a.name,.int .i64 a.typ,.int .i64 a.prec] 61)
    cases hi:eqOp o a
    ·rw [hi] at HC
     have HI2:=Lib.hid hi
     clear hi
     go_wp2_with fail
     refine (HC.out _ (hBr.trans (hBx.mono hbr)) (Nat.le_trans hsz hBx.size)).mono ?_;rintro e w2 ⟨rfl,hB2⟩
     have x0:w2.cell? ⟨wr.heap.size,0,none⟩=some (.string a.name):=(hB2.cell (p:=⟨_,_,none⟩) (by simp)).trans (World.cell?_alloc_new _ _ _ 0)
     have x1:w2.cell? ⟨wr.heap.size,1,none⟩=some (.int .i64 a.typ):=(hB2.cell (p:=⟨_,_,none⟩) (by simp)).trans (World.cell?_alloc_new _ _ _ 1)
     have x2:w2.cell? ⟨wr.heap.size,2,none⟩=some (.int .i64 a.prec):=(hB2.cell (p:=⟨_,_,none⟩) (by simp)).trans (World.cell?_alloc_new _ _ _ 2)
     have hB3:Below wr.heap.size wr w2:=hBx.trans (hB2.mono (by simp))
     have HL2:Hid (∃L,Done (fun a=>!eqOp o a) l L i j∧w2.ownsRow base 61 3 (.slice (some ⟨g,0,none⟩) n cap) n (opsCells L)):=by
      obtain ⟨L,hd,ho⟩:=HL.out
      exact Lib.hid ⟨L,hd,own_belowO ho hB3⟩
     have hin:i<n:=by omega
     have HYc:∃v0 v1 v2,w2.cell? ⟨g,z+i * 3,none⟩=some v0∧w2.cell? ⟨g,z+i * 3+1,none⟩=some v1∧w2.cell? ⟨g,z+i * 3+2,none⟩=some v2∧∀q,w2.frozen? ⟨g,q,none⟩=false:=by
      obtain ⟨L,hd,ho⟩:=HL2.out
      have h5:i<L.length:=by have:=own_len ho;omega
      obtain ⟨h6,h7,h8⟩:=(own_in ho) i h5
      rw [HZ.out]
      exact ⟨_,_,_,h6,h7,h8,ho.frozenAt⟩
     obtain ⟨v0,v1,v2,y0,y1,y2,hfr⟩:=HYc
     go_wp2_with fail
     go_roundw
     case rel=>
      have hbx:Below base w2 (((w2.setCell ⟨g,z+i * 3,none⟩ (.string a.name)).setCell ⟨g,z+i * 3+1,none⟩ (.int .i64 a.typ)).setCell ⟨g,z+i * 3+2,none⟩ (.int .i64 a.prec)):=(((Below.refl base w2).setCell (p:=⟨_,_,none⟩) hgb _).setCell (p:=⟨_,_,none⟩) hgb _).setCell (p:=⟨_,_,none⟩) hgb _
      refine ⟨i+1,j+1,by go_num,by go_num,(hB.trans (hB3.mono hbr)).trans hbx,Nat.le_trans (Nat.le_trans hsz hB3.size) hbx.size,(hBr.trans (hB3.mono hbr)).trans hbx,?_⟩
      obtain ⟨L,hd,ho⟩:=HL2.out
      refine Lib.hid ⟨L.set i a,HY.out HI2.out L hd,?_⟩
      rw [HZ.out,Nat.zero_add]
      exact stored3 ho i a
     case measure=>simp [intOf] <;> omega
    ·rw [hi] at HC
     have HI2:=Lib.hid hi
     clear hi
     go_wp2_with fail
     refine (HC.out _ (hBr.trans (hBx.mono hbr)) (Nat.le_trans hsz hBx.size)).mono ?_;rintro e w2 ⟨rfl,hB2⟩
     have hB3:Below wr.heap.size wr w2:=hBx.trans (hB2.mono (by simp))
     go_wp2_with fail
     go_roundw
     case rel=>
      refine ⟨i,j+1,rfl,by go_num,hB.trans (hB3.mono hbr),Nat.le_trans hsz hB3.size,hBr.trans (hB3.mono hbr),?_⟩
      obtain ⟨L,hd,ho⟩:=HL.out
      exact Lib.hid ⟨L,HX.out HI2.out L hd,own_belowO ho hB3⟩
     case measure=>simp [intOf] <;> omega
   ·have hjn:j=n:=by omega
    subst hjn
    have hgr:g<wr.heap.size:=by obtain ⟨L,hd,ho⟩:=HL.out;exact (ho.lt g rfl).2
    obtain ⟨L,HLL⟩:∃L,Hid (Done (fun a=>!eqOp o a) l L i j∧wr.ownsRow base 61 3 (.slice (some ⟨g,0,none⟩) j cap) j (opsCells L)):=HL.out.imp fun _ h=>Lib.hid h
    have hci:¬(cap=i):=by omega
    have hic:i≤cap:=by omega
    have HLast:Hid (L.take i=restL o l):=by
     have hdl:=HLL.out.1
     rw [←HNL.out] at hdl
     exact Lib.hid hdl.last
    go_wp2_with ((with_reducible refine at_clear ?_);refine wpList_clear_op rfl _ rfl base g _ cap i z _ L HLL.out.2 hij1 HZ.out rfl ?_;intro w2 ho2 hB2)
    rw [HLast.out] at ho2
    have HO2:=Lib.hid ho2
    clear ho2
    go_ret
    first | exact ⟨i,rfl,hB2 _ _ hB (Nat.le_refl _),by rw [←HZ'.out];exact HO2.out⟩ | exact ⟨hB2 _ _ hB (Nat.le_refl _),by rw [←HZ'.out];exact HO2.out⟩
 ·have hno:∀j (hj:j<l.length),eqOp o l[j]=false:=by
   intro j
   induction j using Nat.strongRecOn with
   | ind j ih=>
    intro hj
    cases hc:eqOp o l[j] with
    | false=>rfl
    | true=>exact absurd ⟨j,hj,hc,fun i hi=>ih i hi (by omega)⟩ hex
  rw [idxI_miss _ l hno] at HI
  have HR:=Lib.hid (show restL o l=l from List.filter_eq_self.2 fun a ha=>by
   obtain ⟨j,hj,rfl⟩:=List.getElem_of_mem ha
   simp [hno j hj])
  have HO:=Lib.hid hown
  clear hno hex hown hnl
  go_enter Tryz.func78,Tryz.ntmps78
  go_wp2_with fail
  refine HI.out.mono ?_;rintro e w1 ⟨rfl,hB1⟩
  have HO1:=Lib.hid (own_belowO HO.out hB1)
  go_wp2_with fail
  go_ret
  first | exact ⟨n,rfl,hB1.mono hbw,by rw [HR.out];exact HO1.out⟩ | exact ⟨hB1.mono hbw,by rw [HR.out];exact HO1.out⟩
end Go.Proofs.YtbojljpldcijgaaGreat
namespace Hb
open Go Go.RowKit Go.Sort Go.Proofs
theorem cmp_bef (a b:OpR):cmpOp a b<0↔befOp a b=true:=by rw [befOp_cmp];simp
theorem bef_trans {a b c:OpR} (h1:befOp a b=true) (h2:befOp b c=true):befOp a c=true:=by
 have:=swo_op.trans a b c
 rw [ltOf_bef,ltOf_bef,ltOf_bef] at this
 exact this h1 h2
theorem bef_irrefl (a:OpR):befOp a a=false:=by
 have:=swo_op.irrefl a
 rw [ltOf_bef] at this
 exact this
theorem bef_asymm {a b:OpR} (h:befOp a b=true):befOp b a=false:=by
 rw [←Bool.not_eq_true]
 intro h2
 have:=bef_trans h h2
 rw [bef_irrefl] at this
 cases this
theorem eqOp_iff (o a:OpR):eqOp o a=true↔a.name.toList=o.name.toList∧clsOp a.typ=clsOp o.typ:=by
 unfold eqOp cmpOp orI cmpS
 by_cases h:a.name.toList=o.name.toList
 ·rw [h,bytesLess_irrefl]
  simp [cmpN_zero]
 ·have h2:(a.name.toList==o.name.toList)=false:=by simpa using h
  rw [h2]
  cases h3:Op.bytesLess a.name.toList o.name.toList <;> simp [h]
theorem bef_tri {a o:OpR} (h1:befOp a o=false) (h2:eqOp o a=false):befOp o a=true:=by
 rw [←Bool.not_eq_true,befOp_iff] at h1
 rw [←Bool.not_eq_true,eqOp_iff] at h2
 rw [befOp_iff]
 have a1:o.name.toList≤a.name.toList:=fun h=>h1 (.inl h)
 by_cases he:a.name.toList=o.name.toList
 ·have c1:¬clsOp a.typ<clsOp o.typ:=fun h=>h1 (.inr ⟨he,h⟩)
  have c2:¬clsOp a.typ=clsOp o.typ:=fun h=>h2 ⟨he,h⟩
  exact .inr ⟨he.symm,by omega⟩
 ·rcases Classical.em (o.name.toList<a.name.toList) with h | h
  ·exact .inl h
  ·exact absurd (List.le_antisymm (fun hh=>h hh) a1) he
def Sorted (l:List OpR):Prop:=l.Pairwise fun a b=>befOp a b=true
theorem valid_next {l:List OpR} (h:opsValid l=true) (j:Nat) (hj:j+1<l.length):opLt l[j] l[j+1]=true:=by
 have h1:=(opsValid_at l h).2 (j+1) hj
 unfold okJ at h1
 rw [getD_at l (j+1) hj,Nat.add_sub_cancel,getD_at l j (by omega)] at h1
 simp at h1
 exact h1.2
theorem opLt_bef {a b:OpR} (h:opLt a b=true):befOp a b=true:=by
 unfold opLt at h
 rw [befOp_cmp]
 simp at h ⊢
 exact h.1
theorem sorted_valid {l:List OpR} (h:opsValid l=true):Sorted l:=by
 unfold Sorted
 rw [List.pairwise_iff_getElem]
 have key:∀d i (hi:i+d+1<l.length),befOp l[i] l[i+d+1]=true:=by
  intro d
  induction d with
  | zero=>intro i hi;exact opLt_bef (valid_next h i hi)
  | succ d ih=>intro i hi;exact bef_trans (ih i (by omega)) (opLt_bef (valid_next h (i+d+1) (by omega)))
 intro i j hi hj hij
 have:=key (j-i-1) i (by omega)
 simp only [show i+(j-i-1)+1=j by omega] at this
 exact this
theorem Sorted.rest {l:List OpR} (h:Sorted l) (o:OpR):Sorted (restL o l):=List.Pairwise.filter _ h
theorem Sorted.mono {l:List OpR} (h:Sorted l) (o:OpR):Mono o l:=by
 intro i j hj hij hc
 rcases Nat.lt_or_ge i j with hlt | hge
 ·rw [cmp_bef] at *
  exact bef_trans ((List.pairwise_iff_getElem.1 h) i j (by omega) hj hlt) hc
 ·have:i=j:=by omega
  subst this;exact hc
theorem rest_ne (o:OpR) (l:List OpR):∀a∈restL o l,eqOp o a=false:=by
 intro a ha
 have:=(List.mem_filter.1 ha).2
 simpa using this
theorem insO_parts (o:OpR):∀(t:List OpR) (i:Nat),(∀a∈t,eqOp o a=false)→Parts o t i i→t.take i++o::t.drop i=insO o t
 | [],i,_,h=>by
  have:=h.hl
  simp at this
  subst this
  rfl
 | a::t,0,hne,h=>by
  have h1:=h.post 0 (by simp) (Nat.le_refl _)
  have h2:befOp o a=true:=bef_tri (by rw [←Bool.not_eq_true,←cmp_bef];exact h1) (hne a (by simp))
  unfold insO
  rw [if_pos ((cmp_bef o a).2 h2)]
  rfl
 | a::t,i+1,hne,h=>by
  have h1:=h.pre 0 (by simp) (by omega)
  have h2:befOp o a=false:=bef_asymm ((cmp_bef a o).1 h1)
  unfold insO
  rw [if_neg (by rw [cmp_bef,h2];simp),←insO_parts o t i (fun b hb=>hne b (by simp [hb])) ⟨Nat.le_refl _,by have:=h.hl;simpa using this,fun j hj hji=>by have:=h.pre (j+1) (by simpa using hj) (by omega);simpa using this,fun j hj hji=>by have:=h.post (j+1) (by simpa using hj) (by omega);simpa using this⟩]
  rfl
def fixedS (l:List OpR) (o:OpR):Bool :=
 if (isN o [44]||isN o [91,93]||isN o [123,125])=true then true
 else if (isN o [124]&&(!clsOp o.typ==2||(decide (0<o.prec)&&decide (o.prec≤1000))))=true then true
 else if (o.prec==0||clsOp o.typ==1)=true then false
 else (findR l o.name (5-clsOp o.typ)).isSome
def newL (l:List OpR) (o:OpR):List OpR:=if 0<o.prec then insO o (restL o l) else restL o l
def setR (l:List OpR) (o:OpR):List OpR×Int :=
 if (!opsValid l||decide (o.prec<0)||decide (1200<o.prec)||clsOp o.typ==0||decide (100<o.name.size))=true then ([],1)
 else if fixedS l o=true then ([],5)
 else if 100<(newL l o).length then ([],13) else (newL l o,0)
end Hb
namespace Hb
open Go Go.RowKit
theorem cls_ge (t:Int):0≤clsOp t:=by unfold clsOp;grind
theorem cls_le (t:Int):clsOp t≤3:=by unfold clsOp;grind
end Hb
namespace Go.Proofs.YtbojljpldcijgaaGreat
open Go.RowKit Hb
set_option maxRecDepth 100000
theorem find_box (A:Option Addr) (n cap:Nat) (l:List OpR) (c:Int) (w0 w1:World) (o:OpR) (hX:BoxAt w0 w1 o) (hn:n=l.length) (hm:n≤400) (hp:OpsAt w1 A l) :
  Calls Tryz.prog 121 #[.slice A n cap,.string o.name,.int .i64 c] w1 fun e w'=>e=.returned (.tuple #[.agg #[.string ((findR l o.name c).getD op0).name,.int .i64 ((findR l o.name c).getD op0).typ,.int .i64 ((findR l o.name c).getD op0).prec],.bool (findR l o.name c).isSome])∧BoxAt w0 w' o :=
 (ops_find A n cap l o.name c w1 hn hm hp).mono fun _ _ ⟨he,hb⟩=>⟨he,hX.call hb⟩
set_option maxHeartbeats 3200000 in
theorem ops_fixed (A:Option Addr) (n cap:Nat) (l:List OpR) (o:OpR) (w:World) (hn:n=l.length) (hm:n≤400) (hp:OpsAt w A l) :
  Calls Tryz.prog 77 #[.slice A n cap,opV o] w fun e w'=>e=.returned (.bool (fixedS l o))∧Below w.heap.size w w':=by
 have hX:=BoxAt.start w o 61
 have HF:=Lib.hid (fun (c:Int) (w1:World) (hX:BoxAt w w1 o)=>find_box A n cap l c w w1 o hX hn hm (hp.below hX.bel))
 have HC:=Lib.hid (fun (w1:World) (hX:BoxAt w w1 o)=>op_class_box hX o.typ)
 unfold opV
 have hc0:=cls_ge o.typ
 have hc3:=cls_le o.typ
 clear hp hn
 generalize hcc:clsOp o.typ=c at *
 have HCC:=Lib.hid hcc
 clear hcc
 go_enter Tryz.func77,Tryz.ntmps77
 go_wp2_with (first
  | (go_at_call 76;(with_reducible refine (HC.out _ (by with_reducible assumption)).mono ?_);rintro e w2 ⟨rfl,hX2⟩;have c0:=hX2.c0;have c1:=hX2.c1;have c2:=hX2.c2)
  | (go_at_call 121;(with_reducible refine (HF.out (5-c) _ (by with_reducible assumption)).mono ?_);rintro e w3 ⟨rfl,hX3⟩)
  | (go_at_call 121;(with_reducible refine (HF.out 3 _ (by with_reducible assumption)).mono ?_);rintro e w3 ⟨rfl,hX3⟩))
 all_goals go_ret
 all_goals refine ⟨ret_bool ?_,by first | exact BoxAt.bel (o:=o) (by with_reducible assumption) | (refine Below.alloc (BoxAt.bel (o:=o) (by with_reducible assumption)) ?_ _;exact Nat.le_of_lt (BoxAt.lt (o:=o) (by with_reducible assumption)))⟩
 all_goals have hcc:=HCC.out
 all_goals unfold fixedS isN
 all_goals grind
end Go.Proofs.YtbojljpldcijgaaGreat
namespace Hb
open Go Go.RowKit
theorem run_copy_row3 {P:Program} (w:World) (dT sT ty elem:TypeId) (g o dLen dCap:Nat) (a:Addr) (sLen sCap:Nat) (cur:List Value) (t:TypeId) (cs:List Value) (m:Nat)
  (hu:P.underlying dT=some (.slice elem)) (hs:(P.info? elem).map (·.size)=some 3)
  (hg:w.heap[g]? = some (.cells cur.toArray t (0,0))) (hm:m=Nat.min sLen dLen) (hn:cs.length=m * 3)
  (hsrc:∀j v,cs[j]? = some v→w.cell? (a.add j)=some v) (hfit:o+cs.length≤cur.length) (h1:∀v∈cs,v.oneCell'=true) :
  (Builtin.copy_ #[dT,sT] ty #[.slice (some ⟨g,o,none⟩) dLen dCap,.slice (some a) sLen sCap]).run P w =
   .ok (goInt m) (w.setRow g (cur.take o++cs++cur.drop (o+cs.length)).toArray):=by
 have hl:=run_loadCells_list (P:=P) w a cs hsrc
 have hst:=run_storeCells_at P g o t cs 0 cur.toArray w hg (by simpa using hfit) h1
 simp only [Nat.add_zero] at hst
 cases hq:P.info? elem with
 | none=>simp [hq] at hs
 | some i=>
  have hi:i.size=3:=by simpa [hq] using hs
  rw [hn] at hl
  simp [Builtin.copy_,run_underlying hu,Builtin.lenOf,Builtin.firstCells,Go.sizeOf,typeInfo,hq,hi,←hm,hl,hst]
theorem shift_lists {α:Type} (a b R oc:List α) (h3:oc.length=3) (hR:3≤R.length) :
  ∀C C',C=a++b++R→C'=C.take (a.length+3)++b++C.drop (a.length+3+b.length)→(C'.take a.length++oc++C'.drop (a.length+oc.length)).take (a.length+3+b.length)=a++oc++b∧C'.length=C.length∧(C'.take a.length++oc++C'.drop (a.length+oc.length)).length=C.length:=by
 intro C C' hC hC'
 have e1:C.take (a.length+3)=a++(b++R).take 3:=by
  rw [hC,List.append_assoc,List.take_append,List.take_of_length_le (by omega),Nat.add_sub_cancel_left]
 have e2:((b++R).take 3).length=3:=by rw [List.length_take,List.length_append];omega
 have e3:C'.take a.length=a:=by
  rw [hC',e1,List.append_assoc,List.append_assoc,List.take_append_of_le_length (Nat.le_refl _),List.take_length]
 have e4:C'.drop (a.length+oc.length)=b++C.drop (a.length+3+b.length):=by
  rw [hC',e1,h3,List.append_assoc]
  exact List.drop_left' (by rw [List.length_append,e2])
 have hl:C'.length=C.length:=by
  rw [hC',List.length_append,List.length_append,List.length_take,List.length_drop,hC]
  simp only [List.length_append]
  omega
 refine ⟨?_,hl,?_⟩
 ·rw [e3,e4,←List.append_assoc]
  exact List.take_left' (by simp only [List.length_append];omega)
 ·rw [e3,List.length_append,List.length_append,List.length_drop,hl,hC]
  simp only [List.length_append]
  omega
theorem grow_lists {α:Type} (a b Z oc:List α) (h3:oc.length=3) (hZ:3+b.length≤Z.length) :
  ∀C C1,C=a++Z→C1=C.take a.length++oc++C.drop (a.length+oc.length)→(C1.take (a.length+3)++b++C1.drop (a.length+3+b.length)).take (a.length+3+b.length)=a++oc++b∧C1.length=C.length∧(C1.take (a.length+3)++b++C1.drop (a.length+3+b.length)).length=C.length:=by
 intro C C1 hC hC1
 have e1:C.take a.length=a:=by rw [hC];exact List.take_left' rfl
 have e2:C1.take (a.length+3)=a++oc:=by
  rw [hC1,e1];exact List.take_left' (by rw [List.length_append];omega)
 have hl:C1.length=C.length:=by
  rw [hC1,e1,List.length_append,List.length_append,List.length_drop,hC,List.length_append];omega
 refine ⟨?_,hl,?_⟩
 ·rw [e2]
  exact List.take_left' (by simp only [List.length_append];omega)
 ·rw [e2,List.length_append,List.length_append,List.length_append,List.length_drop,hl,hC,List.length_append];omega
theorem oc_split (l:List OpR) (i:Nat) (o:OpR):opsCells (l.take i++o::l.drop i)=opsCells (l.take i)++opCells o++opsCells (l.drop i):=by
 rw [opsCells_app,List.append_assoc];rfl
theorem own_row {w:World} {base e n g cap:Nat} {l:List OpR} (h:w.ownsRow base e 3 (.slice (some ⟨g,0,none⟩) n cap) n (opsCells l)):∃R,w.heap[g]? = some (.cells (opsCells l++R).toArray e (0,0))∧(opsCells l++R).length=cap * 3∧n≤cap∧cap≤maxLen∧base≤g:=by
 rcases h.2 with ⟨hv,_⟩ | ⟨g',cap',cur,hv,hb,hg,hnc,hcm,hcs,htake⟩
 ·cases hv
 ·injection hv with h1 h2 h3
  injection h1 with h1
  injection h1 with h1 _ _
  subst h1;subst h3
  refine ⟨cur.toList.drop (n * 3),?_,?_,hnc,hcm,hb⟩
  ·rw [←htake,List.take_append_drop];exact hg
  ·rw [←htake,List.take_append_drop,Array.length_toList];exact hcs
theorem row_own {w:World} {base e n g cap:Nat} {l:List OpR} {C:List Value} (hg:w.heap[g]? = some (.cells C.toArray e (0,0))) (hC:C.length=cap * 3) (hn:n=l.length) (hnc:n≤cap) (hcm:cap≤maxLen) (hb:base≤g) (ht:C.take (n * 3)=opsCells l):w.ownsRow base e 3 (.slice (some ⟨g,0,none⟩) n cap) n (opsCells l) :=
 ⟨by rw [opsCells_len,hn],.inr ⟨g,cap,C.toArray,rfl,hb,hg,hnc,hcm,by simpa using hC,by simpa using ht⟩⟩
end Hb
namespace Go.Proofs.YtbojljpldcijgaaGreat
open Go.RowKit Hb
set_option maxRecDepth 100000
theorem at_copyO {ops:Array Oper} {rest:List Oper} {a:Act} {Q:Exit→Act→World→Prop} {w:World} {d t p f x g} (h:wpList Tryz.prog ops Q (⟨d,.call { callee:=.builtin .copy,args:=x,argTypes:=#[22,22] },t,p,f,g⟩::rest) a w):wpList Tryz.prog ops Q (⟨d,.call { callee:=.builtin .copy,args:=x,argTypes:=#[22,22] },t,p,f,g⟩::rest) a w:=h
theorem size_op:(Tryz.prog.info? 61).map (·.size)=some 3:=by kernel_rfl
theorem sizeOf_op:∀w,(Go.sizeOf 61).run Tryz.prog w=.ok 3 w:=fun w=>by
 obtain ⟨i,hi,_,hz,_⟩:=info_parts infoOp
 simp [Go.sizeOf,typeInfo,hi,hz]
theorem overlaps_no (w:World) (vb g p m vc lb cb:Nat) (hne:vb≠g) (c1 c2:Array Value) (t1 t2:TypeId) (h1:w.heap[vb]? = some (.cells c1 t1 (0,0))) (h2:w.heap[g]? = some (.cells c2 t2 (0,0))) (hs:c2.size≠0) :
  (callFunc 123 #[.slice (some ⟨vb,0,none⟩) m vc,.slice (some ⟨g,p,none⟩) lb cb]).run Tryz.prog w=.ok (.value (.bool false)) w:=by
 rw [run_callFunc_extern Tryz.func123 (by kernel_rfl) (by kernel_rfl) (by kernel_rfl) (e:=Extern.SlicesOverlaps.overlaps #[22,22] #[4]) (by kernel_rfl),
  Lib.run_overlaps_apart w 22 4 61 Tryz.underlying22 3 sizeOf_op ⟨vb,0,none⟩ ⟨g,p,none⟩ m vc lb cb hne t1 t2 c1.size c2.size (by simp [World.shape?,h1]) (by simp [World.shape?,h2]) hs (by simp [World.frozen?,h1]) (by simp [World.frozen?,h1])]
 rfl
set_option maxHeartbeats 3200000 in
theorem ops_insert_end (A:Option Addr) (n cap:Nat) (l:List OpR) (o:OpR) (vb base:Nat) (w:World) (hm:n≤400) (hown:w.ownsRow base 61 3 (.slice A n cap) n (opsCells l)) (hbw:base≤w.heap.size) (hv:w.heap[vb]? = some (.cells #[.string o.name,.int .i64 o.typ,.int .i64 o.prec] 61 (0,0))) :
  Calls Tryz.prog 82 #[.slice A n cap,.int .i64 n,.slice (some ⟨vb,0,none⟩) 1 1] w fun e w'=>∃A' cap',e=.returned (.slice A' (n+1) cap')∧Below base w w'∧w'.ownsRow base 61 3 (.slice A' (n+1) cap') (n+1) (opsCells (l++[o])):=by
 obtain ⟨i,hi,hz0,hz1,hz2⟩:=info_parts infoOp
 have HI:=Lib.hid hi
 have HZ0:=Lib.hid hz0
 have HZ1:=Lib.hid hz1
 have HZ2:=Lib.hid hz2
 have HO:=Lib.hid hown
 have HV:=Lib.hid hv
 have hcap:n≤cap∧cap≤maxLen:=by
  rcases hown.2 with ⟨h1,h2⟩ | ⟨g',cap',cur,h1,_,_,h5,h6,_⟩
  ·injection h1 with _ _ h3;subst h3;subst h2;exact ⟨Nat.le_refl _,by unfold maxLen;omega⟩
  ·injection h1 with _ _ h3;subst h3;exact ⟨h5,h6⟩
 obtain ⟨hcap1,hcap2⟩:=hcap
 unfold maxLen at hcap2
 have HS:Hid (∀j u,(opCells o)[j]? = some u→w.cell? ((⟨vb,0,none⟩:Addr).add j)=some u):=Lib.hid fun j u hu=>by
  rw [add_at,Nat.zero_add,cell_of_heap hv]
  simpa [opCells] using hu
 have HG:Hid (∀w',w.grownBy w' (Value.slice A n cap).ownBlock→Below base w w'):=Lib.hid fun w' hg=>(Below.refl base w).grown hg hbw fun k hk=>(hown.lt k hk).1
 clear hi hz0 hz1 hz2 hown hv
 cases A with
 | none=>
  have hn0:n=0∧cap=0:=by
   rcases HO.out.2 with ⟨h1,h2⟩ | ⟨g',cap',cur,h1,_⟩
   ·injection h1 with _ _ h3;exact ⟨h2,h3⟩
   ·cases h1
  obtain ⟨rfl,rfl⟩:=hn0
  go_enter Tryz.func82,Tryz.ntmps82
  go_wp2_with (at_builtin;go_must (refine wpList_append_own _ rfl _ _ 22 rfl base 61 i _ 3 32 Tryz.underlying22 HI.out HZ0.out HZ1.out HZ2.out rfl (by decide) _ 0 (opsCells l) rfl HO.out ⟨vb,0,none⟩ 1 1 (opCells o) rfl rfl HS.out (oc_one [o]) (by unfold maxLen;omega) (by omega) (by omega) ?_;intro v1 w1 hown1 hg1 _))
  have hB:=HG.out w1 hg1
  obtain ⟨A',cap',rfl⟩:=own_sliceO hown1
  have HO1:=Lib.hid hown1
  clear hown1
  go_ret
  first | exact ⟨A',⟨cap',rfl⟩,hB,by rw [opsCells_app];exact HO1.out⟩ | exact ⟨A',cap',rfl,hB,by rw [opsCells_app];exact HO1.out⟩
 | some ad=>
  obtain ⟨g,rfl⟩:∃g,ad=⟨g,0,none⟩:=by
   rcases HO.out.2 with ⟨h1,_⟩ | ⟨g',cap',cur,h1,_⟩
   ·cases h1
   ·injection h1 with h1 _ _;injection h1 with h1;exact ⟨g',h1⟩
  go_enter Tryz.func82,Tryz.ntmps82
  go_wp2_with (at_builtin;go_must (refine wpList_append_own _ rfl _ _ 22 rfl base 61 i _ 3 32 Tryz.underlying22 HI.out HZ0.out HZ1.out HZ2.out rfl (by decide) _ n (opsCells l) rfl HO.out ⟨vb,0,none⟩ 1 1 (opCells o) rfl rfl HS.out (oc_one [o]) (by unfold maxLen;omega) (by omega) (by omega) ?_;intro v1 w1 hown1 hg1 _))
  all_goals
   have hB:=HG.out w1 hg1
   obtain ⟨A',cap',rfl⟩:=own_sliceO hown1
   have HO1:=Lib.hid hown1
   clear hown1
   go_ret
   first | exact ⟨A',⟨cap',rfl⟩,hB,by rw [opsCells_app];exact HO1.out⟩ | exact ⟨A',cap',rfl,hB,by rw [opsCells_app];exact HO1.out⟩
set_option maxHeartbeats 3200000 in
theorem ops_insert_shift (g n cap i : Nat) (l : List OpR) (o : OpR) (vb base : Nat) (w : World) (hm : n ≤ 400) (hin : i < n) (hroom : n + 1 ≤ cap) (hown : w.ownsRow base 61 3 (.slice (some ⟨g, 0, none⟩) n cap) n (opsCells l)) (hne : vb ≠ g) (hv : w.heap[vb]? = some (.cells #[.string o.name, .int .i64 o.typ, .int .i64 o.prec] 61 (0, 0))) :
  Calls Tryz.prog 82 #[.slice (some ⟨g, 0, none⟩) n cap, .int .i64 i, .slice (some ⟨vb, 0, none⟩) 1 1] w fun e w' => e = .returned (.slice (some ⟨g, 0, none⟩) (n + 1) cap) ∧ Below base w w' ∧ w'.ownsRow base 61 3 (.slice (some ⟨g, 0, none⟩) (n + 1) cap) (n + 1) (opsCells (l.take i ++ o :: l.drop i)) := by
 have hln := own_len hown
 obtain ⟨R, hrow, hrl, hnc, hcm, hbg⟩ := own_row hown
 have ha : (opsCells (l.take i)).length = i * 3 := by rw [opsCells_len, List.length_take]; omega
 have hb : (opsCells (l.drop i)).length = (n - i) * 3 := by rw [opsCells_len, List.length_drop]; omega
 have hab : opsCells l = opsCells (l.take i) ++ opsCells (l.drop i) := by rw [← opsCells_app, List.take_append_drop]
 have hRl : 3 ≤ R.length := by rw [List.length_append, opsCells_len] at hrl; omega
 rw [hab] at hrow hrl
 obtain ⟨C, hC⟩ : ∃ C, C = opsCells (l.take i) ++ opsCells (l.drop i) ++ R := ⟨_, rfl⟩
 rw [← hC] at hrow hrl
 obtain ⟨C', hC'⟩ : ∃ C', C' = C.take (i * 3 + 3) ++ opsCells (l.drop i) ++ C.drop (i * 3 + 3 + (n - i) * 3) := ⟨_, rfl⟩
 obtain ⟨C2, hC2⟩ : ∃ C2, C2 = C'.take (i * 3) ++ opCells o ++ C'.drop (i * 3 + (opCells o).length) := ⟨_, rfl⟩
 obtain ⟨hT, hl1, hl2⟩ := shift_lists (opsCells (l.take i)) (opsCells (l.drop i)) R (opCells o) rfl hRl C C' hC (by rw [ha, hb]; exact hC')
 rw [ha, hb, ← hC2] at hT
 rw [ha, ← hC2] at hl2
 obtain ⟨z, hz⟩ : ∃ z, z = 0 := ⟨0, rfl⟩
 have hcp1 : Hid (∀ (W : World) (ty : TypeId) (dc sc : Nat), W.heap[g]? = some (.cells C.toArray 61 (0, 0)) → (Builtin.copy_ #[22, 22] ty #[.slice (some ⟨g, z + (i + 1) * 3, none⟩) (n - i) dc, .slice (some ⟨g, z + i * 3, none⟩) (n + 1 - i) sc]).run Tryz.prog W = .ok (goInt ((n - i : Nat) : Int)) (W.setRow g C'.toArray)) := Lib.hid fun W ty dc sc hW => by
  have h := run_copy_row3 (P := Tryz.prog) W 22 22 ty 61 g (z + (i + 1) * 3) (n - i) dc ⟨g, z + i * 3, none⟩ (n + 1 - i) sc C 61 (opsCells (l.drop i)) (n - i) Tryz.underlying22 size_op hW (by simp only [Nat.min_def]; split <;> omega) hb
   (fun j v hj => by
    have hjl : j < (n - i) * 3 := by
     rcases Nat.lt_or_ge j ((n - i) * 3) with h | h
     ·exact h
     ·rw [List.getElem?_eq_none (by omega)] at hj; cases hj
    rw [add_at, cell_of_heap hW, hz, Nat.zero_add]
    simp only [List.getElem?_toArray]
    rw [hC, List.append_assoc, List.getElem?_append_right (by omega), ha, List.getElem?_append_left (by omega), Nat.add_sub_cancel_left]
    exact hj) (by rw [hb]; omega) (oc_one _)
  rw [h, hC', hz, hb]
  rw [show 0 + (i + 1) * 3 = i * 3 + 3 by omega]
 have hcp2 : Hid (∀ (W : World) (ty : TypeId) (dc : Nat), W.heap[g]? = some (.cells C'.toArray 61 (0, 0)) → W.heap[vb]? = some (.cells #[.string o.name, .int .i64 o.typ, .int .i64 o.prec] 61 (0, 0)) → (Builtin.copy_ #[22, 22] ty #[.slice (some ⟨g, z + i * 3, none⟩) (n + 1 - i) dc, .slice (some ⟨vb, 0, none⟩) 1 1]).run Tryz.prog W = .ok (goInt 1) (W.setRow g C2.toArray)) := Lib.hid fun W ty dc hW hWv => by
  have h := run_copy_row3 (P := Tryz.prog) W 22 22 ty 61 g (z + i * 3) (n + 1 - i) dc ⟨vb, 0, none⟩ 1 1 C' 61 (opCells o) 1 Tryz.underlying22 size_op hW (by simp only [Nat.min_def]; split <;> omega) rfl
   (fun j v hj => by
    rw [add_at, Nat.zero_add, cell_of_heap hWv]
    simpa [opCells] using hj) (by rw [hl1, hrl, hz]; simp [opCells]; omega) (oc_one [o])
  rw [h, hC2, hz, Nat.zero_add]
  rfl
 have HROW := Lib.hid hrow
 have HV := Lib.hid hv
 have HOV : Hid (∀ (W : World) (p m vc lb cb : Nat), W.heap[g]? = some (.cells C.toArray 61 (0, 0)) → W.heap[vb]? = some (.cells #[.string o.name, .int .i64 o.typ, .int .i64 o.prec] 61 (0, 0)) → (callFunc 123 #[.slice (some ⟨vb, 0, none⟩) m vc, .slice (some ⟨g, p, none⟩) lb cb]).run Tryz.prog W = .ok (.value (.bool false)) W) := Lib.hid fun W p m vc lb cb h1 h2 => overlaps_no W vb g p m vc lb cb hne _ _ _ _ h2 h1 (by simp [hrl]; omega)
 have HFIN : Hid (∀ W' : World, W'.heap[g]? = some (.cells C2.toArray 61 (0, 0)) → W'.ownsRow base 61 3 (.slice (some ⟨g, 0, none⟩) (n + 1) cap) (n + 1) (opsCells (l.take i ++ o :: l.drop i))) := Lib.hid fun W' h => row_own h (by rw [hl2, hrl]) (by rw [List.length_append, List.length_take, List.length_cons, List.length_drop]; omega) hroom hcm hbg (by rw [oc_split, ← hT]; congr 1; omega)
 have HZ' := Lib.hid (show (⟨g, 0, none⟩ : Addr) = ⟨g, z, none⟩ by rw [hz])
 rw [HZ'.out]
 unfold maxLen at hcm
 have hov := HOV.out w (z + (i + 1) * 3) 1 1
 have hov1 := fun lb cb => hov lb cb hrow hv
 clear hov hown ha hb hab hRl hC hC' hC2 hT hl1 hl2 hrl hz hrow hv HOV hln
 have e1 : ¬ (i = n) := by omega
 have e2 : ¬ (cap = i) := by omega
 have e3 : ¬ (cap = i + 1) := by omega
 have e4 : ¬ (cap < n + 1) := by omega
 have e5 : ((i : Int) == (n : Int)) = false := by rw [beq_eq_false_iff_ne]; omega
 have e6 : decide ((cap : Int) < (n : Int) + 1) = false := by simp; omega
 have mixed : Tryz.prog.follows Departure.mixedOrders = true := by kernel_rfl
 have q1 : IntKind.i64.wrap ((i : Int) + 1) = (i : Int) + 1 := IntWalk.i64_in _ (by omega)
 have q2 : (0 : Int) ≤ (i : Int) + 1 := by omega
 have q3 : (i : Int) + 1 ≤ (n : Int) + 1 := by omega
 have q4 : ((i : Int) + 1).toNat = i + 1 := by omega
 have q5 : (0 : Int) ≤ (i : Int) := by omega
 have q6 : (i : Int) ≤ (n : Int) + 1 := by omega
 go_enter Tryz.func82, Tryz.ntmps82
 go_wp2_with (simp only [hov1])
 go_region_law_o (refine step_copy_runI rfl _ _ 22 22 rfl (.slice (some ⟨g, z + (i + 1) * 3, none⟩) (n - i) (cap - (i + 1))) (.slice (some ⟨g, z + i * 3, none⟩) (n + 1 - i) (cap - i)) (by simp [Act.eval, Act.put]) (by simp [Act.eval, Act.put]) (hcp1.out w.drew 3 (cap - (i + 1)) (cap - i) HROW.out) ?_)
 go_wp2_with ((with_reducible refine at_copyO ?_); go_must (refine wpList_copy_runI _ rfl _ _ 22 22 rfl _ _ rfl rfl (hcp2.out (w.drew.setRow g C'.toArray) 3 (cap - i) (setRow_heap w.drew g _ _ _ _ HROW.out) ((setRow_other w.drew g vb _ hne).trans HV.out)) ?_))
 go_ret
 exact ⟨rfl, below_setRow (below_setRow (Below.refl base w).drew hbg _) hbg _, by rw [← HZ'.out]; exact HFIN.out _ (setRow_heap _ g _ _ _ _ (setRow_heap w.drew g _ _ _ _ HROW.out))⟩
set_option maxHeartbeats 3200000 in
theorem ops_insert_grow (g n cap i : Nat) (l : List OpR) (o : OpR) (vb base : Nat) (w : World) (hm : n ≤ 400) (hin : i < n) (hroom : cap < n + 1) (hown : w.ownsRow base 61 3 (.slice (some ⟨g, 0, none⟩) n cap) n (opsCells l)) (hbw : base ≤ w.heap.size) (hv : w.heap[vb]? = some (.cells #[.string o.name, .int .i64 o.typ, .int .i64 o.prec] 61 (0, 0))) :
  Calls Tryz.prog 82 #[.slice (some ⟨g, 0, none⟩) n cap, .int .i64 i, .slice (some ⟨vb, 0, none⟩) 1 1] w fun e w' => ∃ A' cap', e = .returned (.slice A' (n + 1) cap') ∧ Below base w w' ∧ w'.ownsRow base 61 3 (.slice A' (n + 1) cap') (n + 1) (opsCells (l.take i ++ o :: l.drop i)) := by
 obtain ⟨i0, hi0, hz0, hzs, hzb⟩ := info_parts infoOp
 have hln := own_len hown
 obtain ⟨R, hrow, hrl, hnc, hcm, hbg⟩ := own_row hown
 have hgw : g < w.heap.size := (hown.lt g rfl).2
 have hvw : vb < w.heap.size := (Array.getElem?_eq_some_iff.1 hv).1
 have hinL := own_in hown
 have ha : (opsCells (l.take i)).length = i * 3 := by rw [opsCells_len, List.length_take]; omega
 have hb : (opsCells (l.drop i)).length = (n - i) * 3 := by rw [opsCells_len, List.length_drop]; omega
 obtain ⟨z, hz⟩ : ∃ z, z = 0 := ⟨0, rfl⟩
 have hinA : OpsIn w g z (l.take i) := fun j hj => by
  rw [List.length_take] at hj
  have := hinL j (by omega)
  rw [hz, List.getElem_take]
  exact this
 have hinB : OpsIn w g (z + i * 3) (l.drop i) := fun j hj => by
  rw [List.length_drop] at hj
  have := hinL (i + j) (by omega)
  rw [hz, List.getElem_drop]
  rw [show 0 + i * 3 + j * 3 = 0 + (i + j) * 3 by omega]
  exact this
 have hold : (Builtin.firstCells i0.size i (.slice (some ⟨g, z, none⟩) i cap)).run Tryz.prog w.drew = .ok (opsCells (l.take i)).toArray w.drew := by
  rw [hzs]
  exact run_firstCells_some w.drew 3 i ⟨g, z, none⟩ i cap _ ha (oc_at (w := w.drew) hinA)
 have hik : i + (n + 1 - i) = n + 1 := by omega
 obtain ⟨G, hG⟩ : ∃ G, G = grownCap w (n + 1) cap 61 := ⟨_, rfl⟩
 have hGn : n + 1 ≤ G := by rw [hG]; exact grownCap_ge w _ _ _
 have hG63 : G ≤ maxLen := by rw [hG]; exact grownCap_le_maxLen w (n + 1) cap 61 (by unfold maxLen; omega)
 obtain ⟨Z1, hZ1⟩ : ∃ Z : List Value, Z = (Builtin.zeroCells (Value.agg #[.string ⟨#[]⟩, .int .i64 0, .int .i64 0]).cells (n + 1 - i)).toList ++ (Builtin.zeroCells (Value.agg #[.string ⟨#[]⟩, .int .i64 0, .int .i64 0]).cells (G - (n + 1))).toList := ⟨_, rfl⟩
 have hZl : Z1.length = (G - i) * 3 := by rw [hZ1, List.length_append, zero_len, zero_len]; omega
 obtain ⟨C, hC⟩ : ∃ C, C = opsCells (l.take i) ++ Z1 := ⟨_, rfl⟩
 obtain ⟨C1, hC1⟩ : ∃ C1, C1 = C.take (i * 3) ++ opCells o ++ C.drop (i * 3 + (opCells o).length) := ⟨_, rfl⟩
 obtain ⟨C2, hC2⟩ : ∃ C2, C2 = C1.take (i * 3 + 3) ++ opsCells (l.drop i) ++ C1.drop (i * 3 + 3 + (n - i) * 3) := ⟨_, rfl⟩
 obtain ⟨hT, hl1, hl2⟩ := grow_lists (opsCells (l.take i)) (opsCells (l.drop i)) Z1 (opCells o) rfl (by rw [hb, hZl]; omega) C C1 hC (by rw [ha]; exact hC1)
 rw [ha, hb, ← hC2] at hT hl2
 have hCl : C.length = G * 3 := by rw [hC, List.length_append, ha, hZl]; omega
 have hrz : Hid (∀ ty, (Builtin.append_ #[22, 3] ty #[.slice (some ⟨g, z, none⟩) i cap, .int .i64 ((n : Int) + 1 - (i : Int))]).run Tryz.prog w = .ok (.slice (some ⟨w.heap.size, 0, none⟩) (n + 1) G) (w.drew.alloc (.cells C.toArray 61))) := Lib.hid fun ty => by
  have h := Lib.run_append_grow_zeros w 22 3 ty 61 i0 _ .i64 .i64 Tryz.underlying22 Tryz.underlying3 hi0 hz0 (some ⟨g, z, none⟩) i cap (opsCells (l.take i)) hold (n + 1 - i) (by omega) (by omega) (by omega) (by omega) (by rw [hzb]; omega) (by rw [hzb, hik]; exact growslice_fits hroom (by omega))
  rw [hik, ← hG] at h
  rw [show (n : Int) + 1 - (i : Int) = ((n + 1 - i : Nat) : Int) by omega, h]
  rw [hC, hZ1]
  congr 4
  simp
 have hcpA : Hid (∀ (W : World) (ty : TypeId) (dc : Nat), W.heap[w.heap.size]? = some (.cells C.toArray 61 (0, 0)) → W.heap[vb]? = some (.cells #[.string o.name, .int .i64 o.typ, .int .i64 o.prec] 61 (0, 0)) → (Builtin.copy_ #[22, 22] ty #[.slice (some ⟨w.heap.size, i * 3, none⟩) (n + 1 - i) dc, .slice (some ⟨vb, 0, none⟩) 1 1]).run Tryz.prog W = .ok (goInt 1) (W.setRow w.heap.size C1.toArray)) := Lib.hid fun W ty dc hW hWv => by
  have h := run_copy_row3 (P := Tryz.prog) W 22 22 ty 61 w.heap.size (i * 3) (n + 1 - i) dc ⟨vb, 0, none⟩ 1 1 C 61 (opCells o) 1 Tryz.underlying22 size_op hW (by simp only [Nat.min_def]; split <;> omega) rfl
   (fun j v hj => by
    rw [add_at, Nat.zero_add, cell_of_heap hWv]
    simpa [opCells] using hj) (by rw [hCl]; simp [opCells]; omega) (oc_one [o])
  rw [h, hC1]
  rfl
 have hcpB : Hid (∀ (W : World) (ty : TypeId) (dc sc : Nat), W.heap[w.heap.size]? = some (.cells C1.toArray 61 (0, 0)) → W.heap[g]? = w.heap[g]? → (Builtin.copy_ #[22, 22] ty #[.slice (some ⟨w.heap.size, (i + 1) * 3, none⟩) (n - i) dc, .slice (some ⟨g, z + i * 3, none⟩) (n - i) sc]).run Tryz.prog W = .ok (goInt ((n - i : Nat) : Int)) (W.setRow w.heap.size C2.toArray)) := Lib.hid fun W ty dc sc hW hWg => by
  have h := run_copy_row3 (P := Tryz.prog) W 22 22 ty 61 w.heap.size ((i + 1) * 3) (n - i) dc ⟨g, z + i * 3, none⟩ (n - i) sc C1 61 (opsCells (l.drop i)) (n - i) Tryz.underlying22 size_op hW (by simp only [Nat.min_def]; split <;> omega) hb
   (fun j v hj => by
    have := oc_at hinB j v hj
    rw [add_at] at this ⊢
    rw [← this]
    exact World.cell?_of_block hWg) (by rw [hb, hl1, hCl]; omega) (oc_one _)
  rw [h, hC2, hb]
  rw [show (i + 1) * 3 = i * 3 + 3 by omega]
 have HV := Lib.hid hv
 have HFIN : Hid (∀ W' : World, W'.heap[w.heap.size]? = some (.cells C2.toArray 61 (0, 0)) → W'.ownsRow base 61 3 (.slice (some ⟨w.heap.size, 0, none⟩) (n + 1) G) (n + 1) (opsCells (l.take i ++ o :: l.drop i))) := Lib.hid fun W' h => row_own h (by rw [hl2, hCl]) (by rw [List.length_append, List.length_take, List.length_cons, List.length_drop]; omega) hGn hG63 hbw (by rw [oc_split, ← hT]; congr 1; omega)
 have HZ' := Lib.hid (show (⟨g, 0, none⟩ : Addr) = ⟨g, z, none⟩ by rw [hz])
 rw [HZ'.out]
 have HA0 : Hid ((w.drew.alloc (.cells C.toArray 61)).heap[w.heap.size]? = some (.cells C.toArray 61 (0, 0))) := Lib.hid (heap_alloc_new w.drew _)
 have HA1 : Hid ((w.drew.alloc (.cells C.toArray 61)).heap[vb]? = some (.cells #[.string o.name, .int .i64 o.typ, .int .i64 o.prec] 61 (0, 0))) := Lib.hid (((Below.refl w.heap.size w.drew).alloc (Nat.le_refl _) _).block vb hvw |>.trans hv)
 have HA2 : Hid ((w.drew.alloc (.cells C.toArray 61)).heap[g]? = w.heap[g]?) := Lib.hid (((Below.refl w.heap.size w.drew).alloc (Nat.le_refl _) _).block g hgw)
 have HB0 : Hid (Below base w (w.drew.alloc (.cells C.toArray 61))) := Lib.hid (((Below.refl base w).drew).alloc hbw _)
 unfold maxLen at hcm hG63
 clear hown ha hb hC hC1 hC2 hT hl1 hl2 hrl hz hrow hv hln hold hinA hinB hinL hG hZ1 hZl hCl hik hi0 hz0 hzs hzb
 have hNe : g ≠ w.heap.size := by omega
 have e1 : ¬ (i = n) := by omega
 have e2 : ¬ (cap = i) := by omega
 have e3 : ¬ (G = i) := by omega
 have e4 : ¬ (G = i + 1) := by omega
 have e5 : ((i : Int) == (n : Int)) = false := by rw [beq_eq_false_iff_ne]; omega
 have e6 : decide ((cap : Int) < (n : Int) + 1) = true := by simp; omega
 have e7 : (cap : Int) < (n : Int) + 1 := by omega
 have mixed : Tryz.prog.follows Departure.mixedOrders = true := by kernel_rfl
 have q1 : IntKind.i64.wrap ((i : Int) + 1) = (i : Int) + 1 := IntWalk.i64_in _ (by omega)
 have q2 : (0 : Int) ≤ (i : Int) + 1 := by omega
 have q3 : (i : Int) + 1 ≤ (n : Int) + 1 := by omega
 have q4 : ((i : Int) + 1).toNat = i + 1 := by omega
 have q5 : (0 : Int) ≤ (i : Int) := by omega
 have q6 : (i : Int) ≤ (n : Int) + 1 := by omega
 have q7 : (i : Int) ≤ (n : Int) := by omega
 go_enter Tryz.func82, Tryz.ntmps82
 go_wp2_with (first
  | (at_builtin; refine Lib.wpList_append_run _ rfl _ _ _ _ rfl _ _ rfl rfl _ _ (hrz.out _) ?_)
  | ((with_reducible refine at_copyO ?_); go_must (refine wpList_copy_runI _ rfl _ _ 22 22 rfl _ _ rfl rfl (hcpA.out _ 3 (G - i) HA0.out HA1.out) ?_)))
 go_region_law_o (refine step_copy_runI rfl _ _ 22 22 rfl (.slice (some ⟨w.heap.size, (i + 1) * 3, none⟩) (n - i) (G - (i + 1))) (.slice (some ⟨g, z + i * 3, none⟩) (n - i) (cap - i)) (by simp [Act.eval, Act.put]) (by simp [Act.eval, Act.put]) (hcpB.out (((w.alloc (.cells C.toArray 61)).drew.setRow w.heap.size C1.toArray).drew) 3 (G - (i + 1)) (cap - i) (setRow_heap (w.drew.alloc (.cells C.toArray 61)) _ _ _ _ _ HA0.out) ((setRow_other (w.drew.alloc (.cells C.toArray 61)) _ g _ hNe).trans HA2.out)) ?_)
 go_wp2_with fail
 go_ret
 have hBf : Below base w (((w.alloc (.cells C.toArray 61)).drew.setRow w.heap.size C1.toArray).drew.setRow w.heap.size C2.toArray) := by
  have h1 : Below base w (w.alloc (.cells C.toArray 61)).drew := ((Below.refl base w).alloc hbw _).drew
  exact below_setRow (below_setRow h1 hbw _).drew hbw _
 have hOf := HFIN.out (((w.alloc (.cells C.toArray 61)).drew.setRow w.heap.size C1.toArray).drew.setRow w.heap.size C2.toArray) (setRow_heap _ _ _ _ _ _ (setRow_heap (w.drew.alloc (.cells C.toArray 61)) _ _ _ _ _ HA0.out))
 exact ⟨_, _, rfl, hBf, hOf⟩
theorem ops_insert (A:Option Addr) (n cap i:Nat) (l:List OpR) (o:OpR) (vb base:Nat) (w:World) (hm:n≤400) (hin:i≤n) (hown:w.ownsRow base 61 3 (.slice A n cap) n (opsCells l)) (hbw:base≤w.heap.size) (hne:∀g,A=some ⟨g,0,none⟩→vb≠g) (hv:w.heap[vb]? = some (.cells #[.string o.name,.int .i64 o.typ,.int .i64 o.prec] 61 (0,0))) :
  Calls Tryz.prog 82 #[.slice A n cap,.int .i64 i,.slice (some ⟨vb,0,none⟩) 1 1] w fun e w'=>∃A' cap',e=.returned (.slice A' (n+1) cap')∧Below base w w'∧w'.ownsRow base 61 3 (.slice A' (n+1) cap') (n+1) (opsCells (l.take i++o::l.drop i)):=by
 have hln:=own_len hown
 rcases Nat.lt_or_ge i n with h | h
 ·obtain ⟨g,cap',hA⟩:=own_some hown (by omega)
  injection hA with hA _ _
  subst hA
  rcases Nat.lt_or_ge cap (n+1) with h2 | h2
  ·exact ops_insert_grow g n cap i l o vb base w hm h h2 hown hbw hv
  ·exact (ops_insert_shift g n cap i l o vb base w hm h h2 hown (hne g rfl) hv).mono fun e w' ⟨he,hB,hO⟩=>⟨_,cap,he,hB,hO⟩
 ·obtain rfl:i=n:=by omega
  have e1:l.take i=l:=List.take_of_length_le (by omega)
  have e2:l.drop i=[]:=List.drop_eq_nil_of_le (by omega)
  rw [e1,e2]
  exact ops_insert_end A i cap l o vb base w hm hown hbw hv
end Go.Proofs.YtbojljpldcijgaaGreat
