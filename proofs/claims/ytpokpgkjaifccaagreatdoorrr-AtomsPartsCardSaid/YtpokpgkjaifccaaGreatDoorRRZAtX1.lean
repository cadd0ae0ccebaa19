/- Atoms: three rows in the making at once (AtomsParts). -/
import Derived.Test.YtpokpgkjaifccaaGreatDoorRRH01
import Derived.Test.YtpokpgkjaifccaaGreatDoorRRH29
import Derived.Test.YtpokpgkjaifccaaGreatDoorRRH14
import Derived.Test.YtpokpgkjaifccaaGreatDoorRRZAtX0
namespace Hb
open Go Go.RowKit
def vec3 {α:Type} (a b c:α):Fin 3→α | 0=>a | 1=>b | 2=>c
structure Three (lo:Nat) (e:TypeId) (w:World) (v:Fin 3→Value) (rs:Fin 3→List TR):Prop where
 own:∀i,w.ownsRow lo e 4 (v i) (rs i).length (rowsC (rs i))
 ne:∀i j,i≠j→∀b,(v i).ownBlock=some b→(v j).ownBlock≠some b
 sub:∀i,∀r∈rs i,TmsK (fun b=>lo≤b∧b<w.heap.size∧∀j,(v j).ownBlock≠some b) w r.2.1 r.1.args
theorem Three.nul (lo:Nat) (e:TypeId) (w:World):Three lo e w (vec3 (.slice none 0 0) (.slice none 0 0) (.slice none 0 0)) (vec3 [] [] []) where
 own:=fun i=>by match i with | 0=>exact World.ownsRow_nil _ _ _ _ | 1=>exact World.ownsRow_nil _ _ _ _ | 2=>exact World.ownsRow_nil _ _ _ _
 ne:=fun i j _ b hb=>by match i,hb with | 0,hb=>cases hb | 1,hb=>cases hb | 2,hb=>cases hb
 sub:=fun i r hr=>by match i,hr with | 0,hr=>cases hr | 1,hr=>cases hr | 2,hr=>cases hr
theorem own_keep {lo:Nat} {e:TypeId} {w w':World} {v:Value} {n:Nat} {xs:List Value} {sz:Nat} (h:w.ownsRow lo e sz v n xs) (hb:∀b,v.ownBlock=some b→w'.heap[b]? = w.heap[b]?):w'.ownsRow lo e sz v n xs:=by
 refine ⟨h.1,?_⟩
 rcases h.2 with hn | ⟨g,cap,cur,hv,hg,hh,rest⟩
 ·exact .inl hn
 ·exact .inr ⟨g,cap,cur,hv,hg,by rw [hb g (by rw [hv];rfl)];exact hh,rest⟩
theorem Three.below {lo:Nat} {e:TypeId} {w w':World} {v:Fin 3→Value} {rs:Fin 3→List TR} (h:Three lo e w v rs) (hB:Below w.heap.size w w'):Three lo e w' v rs where
 own:=fun i=>own_keep (h.own i) fun b hb=>hB.block b ((h.own i).lt b hb).2
 ne:=h.ne
 sub:=fun i r hr=>(h.sub i r hr).keep (fun _ hb=>hB.block _ hb.2.1) (fun _ hb=>⟨hb.1,Nat.lt_of_lt_of_le hb.2.1 hB.size,hb.2.2⟩)
theorem Three.snoc {lo:Nat} {e:TypeId} {W w2:World} {v:Fin 3→Value} {rs:Fin 3→List TR} (h:Three lo e W v rs) (i:Fin 3) (v':Value) (r:TR) (hr:TmsK (fun b=>lo≤b∧b<W.heap.size∧∀j,(v j).ownBlock≠some b) W r.2.1 r.1.args)
  (hown:w2.ownsRow lo e 4 v' ((rs i).length+1) (rowsC (rs i)++rowC r)) (hg:W.grownBy w2 (v i).ownBlock) (hat:v'.ownBlock=(v i).ownBlock∨v'.ownBlock=some W.heap.size) :
  Three lo e w2 (fun j=>if j=i then v' else v j) (fun j=>if j=i then rs i++[r] else rs j) where
 own:=fun j=>by
  by_cases c:j=i
  ·subst c
   simp only [if_true]
   have e1:rowsC [r]=rowC r:=by unfold rowsC;simp
   rw [rowsC_app,List.length_append,e1];exact hown
  ·simp only [if_neg c]
   exact own_keep (h.own j) fun b hb=>hg.block b ((h.own j).lt b hb).2 (fun e=>h.ne j i c b hb e.symm)
 ne:=fun j k hjk b hb=>by
  by_cases c:j=i
  ·subst c
   simp only [if_true] at hb
   have c2:¬k=j:=fun e=>hjk e.symm
   simp only [if_neg c2]
   rcases hat with h' | h'
   ·rw [h'] at hb;exact h.ne j k hjk b hb
   ·rw [h'] at hb
    injection hb with hb
    intro hk
    have:=((h.own k).lt b hk).2
    omega
  ·simp only [if_neg c] at hb
   by_cases c2:k=i
   ·subst c2
    simp only [if_true]
    rcases hat with h' | h'
    ·rw [h'];exact h.ne j k hjk b hb
    ·rw [h']
     intro e
     injection e with e
     have:=((h.own j).lt b hb).2
     omega
   ·simp only [if_neg c2]
    exact h.ne j k hjk b hb
 sub:=by
  have key:∀{A:Option Addr} {l:List Tm},TmsK (fun b=>lo≤b∧b<W.heap.size∧∀j,(v j).ownBlock≠some b) W A l→TmsK (fun b=>lo≤b∧b<w2.heap.size∧∀j,(if j=i then v' else v j).ownBlock≠some b) w2 A l:=fun hk=>by
   refine hk.keep (fun b hb=>hg.block b hb.2.1 (fun e=>hb.2.2 i e.symm)) (fun b hb=>⟨hb.1,Nat.lt_of_lt_of_le hb.2.1 hg.size,fun j=>?_⟩)
   by_cases c:j=i
   ·subst c
    simp only [if_true]
    rcases hat with h' | h'
    ·rw [h'];exact hb.2.2 j
    ·rw [h']
     intro e
     injection e with e
     have:=hb.2.1
     omega
   ·simp only [if_neg c];exact hb.2.2 j
  intro j x hx
  by_cases c:j=i
  ·subst c
   simp only [if_true] at hx
   rcases List.mem_append.1 hx with hx | hx
   ·exact key (h.sub j x hx)
   ·rw [List.mem_singleton] at hx;subst hx;exact key hr
  ·simp only [if_neg c] at hx
   exact key (h.sub j x hx)
theorem Three.ownR {lo:Nat} {e:TypeId} {w:World} {v:Fin 3→Value} {rs:Fin 3→List TR} (h:Three lo e w v rs) (i:Fin 3):OwnR lo e w (v i) (rs i) :=
 ⟨h.own i,fun r hr=>(h.sub i r hr).keep (fun _ _=>rfl) fun _ hb=>⟨hb.1,hb.2.1,hb.2.2 i⟩⟩
theorem vec_upd0 {α:Type} (a b c x:α):(fun j:Fin 3=>if j=0 then x else vec3 a b c j)=vec3 x b c:=by
 funext j;match j with | 0=>rfl | 1=>rfl | 2=>rfl
theorem vec_upd1 {α:Type} (a b c x:α):(fun j:Fin 3=>if j=1 then x else vec3 a b c j)=vec3 a x c:=by
 funext j;match j with | 0=>rfl | 1=>rfl | 2=>rfl
theorem vec_upd2 {α:Type} (a b c x:α):(fun j:Fin 3=>if j=2 then x else vec3 a b c j)=vec3 a b x:=by
 funext j;match j with | 0=>rfl | 1=>rfl | 2=>rfl
def vcGoalK (Q:Nat→Prop) (s:ByteArray) (n:Nat) (l:List Tm):List Value→(Nat→Prop)→World→Prop | [v],N,X=>∃g,v=.agg #[.int .i64 3,.int .i64 0,.string s,.slice (some ⟨g,0,none⟩) n n]∧TmsK (fun b=>N b∧Q b) X (some ⟨g,0,none⟩) l | _,_,_=>False
def rGoalK (A:List Nat) (j:Nat) (s:ByteArray) (n:Nat) (l:List Tm) (Q:Nat→Prop):ROp:=rCall A [j] (vpGoal s n) (vcGoalK Q s n l) fun vs _ _ _ _ h hk hN _=>match vs,h with | [_],⟨g,e,ht⟩=>⟨g,e,ht.keep (fun b hb=>hk b hb.1) fun b hb=>⟨hN b hb.1,hb.2⟩⟩
structure Want (lo:Nat) (w:World) (v:Fin 3→Value) (gb gg:Nat) (x:Tm):Prop where
 bk:Bk w gb (rowC (x,some ⟨gg,0,none⟩,5))
 ne:∀j,(v j).ownBlock≠some gb
 tms:TmsK (fun b=>lo≤b∧b<w.heap.size∧∀j,(v j).ownBlock≠some b) w (some ⟨gg,0,none⟩) x.args
theorem Want.below {lo:Nat} {w w':World} {v:Fin 3→Value} {gb gg:Nat} {x:Tm} (h:Want lo w v gb gg x) (hB:Below w.heap.size w w'):Want lo w' v gb gg x :=
 ⟨h.bk.call hB,h.ne,h.tms.keep (fun _ hb=>hB.block _ hb.2.1) (fun _ hb=>⟨hb.1,Nat.lt_of_lt_of_le hb.2.1 hB.size,hb.2.2⟩)⟩
theorem Want.snoc {lo:Nat} {W w2:World} {v:Fin 3→Value} {gb gg:Nat} {x:Tm} (h:Want lo W v gb gg x) (i:Fin 3) (v':Value) (hg:W.grownBy w2 (v i).ownBlock) (hat:v'.ownBlock=(v i).ownBlock∨v'.ownBlock=some W.heap.size):Want lo w2 (fun j=>if j=i then v' else v j) gb gg x:=by
 have key:∀b,b<W.heap.size→(∀j,(v j).ownBlock≠some b)→∀j,(if j=i then v' else v j).ownBlock≠some b:=fun b hb hn j=>by
  by_cases c:j=i
  ·subst c
   simp only [if_true]
   rcases hat with h' | h'
   ·rw [h'];exact hn j
   ·rw [h']
    intro e
    injection e with e
    omega
  ·simp only [if_neg c];exact hn j
 refine ⟨?_,key gb h.bk.lt h.ne,h.tms.keep (fun b hb=>hg.block b hb.2.1 (fun e=>hb.2.2 i e.symm)) (fun b hb=>⟨hb.1,Nat.lt_of_lt_of_le hb.2.1 hg.size,key b hb.2.1 hb.2.2⟩)⟩
 exact h.bk.keeps (hg.block gb h.bk.lt (fun e=>h.ne i e.symm))
theorem Want.new {lo:Nat} {e:TypeId} {wi Y:World} {v:Fin 3→Value} {rs:Fin 3→List TR} {gb gg:Nat} {x:Tm} {N:Nat→Prop} (hT:Three lo e wi v rs) (hlo:lo≤wi.heap.size) (hbk:Bk Y gb (rowC (x,some ⟨gg,0,none⟩,5))) (hgb:wi.heap.size≤gb)
  (ht:TmsK (fun b=>N b∧wi.heap.size≤b) Y (some ⟨gg,0,none⟩) x.args) (hN:∀b,N b→b<Y.heap.size):Want lo Y v gb gg x :=
 ⟨hbk,fun j e=>by have:=((hT.own j).lt gb e).2;omega,ht.keep (fun _ _=>rfl) fun b hb=>⟨Nat.le_trans hlo hb.2,hN b hb.1,fun j e=>by have:=((hT.own j).lt b e).2;omega⟩⟩
theorem str_eq (a b:ByteArray):(a.toList==b.toList)=decide (b=a):=by
 rw [tl_data,tl_data]
 by_cases h:b=a
 ·subst h;simp
 ·rw [decide_eq_false h]
  have:¬a.data.toList=b.data.toList:=fun e=>h (ByteArray.ext (Array.toList_inj.1 e.symm))
  simpa using this
section
variable {lo:Nat} {e:TypeId} {w:World} {v' a b c:Value} {gb gg:Nat} {x:Tm} {r1 r2 r3:List TR} {r:TR}
theorem updW0 (h:Hid (Want lo w (fun j=>if j=0 then v' else vec3 a b c j) gb gg x)):Hid (Want lo w (vec3 v' b c) gb gg x):=by rw [←vec_upd0];exact h
theorem updT0 (h:Hid (Three lo e w (fun j=>if j=0 then v' else vec3 a b c j) (fun j=>if j=0 then vec3 r1 r2 r3 0++[r] else vec3 r1 r2 r3 j))):Hid (Three lo e w (vec3 v' b c) (vec3 (r1++[r]) r2 r3)):=by
 rw [←vec_upd0 a b c,←vec_upd0 r1 r2 r3];exact h
theorem updW1 (h:Hid (Want lo w (fun j=>if j=1 then v' else vec3 a b c j) gb gg x)):Hid (Want lo w (vec3 a v' c) gb gg x):=by rw [←vec_upd1];exact h
theorem updT1 (h:Hid (Three lo e w (fun j=>if j=1 then v' else vec3 a b c j) (fun j=>if j=1 then vec3 r1 r2 r3 1++[r] else vec3 r1 r2 r3 j))):Hid (Three lo e w (vec3 a v' c) (vec3 r1 (r2++[r]) r3)):=by
 rw [←vec_upd1 a b c,←vec_upd1 r1 r2 r3];exact h
theorem updW2 (h:Hid (Want lo w (fun j=>if j=2 then v' else vec3 a b c j) gb gg x)):Hid (Want lo w (vec3 a b v') gb gg x):=by rw [←vec_upd2];exact h
theorem updT2 (h:Hid (Three lo e w (fun j=>if j=2 then v' else vec3 a b c j) (fun j=>if j=2 then vec3 r1 r2 r3 2++[r] else vec3 r1 r2 r3 j))):Hid (Three lo e w (vec3 a b v') (vec3 r1 r2 (r3++[r]))):=by
 rw [←vec_upd2 a b c,←vec_upd2 r1 r2 r3];exact h
end
theorem span_idx (n k q:Nat) (hk:k≤n) (hkq:k≤q) (hq:q≤n):(spansL n)[(spN n k (q-k)).length]? = some (k,q):=by
 obtain ⟨r,hr⟩:=spN_pre n k (q-k+1) hk (by omega)
 rw [←hr,spN_snoc,List.append_assoc,List.getElem?_append_right (Nat.le_refl _),Nat.sub_self,show k+(q-k)=q by omega]
 rfl
end Hb
namespace Go.Proofs.YtpokpgkjaifccaaGreatDoorRR
open Go.RowKit Hb Go.Shelf
set_option maxRecDepth 100000
def Done3 (s pt:ByteArray) (lo lg:Nat) (D:List (Nat×Nat)) (r1 r2 r3:List TR):Prop :=
 r1.map (·.1)=(D.filter fun x=>decide (pt=s.extract x.1 x.2)).map (spanT s)∧r2.map (·.1)=(D.filter fun x=>decide ((lo:Int)=(x.1:Int))).map (spanT s)∧r3.map (·.1)=(D.filter fun x=>decide ((lg:Int)=((x.2-x.1:Nat):Int))).map (spanT s)
theorem done_one {s:ByteArray} {D:List (Nat×Nat)} {f:Nat×Nat→Bool} {r:List TR} {x:Nat×Nat} {t:TR} (h:r.map (·.1)=(D.filter f).map (spanT s)) (hf:f x=true) (ht:t.1=spanT s x):(r++[t]).map (·.1)=((D++[x]).filter f).map (spanT s):=by
 rw [List.map_append,List.filter_append,List.map_append,h,List.filter_cons_of_pos hf,List.map_cons,List.map_nil,ht];rfl
theorem done_no {s:ByteArray} {D:List (Nat×Nat)} {f:Nat×Nat→Bool} {r:List TR} {x:Nat×Nat} (h:r.map (·.1)=(D.filter f).map (spanT s)) (hf:f x=false):r.map (·.1)=((D++[x]).filter f).map (spanT s):=by
 rw [List.filter_append,List.map_append,h,List.filter_cons_of_neg (by rw [hf];decide)];simp
theorem wpList_app_three {w:World} {ops:Array Oper} {rest:List Oper} {o:Oper} {a:Act} {Q:Exit→Act→World→Prop} (hgd:o.guard=none) (s x:Operand)
  (ho:o.op=.call { callee:=.builtin .append,args:=#[s,x],argTypes:=#[30,30] }) (lo:Nat) (wl:World) (i:Fin 3) (v:Fin 3→Value) (rs:Fin 3→List TR) (hs:a.eval s=v i) (hO:Three lo 32 w v rs) (hB:Below lo wl w) (hlo:lo≤w.heap.size)
  (g:Nat) (r:TR) (hx:a.eval x=.slice (some ⟨g,0,none⟩) 1 1) (hg:Bk w g (rowC r)) (hr:TmsK (fun b=>lo≤b∧b<w.heap.size∧∀j,(v j).ownBlock≠some b) w r.2.1 r.1.args) (hn:(rs i).length≤100000) (gb gg:Nat) (x9:Tm) (hW:Want lo w v gb gg x9)
  (h:∀v' w',Hid (Want lo w' (fun j=>if j=i then v' else v j) gb gg x9)→Hid (Three lo 32 w' (fun j=>if j=i then v' else v j) (fun j=>if j=i then rs i++[r] else rs j))→Hid (Below lo wl w')→wpList Tryz.prog ops Q rest (a.put o.dst v') w'):wpList Tryz.prog ops Q (o::rest) a w:=by
 obtain ⟨k,hi,hz0,hz1,hz2⟩:=info_parts infoTm
 refine wpList_append_own_at _ hgd s x 30 ho lo 32 k _ 4 56 Tryz.underlying30 hi hz0 hz1 hz2 rfl (by decide) (v i) (rs i).length (rowsC (rs i)) hs (hO.own i) ⟨g,0,none⟩ 1 1 (rowC r) hx rfl ?_ (rowC_one _) (by unfold maxLen;omega) (by omega) hlo ?_
 ·intro j u hu
  rw [addr_add,Nat.zero_add]
  exact hg.c j u hu
 ·intro v' w' hown hgr _ hat
  exact h v' w' (zq (hW.snoc i v' hgr hat)) (zq (hO.snoc i v' r hr hown hgr hat)) (zq (below_grown hB hlo (hO.own i) hgr))
end Go.Proofs.YtpokpgkjaifccaaGreatDoorRR
