/- Parts of the proof. -/
import Derived.Test.YtpokpgkjaifccaaGreatDoorRRH01
import Derived.Test.YtpokpgkjaifccaaGreatDoorRRH20
import Derived.Test.YtpokpgkjaifccaaGreatDoorRRH25
import Derived.Defers
import Derived.Recover
namespace Hb
open Go Go.RowKit
inductive CA where
 | ok (l:List Tm)
 | ball (b:Tm)
 | err (e:Int)
noncomputable def canonA (g:Tm):Bool:=validT g&&sameT g (canT g)
def nLen:ByteArray:=⟨#[97,116,111,109,95,108,101,110,103,116,104]⟩
def nChars:ByteArray:=⟨#[97,116,111,109,95,99,104,97,114,115]⟩
def nCodes:ByteArray:=⟨#[97,116,111,109,95,99,111,100,101,115]⟩
def nCode:ByteArray:=⟨#[99,104,97,114,95,99,111,100,101]⟩
def nNumCh:ByteArray:=⟨#[110,117,109,98,101,114,95,99,104,97,114,115]⟩
def nNumCo:ByteArray:=⟨#[110,117,109,98,101,114,95,99,111,100,101,115]⟩
def nCat:ByteArray:=⟨#[97,116,111,109,95,99,111,110,99,97,116]⟩
def nSub:ByteArray:=⟨#[115,117,98,95,97,116,111,109]⟩
inductive NoV:List Tm→Prop where
 | mk (l:List Tm) (h:∀j (hj:j<l.length),¬l[j].kind=0) (hs:∀j (hj:j<l.length),NoV l[j].args):NoV l
theorem NoV.nil:NoV []:=.mk _ (fun j hj=>absurd hj (by simp)) (fun j hj=>absurd hj (by simp))
theorem NoV.cons {x:Tm} {l:List Tm} (h:¬x.kind=0) (hs:NoV x.args) (hl:NoV l):NoV (x::l):=by
 cases hl with
 | mk _ h1 h2=>
  refine .mk _ (fun j hj=>?_) (fun j hj=>?_)
  ·cases j with
   | zero=>exact h
   | succ j=>exact h1 j (by simpa using hj)
  ·cases j with
   | zero=>exact hs
   | succ j=>exact h2 j (by simpa using hj)
theorem Bk.cellNone {X:World} {g:Nat} {vs:List Value} (h:Bk X g vs) (o:Nat) (ho:vs.length≤o):X.cell? ⟨g,o,none⟩=none:=by
 obtain ⟨e,h⟩:=h
 simp [World.cell?,h,ho]
theorem TmsK.off {K:Nat→Prop} {w:World} {g:Nat} {v:Value} {A:Option Addr} {l:List Tm} (hg:Bk w g [v]) (h:TmsK K w A l):TmsK (fun b=>K b∧b≠g) w A l:=by
 induction h with
 | mk A l F C hl hc _ ih=>
  refine .mk A l F C hl (fun j hj=>?_) ih
  obtain ⟨b,off,e,hk,c0,c1,c2,c3⟩:=hc j hj
  refine ⟨b,off,e,⟨hk,fun e2=>?_⟩,c0,c1,c2,c3⟩
  subst e2
  rw [hg.cellNone _ (by simp)] at c1
  cases c1
theorem TmsK.offZ {K:Nat→Prop} {w:World} {g:Nat} {y:Value} {s:ByteArray} {z:Value} {A:Option Addr} {l:List Tm} (hg:Bk w g [.int .i64 0,y,.string s,z]) (hz2:∀s',z≠.string s') (h:TmsK K w A l) (hn:NoV l):TmsK (fun b=>K b∧b≠g) w A l:=by
 induction h with
 | mk A l F C hl hc _ ih=>
  cases hn with
  | mk _ h1 h2=>
   refine .mk A l F C hl (fun j hj=>?_) (fun j hj=>ih j hj (h2 j hj))
   obtain ⟨b,off,e,hk,c0,c1,c2,c3⟩:=hc j hj
   refine ⟨b,off,e,⟨hk,fun e2=>?_⟩,c0,c1,c2,c3⟩
   subst e2
   by_cases h4:off+j * 4+2<4
   ·have h5:off+j * 4=0∨off+j * 4=1:=by omega
    rcases h5 with h5 | h5
    ·rw [h5] at c0
     rw [hg.c 0 _ rfl] at c0
     injection c0 with c0
     injection c0 with _ c0
     exact h1 j hj c0.symm
    ·rw [h5] at c2
     rw [hg.c 3 _ rfl] at c2
     injection c2 with c2
     exact hz2 _ c2
   ·rw [hg.cellNone _ (by simp;omega)] at c2
    cases c2
theorem Bx.low {mb lo B:Nat} {a w:World} (h:Bx mb lo a w) (hm:B≤mb) (hl:B≤lo):Below B a w:=⟨h.os,h.tape,h.output,h.size,fun k hk=>h.block k (by omega) (by omega)⟩
theorem Bx.mine {mb B:Nat} {a w:World} (h:Bx mb B a w) (i:Nat) (v:Value):Bx mb B a (w.setCell ⟨mb,i,none⟩ v) :=
 ⟨h.os,h.tape,h.output,by simpa using h.size,fun k hk hne=>(heap_setCell_other _ _ _ _ hne).trans (h.block k hk hne)⟩
theorem OwnR.put {lo B2 g cp:Nat} {e:TypeId} {Y W:World} {v:Value} {rs:List TR} (h:OwnR lo e Y v rs) (r:TR) (hr:TmsK (fun b=>lo≤b∧b<Y.heap.size∧v.ownBlock≠some b) Y r.2.1 r.1.args)
  (hown:W.ownsRow lo e 4 (.slice (some ⟨g,0,none⟩) (rs.length+1) cp) (rs.length+1) (rowsC rs++rowC r)) (hB:B2<lo) (hs:Y.heap.size≤W.heap.size) (hk:∀k,k<Y.heap.size→k≠g→k≠B2→v.ownBlock≠some k→W.heap[k]? = Y.heap[k]?) (hat:v.ownBlock=some g∨g=Y.heap.size):OwnR lo e W (.slice (some ⟨g,0,none⟩) (rs.length+1) cp) (rs++[r]) where
 own:=by
  rw [rowsC_app,List.length_append]
  have e1:rowsC [r]=rowC r:=by unfold rowsC;simp
  rw [e1];exact hown
 sub:=by
  have key:∀{A:Option Addr} {l:List Tm},TmsK (fun b=>lo≤b∧b<Y.heap.size∧v.ownBlock≠some b) Y A l→TmsK (fun b=>lo≤b∧b<W.heap.size∧(Value.slice (some ⟨g,0,none⟩) (rs.length+1) cp).ownBlock≠some b) W A l:=fun ht=>by
   have hne:∀b,(lo≤b∧b<Y.heap.size∧v.ownBlock≠some b)→b≠g:=fun b hb e=>by
    subst e
    rcases hat with h' | h'
    ·exact hb.2.2 h'
    ·have:=hb.2.1;omega
   refine ht.keep (fun b hb=>hk b hb.2.1 (hne b hb) (by have:=hb.1;omega) hb.2.2) (fun b hb=>⟨hb.1,Nat.lt_of_lt_of_le hb.2.1 hs,fun e=>?_⟩)
   have e2:g=b:=by simpa [Value.ownBlock] using e
   exact hne b hb e2.symm
  intro x hx
  rcases List.mem_append.1 hx with hx | hx
  ·exact key (h.sub x hx)
  ·rw [List.mem_singleton] at hx;subst hx;exact key hr
theorem set4_app (l:List Value) (n:Nat) (hn:l.length=n) (z0 z1 z2 z3 a b c d:Value):((((l++[z0,z1,z2,z3]).set n a).set (n+1) b).set (n+2) c).set (n+3) d=l++[a,b,c,d]:=by
 subst hn
 simp
structure After15 (wl W:World) (lo B2:Nat) (e:TypeId) (v:Value) (rs:List TR) (x4 x3:Nat×List Value) (L:List (Nat×List Value)):Prop where
 bks:Bks W (x4::x3::(B2,[v])::L)
 bx:Bx B2 lo wl W
 own:OwnR lo e W v rs
theorem after78 {wl Y w5:World} {lo B2 g cp:Nat} {e:TypeId} {v:Value} {rs:List TR} {x4 x3:Nat×List Value} {L:List (Nat×List Value)} (r:TR) (z0 z1 z2 z3:Value)
  (hk:Bks Y (x4::x3::(B2,[v])::L)) (hlt:∀x∈x4::x3::(B2,[v])::L,x.1<lo) (hx:Bx B2 lo wl Y) (ho:OwnR lo e Y v rs) (hr:TmsK (fun b=>lo≤b∧b<Y.heap.size∧v.ownBlock≠some b) Y r.2.1 r.1.args) (hlo:lo≤Y.heap.size)
  (hown:w5.ownsRow lo e 4 (.slice (some ⟨g,0,none⟩) (rs.length+1) cp) (rs.length+1) (rowsC rs++[z0,z1,z2,z3])) (hg:Y.grownBy w5 v.ownBlock) (hat:v.ownBlock=some g∨g=Y.heap.size) :
  After15 wl (((((w5.setCell ⟨g,rs.length * 4,none⟩ (.int .i64 r.1.kind)).setCell ⟨g,rs.length * 4+1,none⟩ (.int .i64 r.1.num)).setCell ⟨g,rs.length * 4+2,none⟩ (.string r.1.name)).setCell ⟨g,rs.length * 4+3,none⟩ (.slice r.2.1 r.1.args.length r.2.2)).setCell ⟨B2,0,none⟩ (.slice (some ⟨g,0,none⟩) (rs.length+1) cp)) lo B2 e (.slice (some ⟨g,0,none⟩) (rs.length+1) cp) (rs++[r]) x4 x3 L ∧
  After15 wl (((((w5.setCell ⟨B2,0,none⟩ (.slice (some ⟨g,0,none⟩) (rs.length+1) cp)).setCell ⟨g,rs.length * 4,none⟩ (.int .i64 r.1.kind)).setCell ⟨g,rs.length * 4+1,none⟩ (.int .i64 r.1.num)).setCell ⟨g,rs.length * 4+2,none⟩ (.string r.1.name)).setCell ⟨g,rs.length * 4+3,none⟩ (.slice r.2.1 r.1.args.length r.2.2)) lo B2 e (.slice (some ⟨g,0,none⟩) (rs.length+1) cp) (rs++[r]) x4 x3 L:=by
 have hgl:lo≤g:=by
  rcases hat with h | h
  ·exact (ho.own.lt g h).1
  ·omega
 have hB2:B2<lo:=hlt (B2,[v]) (by simp)
 have hne:B2≠g:=by omega
 have hrow:∀k,v.ownBlock=some k→lo≤k:=fun k h=>(ho.own.lt k h).1
 have hk5:Bks w5 (x4::x3::(B2,[v])::L):=hk.keep fun x hx'=>hg.block x.1 ((hk.bk x hx').lt) (fun e'=>by have:=hrow _ e'.symm;have:=hlt x hx';omega)
 have hx5:Bx B2 lo wl w5:=hx.grown hg hlo (fun k h=>.inl (hrow k h))
 have h4:∀w:World,w.ownsRow lo e 4 (.slice (some ⟨g,0,none⟩) (rs.length+1) cp) (rs.length+1) (rowsC rs++[z0,z1,z2,z3]) →
   ((((w.setCell ⟨g,rs.length * 4,none⟩ (.int .i64 r.1.kind)).setCell ⟨g,rs.length * 4+1,none⟩ (.int .i64 r.1.num)).setCell ⟨g,rs.length * 4+2,none⟩ (.string r.1.name)).setCell ⟨g,rs.length * 4+3,none⟩ (.slice r.2.1 r.1.args.length r.2.2)).ownsRow lo e 4 (.slice (some ⟨g,0,none⟩) (rs.length+1) cp) (rs.length+1) (rowsC rs++rowC r):=fun w h=>by
  have:=((((h.stored (rs.length * 4) (.int .i64 r.1.kind)).1.stored (rs.length * 4+1) (.int .i64 r.1.num)).1.stored (rs.length * 4+2) (.string r.1.name)).1.stored (rs.length * 4+3) (.slice r.2.1 r.1.args.length r.2.2)).1
  rw [set4_app _ _ (rowsC_len rs)] at this
  exact this
 have hh:∀(w:World) k,k≠g→((((w.setCell ⟨g,rs.length * 4,none⟩ (.int .i64 r.1.kind)).setCell ⟨g,rs.length * 4+1,none⟩ (.int .i64 r.1.num)).setCell ⟨g,rs.length * 4+2,none⟩ (.string r.1.name)).setCell ⟨g,rs.length * 4+3,none⟩ (.slice r.2.1 r.1.args.length r.2.2)).heap[k]? = w.heap[k]?:=fun w k h=>by
  rw [heap_setCell_other _ _ _ _ h,heap_setCell_other _ _ _ _ h,heap_setCell_other _ _ _ _ h,heap_setCell_other _ _ _ _ h]
 have hs4:∀w:World,Bks w (x4::x3::(B2,[v])::L)→Bks ((((w.setCell ⟨g,rs.length * 4,none⟩ (.int .i64 r.1.kind)).setCell ⟨g,rs.length * 4+1,none⟩ (.int .i64 r.1.num)).setCell ⟨g,rs.length * 4+2,none⟩ (.string r.1.name)).setCell ⟨g,rs.length * 4+3,none⟩ (.slice r.2.1 r.1.args.length r.2.2)) (x4::x3::(B2,[v])::L):=fun w h=>h.keep fun x hx'=>hh w x.1 (by have:=hlt x hx';omega)
 have hs5:∀(u:Value) (w:World),Bks w (x4::x3::(B2,[u])::L)→Bks ((((w.setCell ⟨g,rs.length * 4,none⟩ (.int .i64 r.1.kind)).setCell ⟨g,rs.length * 4+1,none⟩ (.int .i64 r.1.num)).setCell ⟨g,rs.length * 4+2,none⟩ (.string r.1.name)).setCell ⟨g,rs.length * 4+3,none⟩ (.slice r.2.1 r.1.args.length r.2.2)) (x4::x3::(B2,[u])::L):=fun u w h=>h.keep fun x hx'=>hh w x.1 (by
  have h1:x.1<lo:=by
   simp only [List.mem_cons] at hx'
   rcases hx' with rfl | rfl | rfl | hx'
   ·exact hlt _ (by simp)
   ·exact hlt _ (by simp)
   ·exact hB2
   ·exact hlt _ (by simp [hx'])
  omega)
 have hb4:∀w:World,Bx B2 lo wl w→Bx B2 lo wl ((((w.setCell ⟨g,rs.length * 4,none⟩ (.int .i64 r.1.kind)).setCell ⟨g,rs.length * 4+1,none⟩ (.int .i64 r.1.num)).setCell ⟨g,rs.length * 4+2,none⟩ (.string r.1.name)).setCell ⟨g,rs.length * 4+3,none⟩ (.slice r.2.1 r.1.args.length r.2.2)):=fun w h=>(((h.setCell (p:=⟨g,_,none⟩) hgl _).setCell (p:=⟨g,_,none⟩) hgl _).setCell (p:=⟨g,_,none⟩) hgl _).setCell (p:=⟨g,_,none⟩) hgl _
 have hY:∀k,k<Y.heap.size→v.ownBlock≠some k→w5.heap[k]? = Y.heap[k]?:=fun k hk' hn=>hg.block k hk' (fun e'=>hn e'.symm)
 refine ⟨⟨(hs4 _ hk5).set 2 0 rfl _,(hb4 _ hx5).mine 0 _,ho.put r hr (ownsRow_setCell_below (h4 _ hown) (show B2<lo from hB2) _) hB2 (by simpa using hg.size) (fun k h1 h2 h3 h4=>(heap_setCell_other _ _ _ _ h3).trans ((hh _ k h2).trans (hY k h1 h4))) hat⟩,?_⟩
 exact ⟨hs5 _ _ (hk5.set 2 0 rfl _),hb4 _ (hx5.mine 0 _),ho.put r hr (h4 _ (ownsRow_setCell_below hown (show B2<lo from hB2) _)) hB2 (by simpa using hg.size) (fun k h1 h2 h3 h4=>(hh _ k h2).trans ((heap_setCell_other _ _ _ _ h3).trans (hY k h1 h4))) hat⟩
theorem loopK {k n:Nat} (h:k<n) (hn:n≤1000):(0:Int)≤(k:Int)∧(k:Int)<(n:Int)∧wrap64 ((k:Int)+1)=(k:Int)+1:=⟨by omega,by omega,IntWalk.wrap64_in _ (by omega)⟩
theorem wp_calE {P:Program} {o:Oper} {a:Act} {X:World} {f:FuncId} {args:Array Value} {K:Act→World→Prop} {Q:Exit→Act→World→Prop} (hr:(execOp a.eval o).run P X=.ok (.enter f args) X) (hc:Calls P f args X fun e w'=>(∃v,e=.returned v∧K (a.put o.dst v) w')∨(∃ch,e=.panicked ch∧Q (.panic ch) a w')):o.wp P a X K Q:=by
 unfold Oper.wp
 rw [hr,Oper.upon_enter]
 exact hc.mono fun e w' h=>by
  rcases h with ⟨v,he,h⟩ | ⟨ch,he,h⟩
  ·subst he;exact h
  ·subst he;exact h
theorem boxes_put {w Y:World} {B:Nat} {x2 x4 y0 y1 y2 y3:Value} {L:List (Nat×List Value)} (HB:Below B w Y) (HK:Bks Y ((w.heap.size+1+1+1,[x4])::(w.heap.size+1+1,[y0,y1,y2,y3])::(w.heap.size+1,[x2])::L)) (hb:B≤w.heap.size) (v2 z0 z1 z2 z3 v4:Value) :
  ∃wz,wz=((((((Y.setCell ⟨w.heap.size+1,0,none⟩ v2).setCell ⟨w.heap.size+1+1,0,none⟩ z0).setCell ⟨w.heap.size+1+1,1,none⟩ z1).setCell ⟨w.heap.size+1+1,2,none⟩ z2).setCell ⟨w.heap.size+1+1,3,none⟩ z3).setCell ⟨w.heap.size+1+1+1,0,none⟩ v4) ∧
   Below B w wz∧Bks wz ((w.heap.size+1+1+1,[v4])::(w.heap.size+1+1,[z0,z1,z2,z3])::(w.heap.size+1,[v2])::L)∧Below (w.heap.size+1) Y wz∧(∀k,w.heap.size+1+1+1<k→wz.heap[k]? = Y.heap[k]?)∧wz.heap.size=Y.heap.size:=by
 refine ⟨_,rfl,?_,?_,?_,fun k hk=>?_,by simp⟩
 ·exact ((((((HB.setCell (p:=⟨w.heap.size+1,_,none⟩) (show B≤w.heap.size+1 by omega) _).setCell (p:=⟨w.heap.size+1+1,_,none⟩) (show B≤w.heap.size+1+1 by omega) _).setCell (p:=⟨w.heap.size+1+1,_,none⟩) (show B≤w.heap.size+1+1 by omega) _).setCell (p:=⟨w.heap.size+1+1,_,none⟩) (show B≤w.heap.size+1+1 by omega) _).setCell (p:=⟨w.heap.size+1+1,_,none⟩) (show B≤w.heap.size+1+1 by omega) _).setCell (p:=⟨w.heap.size+1+1+1,_,none⟩) (show B≤w.heap.size+1+1+1 by omega) _)
 ·exact ((HK.set 2 0 rfl v2).set4 1 rfl z0 z1 z2 z3).set 0 0 rfl v4
 ·exact (((((((Below.refl _ Y).setCell (p:=⟨w.heap.size+1,_,none⟩) (show w.heap.size+1≤w.heap.size+1 by omega) _).setCell (p:=⟨w.heap.size+1+1,_,none⟩) (show w.heap.size+1≤w.heap.size+1+1 by omega) _).setCell (p:=⟨w.heap.size+1+1,_,none⟩) (show w.heap.size+1≤w.heap.size+1+1 by omega) _).setCell (p:=⟨w.heap.size+1+1,_,none⟩) (show w.heap.size+1≤w.heap.size+1+1 by omega) _).setCell (p:=⟨w.heap.size+1+1,_,none⟩) (show w.heap.size+1≤w.heap.size+1+1 by omega) _).setCell (p:=⟨w.heap.size+1+1+1,_,none⟩) (show w.heap.size+1≤w.heap.size+1+1+1 by omega) _)
 ·have h1:k≠w.heap.size+1:=by omega
  have h2:k≠w.heap.size+1+1:=by omega
  have h3:k≠w.heap.size+1+1+1:=by omega
  rw [heap_setCell_other _ _ _ _ h3,heap_setCell_other _ _ _ _ h2,heap_setCell_other _ _ _ _ h2,heap_setCell_other _ _ _ _ h2,heap_setCell_other _ _ _ _ h2,heap_setCell_other _ _ _ _ h1]
end Hb
namespace Go.Proofs.YtpokpgkjaifccaaGreatDoorRR
open Go.RowKit Hb Go.Shelf
set_option maxRecDepth 100000
noncomputable def predA (s:ByteArray):List Tm→Option RA
 | [t,u]=>if nLen=s then some (lengthA t u) else if nChars=s then some (spelledA false t u) else if nCodes=s then some (spelledA true t u) else if nCode=s then some (charCodeA t u) else if nNumCh=s then some (numA false t u) else if nNumCo=s then some (numA true t u) else none
 | [t,u,m]=>if nCat=s then some (concatA t u m) else none
 | [t,p,q,r,u]=>if nSub=s then some (subA t p q r u) else none
 | _=>none
noncomputable def finA (s:ByteArray) (rows:List (List Tm)):CA:=if 1000<rows.length then .err 2 else if rows.all (fun r=>validT (.mk 3 0 s r))=true then .ok (rows.map fun r=>.mk 3 0 s r) else .err 2
noncomputable def ansA (s:ByteArray):Option RA→CA
 | none=>.err 4
 | some (.ball b)=>.ball b
 | some (.ok rows)=>finA s rows
noncomputable def callA (g:Tm):CA:=if canonA g=false then .err 1 else if ¬g.kind=3 then .err 4 else ansA g.name (predA g.name g.args)
theorem lookA_cons (k:ByteArray) (f:Nat) (l:List (ByteArray×Nat)) (s:ByteArray):lookA ((k,f)::l) s=if k=s then some f else lookA l s:=by
 unfold lookA
 by_cases h:k=s
 ·rw [if_pos h,List.find?_cons_of_pos (p:=fun p:ByteArray×Nat=>decide (p.1=s)) (a:=(k,f)) (decide_eq_true h)];rfl
 ·rw [if_neg h,List.find?_cons_of_neg (p:=fun p:ByteArray×Nat=>decide (p.1=s)) (a:=(k,f)) (fun e=>h (of_decide_eq_true e))]
theorem look2 (s:ByteArray):lookA tbl2 s=if nLen=s then some 38 else if nChars=s then some 39 else if nCodes=s then some 42 else if nCode=s then some 44 else if nNumCh=s then some 45 else if nNumCo=s then some 47 else none:=by
 show lookA [(nLen,_),(nChars,_),(nCodes,_),(nCode,_),(nNumCh,_),(nNumCo,_)] s=_
 rw [lookA_cons,lookA_cons,lookA_cons,lookA_cons,lookA_cons,lookA_cons]
 rfl
theorem look3 (s:ByteArray):lookA tbl3 s=if nCat=s then some 48 else none:=by
 show lookA [(nCat,_)] s=_
 rw [lookA_cons]
 rfl
theorem look5 (s:ByteArray):lookA tbl5 s=if nSub=s then some 49 else none:=by
 show lookA [(nSub,_)] s=_
 rw [lookA_cons]
 rfl
theorem a_pred (s:ByteArray) (f b off cap:Nat) (rs:List TR) (w:World) (hf:findA s ((rs.map (fun r:TR=>r.1)).length:Nat)=some f) (hv:∀r∈rs,validT r.1=true) (hn:∀r∈rs,I64 r.1.num) (hD:DoorOk w) (hcap:(rs.map (fun r:TR=>r.1)).length≤cap) (hA:ArgsAt w b off rs) :
  ∃ra,predA s (rs.map (fun r:TR=>r.1))=some ra∧Calls Tryz.prog f #[.slice (some ⟨b,off,none⟩) (rs.map (fun r:TR=>r.1)).length cap] w fun e w'=>Below w.heap.size w w'∧RAns w' e ra:=by
 unfold findA at hf
 rw [List.length_map] at *
 by_cases h2:((rs.length:Nat):Int)=2
 ·rw [if_pos h2,look2] at hf
  obtain ⟨⟨t,A,c⟩,⟨u,U,d⟩,rfl⟩:∃x y,rs=[x,y]:=by
   match rs,h2 with
   | [x,y],_=>exact ⟨x,y,rfl⟩
  have hvt:=hv (t,A,c) (by simp)
  have hvu:=hv (u,U,d) (by simp)
  have hnt:=hn (t,A,c) (by simp)
  simp only [predA,List.map_cons,List.map_nil]
  by_cases c1:nLen=s
  ·rw [if_pos c1] at hf ⊢;cases hf
   exact ⟨_,rfl,a_length b off cap t u A U c d w hA⟩
  rw [if_neg c1] at hf ⊢
  by_cases c2:nChars=s
  ·rw [if_pos c2] at hf ⊢;cases hf
   exact ⟨_,rfl,a_find1 b off cap t u A U c d w hvt hvu hA⟩
  rw [if_neg c2] at hf ⊢
  by_cases c3:nCodes=s
  ·rw [if_pos c3] at hf ⊢;cases hf
   exact ⟨_,rfl,a_find2 b off cap t u A U c d w hvt hvu hA⟩
  rw [if_neg c3] at hf ⊢
  by_cases c4:nCode=s
  ·rw [if_pos c4] at hf ⊢;cases hf
   exact ⟨_,rfl,a_charCode b off cap t u A U c d w hA⟩
  rw [if_neg c4] at hf ⊢
  by_cases c5:nNumCh=s
  ·rw [if_pos c5] at hf ⊢;cases hf
   exact ⟨_,rfl,a_find3 b off cap t u A U c d w hnt hD hvu hA⟩
  rw [if_neg c5] at hf ⊢
  by_cases c6:nNumCo=s
  ·rw [if_pos c6] at hf ⊢;cases hf
   exact ⟨_,rfl,a_find4 b off cap t u A U c d w hnt hD hvu hA⟩
  rw [if_neg c6] at hf;cases hf
 rw [if_neg h2] at hf
 by_cases h3:((rs.length:Nat):Int)=3
 ·rw [if_pos h3,look3] at hf
  obtain ⟨⟨t,A,c⟩,⟨u,U,d⟩,⟨m,M,g⟩,rfl⟩:∃x y z,rs=[x,y,z]:=by
   match rs,h3 with
   | [x,y,z],_=>exact ⟨x,y,z,rfl⟩
  simp only [predA,List.map_cons,List.map_nil]
  by_cases c1:nCat=s
  ·rw [if_pos c1] at hf ⊢;cases hf
   exact ⟨_,rfl,a_concat b off cap t u m A U M c d g w (hv (t,A,c) (by simp)) (hv (u,U,d) (by simp)) (hv (m,M,g) (by simp)) hA⟩
  rw [if_neg c1] at hf;cases hf
 rw [if_neg h3] at hf
 by_cases h5:((rs.length:Nat):Int)=5
 ·rw [if_pos h5,look5] at hf
  obtain ⟨⟨t,A,c⟩,⟨p,P,d⟩,⟨q,Q,e⟩,⟨r,R,g⟩,⟨u,U,h⟩,rfl⟩:∃x y z a b,rs=[x,y,z,a,b]:=by
   match rs,h5 with
   | [x,y,z,a,b],_=>exact ⟨x,y,z,a,b,rfl⟩
  simp only [predA,List.map_cons,List.map_nil]
  by_cases c1:nSub=s
  ·rw [if_pos c1] at hf ⊢;cases hf
   exact ⟨_,rfl,a_sub b off cap t p q r u A P Q R U c d e g h w hcap (hv (t,A,c) (by simp)) hA⟩
  rw [if_neg c1] at hf;cases hf
 rw [if_neg h5] at hf;cases hf
theorem find_enters {s:ByteArray} {n:Int} {f:Nat} (hf:findA s n=some f):∀(args:Array Value) (W:World),(callFunc f args).run Tryz.prog W=.ok (.enter f args) W:=by
 have key:∀{c:Prop} [Decidable c] {a:Nat} {b:Option Nat},(∀(args:Array Value) (W:World),(callFunc a args).run Tryz.prog W=.ok (.enter a args) W)→(∀x,b=some x→∀(args:Array Value) (W:World),(callFunc x args).run Tryz.prog W=.ok (.enter x args) W)→∀x,(if c then some a else b)=some x→∀(args:Array Value) (W:World),(callFunc x args).run Tryz.prog W=.ok (.enter x args) W:=fun ha hb x hx=>by
  split at hx
  ·cases hx;exact ha
  ·exact hb x hx
 unfold findA at hf
 split at hf
 ·rw [look2] at hf
  exact key (fun _ _=>rfl) (key (fun _ _=>rfl) (key (fun _ _=>rfl) (key (fun _ _=>rfl) (key (fun _ _=>rfl) (key (fun _ _=>rfl) (fun _ h=>by cases h)))))) _ hf
 split at hf
 ·rw [look3] at hf
  exact key (fun _ _=>rfl) (fun _ h=>by cases h) _ hf
 split at hf
 ·rw [look5] at hf
  exact key (fun _ _=>rfl) (fun _ h=>by cases h) _ hf
 ·cases hf
theorem pred_none (s:ByteArray) (l:List Tm) (hf:findA s (l.length:Nat)=none):predA s l=none:=by
 unfold findA at hf
 match l,hf with
 | [t,u],hf=>
  rw [if_pos (by rfl),look2] at hf
  unfold predA
  dsimp only
  split at hf
  ·cases hf
  rename_i c1
  rw [if_neg c1]
  split at hf
  ·cases hf
  rename_i c2
  rw [if_neg c2]
  split at hf
  ·cases hf
  rename_i c3
  rw [if_neg c3]
  split at hf
  ·cases hf
  rename_i c4
  rw [if_neg c4]
  split at hf
  ·cases hf
  rename_i c5
  rw [if_neg c5]
  split at hf
  ·cases hf
  rename_i c6
  rw [if_neg c6]
 | [t,u,m],hf=>
  rw [if_neg (by simp),if_pos (by rfl),look3] at hf
  unfold predA
  dsimp only
  split at hf
  ·cases hf
  rename_i c1
  rw [if_neg c1]
 | [t,p,q,r,u],hf=>
  rw [if_neg (by simp),if_neg (by simp),if_pos (by rfl),look5] at hf
  unfold predA
  dsimp only
  split at hf
  ·cases hf
  rename_i c1
  rw [if_neg c1]
 | [],_=>rfl
 | [_],_=>rfl
 | [_,_,_,_],_=>rfl
 | _::_::_::_::_::_::_,_=>rfl
theorem catch_idle (g2 g3 g4:Nat) (w:World):CallsD Tryz.prog 34 #[.pointer (some ⟨g2,0,none⟩),.pointer (some ⟨g3,0,none⟩),.pointer (some ⟨g4,0,none⟩)] .returning w fun e u' w'=>e=.returned (.tuple #[])∧u'=.returning∧Below w.heap.size w w':=by
 have hta:∀w,(Instr.typeAssert .nilIface 20 59 true).run Tryz.prog w=.ok (.tuple #[.agg #[.int .i64 0,.int .i64 0,.string ⟨#[]⟩,.slice none 0 0],.bool false]) w:=fun w=>by kernel_rfl
 refine callsD_of_wpS Tryz.func34 rfl fun c₀ cs hu=>?_
 apply wpS_seq
 apply wpS_region
 simp [wpOpsS,go_sem,recoverD,hu,Tryz.ntmps34,Exit.thenS,hta]
 apply wpS_seq
 apply wpS_region
 simp [wpOpsS,go_sem,Exit.thenS]
 refine wpS_cond (t:=false) (by simp [Act.eval,Array.replicate]) ?_
 simp only [Bool.false_eq_true,if_false]
 refine wpS_of_wp (wp_skip ?_)
 have hB:=(Below.refl w.heap.size w).alloc (Nat.le_refl _) (.cells #[.int .i64 0,.int .i64 0,.string ⟨#[]⟩,.slice none 0 0] 59)
 cases c₀
 simp_all [bodyPostS,results,Tryz.results34]
theorem catch_ball (g2 g3 g4:Nat) (b0 b1:Int) (b2:ByteArray) (A:Option Addr) (n c:Nat) (w:World) (e2 e3 e4:TypeId) (h2:w.heap[g2]? = some (.cells #[.slice none 0 0] e2 (0,0))) (h3:w.heap[g3]? = some (.cells #[.int .i64 0,.int .i64 0,.string ⟨#[]⟩,.slice none 0 0] e3 (0,0))) (h4:w.heap[g4]? = some (.cells #[.int .i64 0] e4 (0,0))) (n23:g2≠g3) (n24:g2≠g4) (n34:g3≠g4) :
  CallsD Tryz.prog 34 #[.pointer (some ⟨g2,0,none⟩),.pointer (some ⟨g3,0,none⟩),.pointer (some ⟨g4,0,none⟩)] (.panicking [{ v:=.iface 59 (.agg #[.int .i64 b0,.int .i64 b1,.string b2,.slice A n c]),recovered:=false }]) w fun e u' w'=>
   e=.returned (.tuple #[])∧u'=.panicking [{ v:=.iface 59 (.agg #[.int .i64 b0,.int .i64 b1,.string b2,.slice A n c]),recovered:=true }] ∧
   w'=(((((((w.alloc (.cells #[.int .i64 b0,.int .i64 b1,.string b2,.slice A n c] 59)).setCell ⟨g2,0,none⟩ (.slice none 0 0)).setCell ⟨g3,0,none⟩ (.int .i64 b0)).setCell ⟨g3,1,none⟩ (.int .i64 b1)).setCell ⟨g3,2,none⟩ (.string b2)).setCell ⟨g3,3,none⟩ (.slice A n c)).setCell ⟨g4,0,none⟩ (.int .i64 8)).drew:=by
 have hta:∀(v:Value) w,(Instr.typeAssert (.iface 59 v) 20 59 true).run Tryz.prog w=.ok (.tuple #[v,.bool true]) w:=fun v w=>by kernel_rfl
 refine callsD_of_wpS Tryz.func34 rfl fun c₀ cs hu=>?_
 apply wpS_seq
 apply wpS_region
 simp [wpOpsS,go_sem,recoverD,hu,Tryz.ntmps34,Exit.thenS,hta]
 apply wpS_seq
 apply wpS_region
 simp [wpOpsS,go_sem,Exit.thenS]
 refine wpS_cond (t:=true) (by simp [Act.eval,Array.replicate]) ?_
 simp only [if_true]
 have k5:=Bk.new w [.int .i64 b0,.int .i64 b1,.string b2,.slice A n c] 59
 have k2:Bk (w.alloc (.cells #[.int .i64 b0,.int .i64 b1,.string b2,.slice A n c] 59)) g2 [.slice none 0 0]:=(show Bk w g2 [.slice none 0 0] from ⟨e2,h2⟩).al _
 have k3:Bk (w.alloc (.cells #[.int .i64 b0,.int .i64 b1,.string b2,.slice A n c] 59)) g3 [.int .i64 0,.int .i64 0,.string ⟨#[]⟩,.slice none 0 0]:=(show Bk w g3 [.int .i64 0,.int .i64 0,.string ⟨#[]⟩,.slice none 0 0] from ⟨e3,h3⟩).al _
 have k4:Bk (w.alloc (.cells #[.int .i64 b0,.int .i64 b1,.string b2,.slice A n c] 59)) g4 [.int .i64 0]:=(show Bk w g4 [.int .i64 0] from ⟨e4,h4⟩).al _
 have HL:Hid (Below w.heap.size w (w.alloc (.cells #[.int .i64 b0,.int .i64 b1,.string b2,.slice A n c] 59))):=zq ((Below.refl _ _).alloc (Nat.le_refl _) _)
 have HK5:Hid (g2≠w.heap.size∧g3≠w.heap.size∧g4≠w.heap.size):=zq ⟨Nat.ne_of_lt (Array.getElem?_eq_some_iff.1 h2).1,Nat.ne_of_lt (Array.getElem?_eq_some_iff.1 h3).1,Nat.ne_of_lt (Array.getElem?_eq_some_iff.1 h4).1⟩
 clear h2 h3 h4 hta
 refine wpS_of_wp ?_
 simp only [Array.replicate_succ,Array.replicate_zero,List.push_toArray,List.append_toArray,List.nil_append,List.cons_append,List.setIfInBounds_toArray,List.set_cons_zero,List.set_cons_succ]
 generalize w.alloc (.cells #[.int .i64 b0,.int .i64 b1,.string b2,.slice A n c] 59)=W at *
 obtain ⟨d2,d3,d4⟩:=HK5.out
 have d2':=d2.symm
 have d3':=d3.symm
 have d4':=d4.symm
 have n23':=n23.symm
 have n24':=n24.symm
 have n34':=n34.symm
 clear HK5
 have c20:=k2.c 0 _ rfl
 have f20:=k2.f 0
 have c40:=k4.c 0 _ rfl
 have f40:=k4.f 0
 have c30:=k3.c 0 _ rfl
 have c31:=k3.c 1 _ rfl
 have c32:=k3.c 2 _ rfl
 have c33:=k3.c 3 _ rfl
 have f30:=k3.f 0
 have f31:=k3.f 1
 have f32:=k3.f 2
 have f33:=k3.f 3
 have c50:=k5.c 0 _ rfl
 have c51:=k5.c 1 _ rfl
 have c52:=k5.c 2 _ rfl
 have c53:=k5.c 3 _ rfl
 go_region
 cases c₀
 simp [bodyPostS,results,Tryz.results34]
structure Boxes3 (B g2 g3 g4:Nat) (w w':World):Prop where
 os:w'.os=w.os
 tape:w'.tape=w.tape
 output:w'.output=w.output
 size:w.heap.size≤w'.heap.size
 block:∀k,k<B→k≠g2→k≠g3→k≠g4→w'.heap[k]? = w.heap[k]?
theorem Boxes3.of {B g2 g3 g4:Nat} {w w':World} (h:Below B w w'):Boxes3 B g2 g3 g4 w w':=⟨h.os,h.tape,h.output,h.size,fun k hk _ _ _=>h.block k hk⟩
theorem Boxes3.put {B g2 g3 g4:Nat} {w X:World} (h:Boxes3 B g2 g3 g4 w X) (g i:Nat) (v:Value) (hg:g=g2∨g=g3∨g=g4):Boxes3 B g2 g3 g4 w (X.setCell ⟨g,i,none⟩ v) :=
 ⟨h.os,h.tape,h.output,by simpa using h.size,fun k hk k2 k3 k4=>(heap_setCell_other _ _ _ _ (by rcases hg with rfl | rfl | rfl <;> assumption)).trans (h.block k hk k2 k3 k4)⟩
theorem Boxes3.dr {B g2 g3 g4:Nat} {w X:World} (h:Boxes3 B g2 g3 g4 w X):Boxes3 B g2 g3 g4 w X.drew:=⟨h.os,h.tape,h.output,h.size,h.block⟩
theorem Boxes3.cons {B C g2 g3 g4:Nat} {a w w':World} (hB:Below C a w) (h:Boxes3 B g2 g3 g4 w w') (hc:C≤B) (h2:C≤g2) (h3:C≤g3) (h4:C≤g4):Below C a w' :=
 ⟨h.os.trans hB.os,h.tape.trans hB.tape,h.output.trans hB.output,Nat.le_trans hB.size h.size,fun k hk=>(h.block k (by omega) (by omega) (by omega) (by omega)).trans (hB.block k hk)⟩
theorem catch_boxes {g2 g3 g4:Nat} {b0 b1:Int} {b2:ByteArray} {A:Option Addr} {n c:Nat} {w w':World} {e:TypeId} (h2:Bk w g2 [.slice none 0 0]) (h3:Bk w g3 [.int .i64 0,.int .i64 0,.string ⟨#[]⟩,.slice none 0 0]) (h4:Bk w g4 [.int .i64 0]) (n23:g2≠g3) (n24:g2≠g4) (n34:g3≠g4)
  (hw:w'=(((((((w.alloc (.cells #[.int .i64 b0,.int .i64 b1,.string b2,.slice A n c] e)).setCell ⟨g2,0,none⟩ (.slice none 0 0)).setCell ⟨g3,0,none⟩ (.int .i64 b0)).setCell ⟨g3,1,none⟩ (.int .i64 b1)).setCell ⟨g3,2,none⟩ (.string b2)).setCell ⟨g3,3,none⟩ (.slice A n c)).setCell ⟨g4,0,none⟩ (.int .i64 8)).drew) :
  Bk w' g2 [.slice none 0 0]∧Bk w' g3 [.int .i64 b0,.int .i64 b1,.string b2,.slice A n c]∧Bk w' g4 [.int .i64 8]∧Boxes3 w.heap.size g2 g3 g4 w w':=by
 subst hw
 have a2:=h2.al (.cells #[.int .i64 b0,.int .i64 b1,.string b2,.slice A n c] e)
 have a3:=h3.al (.cells #[.int .i64 b0,.int .i64 b1,.string b2,.slice A n c] e)
 have a4:=h4.al (.cells #[.int .i64 b0,.int .i64 b1,.string b2,.slice A n c] e)
 have hal:=(Below.refl w.heap.size w).alloc (Nat.le_refl _) (.cells #[.int .i64 b0,.int .i64 b1,.string b2,.slice A n c] e)
 refine ⟨?_,?_,?_,?_⟩
 ·exact ((((((a2.set 0 (.slice none 0 0)).other n23 0 _).other n23 1 _).other n23 2 _).other n23 3 _).other n24 0 _).dr
 ·exact ((((((a3.other n23.symm 0 _).set 0 _).set 1 _).set 2 _).set 3 _).other n34 0 _).dr
 ·exact ((((((a4.other n24.symm 0 _).other n34.symm 0 _).other n34.symm 1 _).other n34.symm 2 _).other n34.symm 3 _).set 0 _).dr
 ·exact (((((((Boxes3.of hal).put g2 0 _ (.inl rfl)).put g3 0 _ (.inr (.inl rfl))).put g3 1 _ (.inr (.inl rfl))).put g3 2 _ (.inr (.inl rfl))).put g3 3 _ (.inr (.inl rfl))).put g4 0 _ (.inr (.inr rfl))).dr
def rowsOk (k:Nat):RA→Prop
 | .ok rows=>∀r∈rows,r.length=k
 | .ball _=>True
theorem rowsOk_orB {k:Nat} {o:Option Tm} {r:RA} (h:rowsOk k r):rowsOk k (orB o r):=by
 cases o
 ·exact h
 ·trivial
theorem rowsOk_one {k:Nat} (x:List Tm) (h:x.length=k):rowsOk k (.ok [x]):=fun r hr=>by rw [List.mem_singleton] at hr;rw [hr,h]
theorem rowsOk_if {k:Nat} {c:Prop} [Decidable c] {a b:RA} (ha:rowsOk k a) (hb:rowsOk k b):rowsOk k (if c then a else b):=by
 split
 ·exact ha
 ·exact hb
theorem rowsOk_length (t u:Tm):rowsOk 2 (lengthA t u):=rowsOk_if trivial (rowsOk_orB (rowsOk_orB (rowsOk_one _ rfl)))
theorem rowsOk_spelled (c:Bool) (t u:Tm):rowsOk 2 (spelledA c t u):=rowsOk_orB (rowsOk_if trivial (rowsOk_if (rowsOk_one _ rfl) (rowsOk_if trivial (rowsOk_orB (rowsOk_one _ rfl)))))
theorem rowsOk_code (t u:Tm):rowsOk 2 (charCodeA t u):=rowsOk_if trivial (rowsOk_if trivial (rowsOk_if trivial (rowsOk_if trivial (rowsOk_if (rowsOk_one _ rfl) (rowsOk_one _ rfl)))))
theorem rowsOk_num (c:Bool) (t u:Tm):rowsOk 2 (numA c t u):=by
 unfold numA
 refine rowsOk_if trivial (rowsOk_if trivial (rowsOk_orB (rowsOk_if (rowsOk_if trivial (rowsOk_one _ rfl)) ?_)))
 split
 ·trivial
 ·exact rowsOk_one _ rfl
theorem rowsOk_concat (t u m:Tm):rowsOk 3 (concatA t u m):=rowsOk_orB (rowsOk_if trivial (rowsOk_if (rowsOk_one _ rfl) (fun r hr=>by
 unfold catL at hr
 obtain ⟨k,_,rfl⟩:=List.mem_map.1 hr
 rfl)))
theorem rowsOk_sub (t p q r s:Tm):rowsOk 5 (subA t p q r s):=rowsOk_if trivial (rowsOk_orB (rowsOk_orB (rowsOk_orB (fun x hx=>by
 unfold subL at hx
 obtain ⟨y,hy,rfl⟩:=List.mem_map.1 hx
 obtain ⟨z,_,rfl⟩:=List.mem_map.1 (List.mem_filter.1 hy).1
 rfl))))
theorem pred_rows {s:ByteArray} {l:List Tm} {ra:RA} (h:predA s l=some ra):rowsOk l.length ra:=by
 have key:∀{c:Prop} [Decidable c] {a:RA} {b:Option RA} {k:Nat},rowsOk k a→(∀x,b=some x→rowsOk k x)→∀x,(if c then some a else b)=some x→rowsOk k x:=fun ha hb x hx=>by
  split at hx
  ·cases hx;exact ha
  ·exact hb x hx
 match l,h with
 | [t,u],h=>exact key (rowsOk_length t u) (key (rowsOk_spelled false t u) (key (rowsOk_spelled true t u) (key (rowsOk_code t u) (key (rowsOk_num false t u) (key (rowsOk_num true t u) (fun _ h=>by cases h)))))) _ h
 | [t,u,m],h=>exact key (rowsOk_concat t u m) (fun _ h=>by cases h) _ h
 | [t,p,q,r,u],h=>exact key (rowsOk_sub t p q r u) (fun _ h=>by cases h) _ h
def RC (w':World) (e:Ending):CA→Prop
 | .ok l=>∃A c,e=.returned (.tuple #[.slice A l.length c,.agg #[.int .i64 0,.int .i64 0,.string ⟨#[]⟩,.slice none 0 0],.int .i64 0])∧TmsAt w'.heap.size w' A l
 | .ball b=>∃A c,e=.returned (.tuple #[.slice none 0 0,tmV b A c,.int .i64 8])∧(NoV b.args→TmsAt w'.heap.size w' A b.args)
 | .err k=>e=.returned (.tuple #[.slice none 0 0,.agg #[.int .i64 0,.int .i64 0,.string ⟨#[]⟩,.slice none 0 0],.int .i64 k])
end Go.Proofs.YtpokpgkjaifccaaGreatDoorRR
