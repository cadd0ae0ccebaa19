/- Parts of the proof. -/
import Derived.Test.YtpokpgkjaifccaaGreatDoorRRH01
import Derived.Test.YtpokpgkjaifccaaGreatDoorRRH02
import Derived.Maps.OwnSet
namespace Hb
open Go Go.RowKit
theorem validT_iff (t:Tm):validT t=true↔t.nodes≤2000∧t.allOk=true:=by unfold validT;rw [Bool.and_eq_true,decide_eq_true_iff]
theorem validT_arg {t:Tm} (h:validT t=true) (j:Nat) (hj:j<t.args.length):validT t.args[j]=true:=by
 rw [validT_iff] at *
 have h1:=t.nodes_arg j hj
 rw [Tm.arg_get t j hj] at h1
 have h2:=h.2
 rw [Tm.allOk_eq,Bool.and_eq_true,List.all_eq_true] at h2
 exact ⟨by omega,h2.2 _ (List.getElem_mem hj)⟩
def cloneT (t:Tm):Tm:=if validT t=true then t else tm0
theorem elems_len:∀f u,u.nodes≤f→(elemsF f u).length≤u.nodes:=by
 intro f
 induction f with
 | zero=>intro u h;have:=u.nodes_pos;omega
 | succ f ih=>
  intro u h
  show (if u.cons=true then u.arg 0::elemsF f (u.arg 1) else []).length≤_
  split
  ·rename_i hc
   have h1:=u.nodes_arg 1 (by rw [Tm.cons_len hc];decide)
   have:=ih (u.arg 1) (by omega)
   rw [List.length_cons];omega
  ·simp
theorem elemsT_len (t:Tm):(elemsT t).length≤t.nodes:=elems_len t.nodes t (Nat.le_refl _)
structure ElH (w0 w:World) (e:TypeId) (t:Tm) (A:Option Addr) (cap:Nat) (v:Value) (rs:List TR):Prop where
 bel:Below w0.heap.size w0 w
 lt:w0.heap.size+2≤w.heap.size
 c0:w.cell? ⟨w0.heap.size,0,none⟩=some (.int .i64 t.kind)
 c1:w.cell? ⟨w0.heap.size,1,none⟩=some (.int .i64 t.num)
 c2:w.cell? ⟨w0.heap.size,2,none⟩=some (.string t.name)
 c3:w.cell? ⟨w0.heap.size,3,none⟩=some (.slice A t.args.length cap)
 cf:∀o,w.frozen? ⟨w0.heap.size,o,none⟩=false
 r0:∃u,w.cell? ⟨w0.heap.size+1,0,none⟩=some u
 r1:∃u,w.cell? ⟨w0.heap.size+1,1,none⟩=some u
 r2:∃u,w.cell? ⟨w0.heap.size+1,2,none⟩=some u
 r3:∃u,w.cell? ⟨w0.heap.size+1,3,none⟩=some u
 rf:∀o,w.frozen? ⟨w0.heap.size+1,o,none⟩=false
 own:OwnR (w0.heap.size+2) e w v rs
section
variable {w0 w w':World} {e:TypeId} {t:Tm} {A:Option Addr} {cap:Nat} {v:Value} {rs:List TR}
theorem ElH.over (h:ElH w0 w e t A cap v rs) {v':Value} {rs':List TR} (hB:Below w0.heap.size w0 w') (hs:w.heap.size≤w'.heap.size) (hb:∀b o,b<w0.heap.size+2→w'.cell? ⟨b,o,none⟩=w.cell? ⟨b,o,none⟩∧w'.frozen? ⟨b,o,none⟩=w.frozen? ⟨b,o,none⟩) (ho:OwnR (w0.heap.size+2) e w' v' rs'):ElH w0 w' e t A cap v' rs':=by
 have hl:=h.lt
 exact ⟨hB,Nat.le_trans hl hs,(hb _ _ (by omega)).1.trans h.c0,(hb _ _ (by omega)).1.trans h.c1,(hb _ _ (by omega)).1.trans h.c2,(hb _ _ (by omega)).1.trans h.c3,fun o=>(hb _ _ (by omega)).2.trans (h.cf o),
  h.r0.imp fun _ k=>(hb _ _ (by omega)).1.trans k,h.r1.imp fun _ k=>(hb _ _ (by omega)).1.trans k,h.r2.imp fun _ k=>(hb _ _ (by omega)).1.trans k,h.r3.imp fun _ k=>(hb _ _ (by omega)).1.trans k,fun o=>(hb _ _ (by omega)).2.trans (h.rf o),ho⟩
theorem ElH.call (h:ElH w0 w e t A cap v rs) (hB:Below w.heap.size w w'):ElH w0 w' e t A cap v rs:=by
 have hl:=h.lt
 exact h.over (h.bel.trans (hB.mono (by omega))) hB.size (fun b o hb=>⟨hB.cell (p:=⟨b,o,none⟩) (show b<_ by omega),hB.frozen (p:=⟨b,o,none⟩) (show b<_ by omega)⟩) (h.own.below hB)
theorem ElH.app (h:ElH w0 w e t A cap v rs) (r:TR) (hr:TmsK (fun b=>w0.heap.size+2≤b∧b<w.heap.size∧v.ownBlock≠some b) w r.2.1 r.1.args) {v':Value} {w2:World}
  (hown:w2.ownsRow (w0.heap.size+2) e 4 v' (rs.length+1) (rowsC rs++rowC r)) (hg:w.grownBy w2 v.ownBlock) (hat:v'.ownBlock=v.ownBlock∨v'.ownBlock=some w.heap.size):ElH w0 w2 e t A cap v' (rs++[r]):=by
 have hl:=h.lt
 refine h.over (h.bel.grown hg (by omega) (fun k hk=>by have:=(h.own.own.lt k hk).1;omega)) hg.size (fun b o hb=>?_) (h.own.snoc r hr hown hg hat)
 have hne:some b≠v.ownBlock:=fun e=>by have:=(h.own.own.lt b e.symm).1;omega
 exact ⟨hg.cell_far ⟨b,o,none⟩ (show b<_ by omega) hne,hg.frozen_far ⟨b,o,none⟩ (show b<_ by omega) hne⟩
theorem sc_ne (w:World) (g i j:Nat) (v:Value) (h:j≠i):(w.setCell ⟨g,i,none⟩ v).cell? ⟨g,j,none⟩=w.cell? ⟨g,j,none⟩:=World.cell?_setCell_other _ _ _ _ (fun e=>h (by injection e with _ e2 _;first | exact e2 | exact e2.symm))
theorem put4_cells (w:World) (g:Nat) (x y z u:Value) {y0 y1 y2 y3:Value} (h0:w.cell? ⟨g,0,none⟩=some y0) (h1:w.cell? ⟨g,1,none⟩=some y1) (h2:w.cell? ⟨g,2,none⟩=some y2) (h3:w.cell? ⟨g,3,none⟩=some y3) (W:World) (hW:W=(((w.setCell ⟨g,0,none⟩ x).setCell ⟨g,1,none⟩ y).setCell ⟨g,2,none⟩ z).setCell ⟨g,3,none⟩ u) :
  W.cell? ⟨g,0,none⟩=some x∧W.cell? ⟨g,1,none⟩=some y∧W.cell? ⟨g,2,none⟩=some z∧W.cell? ⟨g,3,none⟩=some u∧∀p,W.frozen? p=w.frozen? p:=by
 obtain ⟨w1,e1⟩:∃w1,w1=w.setCell ⟨g,0,none⟩ x:=⟨_,rfl⟩
 obtain ⟨w2,e2⟩:∃w2,w2=w1.setCell ⟨g,1,none⟩ y:=⟨_,rfl⟩
 obtain ⟨w3,e3⟩:∃w3,w3=w2.setCell ⟨g,2,none⟩ z:=⟨_,rfl⟩
 rw [←e1,←e2,←e3] at hW
 have a0:w1.cell? ⟨g,0,none⟩=some x:=by rw [e1];exact World.cell?_setCell_same _ _ _ h0
 have a1:w1.cell? ⟨g,1,none⟩=some y1:=by rw [e1,sc_ne _ _ _ _ _ (by decide)];exact h1
 have a2:w1.cell? ⟨g,2,none⟩=some y2:=by rw [e1,sc_ne _ _ _ _ _ (by decide)];exact h2
 have a3:w1.cell? ⟨g,3,none⟩=some y3:=by rw [e1,sc_ne _ _ _ _ _ (by decide)];exact h3
 have b0:w2.cell? ⟨g,0,none⟩=some x:=by rw [e2,sc_ne _ _ _ _ _ (by decide)];exact a0
 have b1:w2.cell? ⟨g,1,none⟩=some y:=by rw [e2];exact World.cell?_setCell_same _ _ _ a1
 have b2:w2.cell? ⟨g,2,none⟩=some y2:=by rw [e2,sc_ne _ _ _ _ _ (by decide)];exact a2
 have b3:w2.cell? ⟨g,3,none⟩=some y3:=by rw [e2,sc_ne _ _ _ _ _ (by decide)];exact a3
 have c0:w3.cell? ⟨g,0,none⟩=some x:=by rw [e3,sc_ne _ _ _ _ _ (by decide)];exact b0
 have c1:w3.cell? ⟨g,1,none⟩=some y:=by rw [e3,sc_ne _ _ _ _ _ (by decide)];exact b1
 have c2:w3.cell? ⟨g,2,none⟩=some z:=by rw [e3];exact World.cell?_setCell_same _ _ _ b2
 have c3:w3.cell? ⟨g,3,none⟩=some y3:=by rw [e3,sc_ne _ _ _ _ _ (by decide)];exact b3
 refine ⟨?_,?_,?_,?_,fun p=>by rw [hW,e3,e2,e1,World.frozen?_setCell,World.frozen?_setCell,World.frozen?_setCell,World.frozen?_setCell]⟩
 ·rw [hW,sc_ne _ _ _ _ _ (by decide)];exact c0
 ·rw [hW,sc_ne _ _ _ _ _ (by decide)];exact c1
 ·rw [hW,sc_ne _ _ _ _ _ (by decide)];exact c2
 ·rw [hW];exact World.cell?_setCell_same _ _ _ c3
theorem ElH.next (h:ElH w0 w e t A cap v rs) (u:Tm) (A':Option Addr) (cap':Nat) :
  ElH w0 ((((w.setCell ⟨w0.heap.size,0,none⟩ (.int .i64 u.kind)).setCell ⟨w0.heap.size,1,none⟩ (.int .i64 u.num)).setCell ⟨w0.heap.size,2,none⟩ (.string u.name)).setCell ⟨w0.heap.size,3,none⟩ (.slice A' u.args.length cap')) e u A' cap' v rs:=by
 have hl:=h.lt
 have hle:w0.heap.size≤w0.heap.size:=Nat.le_refl _
 have hbel:Below w0.heap.size w0 ((((w.setCell ⟨w0.heap.size,0,none⟩ (.int .i64 u.kind)).setCell ⟨w0.heap.size,1,none⟩ (.int .i64 u.num)).setCell ⟨w0.heap.size,2,none⟩ (.string u.name)).setCell ⟨w0.heap.size,3,none⟩ (.slice A' u.args.length cap')):=((((h.bel.setCell (p:=⟨_,_,none⟩) hle _).setCell (p:=⟨_,_,none⟩) hle _).setCell (p:=⟨_,_,none⟩) hle _).setCell (p:=⟨_,_,none⟩) hle _)
 have hc:=put4_cells w w0.heap.size (.int .i64 u.kind) (.int .i64 u.num) (.string u.name) (.slice A' u.args.length cap') h.c0 h.c1 h.c2 h.c3 _ rfl
 have hbl:=fun b hb=>put4_block w w0.heap.size (.int .i64 u.kind) (.int .i64 u.num) (.string u.name) (.slice A' u.args.length cap') b hb
 have hsz:=put4_size w w0.heap.size (.int .i64 u.kind) (.int .i64 u.num) (.string u.name) (.slice A' u.args.length cap')
 generalize (((w.setCell ⟨w0.heap.size,0,none⟩ (.int .i64 u.kind)).setCell ⟨w0.heap.size,1,none⟩ (.int .i64 u.num)).setCell ⟨w0.heap.size,2,none⟩ (.string u.name)).setCell ⟨w0.heap.size,3,none⟩ (.slice A' u.args.length cap')=W at *
 obtain ⟨q0,q1,q2,q3,qf⟩:=hc
 have far:∀o,W.cell? ⟨w0.heap.size+1,o,none⟩=w.cell? ⟨w0.heap.size+1,o,none⟩:=fun o=>World.cell?_of_block (hbl (w0.heap.size+1) (by omega))
 exact ⟨hbel,by omega,q0,q1,q2,q3,fun o=>(qf _).trans (h.cf o),h.r0.imp fun _ k=>(far 0).trans k,h.r1.imp fun _ k=>(far 1).trans k,h.r2.imp fun _ k=>(far 2).trans k,h.r3.imp fun _ k=>(far 3).trans k,fun o=>(qf _).trans (h.rf o),h.own.keep (by omega) fun b hb _=>hbl b (by omega)⟩
end
theorem ElH.start (w:World) (t:Tm) (A:Option Addr) (cap LN:Nat) (e:TypeId) (hL:LN=t.args.length) :
  ElH w ((w.alloc (.cells #[.int .i64 t.kind,.int .i64 t.num,.string t.name,.slice A LN cap] e)).alloc (.cells #[.int .i64 0,.int .i64 0,.string ⟨#[]⟩,.slice none 0 0] e)) e t A cap (.slice none 0 0) []:=by
 obtain ⟨W1,hW1⟩:∃W1,W1=w.alloc (.cells #[.int .i64 t.kind,.int .i64 t.num,.string t.name,.slice A LN cap] e):=⟨_,rfl⟩
 rw [←hW1]
 have s1:W1.heap.size=w.heap.size+1:=by rw [hW1];simp
 have hB1:Below w.heap.size w W1:=by rw [hW1];exact (Below.refl _ _).alloc (Nat.le_refl _) _
 have hB2:Below W1.heap.size W1 (W1.alloc (.cells #[.int .i64 0,.int .i64 0,.string ⟨#[]⟩,.slice none 0 0] e)):=(Below.refl _ _).alloc (Nat.le_refl _) _
 have a:∀j,W1.cell? ⟨w.heap.size,j,none⟩=(#[.int .i64 t.kind,.int .i64 t.num,.string t.name,.slice A t.args.length cap]:Array Value)[j]?:=fun j=>by rw [hW1,←hL];exact World.cell?_alloc_new _ _ _ j
 have af:∀o,W1.frozen? ⟨w.heap.size,o,none⟩=false:=fun o=>by rw [hW1];exact World.frozen?_alloc_at (w:=w) _ _ w.heap.size o rfl
 have k1:∀o,(W1.alloc (.cells #[.int .i64 0,.int .i64 0,.string ⟨#[]⟩,.slice none 0 0] e)).cell? ⟨w.heap.size,o,none⟩=W1.cell? ⟨w.heap.size,o,none⟩:=fun o=>hB2.cell (p:=⟨w.heap.size,o,none⟩) (show w.heap.size<W1.heap.size by omega)
 have r:∀j,(W1.alloc (.cells #[.int .i64 0,.int .i64 0,.string ⟨#[]⟩,.slice none 0 0] e)).cell? ⟨w.heap.size+1,j,none⟩=(#[.int .i64 0,.int .i64 0,.string ⟨#[]⟩,.slice none 0 0]:Array Value)[j]?:=fun j=>by
  have:=World.cell?_alloc_new W1 #[.int .i64 0,.int .i64 0,.string ⟨#[]⟩,.slice none 0 0] e j
  rw [s1] at this;exact this
 exact ⟨hB1.trans (hB2.mono (by omega)),by simp;omega,(k1 0).trans (a 0),(k1 1).trans (a 1),(k1 2).trans (a 2),(k1 3).trans (a 3),fun o=>(hB2.frozen (p:=⟨w.heap.size,o,none⟩) (show w.heap.size<W1.heap.size by omega)).trans (af o),⟨_,r 0⟩,⟨_,r 1⟩,⟨_,r 2⟩,⟨_,r 3⟩,fun o=>World.frozen?_alloc_at (w:=W1) _ _ (w.heap.size+1) o s1.symm,OwnR.nul _ _ _⟩
theorem ElH.put {w0 w:World} {e:TypeId} {t:Tm} {A:Option Addr} {cap:Nat} {v:Value} {rs:List TR} (h:ElH w0 w e t A cap v rs) (x0 x1 x2 x3:Value) :
  Below w0.heap.size w0 ((((w.setCell ⟨w0.heap.size+1,0,none⟩ x0).setCell ⟨w0.heap.size+1,1,none⟩ x1).setCell ⟨w0.heap.size+1,2,none⟩ x2).setCell ⟨w0.heap.size+1,3,none⟩ x3) ∧
  OwnR (w0.heap.size+2) e ((((w.setCell ⟨w0.heap.size+1,0,none⟩ x0).setCell ⟨w0.heap.size+1,1,none⟩ x1).setCell ⟨w0.heap.size+1,2,none⟩ x2).setCell ⟨w0.heap.size+1,3,none⟩ x3) v rs:=by
 have hle:w0.heap.size≤w0.heap.size+1:=by omega
 exact ⟨((((h.bel.setCell (p:=⟨_,_,none⟩) hle _).setCell (p:=⟨_,_,none⟩) hle _).setCell (p:=⟨_,_,none⟩) hle _).setCell (p:=⟨_,_,none⟩) hle _),h.own.keep (by simp) fun b hb _=>put4_block w (w0.heap.size+1) _ _ _ _ b (by omega)⟩
def lenV:Value→Nat | .slice _ n _=>n | _=>0
theorem lenV_own {w:World} {b e s n:Nat} {v:Value} {xs:List Value} (h:w.ownsRow b e s v n xs):lenV v=n:=by
 rcases h.2 with ⟨rfl,rfl⟩ | ⟨g,cap,cur,rfl,_⟩ <;> rfl
end Hb
namespace Go.Proofs.YtpokpgkjaifccaaGreatDoorRR
open Go.RowKit Hb
set_option maxRecDepth 100000
set_option maxHeartbeats 1600000 in
theorem t_clone (t:Tm) (A:Option Addr) (cap:Nat) (w:World) (hT:TmsAt w.heap.size w A t.args) :
  Calls Tryz.prog 35 #[tmV t A cap] w fun e w'=>∃A' cap',e=.returned (tmV (cloneT t) A' cap')∧Below w.heap.size w w'∧NewT w w' A' (cloneT t).args:=by
 have hX0:=R4.start (w0:=w) (w:=w.alloc (.cells #[.int .i64 t.kind,.int .i64 t.num,.string t.name,.slice A t.args.length cap] 32)) ((Below.refl _ _).alloc (Nat.le_refl _) _) (.int .i64 0) (.int .i64 0) (.string ⟨#[]⟩) (.slice none 0 0) 32
 have hs:(w.alloc (.cells #[.int .i64 t.kind,.int .i64 t.num,.string t.name,.slice A t.args.length cap] 32)).heap.size=w.heap.size+1:=by simp
 rw [hs] at hX0
 have HX:=zq hX0
 have HB0:Hid (TBoxT w ((w.alloc (.cells #[.int .i64 t.kind,.int .i64 t.num,.string t.name,.slice A t.args.length cap] 32)).alloc (.cells #[.int .i64 0,.int .i64 0,.string ⟨#[]⟩,.slice none 0 0] 32)) t A cap) :=
  zq ((TBoxT.start w t A cap 32).call ((Below.refl _ _).alloc (Nat.le_refl _) _))
 have HCEL:=zq (fun (W:World) (h:TBoxT w W t A cap)=>(⟨h.c0,h.c1,h.c2,h.c3⟩:_∧_∧_∧_))
 have HV:=zq (fun (W:World) (h:R4 w W (w.heap.size+1))=>t_valid t A cap W ((hT.keep h.bel).mono h.bel.size))
 have HAP:=zq (fun (W:World) (h:R4 w W (w.heap.size+1)) (ho:t.allOk=true)=>t_apply t A cap W ((hT.keep h.bel).mono h.bel.size) ho)
 clear hT hX0 hs
 unfold tmV cloneF at *
 cases hv:validT t
 ·have HE:=zq (show cloneT t=tm0 by unfold cloneT;rw [hv];rfl)
  rw [hv] at HV
  clear hv
  rw [HE.out]
  generalize t.kind=a0 at *
  generalize t.num=a1 at *
  generalize t.name=a2 at *
  generalize t.args.length=a3 at *
  go_enter Tryz.func35,Tryz.ntmps35
  go_wp2_with fail
  refine (HV.out _ HX.out).mono ?_;rintro e w1 ⟨rfl,hB1⟩
  have hX1:=HX.out.call hB1
  obtain ⟨v0,r0⟩:=hX1.r0
  obtain ⟨v1,r1⟩:=hX1.r1
  obtain ⟨v2,r2⟩:=hX1.r2
  obtain ⟨v3,r3⟩:=hX1.r3
  have f0:=hX1.fr 0
  have f1:=hX1.fr 1
  have f2:=hX1.fr 2
  have f3:=hX1.fr 3
  have hput:=hX1.put (.int .i64 0) (.int .i64 0) (.string ⟨#[]⟩) (.slice none 0 0)
  go_wp2_with fail
  exact bodyPost_ret (v:=.agg #[.int .i64 0,.int .i64 0,.string ⟨#[]⟩,.slice none 0 0]) (by simp [results,Tryz.results35,go_sem,r0,r1,r2,r3]) rfl ⟨none,0,rfl,hput,TmsK.nil⟩
 ·have hok:=((validT_iff t).1 hv).2
  have HE:=zq (show cloneT t=t by unfold cloneT;rw [hv];rfl)
  rw [hv] at HV
  clear hv
  rw [HE.out]
  have HAP2:=zq (fun W h=>HAP.out W h hok)
  clear HAP hok
  generalize t.kind=a0 at *
  generalize t.num=a1 at *
  generalize t.name=a2 at *
  generalize t.args.length=a3 at *
  go_enter Tryz.func35,Tryz.ntmps35
  go_wp2_with fail
  refine (HV.out _ HX.out).mono ?_;rintro e w1 ⟨rfl,hB1⟩
  have hX1:=HX.out.call hB1
  have hT1:=HB0.out.call hB1
  obtain ⟨c0,c1,c2,c3⟩:=HCEL.out _ hT1
  go_wp2_with fail
  refine (HAP2.out _ hX1).mono ?_;rintro e w2 ⟨A2,n2,rfl,hB2,hN⟩
  have hX2:=hX1.call hB2
  have hNN:=zq hN
  obtain ⟨v0,r0⟩:=hX2.r0
  obtain ⟨v1,r1⟩:=hX2.r1
  obtain ⟨v2,r2⟩:=hX2.r2
  obtain ⟨v3,r3⟩:=hX2.r3
  have f0:=hX2.fr 0
  have f1:=hX2.fr 1
  have f2:=hX2.fr 2
  have f3:=hX2.fr 3
  have HP:=zq (hX2.put (.int .i64 a0) (.int .i64 a1) (.string a2) (.slice A2 a3 n2))
  have HNA:Hid (NewT w ((((w2.setCell ⟨w.heap.size+1,0,none⟩ (.int .i64 a0)).setCell ⟨w.heap.size+1,1,none⟩ (.int .i64 a1)).setCell ⟨w.heap.size+1,2,none⟩ (.string a2)).setCell ⟨w.heap.size+1,3,none⟩ (.slice A2 a3 n2)) A2 t.args) :=
   zq (TmsK.keep hN (fun b hb=>put4_block w2 (w.heap.size+1) _ _ _ _ b (by have:=hX1.lt;omega)) (fun b hb=>⟨by have:=hX1.lt;omega,by rw [put4_size];exact hb.2⟩))
  clear hN c0 c1 c2 c3
  go_wp2_with fail
  exact bodyPost_ret (v:=.agg #[.int .i64 a0,.int .i64 a1,.string a2,.slice A2 a3 n2]) (by simp [results,Tryz.results35,go_sem,r0,r1,r2,r3]) rfl ⟨A2,n2,rfl,HP.out,HNA.out⟩
set_option maxHeartbeats 6400000 in
theorem t_elems (t:Tm) (A:Option Addr) (cap:Nat) (w:World) (hT:TmsAt w.heap.size w A t.args) (hv:validT t=true) :
  Calls Tryz.prog 95 #[tmV t A cap] w fun e w'=>∃A1 c1 A2 c2,e=.returned (.tuple #[.slice A1 (elemsT t).length c1,tmV (tailT t) A2 c2])∧Below w.heap.size w w'∧NewT w w' A1 (elemsT t)∧NewT w w' A2 (tailT t).args:=by
 obtain ⟨i,hi,hz0,hz1,hz2⟩:=info_parts infoTm
 have HI:=zq hi
 have HZ0:=zq hz0
 have HZ1:=zq hz1
 have HZ2:=zq hz2
 clear hi hz0 hz1 hz2
 have HT:=zq hT
 have HV0:=zq hv
 have hsz:t.nodes≤2000:=((validT_iff t).1 hv).1
 have HEL:=zq (elemsT_len t)
 obtain ⟨L,HL⟩:=lz (t.args.length)
 have HST:=zq (ElH.start w t A cap L 32 HL.out)
 have HVV:Hid (∀(W:World),ElH w W 32 t A cap (.slice none 0 0) []→Calls Tryz.prog 31 #[.agg #[.int .i64 t.kind,.int .i64 t.num,.string t.name,.slice A L cap]] W fun e w'=>e=.returned (.bool true)∧ElH w w' 32 t A cap (.slice none 0 0) []):=zq (fun W h=>by
  have:=t_valid t A cap W ((hT.keep h.bel).mono h.bel.size)
  unfold tmV at this
  rw [hv,←HL.out] at this
  exact this.mono fun _ _ hh=>⟨hh.1,h.call hh.2⟩)
 clear hT hv
 unfold tmV
 rw [←HL.out]
 go_enter Tryz.func95,Tryz.ntmps95
 go_wp2_with fail
 refine (HVV.out _ HST.out).mono ?_;rintro e w1 ⟨rfl,hX1⟩
 have HX1:=zq hX1
 clear hX1
 go_wp2_with fail
 go_loopw [4] (fun v wr=>∃(u:Tm) (A1:Option Addr) (c1:Nat) (rs:List TR),Hid (ElH w wr 32 u A1 c1 v rs)∧Hid (TmsAt w.heap.size w A1 u.args)∧Hid (validT u=true)∧Hid (elemsT t=rs.map (fun x:TR=>x.1)++elemsT u)∧Hid (tailT t=tailT u)) (fun v _=>2001-lenV v)
 case atStart=>exact ⟨t,A,cap,[],HX1,HT,HV0,zq rfl,zq rfl⟩
 case round=>
  obtain ⟨u,A1,n1,rs,HB,HU,HV,HE,HTL⟩:=hrel
  obtain ⟨v,hvv⟩:∃v,v=u4:=⟨_,rfl⟩
  subst hvv
  have b0:=HB.out.c0
  have b1:=HB.out.c1
  have b2:=HB.out.c2
  have b3:=HB.out.c3
  have hlen:rs.length+(elemsT u).length≤2000:=by
   have h1:=congrArg List.length HE.out
   rw [List.length_append,List.length_map] at h1
   have h2:=HEL.out
   omega
  have HCL:Hid (∀W,ElH w W 32 u A1 n1 v rs→Calls Tryz.prog 35 #[.agg #[.int .i64 u.kind,.int .i64 u.num,.string u.name,.slice A1 u.args.length n1]] W fun e w'=>∃A' cap',e=.returned (.agg #[.int .i64 u.kind,.int .i64 u.num,.string u.name,.slice A' u.args.length cap'])∧ElH w w' 32 u A1 n1 v rs∧NewT W w' A' u.args∧W.heap.size≤w'.heap.size):=zq (fun W h=>by
   have:=t_clone u A1 n1 W ((HU.out.keep h.bel).mono h.bel.size)
   rw [show cloneT u=u by unfold cloneT;rw [HV.out];rfl] at this
   exact this.mono fun _ _ ⟨A',c',he,hB,hN⟩=>⟨A',c',he,h.call hB,hN,hB.size⟩)
  cases hc:u.cons
  ·have HE2:Hid (elemsT t=rs.map (fun x:TR=>x.1)):=zq (by rw [HE.out,elemsT_end hc,List.append_nil])
   have HT2:Hid (tailT t=u):=zq (by rw [HTL.out,tailT_end hc])
   have hnc:(u.kind==3&&(u.name.toList==[46]&&u.args.length==2))=false:=hc
   have HCL2:=zq (HCL.out wr HB.out)
   have hfin:∀(W:World) (A2:Option Addr) (n2:Nat),ElH w W 32 u A1 n1 v rs→NewT wr W A2 u.args→wr.heap.size≤W.heap.size →
     ∃A3 c3,v=.slice A3 (elemsT t).length c3∧Below w.heap.size w ((((W.setCell ⟨w.heap.size+1,0,none⟩ (.int .i64 u.kind)).setCell ⟨w.heap.size+1,1,none⟩ (.int .i64 u.num)).setCell ⟨w.heap.size+1,2,none⟩ (.string u.name)).setCell ⟨w.heap.size+1,3,none⟩ (.slice A2 u.args.length n2)) ∧
      NewT w ((((W.setCell ⟨w.heap.size+1,0,none⟩ (.int .i64 u.kind)).setCell ⟨w.heap.size+1,1,none⟩ (.int .i64 u.num)).setCell ⟨w.heap.size+1,2,none⟩ (.string u.name)).setCell ⟨w.heap.size+1,3,none⟩ (.slice A2 u.args.length n2)) A3 (elemsT t) ∧
      NewT w ((((W.setCell ⟨w.heap.size+1,0,none⟩ (.int .i64 u.kind)).setCell ⟨w.heap.size+1,1,none⟩ (.int .i64 u.num)).setCell ⟨w.heap.size+1,2,none⟩ (.string u.name)).setCell ⟨w.heap.size+1,3,none⟩ (.slice A2 u.args.length n2)) A2 u.args:=by
    intro W A2 n2 h hN hle
    obtain ⟨hB,hO⟩:=h.put (.int .i64 u.kind) (.int .i64 u.num) (.string u.name) (.slice A2 u.args.length n2)
    have hlt:=HB.out.lt
    obtain ⟨A3,c3,he,h3⟩:=hO.tms
    rw [HE2.out]
    refine ⟨A3,c3,by rw [List.length_map];exact he,hB,h3.keep (fun _ _=>rfl) (fun b hb=>⟨by have:=hb.1;omega,hb.2⟩),TmsK.keep hN (fun b hb=>put4_block W (w.heap.size+1) _ _ _ _ b (by omega)) (fun b hb=>⟨by omega,by rw [put4_size];exact hb.2⟩)⟩
   have HF:=zq hfin
   obtain ⟨en,HEN⟩:=lz ((elemsT t).length)
   rw [←HEN.out] at HF
   have HRES:Hid (∀(A3:Option Addr) (c3:Nat) (A2:Option Addr) (n2:Nat) (W:World),NewT w W A2 u.args→Ending.returned (.tuple #[.slice A3 en c3,.agg #[.int .i64 u.kind,.int .i64 u.num,.string u.name,.slice A2 u.args.length n2]])=Ending.returned (.tuple #[.slice A3 (elemsT t).length c3,.agg #[.int .i64 (tailT t).kind,.int .i64 (tailT t).num,.string (tailT t).name,.slice A2 (tailT t).args.length n2]])∧NewT w W A2 (tailT t).args) :=
    zq (fun A3 c3 A2 n2 W h=>by rw [HT2.out,HEN.out];exact ⟨rfl,h⟩)
   clear hfin HCL HE HTL HU HV hc HE2 HT2 HEN
   generalize u.kind=a0 at *
   generalize u.num=a1 at *
   generalize u.name=a2 at *
   generalize u.args.length=a3 at *
   by_cases hk3:a0=3
   ·subst hk3
    have hnc2:(a2.toList==[46]&&a3==2)=false:=by simpa using hnc
    cases hn:(a2.toList==[46])
    ·have hn2:¬a2.toList=[46]:=by simpa using hn
     clear hnc hnc2
     go_wp2_with fail
     refine HCL2.out.mono ?_;rintro e w2 ⟨A2,n2,rfl,hX2,hN,hle⟩
     obtain ⟨v0,r0⟩:=hX2.r0
     obtain ⟨v1,r1⟩:=hX2.r1
     obtain ⟨v2,r2⟩:=hX2.r2
     obtain ⟨v3,r3⟩:=hX2.r3
     have f0:=hX2.rf 0
     have f1:=hX2.rf 1
     have f2:=hX2.rf 2
     have f3:=hX2.rf 3
     obtain ⟨A3,c3,rfl,hB,hN1,hN2⟩:=HF.out w2 A2 n2 hX2 hN hle
     clear hX2 hN hle HF
     go_wp2_with fail
     obtain ⟨he,hn2⟩:=HRES.out A3 c3 A2 n2 _ hN2
     exact bodyPost_ret (v:=.tuple #[.slice A3 en c3,.agg #[.int .i64 3,.int .i64 a1,.string a2,.slice A2 a3 n2]]) (by simp [results,Tryz.results95,go_sem,r0,r1,r2,r3]) rfl ⟨A3,c3,A2,n2,he,hB,hN1,hn2⟩
    ·have hn2:a2.toList=[46]:=by simpa using hn
     have hl2:(a3==2)=false:=by rw [hn,Bool.true_and] at hnc2;exact hnc2
     have hl3:¬a3=2:=by simpa using hl2
     clear hnc hnc2
     go_wp2_with fail
     refine HCL2.out.mono ?_;rintro e w2 ⟨A2,n2,rfl,hX2,hN,hle⟩
     obtain ⟨v0,r0⟩:=hX2.r0
     obtain ⟨v1,r1⟩:=hX2.r1
     obtain ⟨v2,r2⟩:=hX2.r2
     obtain ⟨v3,r3⟩:=hX2.r3
     have f0:=hX2.rf 0
     have f1:=hX2.rf 1
     have f2:=hX2.rf 2
     have f3:=hX2.rf 3
     obtain ⟨A3,c3,rfl,hB,hN1,hN2⟩:=HF.out w2 A2 n2 hX2 hN hle
     clear hX2 hN hle HF
     go_wp2_with fail
     obtain ⟨he,hn2⟩:=HRES.out A3 c3 A2 n2 _ hN2
     exact bodyPost_ret (v:=.tuple #[.slice A3 en c3,.agg #[.int .i64 3,.int .i64 a1,.string a2,.slice A2 a3 n2]]) (by simp [results,Tryz.results95,go_sem,r0,r1,r2,r3]) rfl ⟨A3,c3,A2,n2,he,hB,hN1,hn2⟩
   ·have hk4:(a0==3)=false:=by simpa using hk3
    clear hnc
    go_wp2_with fail
    refine HCL2.out.mono ?_;rintro e w2 ⟨A2,n2,rfl,hX2,hN,hle⟩
    obtain ⟨v0,r0⟩:=hX2.r0
    obtain ⟨v1,r1⟩:=hX2.r1
    obtain ⟨v2,r2⟩:=hX2.r2
    obtain ⟨v3,r3⟩:=hX2.r3
    have f0:=hX2.rf 0
    have f1:=hX2.rf 1
    have f2:=hX2.rf 2
    have f3:=hX2.rf 3
    obtain ⟨A3,c3,rfl,hB,hN1,hN2⟩:=HF.out w2 A2 n2 hX2 hN hle
    clear hX2 hN hle HF
    go_wp2_with fail
    obtain ⟨he,hn2⟩:=HRES.out A3 c3 A2 n2 _ hN2
    exact bodyPost_ret (v:=.tuple #[.slice A3 en c3,.agg #[.int .i64 a0,.int .i64 a1,.string a2,.slice A2 a3 n2]]) (by simp [results,Tryz.results95,go_sem,r0,r1,r2,r3]) rfl ⟨A3,c3,A2,n2,he,hB,hN1,hn2⟩
  ·have hcl:=Tm.cons_len hc
   have hk:u.kind=3:=by unfold Tm.cons at hc;simp at hc;exact hc.1
   have hnm:u.name.toList=[46]:=by unfold Tm.cons Tm.isNm at hc;simp at hc;exact hc.2.1
   obtain ⟨b,off,A3,n3,rfl,hb,x0,x1,x2,x3,hs0⟩:=(HU.out.keep HB.out.bel).get 0 (by omega)
   obtain ⟨b',off',A4,n4,hA,hb',y0,y1,y2,y3,hs1⟩:=HU.out.get 1 (by omega)
   obtain ⟨rfl,rfl⟩:b=b'∧off=off':=by injection hA with hA;injection hA with h1 h2 _;exact ⟨h1,h2⟩
   clear hA hb'
   have HVA:=zq (validT_arg HV.out 0 (by omega))
   have HVC:=zq (validT_arg HV.out 1 (by omega))
   have HE3:Hid (∀A2 c2,elemsT t=(rs++[((u.args[0],A2,c2):TR)]).map (fun x:TR=>x.1)++elemsT u.args[1]):=zq (fun A2 c2=>by
    rw [HE.out,elemsT_cons hc,Tm.arg_get u 0 (by omega),Tm.arg_get u 1 (by omega)];simp)
   have HT3:Hid (tailT t=tailT u.args[1]):=zq (by rw [HTL.out,tailT_cons hc,Tm.arg_get u 1 (by omega)])
   have hrl:rs.length≤2000:=by omega
   have HLV:=zq (lenV_own HB.out.own.own)
   have HNX:=zq (fun (W:World) (v':Value) (rs':List TR) (h:ElH w W 32 u (some ⟨b,off,none⟩) n1 v' rs')=>h.next u.args[1] A4 n4)
   have HCA:Hid (Calls Tryz.prog 35 #[.agg #[.int .i64 u.args[0].kind,.int .i64 u.args[0].num,.string u.args[0].name,.slice A3 u.args[0].args.length n3]] wr fun e w'=>∃A' cap',e=.returned (.agg #[.int .i64 u.args[0].kind,.int .i64 u.args[0].num,.string u.args[0].name,.slice A' u.args[0].args.length cap'])∧ElH w w' 32 u (some ⟨b,off,none⟩) n1 v rs∧TmsK (fun b=>w.heap.size+2≤b∧b<w'.heap.size∧v.ownBlock≠some b) w' A' u.args[0].args):=zq (by
    have:=t_clone u.args[0] A3 n3 wr (hs0.mono HB.out.bel.size)
    rw [show cloneT u.args[0]=u.args[0] by unfold cloneT;rw [HVA.out];rfl] at this
    refine this.mono fun _ w' ⟨A',c',he,hB,hN⟩=>⟨A',c',he,HB.out.call hB,TmsK.keep hN (fun _ _=>rfl) fun b hb=>⟨Nat.le_trans HB.out.lt hb.1,hb.2,fun ee=>?_⟩⟩
    have:=(HB.out.own.own.lt b ee).2
    have h1:=hb.1
    omega)
   have HY:Hid (∀W,Below w.heap.size w W→W.cell? ⟨b,off+4,none⟩=some (.int .i64 u.args[1].kind)∧W.cell? ⟨b,off+4+1,none⟩=some (.int .i64 u.args[1].num)∧W.cell? ⟨b,off+4+2,none⟩=some (.string u.args[1].name)∧W.cell? ⟨b,off+4+3,none⟩=some (.slice A4 u.args[1].args.length n4)):=zq (fun W hB=>by
    rw [Nat.one_mul] at y0 y1 y2 y3
    exact ⟨(hB.cell (p:=⟨b,_,none⟩) hb).trans y0,(hB.cell (p:=⟨b,_,none⟩) hb).trans y1,(hB.cell (p:=⟨b,_,none⟩) hb).trans y2,(hB.cell (p:=⟨b,_,none⟩) hb).trans y3⟩)
   rw [Nat.zero_mul,Nat.add_zero] at x0 x1 x2 x3
   rw [hk] at b0
   rw [hcl] at b3
   have HS1:=zq hs1
   clear y0 y1 y2 y3 hs0 hs1 HCL HE HTL HV hc HVA HT HST HVV
   obtain ⟨a,HAE⟩:=lz (u.args[0])
   obtain ⟨c,HCE⟩:=lz (u.args[1])
   rw [←HAE.out] at HCA x0 x1 x2 x3 HE3
   rw [←HCE.out] at HY HNX HE3 HT3 HVC HS1
   go_wp2_with fail
   refine HCA.out.mono ?_;rintro e w2 ⟨A2,c2,rfl,hX2,hS2⟩
   have hXa:=hX2.call ((Below.refl _ _).alloc (Nat.le_refl _) (.cells #[.int .i64 a.kind,.int .i64 a.num,.string a.name,.slice A2 a.args.length c2] 32))
   have hSa:TmsK (fun b=>w.heap.size+2≤b∧b<(w2.alloc (.cells #[.int .i64 a.kind,.int .i64 a.num,.string a.name,.slice A2 a.args.length c2] 32)).heap.size∧v.ownBlock≠some b) (w2.alloc (.cells #[.int .i64 a.kind,.int .i64 a.num,.string a.name,.slice A2 a.args.length c2] 32)) A2 a.args :=
    hS2.keep (fun b hb=>heap_alloc_old w2 _ hb.2.1) fun b hb=>⟨hb.1,by simp;omega,hb.2.2⟩
   have q1:rs.length+1≤maxLen:=by unfold maxLen;omega
   have q2:(rs.length+1) * 56≤140737488355328:=by omega
   have q3:=hXa.lt
   have q4:∀j u,(rowC (a,A2,c2))[j]? = some u→(w2.alloc (.cells #[.int .i64 a.kind,.int .i64 a.num,.string a.name,.slice A2 a.args.length c2] 32)).cell? ((⟨w2.heap.size,0,none⟩:Addr).add j)=some u:=World.news_of_block (heap_alloc_new w2 _)
   have HSA:=zq hSa
   have HXA:=zq hXa
   clear hSa hXa hX2 hS2
   go_wp2_with ((with_reducible refine at_appTT ?_);go_must (refine wpList_append_own_at _ rfl _ _ 30 rfl (w.heap.size+2) 32 i _ 4 56 Tryz.underlying30 HI.out HZ0.out HZ1.out HZ2.out rfl (by decide) v rs.length (rowsC rs) rfl HXA.out.own.own ⟨w2.heap.size,0,none⟩ 1 1 (rowC (a,A2,c2)) rfl rfl q4 (rowC_one _) q1 q2 q3 ?_;intro v' w3 hown3 hg3 hnil3 hat3;have hY3:=HXA.out.app (a,A2,c2) HSA.out hown3 hg3 hat3;obtain ⟨z0,z1,z2,z3⟩:=HY.out w3 hY3.bel;have t0:=hY3.c0;have t1:=hY3.c1;have t2:=hY3.c2;have t3:=hY3.c3;have e0:=hY3.cf 0;have e1:=hY3.cf 1;have e2:=hY3.cf 2;have e3:=hY3.cf 3))
   have HZ:=zq (HNX.out w3 v' _ hY3)
   have HL3:=zq (lenV_own hown3)
   go_roundw
   case rel=>exact ⟨c,A4,n4,rs++[(a,A2,c2)],HZ,HS1,HVC,zq (HE3.out A2 c2),HT3⟩
   case measure=>rw [HL3.out,HLV.out];omega
end Go.Proofs.YtpokpgkjaifccaaGreatDoorRR
namespace Hb
open Go Go.RowKit
inductive Tm.All (P:Tm→Prop):Tm→Prop
 | mk (t:Tm) (h:P t) (ha:∀a∈t.args,Tm.All P a):Tm.All P t
theorem Tm.All.here {P:Tm→Prop} {t:Tm} (h:Tm.All P t):P t:=by cases h;assumption
theorem Tm.All.sub {P:Tm→Prop} {t:Tm} (h:Tm.All P t):∀a∈t.args,Tm.All P a:=by cases h;assumption
theorem Tm.All.imp {P Q:Tm→Prop} (hi:∀t,P t→Q t):∀t:Tm,Tm.All P t→Tm.All Q t:=Tm.ind fun t ih h=>.mk t (hi t h.here) fun a ha=>ih a ha (h.sub a ha)
def ren (f:Int→Int):Tm→Tm
 | .mk k n s l=>.mk k (if k=0 then f n else n) s (l.attach.map fun ⟨a,_⟩=>ren f a)
theorem ren_eq (f:Int→Int) (t:Tm):ren f t=.mk t.kind (if t.kind=0 then f t.num else t.num) t.name (t.args.map (ren f)):=by
 cases t with
 | mk k n s l=>unfold ren Tm.kind Tm.num Tm.name Tm.args;simp
def varsT:Tm→List Int→List Int
 | .mk k n _ l=>fun acc=>l.attach.foldl (fun acc ⟨a,_⟩=>varsT a acc) (if k=0∧n ∉ acc then acc++[n] else acc)
def varH (t:Tm) (acc:List Int):List Int:=if t.kind=0∧t.num ∉ acc then acc++[t.num] else acc
theorem varsT_eq (t:Tm) (acc:List Int):varsT t acc=t.args.foldl (fun acc a=>varsT a acc) (varH t acc):=by
 cases t with
 | mk k n s l=>
  conv=>lhs;unfold varsT
  show _=l.foldl (fun acc a=>varsT a acc) (if k=0∧n ∉ acc then acc++[n] else acc)
  simp
theorem varH_sub (t:Tm) (acc:List Int):(∀n∈acc,n∈varH t acc)∧(varH t acc).length≤acc.length+1∧(t.kind=0→t.num∈varH t acc):=by
 unfold varH
 split
 ·rename_i h
  exact ⟨fun n hn=>List.mem_append_left _ hn,by simp,fun _=>by simp⟩
 ·rename_i h
  refine ⟨fun n hn=>hn,by omega,fun h0=>?_⟩
  exact Classical.byContradiction fun hn=>h ⟨h0,hn⟩
theorem varsT_all:∀(t:Tm) (acc:List Int),(∀n∈acc,n∈varsT t acc)∧(varsT t acc).length≤acc.length+t.nodes∧Tm.All (fun x=>x.kind=0→x.num∈varsT t acc) t:=by
 refine Tm.ind fun t ih=>?_
 intro acc
 obtain ⟨h1,h2,h3⟩:=varH_sub t acc
 have key:∀(l:List Tm),(∀a∈l,a∈t.args)→∀ac:List Int,(∀n∈ac,n∈l.foldl (fun acc a=>varsT a acc) ac)∧(l.foldl (fun acc a=>varsT a acc) ac).length≤ac.length+(l.map Tm.nodes).sum∧∀a∈l,Tm.All (fun x=>x.kind=0→x.num∈l.foldl (fun acc a=>varsT a acc) ac) a:=by
  intro l
  induction l with
  | nil=>intro _ ac;exact ⟨fun n hn=>hn,by simp,fun a ha=>by cases ha⟩
  | cons a l ihl=>
   intro hl ac
   obtain ⟨k1,k2,k3⟩:=ih a (hl a (List.mem_cons_self ..)) ac
   obtain ⟨m1,m2,m3⟩:=ihl (fun x hx=>hl x (List.mem_cons_of_mem _ hx)) (varsT a ac)
   rw [List.foldl_cons,List.map_cons,List.sum_cons]
   refine ⟨fun n hn=>m1 n (k1 n hn),by omega,fun x hx=>?_⟩
   rcases List.mem_cons.1 hx with rfl | hx
   ·exact Tm.All.imp (fun y hy h0=>m1 _ (hy h0)) _ k3
   ·exact m3 x hx
 obtain ⟨k1,k2,k3⟩:=key t.args (fun _ h=>h) (varH t acc)
 rw [varsT_eq]
 refine ⟨fun n hn=>k1 n (h1 n hn),by rw [Tm.nodes_eq t];omega,.mk _ (fun h0=>k1 _ (h3 h0)) k3⟩
def posI (l:List Int) (n:Int):Int:=if n∈l then (l.idxOf n:Int) else -1
def canT (t:Tm):Tm:=if validT t=true then ren (posI (varsT t [])) t else tm0
def sumT (l:List Tm):Nat:=(l.map Tm.nodes).sum
theorem sumT_take (l:List Tm) (k:Nat) (h:k<l.length):sumT (l.take (k+1))=sumT (l.take k)+l[k].nodes:=by
 unfold sumT
 rw [List.take_succ_eq_append_getElem h,List.map_append,List.sum_append];simp
theorem sumT_le (l:List Tm) (k:Nat):sumT (l.take k)≤sumT l:=by
 have e:sumT l=sumT (l.take k)+sumT (l.drop k):=by
  unfold sumT
  rw [←List.sum_append,←List.map_append,List.take_append_drop]
 omega
end Hb
namespace Go.Proofs.YtpokpgkjaifccaaGreatDoorRR
open Go.RowKit Hb
set_option maxRecDepth 100000
theorem varsT_leaf {t:Tm} (h:t.args.length=0) (acc:List Int):varsT t acc=varH t acc:=by
 rw [varsT_eq,List.eq_nil_of_length_eq_zero h];rfl
theorem varsT_node {t:Tm} (h:¬t.kind=0) (acc:List Int):varsT t acc=t.args.foldl (fun acc a=>varsT a acc) acc:=by
 rw [varsT_eq];unfold varH;rw [if_neg (fun e=>h e.1)]
theorem foldV_len (l:List Tm):∀acc:List Int,(l.foldl (fun acc a=>varsT a acc) acc).length≤acc.length+sumT l:=by
 induction l with
 | nil=>intro acc;exact Nat.le_add_right _ _
 | cons a l ih=>
  intro acc
  have h1:=ih (varsT a acc)
  have h2:=(varsT_all a acc).2.1
  have e:sumT (a::l)=a.nodes+sumT l:=by unfold sumT;rw [List.map_cons,List.sum_cons]
  rw [List.foldl_cons,e];omega
end Go.Proofs.YtpokpgkjaifccaaGreatDoorRR
namespace Hb
open Go Go.RowKit
theorem ren_congr {f g:Int→Int}:∀t:Tm,Tm.All (fun x=>x.kind=0→f x.num=g x.num) t→ren f t=ren g t:=Tm.ind fun t ih h=>by
 rw [ren_eq f,ren_eq g]
 have e1:(if t.kind=0 then f t.num else t.num)=(if t.kind=0 then g t.num else t.num):=by
  by_cases c:t.kind=0
  ·rw [if_pos c,if_pos c,h.here c]
  ·rw [if_neg c,if_neg c]
 rw [e1,List.map_congr_left fun a ha=>ih a ha (h.sub a ha)]
theorem varH_pre (t:Tm) (acc:List Int):∃l,varH t acc=acc++l:=by
 unfold varH
 split
 ·exact ⟨_,rfl⟩
 ·exact ⟨[],by simp⟩
theorem varsT_pre:∀(t:Tm) (acc:List Int),∃l,varsT t acc=acc++l:=by
 refine Tm.ind fun t ih=>?_
 intro acc
 have key:∀(l:List Tm),(∀a∈l,a∈t.args)→∀ac:List Int,∃m,l.foldl (fun acc a=>varsT a acc) ac=ac++m:=by
  intro l
  induction l with
  | nil=>intro _ ac;exact ⟨[],by simp⟩
  | cons a l ihl=>
   intro hl ac
   obtain ⟨m1,h1⟩:=ih a (hl a (List.mem_cons_self ..)) ac
   obtain ⟨m2,h2⟩:=ihl (fun x hx=>hl x (List.mem_cons_of_mem _ hx)) (varsT a ac)
   exact ⟨m1++m2,by rw [List.foldl_cons,h2,h1,List.append_assoc]⟩
 obtain ⟨m1,h1⟩:=varH_pre t acc
 obtain ⟨m2,h2⟩:=key t.args (fun _ h=>h) (varH t acc)
 exact ⟨m1++m2,by rw [varsT_eq,h2,h1,List.append_assoc]⟩
theorem posI_pre {acc l:List Int} {x:Int} (h:x∈acc):posI (acc++l) x=posI acc x:=by
 unfold posI
 rw [if_pos h,if_pos (List.mem_append_left _ h),List.idxOf_append,if_pos h]
theorem posI_new {acc:List Int} {x:Int} (h:x ∉ acc):posI (acc++[x]) x=acc.length:=by
 unfold posI
 rw [if_pos (by simp),List.idxOf_append,if_neg h]
 simp
def accL (l:List Tm) (acc:List Int):List Int:=l.foldl (fun acc a=>varsT a acc) acc
theorem accL_snoc (l:List Tm) (a:Tm) (acc:List Int):accL (l++[a]) acc=varsT a (accL l acc):=by unfold accL;rw [List.foldl_append];rfl
theorem ren_row:∀(l:List Tm) (acc m:List Int),l.map (ren (posI (accL l acc++m)))=l.map (ren (posI (accL l acc))):=by
 intro l acc m
 have all:∀(l:List Tm) (acc:List Int),(∀n∈acc,n∈accL l acc)∧∀a∈l,Tm.All (fun x=>x.kind=0→x.num∈accL l acc) a:=by
  intro l
  induction l with
  | nil=>intro acc;exact ⟨fun n hn=>hn,fun a ha=>by cases ha⟩
  | cons b l ih=>
   intro acc
   obtain ⟨h1,h2⟩:=ih (varsT b acc)
   obtain ⟨k1,_,k3⟩:=varsT_all b acc
   refine ⟨fun n hn=>h1 n (k1 n hn),fun a ha=>?_⟩
   rcases List.mem_cons.1 ha with rfl | ha
   ·exact Tm.All.imp (fun x hx c=>h1 _ (hx c)) _ k3
   ·exact h2 a ha
 exact List.map_congr_left fun a ha=>ren_congr a (Tm.All.imp (fun _ h c=>posI_pre (h c)) a ((all l acc).2 a ha))
theorem ren_step (l:List Tm) (a:Tm) (acc:List Int):(l++[a]).map (ren (posI (accL (l++[a]) acc)))=l.map (ren (posI (accL l acc)))++[ren (posI (varsT a (accL l acc))) a]:=by
 rw [accL_snoc,List.map_append]
 obtain ⟨m,hm⟩:=varsT_pre a (accL l acc)
 have:=ren_row l acc m
 rw [←hm] at this
 rw [this];rfl
def keyL (x:Int):Lit:=.int .i64 x
theorem keyL_ne {x y:Int} (h:x≠y):keyL x≠keyL y:=fun e=>h (by injection e)
structure MapIs (P:Program) (k e:TypeId) (w:World) (b:Nat) (acc:List Int) (n:Nat) (D:DataW Unit):Prop where
 own:w.ownsMap P k (plainElem P e) b n D
 few:n≤acc.length
 has:∀x,Maps.has D (keyL x)=decide (x∈acc)
 at_:∀x z,x∈acc→D.atKey (keyL x) z=.lit (.int .i64 (posI acc x))
 size:Maps.size D=acc.length
theorem MapIs.start (w:World) (P:Program) (k e:TypeId):MapIs P k e (w.alloc (.map #[] 0)) w.heap.size [] 0 (.map []) where
 own:=World.ownsMap_made w P k _
 few:=Nat.le_refl _
 has:=fun x=>by rw [Maps.has_eq];simp
 at_:=fun x _ h=>by cases h
 size:=rfl
theorem MapIs.put {P:Program} {k e:TypeId} (K:Maps.Keyed P k) {w w':World} {b:Nat} {acc:List Int} {n:Nat} {D:DataW Unit} (h:MapIs P k e w b acc n D) {x:Int} (hx:x ∉ acc) (ho:w'.ownsMap P k (plainElem P e) b (n+1) (D.put (keyL x) (.lit (.int .i64 acc.length)))) (hk:WideAt.IsKeyLit (keyL x)) :
  MapIs P k e w' b (acc++[x]) (n+1) (D.put (keyL x) (.lit (.int .i64 acc.length))) where
 own:=ho
 few:=by have:=h.few;simp;omega
 has:=fun y=>by
  by_cases c:y=x
  ·subst c;rw [Maps.has_put_same h.own.isMap hk];simp
  ·rw [Maps.has_put_other (keyL_ne c),h.has];simp [c]
 at_:=fun y z hy=>by
  by_cases c:y=x
  ·subst c;rw [Maps.atKey_put_same h.own.isMap hk,posI_new hx]
  ·have hm:y∈acc:=by
    rcases List.mem_append.1 hy with h1 | h1
    ·exact h1
    ·exact absurd (List.mem_singleton.1 h1) c
   rw [Maps.atKey_put_other (keyL_ne c),h.at_ y z hm,posI_pre hm]
 size:=by rw [Maps.size_put (h.own.tidy K),h.has,decide_eq_false hx,h.size];simp
theorem MapIs.kept {P:Program} {k e:TypeId} {w w':World} {b:Nat} {acc:List Int} {n:Nat} {D:DataW Unit} (h:MapIs P k e w b acc n D) {row:Option Nat} (hg:w.grownBy w' row) (hne:some b≠row):MapIs P k e w' b acc n D:=⟨h.own.kept hg hne,h.few,h.has,h.at_,h.size⟩
structure Bx (mb B:Nat) (w w':World):Prop where
 os:w'.os=w.os
 tape:w'.tape=w.tape
 output:w'.output=w.output
 size:w.heap.size≤w'.heap.size
 block:∀k,k<B→k≠mb→w'.heap[k]? = w.heap[k]?
section
variable {mb B B':Nat} {a w w':World}
theorem Bx.of (h:Below B w w'):Bx mb B w w':=⟨h.os,h.tape,h.output,h.size,fun k hk _=>h.block k hk⟩
theorem Bx.refl (mb B:Nat) (w:World):Bx mb B w w:=Bx.of (Below.refl B w)
theorem Bx.trans (h:Bx mb B a w) (k:Bx mb B w w'):Bx mb B a w':=⟨k.os.trans h.os,k.tape.trans h.tape,k.output.trans h.output,Nat.le_trans h.size k.size,fun i hi hne=>(k.block i hi hne).trans (h.block i hi hne)⟩
theorem Bx.mono (h:Bx mb B w w') (hB:B'≤B):Bx mb B' w w':=⟨h.os,h.tape,h.output,h.size,fun k hk=>h.block k (Nat.lt_of_lt_of_le hk hB)⟩
theorem Bx.grown {row:Option Nat} (h:Bx mb B a w) (hg:w.grownBy w' row) (hB:B≤w.heap.size) (hr:∀k,row=some k→B≤k∨k=mb):Bx mb B a w' :=
 h.trans ⟨hg.os,hg.tape,hg.output,hg.size,fun k hk hne=>hg.block k (by omega) (fun e=>by have:=hr k e.symm;omega)⟩
theorem Bx.setCell (h:Bx mb B a w) {p:Addr} (hp:B≤p.block) (v:Value):Bx mb B a (w.setCell p v) :=
 h.trans (Bx.of ((Below.refl B w).setCell hp v))
theorem Bx.cell (h:Bx mb B w w') {p:Addr} (hp:p.block<B) (hne:p.block≠mb):w'.cell? p=w.cell? p:=World.cell?_of_block (w:=w) (h.block p.block hp hne)
theorem Bx.frozen (h:Bx mb B w w') {p:Addr} (hp:p.block<B) (hne:p.block≠mb):w'.frozen? p=w.frozen? p:=World.frozen?_of_block (w:=w) (h.block p.block hp hne)
theorem Bx.new (h:Bx mb B w w') (hm:B≤mb):Below B w w':=⟨h.os,h.tape,h.output,h.size,fun k hk=>h.block k hk (by omega)⟩
end
structure CpX (mb:Nat) (w0 w:World) (e:TypeId) (t:Tm) (A:Option Addr) (cap:Nat) (v:Value) (rs:List TR):Prop where
 bel:Bx mb w0.heap.size w0 w
 mlt:mb<w0.heap.size
 lt:w0.heap.size+3≤w.heap.size
 b3:w.cell? ⟨w0.heap.size,3,none⟩=some (.slice A t.args.length cap)
 r0:∃u,w.cell? ⟨w0.heap.size+1,0,none⟩=some u
 r1:∃u,w.cell? ⟨w0.heap.size+1,1,none⟩=some u
 r2:∃u,w.cell? ⟨w0.heap.size+1,2,none⟩=some u
 r3:∃u,w.cell? ⟨w0.heap.size+1,3,none⟩=some u
 rf:∀o,w.frozen? ⟨w0.heap.size+1,o,none⟩=false
 c0:w.cell? ⟨w0.heap.size+2,0,none⟩=some (.int .i64 t.kind)
 c1:w.cell? ⟨w0.heap.size+2,1,none⟩=some (.int .i64 t.num)
 c2:w.cell? ⟨w0.heap.size+2,2,none⟩=some (.string t.name)
 c3:w.cell? ⟨w0.heap.size+2,3,none⟩=some v
 cf:∀o,w.frozen? ⟨w0.heap.size+2,o,none⟩=false
 own:OwnR (w0.heap.size+3) e w v rs
section
variable {mb:Nat} {w0 w w':World} {e:TypeId} {t:Tm} {A:Option Addr} {cap:Nat} {v:Value} {rs:List TR}
theorem CpX.call (h:CpX mb w0 w e t A cap v rs) (hB:Bx mb w.heap.size w w'):CpX mb w0 w' e t A cap v rs:=by
 have hl:=h.lt
 have hm:=h.mlt
 have hc:∀b o,w0.heap.size≤b→b<w0.heap.size+3→w'.cell? ⟨b,o,none⟩=w.cell? ⟨b,o,none⟩:=fun b o h0 hb=>hB.cell (p:=⟨b,o,none⟩) (by show b<_;omega) (by show b≠_;omega)
 have hf:∀b o,w0.heap.size≤b→b<w0.heap.size+3→w'.frozen? ⟨b,o,none⟩=w.frozen? ⟨b,o,none⟩:=fun b o h0 hb=>hB.frozen (p:=⟨b,o,none⟩) (by show b<_;omega) (by show b≠_;omega)
 exact ⟨h.bel.trans (hB.mono (by omega)),h.mlt,Nat.le_trans hl hB.size,(hc _ _ (by omega) (by omega)).trans h.b3,h.r0.imp fun _ k=>(hc _ _ (by omega) (by omega)).trans k,h.r1.imp fun _ k=>(hc _ _ (by omega) (by omega)).trans k,h.r2.imp fun _ k=>(hc _ _ (by omega) (by omega)).trans k,h.r3.imp fun _ k=>(hc _ _ (by omega) (by omega)).trans k,
  fun o=>(hf _ _ (by omega) (by omega)).trans (h.rf o),(hc _ _ (by omega) (by omega)).trans h.c0,(hc _ _ (by omega) (by omega)).trans h.c1,(hc _ _ (by omega) (by omega)).trans h.c2,(hc _ _ (by omega) (by omega)).trans h.c3,fun o=>(hf _ _ (by omega) (by omega)).trans (h.cf o),h.own.keep hB.size (fun b h1 h2=>hB.block b h2 (by omega))⟩
theorem CpX.drew (h:CpX mb w0 w e t A cap v rs):CpX mb w0 w.drew e t A cap v rs:=h.call (Bx.of (Below.refl w.heap.size w).drew)
theorem CpX.far (h:CpX mb w0 w e t A cap v rs) (hg:w.grownBy w' v.ownBlock) (b o:Nat) (hb:b<w0.heap.size+3):w'.cell? ⟨b,o,none⟩=w.cell? ⟨b,o,none⟩∧w'.frozen? ⟨b,o,none⟩=w.frozen? ⟨b,o,none⟩:=by
 have hl:=h.lt
 have hne:some b≠v.ownBlock:=fun e=>by have:=(h.own.own.lt b e.symm).1;omega
 exact ⟨hg.cell_far ⟨b,o,none⟩ (by show b<_;omega) hne,hg.frozen_far ⟨b,o,none⟩ (by show b<_;omega) hne⟩
theorem CpX.app (h:CpX mb w0 w e t A cap v rs) (r:TR) (hr:TmsK (fun b=>w0.heap.size+3≤b∧b<w.heap.size∧v.ownBlock≠some b) w r.2.1 r.1.args) {v':Value} {w2:World}
  (hown:w2.ownsRow (w0.heap.size+3) e 4 v' (rs.length+1) (rowsC rs++rowC r)) (hg:w.grownBy w2 v.ownBlock) (hat:v'.ownBlock=v.ownBlock∨v'.ownBlock=some w.heap.size):CpX mb w0 (w2.setCell ⟨w0.heap.size+2,3,none⟩ v') e t A cap v' (rs++[r]):=by
 have hl:=h.lt
 have hO:=h.own.snoc r hr hown hg hat
 have hbel:Bx mb w0.heap.size w0 w2:=h.bel.grown hg (by omega) (fun k hk=>.inl (by have:=(h.own.own.lt k hk).1;omega))
 have hc:∀b o,b<w0.heap.size+3→(b≠w0.heap.size+2∨o≠3)→(w2.setCell ⟨w0.heap.size+2,3,none⟩ v').cell? ⟨b,o,none⟩=w.cell? ⟨b,o,none⟩:=fun b o hb hne=>by
  rw [World.cell?_setCell_other _ _ _ _ (by intro e;injection e with e1 e2 _;rcases hne with hne | hne <;> omega)]
  exact (h.far hg b o hb).1
 have hf:∀b o,b<w0.heap.size+3→(w2.setCell ⟨w0.heap.size+2,3,none⟩ v').frozen? ⟨b,o,none⟩=w.frozen? ⟨b,o,none⟩:=fun b o hb=>by
  rw [World.frozen?_setCell];exact (h.far hg b o hb).2
 refine ⟨hbel.setCell (p:=⟨_,_,none⟩) (by show w0.heap.size≤w0.heap.size+2;omega) _,h.mlt,by have:=hg.size;simp;omega,(hc _ _ (by omega) (.inl (by omega))).trans h.b3,h.r0.imp fun _ k=>(hc _ _ (by omega) (.inl (by omega))).trans k,h.r1.imp fun _ k=>(hc _ _ (by omega) (.inl (by omega))).trans k,h.r2.imp fun _ k=>(hc _ _ (by omega) (.inl (by omega))).trans k,h.r3.imp fun _ k=>(hc _ _ (by omega) (.inl (by omega))).trans k,
  fun o=>(hf _ _ (by omega)).trans (h.rf o),(hc _ _ (by omega) (.inr (by omega))).trans h.c0,(hc _ _ (by omega) (.inr (by omega))).trans h.c1,(hc _ _ (by omega) (.inr (by omega))).trans h.c2,World.cell?_setCell_same _ _ _ ((h.far hg _ _ (by omega)).1.trans h.c3),fun o=>(hf _ _ (by omega)).trans (h.cf o),hO.keep (by simp) fun b hb _=>heap_setCell_other w2 ⟨w0.heap.size+2,3,none⟩ b v' (fun e=>by simp at e;omega)⟩
end
theorem CpX.start {mb:Nat} (w:World) (hm:mb<w.heap.size) (t:Tm) (A:Option Addr) (cap LN:Nat) (e:TypeId) (hL:LN=t.args.length) :
  CpX mb w ((((w.alloc (.cells #[.int .i64 t.kind,.int .i64 t.num,.string t.name,.slice A LN cap] e)).alloc (.cells #[.int .i64 0,.int .i64 0,.string ⟨#[]⟩,.slice none 0 0] e)).alloc (.cells #[.int .i64 t.kind,.int .i64 t.num,.string t.name,.slice none 0 0] e))) e t A cap (.slice none 0 0) []:=by
 obtain ⟨W1,hW1⟩:∃W1,W1=w.alloc (.cells #[.int .i64 t.kind,.int .i64 t.num,.string t.name,.slice A LN cap] e):=⟨_,rfl⟩
 obtain ⟨W2,hW2⟩:∃W2,W2=W1.alloc (.cells #[.int .i64 0,.int .i64 0,.string ⟨#[]⟩,.slice none 0 0] e):=⟨_,rfl⟩
 rw [←hW1,←hW2]
 have s1:W1.heap.size=w.heap.size+1:=by rw [hW1];simp
 have s2:W2.heap.size=w.heap.size+2:=by rw [hW2];simp;omega
 have hB2:Below W1.heap.size W1 W2:=by rw [hW2];exact (Below.refl _ _).alloc (Nat.le_refl _) _
 have hB3:Below W2.heap.size W2 (W2.alloc (.cells #[.int .i64 t.kind,.int .i64 t.num,.string t.name,.slice none 0 0] e)):=(Below.refl _ _).alloc (Nat.le_refl _) _
 have hB1:Below w.heap.size w W1:=by rw [hW1];exact (Below.refl _ _).alloc (Nat.le_refl _) _
 have a3:W1.cell? ⟨w.heap.size,3,none⟩=some (.slice A t.args.length cap):=by rw [hW1,←hL];exact World.cell?_alloc_new _ _ _ 3
 have r:∀j u,(#[.int .i64 0,.int .i64 0,.string ⟨#[]⟩,.slice none 0 0]:Array Value)[j]? = some u→W2.cell? ⟨w.heap.size+1,j,none⟩=some u:=fun j u hu=>by
  have:=World.cell?_alloc_new W1 #[.int .i64 0,.int .i64 0,.string ⟨#[]⟩,.slice none 0 0] e j
  rw [s1,←hW2] at this;rw [this];exact hu
 have rf:∀o,W2.frozen? ⟨w.heap.size+1,o,none⟩=false:=fun o=>by
  have:=World.frozen?_alloc_at (w:=W1) #[.int .i64 0,.int .i64 0,.string ⟨#[]⟩,.slice none 0 0] e (w.heap.size+1) o s1.symm
  rw [←hW2] at this;exact this
 have c:∀j,(W2.alloc (.cells #[.int .i64 t.kind,.int .i64 t.num,.string t.name,.slice none 0 0] e)).cell? ⟨w.heap.size+2,j,none⟩=(#[.int .i64 t.kind,.int .i64 t.num,.string t.name,.slice none 0 0]:Array Value)[j]?:=fun j=>by
  have:=World.cell?_alloc_new W2 #[.int .i64 t.kind,.int .i64 t.num,.string t.name,.slice none 0 0] e j
  rw [s2] at this;exact this
 have k2:∀o,(W2.alloc (.cells #[.int .i64 t.kind,.int .i64 t.num,.string t.name,.slice none 0 0] e)).cell? ⟨w.heap.size+1,o,none⟩=W2.cell? ⟨w.heap.size+1,o,none⟩:=fun o=>hB3.cell (p:=⟨w.heap.size+1,o,none⟩) (show w.heap.size+1<W2.heap.size by omega)
 refine ⟨Bx.of ((hB1.trans (hB2.mono (by omega))).trans (hB3.mono (by omega))),hm,by simp;omega,?_,⟨_,(k2 0).trans (r 0 _ rfl)⟩,⟨_,(k2 1).trans (r 1 _ rfl)⟩,⟨_,(k2 2).trans (r 2 _ rfl)⟩,⟨_,(k2 3).trans (r 3 _ rfl)⟩,fun o=>?_,c 0,c 1,c 2,c 3,fun o=>?_,OwnR.nul _ _ _⟩
 ·rw [hB3.cell (p:=⟨w.heap.size,3,none⟩) (show w.heap.size<W2.heap.size by omega),hB2.cell (p:=⟨w.heap.size,3,none⟩) (show w.heap.size<W1.heap.size by omega)];exact a3
 ·rw [hB3.frozen (p:=⟨w.heap.size+1,o,none⟩) (show w.heap.size+1<W2.heap.size by omega)];exact rf o
 ·exact World.frozen?_alloc_at (w:=W2) _ _ (w.heap.size+2) o s2.symm
theorem CpX.put {mb:Nat} {w0 w:World} {e:TypeId} {t:Tm} {A:Option Addr} {cap:Nat} {v:Value} {rs:List TR} (h:CpX mb w0 w e t A cap v rs) (x0 x1 x2 x3:Value) :
  Bx mb w0.heap.size w0 ((((w.setCell ⟨w0.heap.size+1,0,none⟩ x0).setCell ⟨w0.heap.size+1,1,none⟩ x1).setCell ⟨w0.heap.size+1,2,none⟩ x2).setCell ⟨w0.heap.size+1,3,none⟩ x3) ∧
  OwnR (w0.heap.size+3) e ((((w.setCell ⟨w0.heap.size+1,0,none⟩ x0).setCell ⟨w0.heap.size+1,1,none⟩ x1).setCell ⟨w0.heap.size+1,2,none⟩ x2).setCell ⟨w0.heap.size+1,3,none⟩ x3) v rs:=by
 have hle:w0.heap.size≤w0.heap.size+1:=by omega
 refine ⟨((((h.bel.setCell (p:=⟨_,_,none⟩) hle _).setCell (p:=⟨_,_,none⟩) hle _).setCell (p:=⟨_,_,none⟩) hle _).setCell (p:=⟨_,_,none⟩) hle _),h.own.keep (by simp) fun b hb _=>?_⟩
 have hne:∀o,b≠(⟨w0.heap.size+1,o,none⟩:Addr).block:=fun o e=>by simp at e;omega
 rw [heap_setCell_other _ _ _ _ (hne _),heap_setCell_other _ _ _ _ (hne _),heap_setCell_other _ _ _ _ (hne _),heap_setCell_other _ _ _ _ (hne _)]
end Hb
namespace Go.Proofs.YtpokpgkjaifccaaGreatDoorRR
open Go.RowKit Hb
set_option maxRecDepth 100000
structure CnS (w:World) (mb m0:Nat) (acc:List Int):Prop where
 map:∃n D,MapIs Tryz.prog 2 2 w mb acc n D
 cell:w.cell? ⟨m0,0,none⟩=some (.map (some mb))
 lt:m0<w.heap.size
 ltm:mb<w.heap.size
 ne:m0≠mb
theorem CnS.below {w w':World} {mb m0:Nat} {acc:List Int} (h:CnS w mb m0 acc) (hB:Below w.heap.size w w'):CnS w' mb m0 acc where
 map:=by
  obtain ⟨n,D,hm⟩:=h.map
  exact ⟨n,D,hm.kept (row:=none) ⟨hB.os,hB.tape,hB.output,hB.size,fun k hk _=>hB.block k hk⟩ (by simp)⟩
 cell:=(hB.cell (p:=⟨m0,0,none⟩) h.lt).trans h.cell
 lt:=Nat.lt_of_lt_of_le h.lt hB.size
 ltm:=Nat.lt_of_lt_of_le h.ltm hB.size
 ne:=h.ne
theorem wf64 {x:Int} (h0:0≤x) (h1:x≤1099511627776):(Lit.int .i64 x).wf=true:=by
 have e1:IntKind.i64.min=-9223372036854775808:=rfl
 have e2:IntKind.i64.max=9223372036854775807:=rfl
 simp only [Lit.wf,e1,e2,Bool.and_eq_true,decide_eq_true_iff]
 omega
theorem zeroI64 (w:World):(zeroValue 2).run Tryz.prog w=.ok (.int .i64 0) w:=by kernel_rfl
structure RX (w0:World) (mb:Nat) (w:World):Prop where
 bel:Bx mb w0.heap.size w0 w
 ltm:mb<w0.heap.size
 lt:w0.heap.size+1<w.heap.size
 r0:∃v,w.cell? ⟨w0.heap.size+1,0,none⟩=some v
 r1:∃v,w.cell? ⟨w0.heap.size+1,1,none⟩=some v
 r2:∃v,w.cell? ⟨w0.heap.size+1,2,none⟩=some v
 r3:∃v,w.cell? ⟨w0.heap.size+1,3,none⟩=some v
 fr:∀o,w.frozen? ⟨w0.heap.size+1,o,none⟩=false
theorem RX.step {w0 w w':World} {mb:Nat} (h:RX w0 mb w) (hB:Bx mb w.heap.size w w'):RX w0 mb w':=by
 have hm:=h.ltm
 have hne:w0.heap.size+1≠mb:=by omega
 have hl:=h.lt
 exact ⟨h.bel.trans (hB.mono (by omega)),hm,Nat.lt_of_lt_of_le hl hB.size,h.r0.imp fun _ k=>(hB.cell (p:=⟨_,_,none⟩) hl hne).trans k,h.r1.imp fun _ k=>(hB.cell (p:=⟨_,_,none⟩) hl hne).trans k,h.r2.imp fun _ k=>(hB.cell (p:=⟨_,_,none⟩) hl hne).trans k,h.r3.imp fun _ k=>(hB.cell (p:=⟨_,_,none⟩) hl hne).trans k,fun o=>(hB.frozen (p:=⟨_,o,none⟩) hl hne).trans (h.fr o)⟩
theorem RX.new {w0 w w':World} {mb:Nat} (h:RX w0 mb w) (hg:w.grownBy w' (some mb)):RX w0 mb w' :=
 h.step ((Bx.refl mb w.heap.size w).grown hg (Nat.le_refl _) (fun k e=>.inr (by injection e with e;exact e.symm)))
theorem RX.start (w:World) (mb:Nat) (hm:mb<w.heap.size) (a b c d:Value) (e:TypeId):RX w mb ((w.alloc (.cells #[a,b,c,d] e)).alloc (.cells #[.int .i64 0,.int .i64 0,.string ⟨#[]⟩,.slice none 0 0] e)):=by
 have hr:=R4.start (w0:=w) (w:=w.alloc (.cells #[a,b,c,d] e)) ((Below.refl _ _).alloc (Nat.le_refl _) _) (.int .i64 0) (.int .i64 0) (.string ⟨#[]⟩) (.slice none 0 0) e
 have hs:(w.alloc (.cells #[a,b,c,d] e)).heap.size=w.heap.size+1:=by simp
 rw [hs] at hr
 exact ⟨Bx.of hr.bel,hm,hr.lt,hr.r0,hr.r1,hr.r2,hr.r3,hr.fr⟩
theorem RX.put {w0 w:World} {mb:Nat} (h:RX w0 mb w) (x y z u:Value):Bx mb w0.heap.size w0 ((((w.setCell ⟨w0.heap.size+1,0,none⟩ x).setCell ⟨w0.heap.size+1,1,none⟩ y).setCell ⟨w0.heap.size+1,2,none⟩ z).setCell ⟨w0.heap.size+1,3,none⟩ u) :=
 (((h.bel.setCell (p:=⟨_,_,none⟩) (Nat.le_succ _) _).setCell (p:=⟨_,_,none⟩) (Nat.le_succ _) _).setCell (p:=⟨_,_,none⟩) (Nat.le_succ _) _).setCell (p:=⟨_,_,none⟩) (Nat.le_succ _) _
theorem CnS.blocks {w w':World} {mb m0:Nat} {acc:List Int} (h:CnS w mb m0 acc) (hs:w.heap.size≤w'.heap.size) (hb:w'.heap[mb]? = w.heap[mb]?) (h0:w'.heap[m0]? = w.heap[m0]?):CnS w' mb m0 acc where
 map:=by
  obtain ⟨n,D,⟨es,ck,hh,rest⟩,a,b,c,d⟩:=h.map
  exact ⟨n,D,⟨es,ck,hb.trans hh,rest⟩,a,b,c,d⟩
 cell:=(World.cell?_of_block (a:=⟨m0,0,none⟩) h0).trans h.cell
 lt:=Nat.lt_of_lt_of_le h.lt hs
 ltm:=Nat.lt_of_lt_of_le h.ltm hs
 ne:=h.ne
set_option maxHeartbeats 3200000 in
theorem canon_1 (t:Tm) (A:Option Addr) (cap:Nat) (w:World) (mb m0:Nat) (acc:List Int) (hk:t.kind=0) (hok:nodeOk t=true) (hS:CnS w mb m0 acc) (hlen:acc.length≤100000) :
  Calls Tryz.prog 56 #[tmV t A cap,.pointer (some ⟨m0,0,none⟩)] w fun e w'=>e=.returned (.agg #[.int .i64 0,.int .i64 (posI (varH t acc) t.num),.string ⟨#[]⟩,.slice none 0 0])∧Bx mb w.heap.size w w'∧CnS w' mb m0 (varH t acc):=by
 have hx:0≤t.num∧t.num≤1099511627776:=by unfold nodeOk at hok;rw [if_pos hk] at hok;simp at hok;omega
 have hkey:=Maps.keyOf_int_mk (P:=Tryz.prog) Tryz.underlying2 (wf64 hx.1 hx.2)
 have HVH:Hid (varH t acc=if t.num ∉ acc then acc++[t.num] else acc):=zq (by unfold varH;simp [hk])
 obtain ⟨n,D,hm⟩:=hS.map
 unfold tmV
 rw [hk]
 generalize t.num=x at *
 generalize t.name=nm at *
 generalize t.args.length=al at *
 generalize varH t acc=acc2 at *
 have hW:Below w.heap.size w ((w.alloc (.cells #[.int .i64 0,.int .i64 x,.string nm,.slice A al cap] 32)).alloc (.cells #[.int .i64 0,.int .i64 0,.string ⟨#[]⟩,.slice none 0 0] 32)):=((Below.refl _ _).alloc (Nat.le_refl _) _).alloc (by simp) _
 have hS2:=hS.below hW
 have hm2:=hm.kept (row:=none) (w':=(w.alloc (.cells #[.int .i64 0,.int .i64 x,.string nm,.slice A al cap] 32)).alloc (.cells #[.int .i64 0,.int .i64 0,.string ⟨#[]⟩,.slice none 0 0] 32)) ⟨hW.os,hW.tape,hW.output,hW.size,fun k hk _=>hW.block k hk⟩ (by simp)
 have c0:=hS.cell
 have hl0:=hS.lt
 go_enter Tryz.func56,Tryz.ntmps56
 by_cases hin:x∈acc
 ·have hat0:=hm.at_ x (.lit (.int .i64 0)) hin
  have hhas:Maps.has D (.int .i64 x)=true:=by have:=hm.has x;rw [decide_eq_true hin] at this;exact this
  have HF:Hid (∀c,Below w.heap.size w ((w.alloc (.cells #[.int .i64 0,.int .i64 x,.string nm,.slice A al cap] 32)).alloc (.cells #[.int .i64 0,.int .i64 c,.string ⟨#[]⟩,.slice none 0 0] 32))):=zq fun c=>((Below.refl _ _).alloc (Nat.le_refl _) _).alloc (by simp) _
  have HS:=zq hS
  clear hS2 hW hS
  go_wp2_with (at_lookup;go_must (refine wpList_lookup_own_ok_int _ rfl _ _ 72 rfl 2 2 .i64 (Maps.int_keyed Tryz.underlying2) Tryz.underlying72 Tryz.underlying2 (zeroI64 _) mb n D rfl hm2.own _ _ rfl hkey ?_;intro c hat hwc;rw [hhas]))
  have hc:c=posI acc x:=by
   have h:=hat.symm.trans hat0
   injection h with h;injection h
  have he:acc2=acc:=by rw [HVH.out,if_neg (fun h=>h hin)]
  subst he
  exact bodyPost_ret (v:=.agg #[.int .i64 0,.int .i64 c,.string ⟨#[]⟩,.slice none 0 0]) (by simp [results,Tryz.results56,go_sem]) rfl ⟨by rw [hc],Bx.of (HF.out c),HS.out.below (HF.out c)⟩
 ·have hhas:Maps.has D (.int .i64 x)=false:=by have:=hm.has x;rw [decide_eq_false hin] at this;exact this
  have hval:plainElem (H:=Unit) Tryz.prog 2 (.int .i64 (acc.length:Nat))=some (.lit (.int .i64 (acc.length:Nat)),[]):=plainElem_int Tryz.underlying2 (wf64 (by omega) (by omega))
  have hnm:n<maxLen:=by have:=hm.few;unfold maxLen;omega
  have hX:RX w mb ((w.alloc (.cells #[.int .i64 0,.int .i64 x,.string nm,.slice A al cap] 32)).alloc (.cells #[.int .i64 0,.int .i64 0,.string ⟨#[]⟩,.slice none 0 0] 32)):=RX.start w mb hS.ltm _ _ _ _ _
  have HS:=zq hS2
  have he:acc2=acc++[x]:=by rw [HVH.out,if_pos hin]
  have HPI:=zq (posI_new hin)
  clear hS2 hW hS
  go_wp2_with (first | (at_lookup;go_must (refine wpList_lookup_own_ok_int _ rfl _ _ 72 rfl 2 2 .i64 (Maps.int_keyed Tryz.underlying2) Tryz.underlying72 Tryz.underlying2 (zeroI64 _) mb n D rfl hm2.own _ _ rfl hkey ?_;intro c hat hwc;rw [hhas])) | (at_len;go_must (refine wpList_len_own _ rfl _ 72 rfl 2 2 Tryz.underlying72 _ mb n D rfl hm2.own ?_;rw [hm.size])) | (at_mapUpdate;go_must (refine wpList_mapUpdate_own _ rfl _ _ _ 72 rfl 2 2 (Maps.int_keyed Tryz.underlying2) Tryz.underlying72 _ mb n D rfl hm2.own hnm _ _ _ rfl rfl hkey (.lit (.int .i64 acc.length)) [] hval ?_;intro w1 hown1 hgrow1;have HG1:=hX.new hgrow1;obtain ⟨u0,r0⟩:=HG1.r0;obtain ⟨u1,r1⟩:=HG1.r1;obtain ⟨u2,r2⟩:=HG1.r2;obtain ⟨u3,r3⟩:=HG1.r3;have f0:=HG1.fr 0;have f1:=HG1.fr 1;have f2:=HG1.fr 2;have f3:=HG1.fr 3)))
  have hP:=HG1.put (.int .i64 0) (.int .i64 acc.length) (.string ⟨#[]⟩) (.slice none 0 0)
  have hM1:=MapIs.put (Maps.int_keyed Tryz.underlying2) hm2 hin hown1 trivial
  have hS1:CnS w1 mb m0 (acc++[x]):=⟨⟨_,_,hM1⟩,(hgrow1.cell_far ⟨m0,0,none⟩ HS.out.lt (fun e=>HS.out.ne (by injection e))).trans HS.out.cell,Nat.lt_of_lt_of_le HS.out.lt hgrow1.size,Nat.lt_of_lt_of_le HS.out.ltm hgrow1.size,HS.out.ne⟩
  have hlm:=HG1.ltm
  have hS3:=hS1.blocks (w':=(((w1.setCell ⟨w.heap.size+1,0,none⟩ (.int .i64 0)).setCell ⟨w.heap.size+1,1,none⟩ (.int .i64 acc.length)).setCell ⟨w.heap.size+1,2,none⟩ (.string ⟨#[]⟩)).setCell ⟨w.heap.size+1,3,none⟩ (.slice none 0 0)) (by simp) (put4_block _ _ _ _ _ _ _ (by omega)) (put4_block _ _ _ _ _ _ _ (by omega))
  exact bodyPost_ret (v:=.agg #[.int .i64 0,.int .i64 acc.length,.string ⟨#[]⟩,.slice none 0 0]) (by simp [results,Tryz.results56,go_sem,r0,r1,r2,r3]) rfl ⟨by rw [he,HPI.out],hP,by rw [he];exact hS3⟩
end Go.Proofs.YtpokpgkjaifccaaGreatDoorRR
namespace Hb
open Go Go.RowKit
noncomputable def eqT (t u:Tm):Bool:=@decide (t=u) (Classical.propDecidable _)
theorem eqT_yes {t u:Tm} (h:t=u):eqT t u=true:=by unfold eqT;simp [h]
theorem eqT_no {t u:Tm} (h:¬t=u):eqT t u=false:=by unfold eqT;simp [h]
theorem eqT_iff {t u:Tm}:eqT t u=true↔t=u:=by unfold eqT;simp
theorem tm_ext {t u:Tm} (h0:t.kind=u.kind) (h1:t.num=u.num) (h2:t.name=u.name) (h3:t.args=u.args):t=u:=by
 cases t;cases u
 simp only [Tm.kind,Tm.num,Tm.name,Tm.args] at h0 h1 h2 h3
 subst h0 h1 h2 h3
 rfl
theorem ba_ext {a b:ByteArray} (h:a.toList=b.toList):a=b:=by
 rw [tl_data,tl_data] at h
 exact ByteArray.ext (Array.ext' h)
theorem args_ext {l m:List Tm} (h:l.length=m.length) (hk:∀j (h1:j<l.length) (h2:j<m.length),l[j]=m[j]):l=m:=List.ext_getElem h hk
structure TT (w0 w:World) (t u:Tm) (A B:Option Addr) (c d:Nat):Prop where
 bel:Below w0.heap.size w0 w
 lt:w0.heap.size+1<w.heap.size
 a0:w.cell? ⟨w0.heap.size,0,none⟩=some (.int .i64 t.kind)
 a1:w.cell? ⟨w0.heap.size,1,none⟩=some (.int .i64 t.num)
 a2:w.cell? ⟨w0.heap.size,2,none⟩=some (.string t.name)
 a3:w.cell? ⟨w0.heap.size,3,none⟩=some (.slice A t.args.length c)
 b0:w.cell? ⟨w0.heap.size+1,0,none⟩=some (.int .i64 u.kind)
 b1:w.cell? ⟨w0.heap.size+1,1,none⟩=some (.int .i64 u.num)
 b2:w.cell? ⟨w0.heap.size+1,2,none⟩=some (.string u.name)
 b3:w.cell? ⟨w0.heap.size+1,3,none⟩=some (.slice B u.args.length d)
theorem TT.call {w0 w w':World} {t u:Tm} {A B:Option Addr} {c d:Nat} (h:TT w0 w t u A B c d) (hB:Below w.heap.size w w'):TT w0 w' t u A B c d:=by
 have hlt:=h.lt
 have hc:∀j,w'.cell? ⟨w0.heap.size,j,none⟩=w.cell? ⟨w0.heap.size,j,none⟩:=fun j=>hB.cell (p:=⟨w0.heap.size,j,none⟩) (by show w0.heap.size<_;omega)
 have hd:∀j,w'.cell? ⟨w0.heap.size+1,j,none⟩=w.cell? ⟨w0.heap.size+1,j,none⟩:=fun j=>hB.cell (p:=⟨w0.heap.size+1,j,none⟩) hlt
 exact ⟨h.bel.trans (hB.mono h.bel.size),Nat.lt_of_lt_of_le hlt hB.size,(hc 0).trans h.a0,(hc 1).trans h.a1,(hc 2).trans h.a2,(hc 3).trans h.a3,(hd 0).trans h.b0,(hd 1).trans h.b1,(hd 2).trans h.b2,(hd 3).trans h.b3⟩
theorem TT.start (w:World) (t u:Tm) (A B:Option Addr) (c d:Nat) (e:TypeId) :
  TT w ((w.alloc (.cells #[.int .i64 t.kind,.int .i64 t.num,.string t.name,.slice A t.args.length c] e)).alloc (.cells #[.int .i64 u.kind,.int .i64 u.num,.string u.name,.slice B u.args.length d] e)) t u A B c d:=by
 obtain ⟨W1,hW1⟩:∃W1,W1=w.alloc (.cells #[.int .i64 t.kind,.int .i64 t.num,.string t.name,.slice A t.args.length c] e):=⟨_,rfl⟩
 rw [←hW1]
 have s1:W1.heap.size=w.heap.size+1:=by rw [hW1];simp
 have hB1:Below w.heap.size w W1:=by rw [hW1];exact (Below.refl _ _).alloc (Nat.le_refl _) _
 have hB2:Below W1.heap.size W1 (W1.alloc (.cells #[.int .i64 u.kind,.int .i64 u.num,.string u.name,.slice B u.args.length d] e)):=(Below.refl _ _).alloc (Nat.le_refl _) _
 have a:∀j,(W1.alloc (.cells #[.int .i64 u.kind,.int .i64 u.num,.string u.name,.slice B u.args.length d] e)).cell? ⟨w.heap.size,j,none⟩=(#[.int .i64 t.kind,.int .i64 t.num,.string t.name,.slice A t.args.length c]:Array Value)[j]?:=fun j=>by
  rw [hB2.cell (p:=⟨w.heap.size,j,none⟩) (by show w.heap.size<_;omega),hW1];exact World.cell?_alloc_new _ _ _ j
 have b:∀j,(W1.alloc (.cells #[.int .i64 u.kind,.int .i64 u.num,.string u.name,.slice B u.args.length d] e)).cell? ⟨w.heap.size+1,j,none⟩=(#[.int .i64 u.kind,.int .i64 u.num,.string u.name,.slice B u.args.length d]:Array Value)[j]?:=fun j=>by
  have:=World.cell?_alloc_new W1 #[.int .i64 u.kind,.int .i64 u.num,.string u.name,.slice B u.args.length d] e j
  rw [s1] at this;exact this
 exact ⟨hB1.trans (hB2.mono (by omega)),by simp;omega,a 0,a 1,a 2,a 3,b 0,b 1,b 2,b 3⟩
end Hb
namespace Go.Proofs.YtpokpgkjaifccaaGreatDoorRR
open Go.RowKit Hb
set_option maxRecDepth 100000
set_option maxHeartbeats 6400000 in
theorem r3_identical:∀(t u:Tm) (A B:Option Addr) (c d:Nat) (w:World),TmsAt w.heap.size w A t.args→TmsAt w.heap.size w B u.args →
  Calls Tryz.prog 63 #[tmV t A c,tmV u B d] w fun e w'=>e=.returned (.bool (eqT t u))∧Below w.heap.size w w':=by
 refine Tm.ind fun t ih=>?_
 intro u A B c d w hT hU
 have HX:=zq (TT.start w t u A B c d 32)
 have HT:=zq hT
 have HU:=zq hU
 have HIH:=zq ih
 have HEX:=zq (tm_ext (t:=t) (u:=u))
 have hm:=hT.len
 unfold maxLen at hm
 have HN0:=zq (fun (h:¬t.kind=u.kind)=>eqT_no (t:=t) (u:=u) fun e=>h (by rw [e]))
 have HN1:=zq (fun (h:¬t.num=u.num)=>eqT_no (t:=t) (u:=u) fun e=>h (by rw [e]))
 have HN2:=zq (fun (h:¬t.name=u.name)=>eqT_no (t:=t) (u:=u) fun e=>h (by rw [e]))
 have HN3:=zq (fun (h:¬t.args.length=u.args.length)=>eqT_no (t:=t) (u:=u) fun e=>h (by rw [e]))
 have HN4:=zq (fun (j:Nat) (h1:j<t.args.length) (h2:j<u.args.length) (h:¬t.args[j]=u.args[j])=>eqT_no (t:=t) (u:=u) fun e=>h (by simp only [e]))
 have HY:=zq (eqT_yes (t:=t) (u:=u))
 have hb0:=HX.out.bel
 clear hT hU ih
 unfold tmV at *
 generalize hq:eqT t u=q at *
 clear hq
 obtain ⟨L,HL⟩:∃L,Hid (t.args.length=L):=⟨_,zq rfl⟩
 obtain ⟨M,HM⟩:∃M,Hid (u.args.length=M):=⟨_,zq rfl⟩
 rw [HL.out] at HX hm hb0 HN3 ⊢
 rw [HM.out] at HX hb0 HN3 ⊢
 generalize t.kind=a0 at *
 generalize t.num=a1 at *
 generalize t.name=a2 at *
 generalize u.kind=b0 at *
 generalize u.num=b1 at *
 generalize u.name=b2 at *
 by_cases e0:a0=b0
 ·subst e0
  by_cases e1:a1=b1
  ·subst e1
   by_cases e2:a2=b2
   ·subst e2
    by_cases e3:L=M
    ·subst e3
     have HEQ:=zq (HEX.out rfl rfl rfl)
     clear HEX HN0 HN1 HN2 HN3
     go_enter Tryz.func63,Tryz.ntmps63
     go_wp2_with fail
     go_loopw [5] (fun i wr=>∃k:Nat,k≤L∧i=.int .i64 k∧Hid (TT w wr t u A B c d)∧Hid (∀j (h1:j<t.args.length) (h2:j<u.args.length),j<k→t.args[j]=u.args[j])) (fun i _=>L-(intOf i).toNat)
     case atStart=>exact ⟨0,Nat.zero_le _,rfl,HX,zq fun j _ _ h=>absurd h (by omega)⟩
     case round=>
      obtain ⟨k,hk,rfl,HB,HE⟩:=hrel
      have b3:=HB.out.a3
      have b4:=HB.out.b3
      rw [HL.out] at b3
      rw [HM.out] at b4
      have hbel:=HB.out.bel
      by_cases hlt:k<L
      ·have hkl:k<t.args.length:=by have:=HL.out;omega
       have hkm:k<u.args.length:=by have:=HM.out;omega
       obtain ⟨b,off,A',ca,rfl,hb,c0,c1,c2,c3,hs⟩:=(HT.out.keep hbel).get k hkl
       obtain ⟨b',off',B',cb,rfl,hb',d0,d1,d2,d3,hs'⟩:=(HU.out.keep hbel).get k hkm
       have hbs:=hbel.size
       have HN5:=zq (HN4.out k hkl hkm)
       have HE2:Hid (t.args[k]=u.args[k]→∀j (h1:j<t.args.length) (h2:j<u.args.length),j<k+1→t.args[j]=u.args[j]):=zq (fun he j h1 h2 hj=>by
        by_cases hjk:j=k
        ·subst hjk;exact he
        ·exact HE.out j h1 h2 (by omega))
       have HC:=zq (fun W (h:TT w W t u (some ⟨b,off,none⟩) (some ⟨b',off',none⟩) c d) (hT:TmsAt W.heap.size W A' t.args[k].args) (hU:TmsAt W.heap.size W B' u.args[k].args)=>HIH.out t.args[k] (List.getElem_mem hkl) u.args[k] A' B' ca cb W hT hU)
       have hd1:=(hs.keep (Below.refl _ wr).drew).mono hbs
       have hd2:=(hs'.keep (Below.refl _ wr).drew).mono hbs
       have HC2:=zq (HC.out wr.drew (HB.out.call (Below.refl _ _).drew) hd1 hd2)
       have HEE:=zq (eqT_iff (t:=t.args[k]) (u:=u.args[k]))
       have hk0:(0:Int)≤(k:Int):=by omega
       have hk1:(k:Int)<(L:Int):=by omega
       have HD:=zq (HB.out.call (Below.refl _ wr).drew)
       clear hs hs' hd1 hd2 HC
       unfold tmV at HC2
       obtain ⟨x,hx⟩:∃x,x=t.args[k]:=⟨_,rfl⟩
       obtain ⟨y,hy⟩:∃y,y=u.args[k]:=⟨_,rfl⟩
       rw [←hx] at HC2 HN5 HE2 HEE c0 c1 c2 c3
       rw [←hy] at HC2 HN5 HE2 HEE d0 d1 d2 d3
       clear hx hy
       go_wp2_with fail
       go_region_law (first
        | (go_simp;go_at_call 63;(with_reducible refine HC2.out.mono ?_);rintro e w2 ⟨rfl,hB2⟩)
        | fail)
       all_goals
        have hX2:=HD.out.call hB2
        have hb2:=hX2.bel
        cases hq2:eqT x y
        ·have hne:¬x=y:=fun e=>by rw [HEE.out.2 e] at hq2;cases hq2
         have hr:=HN5.out hne
         subst hr
         go_wp2_with fail
         go_ret
         exact ⟨rfl,hb2⟩
        ·have he:=HEE.out.1 hq2
         go_wp2_with fail
         go_roundw
         case rel=>exact ⟨k+1,by omega,by go_num,zq hX2,zq (HE2.out he)⟩
         case measure=>simp [intOf] <;> omega
      ·have hr:=HY.out (HEQ.out (args_ext (by rw [HL.out,HM.out]) fun j h1 h2=>HE.out j h1 h2 (by have:=HL.out;omega)))
       subst hr
       go_wp2_with fail
       go_ret
       exact ⟨rfl,hbel⟩
    ·have hr:=HN3.out e3
     subst hr
     have f1:((L:Int)==(M:Int))=false:=by simp;omega
     have f2:¬(L:Int)=(M:Int):=by omega
     go_enter Tryz.func63,Tryz.ntmps63
     go_wp2_with fail
     go_ret
     exact ⟨rfl,hb0⟩
   ·have hr:=HN2.out e2
    subst hr
    have f1:¬a2.toList=b2.toList:=fun h=>e2 (ba_ext h)
    have f2:(a2.toList==b2.toList)=false:=by simpa using f1
    go_enter Tryz.func63,Tryz.ntmps63
    go_wp2_with fail
    go_ret
    exact ⟨rfl,hb0⟩
  ·have hr:=HN1.out e1
   subst hr
   have f1:(a1==b1)=false:=by simpa using e1
   go_enter Tryz.func63,Tryz.ntmps63
   go_wp2_with fail
   go_ret
   exact ⟨rfl,hb0⟩
 ·have hr:=HN0.out e0
  subst hr
  have f1:(a0==b0)=false:=by simpa using e0
  go_enter Tryz.func63,Tryz.ntmps63
  go_wp2_with fail
  go_ret
  exact ⟨rfl,hb0⟩
end Go.Proofs.YtpokpgkjaifccaaGreatDoorRR
