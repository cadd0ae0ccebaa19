/- Parts of the proof. -/
import Derived.Test.YtlikcjbjibhjgaaGreatDoorR06
import Derived.Test.YtlikcjbjibhjgaaGreatDoorR05
import Derived.Test.YtlikcjbjibhjgaaGreatDoorR01
import Derived.Test.YtlikcjbjibhjgaaGreatDoorR02
import Derived.Deep.CutBlock
import Derived.Deep.RegionHeld3
import Derived.Deep.AppendLies
set_option maxHeartbeats 12800000
set_option maxRecDepth 100000
open Bool renaming and_eq_true -> aF, not_eq_true -> dN
open Go renaming Calls -> aJ, TypeId -> bD, Value -> az, World -> ai, bodyPost_ret -> ay
open Go.Ending renaming returned -> aw
open Go.IntKind renaming i64 -> ae
open Go.Proofs.Tryz renaming prog -> ah, results145 -> gK, underlying65 -> bw
open Go.RowKit renaming Below -> ax
open Go.RowKit.Below renaming refl -> aj
open Go.Value renaming agg -> aN, bool -> am, int -> ab, oneCell' -> eO, string -> aQ, string -> aa, tuple -> aK
open Go.World renaming cell?_alloc_new -> aq
open List renaming append_nil -> aA, getElem_mem -> aR, getElem_of_mem -> cI, length_append -> aB, length_cons -> bo, mem_cons -> bg, mem_of_find?_eq_some -> eH, pairwise_cons -> ex
open Nat renaming add_zero -> bv, le_refl -> ag, le_trans -> aI, lt_of_lt_of_le -> aC, zero_mul -> gY
namespace Hb
open Go Go.RowKit
structure RBx (w:ai) (g:Nat):Prop where
 lt:g<w.heap.size
 r0:∃u,w.cell? ⟨g,0,none⟩=some u
 r1:∃u,w.cell? ⟨g,1,none⟩=some u
 r2:∃u,w.cell? ⟨g,2,none⟩=some u
 r3:∃u,w.cell? ⟨g,3,none⟩=some u
 rf:∀o,w.frozen? ⟨g,o,none⟩=false
theorem RBx.call {w w':ai} {g:Nat} (h:RBx w g) (a:ax w.heap.size w w'):RBx w' g :=
 ⟨aC h.lt a.size,h.r0.imp fun _ k=>(a.cell (p:=⟨_,_,none⟩) h.lt).trans k,h.r1.imp fun _ k=>(a.cell (p:=⟨_,_,none⟩) h.lt).trans k,h.r2.imp fun _ k=>(a.cell (p:=⟨_,_,none⟩) h.lt).trans k,h.r3.imp fun _ k=>(a.cell (p:=⟨_,_,none⟩) h.lt).trans k,fun o=>(a.frozen (p:=⟨_,o,none⟩) h.lt).trans (h.rf o)⟩
theorem RBx.start (w:ai) (a b c d:az) (e:bD):RBx (w.alloc (.cells #[a,b,c,d] e)) w.heap.size :=
 ⟨by simp,⟨_,aq _ _ _ 0⟩,⟨_,aq _ _ _ 1⟩,⟨_,aq _ _ _ 2⟩,⟨_,aq _ _ _ 3⟩,fun o=>World.frozen?_alloc_new _ _ _ _⟩
structure Fr3 (w0 w:ai) (o:WO) (TA:Option Addr) (TN TC:Nat) (t:Tm) (A:Option Addr) (cap:Nat):Prop where
 f2:Fr2 w0 w o TA TN TC t A cap
 rb:RBx w (w0.heap.size+2)
theorem Fr3.call {w0 w w':ai} {o:WO} {TA:Option Addr} {TN TC:Nat} {t:Tm} {A:Option Addr} {cap:Nat} (h:Fr3 w0 w o TA TN TC t A cap) (a:ax w.heap.size w w'):Fr3 w0 w' o TA TN TC t A cap :=
 ⟨h.f2.call a,h.rb.call a⟩
theorem Fr3.start (w:ai) (o:WO) (TA:Option Addr) (TN TC:Nat) (t:Tm) (A:Option Addr) (cap a:Nat) (b c d:bD) (k:a=t.args.length) (f g h i:az) :
  Fr3 w (((w.alloc (.cells #[am o.q,am o.ig,am o.nu,.slice TA TN TC] b)).alloc (.cells #[ab ae t.kind,ab ae t.num,aa t.name,.slice A a cap] c)).alloc (.cells #[f,g,h,i] d)) o TA TN TC t A cap:=by
 have j:=Fr2.start w o TA TN TC t A cap a b c k
 have l:((w.alloc (.cells #[am o.q,am o.ig,am o.nu,.slice TA TN TC] b)).alloc (.cells #[ab ae t.kind,ab ae t.num,aa t.name,.slice A a cap] c)).heap.size=w.heap.size+2:=by simp
 have e:=RBx.start ((w.alloc (.cells #[am o.q,am o.ig,am o.nu,.slice TA TN TC] b)).alloc (.cells #[ab ae t.kind,ab ae t.num,aa t.name,.slice A a cap] c)) f g h i d
 rw [l] at e
 exact ⟨j.call ((aj _ _).alloc (ag _) _),e⟩
theorem OwnS.put4 {e b g:Nat} {w:ai} {v:az} {l:List ByteArray} (h:OwnS e b w v l) (m:g<b) (x y z u:az):OwnS e b ((((w.setCell ⟨g,0,none⟩ x).setCell ⟨g,1,none⟩ y).setCell ⟨g,2,none⟩ z).setCell ⟨g,3,none⟩ u) v l:=by
 refine ⟨h.1,?_⟩
 rcases h.2 with i | ⟨k,a,c,j,f,d,rest⟩
 ·exact .inl i
 ·exact .inr ⟨k,a,c,j,f,by rw [bR _ _ _ _ _ _ _ (by omega)];exact d,rest⟩
theorem OwnS.oneAt (e:bD) (w:ai) (s:ByteArray) (g:Nat) (h:w.heap.size=g):OwnS e g (w.alloc (.cells #[aa s] e)) (.slice (some ⟨g,0,none⟩) 1 1) [s]:=by
 subst h;exact OwnS.one e w s
theorem OwnS.nil (e b:Nat) (w:ai):OwnS e b w (.slice none 0 0) []:=World.ownsRow_nil _ _ _ _
theorem dg {w0 w:ai} (h:ax w0.heap.size w0 w) (g:Nat) (a:w0.heap.size<=g) (x y z u:az):ax w0.heap.size w0 ((((w.setCell ⟨g,0,none⟩ x).setCell ⟨g,1,none⟩ y).setCell ⟨g,2,none⟩ z).setCell ⟨g,3,none⟩ u) :=
 (((h.setCell (p:=⟨_,_,none⟩) a _).setCell (p:=⟨_,_,none⟩) a _).setCell (p:=⟨_,_,none⟩) a _).setCell (p:=⟨_,_,none⟩) a _
def ym (A:Option Addr) (n c:Nat) (p:OpR) (b:Bool):az:=aK #[aN #[.slice A n c,aa p.name,ab ae p.typ,ab ae p.prec],am b]
def lV (o:WO) (t:Tm):WR:=if je o t=true then ([ld (t.arg 0).num],op0) else ([],op0)
theorem BT (n:Int) (h:0<=n):ld n=if n<26 then (⟨#[(65+n % 26).toNat.toUInt8]⟩:ByteArray) else (⟨#[(65+n % 26).toNat.toUInt8]⟩:ByteArray)++kj (n / 26):=by
 have e:(65+n % 26).toNat=65+n.toNat % 26:=by omega
 unfold ld s1
 rw [e]
theorem lD {o:WO} {t:Tm} (h:je o t=false):lV o t=([],op0):=by unfold lV;rw [h];rfl
end Hb
namespace Go.Proofs.YtlikcjbjibhjgaaGreatDoor
open Go.RowKit Hb
theorem FI (o:WO) (TA:Option Addr) (TN TC:Nat) (t:Tm) (T:(t.args.all dP)=true) (A:Option Addr) (y:Nat) (w:ai) (Q:DoorOk w) (R:TmsAt w.heap.size w A t.args) :
  aJ ah 145 #[nN o TA TN TC,er t A y] w fun e w'=>∃D n' c',e=aw (ym D n' c' (lV o t).2 (je o t))/\ax w.heap.size w w'/\OwnS 9 w.heap.size w' (.slice D n' c') (lV o t).1:=by
 obtain ⟨k,s⟩:=lz (t.args.length)
 have j:=zq (Fr3.start w o TA TN TC t A y k 103 25 173 s.out (.slice none 0 0) (aa ⟨#[]⟩) (ab ae 0) (ab ae 0))
 have i:=j.out.f2.bel
 have m:=i.size
 have f:ax w.heap.size w (((w.alloc (.cells #[am o.q,am o.ig,am o.nu,.slice TA TN TC] 103)).alloc (.cells #[ab ae t.kind,ab ae t.num,aa t.name,.slice A k y] 25)).alloc (.cells #[.slice none 0 0,aa ⟨#[]⟩,ab ae 0,ab ae 0] 173)):=i
 have a:Hid (je o t=(o.nu&&(t.name.toList==[36,86,65,82]&&(t.args.length==1&&((t.arg 0).kind==1&&decide (0<=(t.arg 0).num)))))):=zq rfl
 have r:=zq (fun (h:k=1)=>(R.keep i).get 0 (by rw [<-s.out,h];decide))
 have p:=zq (fun (h:k=1)=>Tm.arg_get t 0 (by rw [<-s.out,h];decide))
 have M:=zq T
 have Z:=zq Q
 clear R T Q
 unfold er nN ym
 rw [<-s.out] at a |-
 cases hc1:o.nu
 ·have d:=zq (show je o t=false by rw [a.out,hc1];rfl)
  rw [d.out,lD d.out]
  rw [hc1] at f
  clear a j i m r p
  go_enter Tryz.func145,Tryz.ntmps145
  go_wp2_with fail
  refine ay (v:=aK #[aN #[.slice none 0 0,aa ⟨#[]⟩,ab ae 0,ab ae 0],am false]) (by simp [results,gK,go_sem]) rfl ⟨none,0,0,rfl,?_,OwnS.nil _ _ _⟩
  exact f
 ·cases hc2:(t.name.toList==[36,86,65,82])
  ·have a5:¬t.name.toList=[36,86,65,82]:=by simpa using hc2
   have d:=zq (show je o t=false by rw [a.out,hc1,hc2];rfl)
   rw [d.out,lD d.out]
   rw [hc1] at f
   clear a j i m r p
   go_enter Tryz.func145,Tryz.ntmps145
   go_wp2_with fail
   refine ay (v:=aK #[aN #[.slice none 0 0,aa ⟨#[]⟩,ab ae 0,ab ae 0],am false]) (by simp [results,gK,go_sem]) rfl ⟨none,0,0,rfl,?_,OwnS.nil _ _ _⟩
   exact f
  ·have a5:t.name.toList=[36,86,65,82]:=by simpa using hc2
   by_cases W:k=1
   ·subst W
    have b3:0<t.args.length:=by have:=s.out;omega
    obtain ⟨b,Y,D,a7,rfl,hb,u,C,N,O,hs⟩:=r.out rfl
    have E:=zq (p.out rfl)
    rw [E.out] at a
    have U:dP t.args[0]=true:=List.all_eq_true.1 M.out _ (aR _)
    obtain ⟨a9,b0⟩:=(eX _).1 U
    rw [gY,bv] at u C N O
    have B:Hid (je o t=true->lV o t=([ld t.args[0].num],op0)):=zq (fun h=>by unfold lV;rw [if_pos h,E.out])
    clear hs U r p E M N O
    generalize t.args[0]=x at *
    cases hk:(x.kind==1)
    ·have V:¬x.kind=1:=by simpa using hk
     have d:=zq (show je o t=false by rw [a.out,hc1,hc2,hk];rfl)
     rw [d.out,lD d.out]
     rw [hc1] at f u C
     clear a j i m B
     go_enter Tryz.func145,Tryz.ntmps145
     go_wp2_with fail
     refine ay (v:=aK #[aN #[.slice none 0 0,aa ⟨#[]⟩,ab ae 0,ab ae 0],am false]) (by simp [results,gK,go_sem]) rfl ⟨none,0,0,rfl,?_,OwnS.nil _ _ _⟩
     exact f
    ·have V:x.kind=1:=by simpa using hk
     rw [V] at u
     by_cases z:0<=x.num
     ·have H:=zq (show je o t=true by rw [a.out,hc1,hc2,hk,decide_eq_true z];rfl)
      rw [H.out,B.out H.out]
      generalize x.num=n at *
      have hd:¬n<0:=by omega
      have hm:n.tmod 26=n % 26:=Int.tmod_eq_emod_of_nonneg z
      have hq:n.tdiv 26=n / 26:=Int.tdiv_eq_ediv_of_nonneg z
      have b4:0<=n % 26:=by omega
      have b5:n % 26<26:=by omega
      rw [hc1] at f u C
      have l:=j.out
      rw [hc1] at l
      clear a H j m B
      have S:=rN (P:=ah) 106 9 5 Tryz.underlying106 Tryz.underlying5 Tryz.underlying9 (65+n % 26) (by omega) (by omega) (((w.alloc (.cells #[am o.q,am o.ig,am true,.slice TA TN TC] 103)).alloc (.cells #[ab ae t.kind,ab ae t.num,aa t.name,.slice (some ⟨b,Y,none⟩) 1 y] 25)).alloc (.cells #[.slice none 0 0,aa ⟨#[]⟩,ab ae 0,ab ae 0] 173))
      have a6:(((w.alloc (.cells #[am o.q,am o.ig,am true,.slice TA TN TC] 103)).alloc (.cells #[ab ae t.kind,ab ae t.num,aa t.name,.slice (some ⟨b,Y,none⟩) 1 y] 25)).alloc (.cells #[.slice none 0 0,aa ⟨#[]⟩,ab ae 0,ab ae 0] 173)).heap.size=w.heap.size+1+1+1:=by simp
      rw [a6] at S
      have G:=zq (BT n z)
      obtain ⟨c,J⟩:∃c:ByteArray,c=⟨#[(65+n % 26).toNat.toUInt8]⟩:=⟨_,rfl⟩
      have a8:c.size=1:=by rw [J];rfl
      rw [<-J] at S G
      clear J
      by_cases X:n<26
      ·have F:=zq (show ld n=c by rw [G.out,if_pos X])
       clear l
       go_enter Tryz.func145,Tryz.ntmps145
       go_wp2_with fail
       refine ay (v:=aK #[aN #[.slice (some ⟨w.heap.size+1+1+1+1,0,none⟩) 1 1,aa ⟨#[]⟩,ab ae 0,ab ae 0],am true]) (by simp [results,gK,go_sem]) rfl ⟨_,1,1,rfl,?_,?_⟩
       ·repeat (first | exact aj _ _ | refine Below.alloc ?_ (by simp <;> omega) _)
       ·rw [F.out]
        exact (OwnS.oneAt _ _ _ _ (by simp)).mono (by omega)
      ·have b2:26<=n:=by omega
       have F:=zq (show ld n=c++kj (n / 26) by rw [G.out,if_neg X])
       have K:-9223372036854775808<=n / 26:=by omega
       have L:n / 26<=9223372036854775807:=by omega
       have b1:=qG (n / 26) K L
       have a2:=l.f2.bel.alloc l.f2.bel.size (.cells #[ab .u8 (65+n % 26)] 5)
       have HF:=zq (LF (n / 26) K L _ (Z.out.below a2))
       have a0:=zq (l.call ((aj _ _).alloc (ag _) (.cells #[ab .u8 (65+n % 26)] 5)))
       clear l K L
       go_enter Tryz.func145,Tryz.ntmps145
       go_wp2_with fail
       refine HF.out.mono ?_;rintro e w1 ⟨rfl,a1⟩
       have g:=a0.out.call a1
       have I:=g.f2.bel
       obtain ⟨u0,r0⟩:=g.rb.r0
       obtain ⟨u1,r1⟩:=g.rb.r1
       obtain ⟨u2,r2⟩:=g.rb.r2
       obtain ⟨u3,r3⟩:=g.rb.r3
       have f0:=g.rb.rf 0
       have f1:=g.rb.rf 1
       have f2:=g.rb.rf 2
       have f3:=g.rb.rf 3
       have a4:=g.rb.lt
       go_wp2_with fail
       refine ay (v:=aK #[aN #[.slice (some ⟨w1.heap.size,0,none⟩) 1 1,aa ⟨#[]⟩,ab ae 0,ab ae 0],am true]) (by simp [results,gK,go_sem,r0,r1,r2,r3,a4]) rfl ⟨_,1,1,rfl,(dg I _ (by omega) _ _ _ _).alloc (by rw [eD];exact I.size) _,?_⟩
       rw [F.out]
       exact (OwnS.oneAt _ _ _ _ (eD _ _ _ _ _ _)).mono I.size
     ·have b6:x.num<0:=by omega
      have d:=zq (show je o t=false by rw [a.out,hc1,hc2,hk,decide_eq_false z];rfl)
      rw [d.out,lD d.out]
      rw [hc1] at f u C
      clear a j i m B
      go_enter Tryz.func145,Tryz.ntmps145
      go_wp2_with fail
      refine ay (v:=aK #[aN #[.slice none 0 0,aa ⟨#[]⟩,ab ae 0,ab ae 0],am false]) (by simp [results,gK,go_sem]) rfl ⟨none,0,0,rfl,?_,OwnS.nil _ _ _⟩
      exact f
   ·have a3:(k==1)=false:=by simpa using W
    have d:=zq (show je o t=false by rw [a.out,hc1,hc2,a3];rfl)
    rw [d.out,lD d.out]
    rw [hc1] at f
    clear a j i m r p
    go_enter Tryz.func145,Tryz.ntmps145
    go_wp2_with fail
    refine ay (v:=aK #[aN #[.slice none 0 0,aa ⟨#[]⟩,ab ae 0,ab ae 0],am false]) (by simp [results,gK,go_sem]) rfl ⟨none,0,0,rfl,?_,OwnS.nil _ _ _⟩
    exact f
end Go.Proofs.YtlikcjbjibhjgaaGreatDoor
namespace Hb
open Go Go.RowKit
def eu (t:Tm):Bool:=t.isNm [46]&&t.args.length==2
def kH (o:WO) (T:List OpR) (S:Tm->WR) (t:Tm):WR:=if eu t=true then (s1 91::((dh (cR o T S) (cK t)++jd (cR o T S) (di t))++[s1 93]),op0) else ([],op0)
theorem sa {o:WO} {T:List OpR} {S:Tm->WR} {t:Tm} (h:eu t=false):kH o T S t=([],op0):=by unfold kH;rw [h];rfl
theorem xg {o:WO} {T:List OpR} {S:Tm->WR} {t:Tm} (h:eu t=true):kH o T S t=(s1 91::((dh (cR o T S) (cK t)++jd (cR o T S) (di t))++[s1 93]),op0):=by unfold kH;rw [if_pos h]
theorem Fr3.over {w0 w w':ai} {o:WO} {TA:Option Addr} {TN TC:Nat} {t:Tm} {A:Option Addr} {cap b:Nat} (h:Fr3 w0 w o TA TN TC t A cap) (e:w0.heap.size+2<b) (c:ax (b+1) w w'):Fr3 w0 w' o TA TN TC t A cap:=by
 have i:=c.size
 have d:=h.rb.lt
 have a:∀g k,g<b->w'.cell? ⟨g,k,none⟩=w.cell? ⟨g,k,none⟩/\w'.frozen? ⟨g,k,none⟩=w.frozen? ⟨g,k,none⟩:=fun g k f=>⟨c.cell (p:=⟨g,k,none⟩) (show g<b+1 by omega),c.frozen (p:=⟨g,k,none⟩) (show g<b+1 by omega)⟩
 refine ⟨⟨h.f2.bel.trans (c.mono (by omega)),?_,?_⟩,?_⟩
 ·exact ⟨by omega,(a _ _ (by omega)).1.trans h.f2.wb.c0,(a _ _ (by omega)).1.trans h.f2.wb.c1,(a _ _ (by omega)).1.trans h.f2.wb.c2,(a _ _ (by omega)).1.trans h.f2.wb.c3⟩
 ·exact ⟨by omega,(a _ _ (by omega)).1.trans h.f2.tb.c0,(a _ _ (by omega)).1.trans h.f2.tb.c1,(a _ _ (by omega)).1.trans h.f2.tb.c2,(a _ _ (by omega)).1.trans h.f2.tb.c3⟩
 ·exact ⟨by omega,h.rb.r0.imp fun _ k=>(a _ _ (by omega)).1.trans k,h.rb.r1.imp fun _ k=>(a _ _ (by omega)).1.trans k,h.rb.r2.imp fun _ k=>(a _ _ (by omega)).1.trans k,h.rb.r3.imp fun _ k=>(a _ _ (by omega)).1.trans k,fun k=>(a _ _ (by omega)).2.trans (h.rb.rf k)⟩
theorem OwnS.val {e b:Nat} {w:ai} {v:az} {l:List ByteArray} (h:OwnS e b w v l):∃A n c,v=.slice A n c:=by
 obtain ⟨A,c,a,_⟩:=h.strs
 exact ⟨A,_,c,a⟩
theorem OwnS.strN {e b:Nat} {w:ai} {v:az} {l:List ByteArray} (h:OwnS e b w v l):∃A n c,v=.slice A n c/\n=l.length/\StrsAt w A l/\uM A n c:=by
 obtain ⟨A,c,f,d,a⟩:=h.strs
 exact ⟨A,_,c,f,rfl,d,a⟩
theorem OwnS.snoc {e b:Nat} {w:ai} {v:az} {l m:List ByteArray} (h:w.ownsRow b e 1 v (l.length+m.length) (l.map aQ++m.map aQ)):OwnS e b w v (l++m):=by
 unfold OwnS;rw [aB,List.map_append];exact h
end Hb
namespace Go.Proofs.YtlikcjbjibhjgaaGreatDoor
open Go.RowKit Hb
variable {o:WO} {T:List OpR} {TA:Option Addr} {TN TC:Nat} {S:Tm->WR}
theorem LM (t:Tm) (hv:eu t=true->cd t=true) (h0:t.nodes<=5000) (hP:∀x∈cK t,yo o T TA TN TC S x) (d6:eu t=true->yo o T TA TN TC S (di t)) (h9:(dh (cR o T S) (cK t)).length+(cR o T S (di t)).length<=80000) (A:Option Addr) (b2:Nat) (w:ai) (hE:Env T TA TN TC w) (hT:TmsAt w.heap.size w A t.args) :
  aJ ah 147 #[nN o TA TN TC,er t A b2] w fun e w'=>∃A' n' c',e=aw (ym A' n' c' (kH o T S t).2 (eu t))/\ax w.heap.size w w'/\OwnS 9 w.heap.size w' (.slice A' n' c') (kH o T S t).1:=by
 obtain ⟨LN,HL⟩:=lz (t.args.length)
 have HX:=zq (Fr3.start w o TA TN TC t A b2 LN 103 25 173 HL.out (.slice none 0 0) (aa ⟨#[]⟩) (ab ae 0) (ab ae 0))
 have b0:=HX.out.f2.bel
 have f7:=b0.size
 have K:Hid (eu t=(t.name.toList==[46]&&t.args.length==2)):=zq rfl
 have HE:=zq hE
 have J:=zq (fun (hc:eu t=true) W (h:ax w.heap.size w W)=>JG t A b2 W ((hT.keep h).mono h.size) (hv hc))
 have h3:(cK t).length<=10000:=by
  have C:=uu t
  omega
 have HP:=zq hP
 have f9:=zq d6
 have b1:=zq (fun y c1 W (h:ax w.heap.size w W) (r:TmsAt W.heap.size W y (cK t))=>Lp (cK t) hP (by omega) y (cK t).length c1 W rfl h3 (hE.below h) r)
 have O:=zq (fun (hc:eu t=true) y c1 W (h:ax w.heap.size w W) (r:TmsAt W.heap.size W y (di t).args)=>Lq (d6 hc) y c1 W (hE.below h) r)
 clear hT hE hP d6 hv h0
 unfold er nN ym Ld at *
 rw [<-HL.out] at K J |-
 cases hc1:(t.name.toList==[46])
 ·have g9:¬t.name.toList=[46]:=by simpa using hc1
  have n:=zq (show eu t=false by rw [K.out,hc1];rfl)
  rw [n.out,sa n.out]
  clear K HX f7 J b1 O
  go_enter Tryz.func147,Tryz.ntmps147
  go_wp2_with fail
  refine ay (v:=aK #[aN #[.slice none 0 0,aa ⟨#[]⟩,ab ae 0,ab ae 0],am false]) (by simp [results,Tryz.results147,go_sem]) rfl ⟨none,0,0,rfl,b0,OwnS.nil _ _ _⟩
 ·have g9:t.name.toList=[46]:=by simpa using hc1
  by_cases hl:LN=2
  ·subst hl
   have n:=zq (show eu t=true by rw [K.out,hc1];rfl)
   have O:=zq (O.out n.out)
   have J:=zq (J.out n.out)
   rw [n.out,xg n.out]
   have Z:Hid ((dh (cR o T S) (cK t)++jd (cR o T S) (di t)).length<=80001):=zq (by
    rw [aB];unfold jd;split
    ·rw [List.length_nil];omega
    ·rw [bo];omega)
   have c6:=zq (show jd (cR o T S) (di t)=if ((di t).kind==2&&(di t).name.toList==[91,93])=true then [] else s1 124::cR o T S (di t) from rfl)
   clear K HP f9
   generalize dh (cR o T S) (cK t)=R at *
   generalize jd (cR o T S) (di t)=TL at *
   generalize cR o T S (di t)=TP at *
   have h4:Hid (op0.name=⟨#[]⟩/\op0.typ=0/\op0.prec=0):=zq ⟨rfl,rfl,rfl⟩
   go_enter Tryz.func147,Tryz.ntmps147
   go_wp2_with fail
   refine (J.out _ b0).mono ?_;rintro e a ⟨y,c1,I,Q,rfl,g1,e7,e8⟩
   have a0:=zq (HX.out.call g1)
   have h8:=a0.out.f2.bel
   have f4:TmsAt a.heap.size a y (cK t):=e7.at fun b U=>U.2
   have d7:TmsAt a.heap.size a I (di t).args:=e8.at fun b U=>U.2
   obtain ⟨u,HU⟩:=lz (di t)
   rw [<-HU.out] at d7 O c6 |-
   have g0:=zq d7
   have P:=zq (a0.out.call ((aj _ _).alloc (ag _) (.cells #[ab ae u.kind,ab ae u.num,aa u.name,.slice I u.args.length Q] 25)))
   have g3:=P.out.f2.bel
   have f8:Hid (TBx (a.alloc (.cells #[ab ae u.kind,ab ae u.num,aa u.name,.slice I u.args.length Q] 25)) a.heap.size u I Q):=zq ⟨by simp,aq _ _ _ 0,aq _ _ _ 1,aq _ _ _ 2,aq _ _ _ 3⟩
   have e5:=zq (b1.out y c1 _ g3 ((f4.keep ((aj _ _).alloc (ag _) _)).mono (by simp)))
   have x0:=P.out.f2.wb.c0
   have x1:=P.out.f2.wb.c1
   have x2:=P.out.f2.wb.c2
   have x3:=P.out.f2.wb.c3
   clear f4 d7 e7 e8 J b1
   generalize (cK t).length=en at *
   go_wp2_with fail
   refine e5.out.mono ?_;rintro e w2 ⟨v2,rfl,b3,e9⟩
   have q:=zq (P.out.call b3)
   have F:=f8.out.call b3
   have c0:=F.c0
   have k1:=F.c1
   have h5:=F.c2
   have c3:=F.c3
   have y0:=q.out.f2.wb.c0
   have y1:=q.out.f2.wb.c1
   have y2:=q.out.f2.wb.c2
   have y3:=q.out.f2.wb.c3
   have e3:=zq e9
   have g4:=q.out.f2.bel
   clear e9 e5 x0 x1 x2 x3 HX
   have g5:(u.kind=2/\u.name.toList=[91,93])\/¬u.kind=2\/(u.kind=2/\¬u.name.toList=[91,93]):=by
    by_cases C:u.kind=2
    ·by_cases r:u.name.toList=[91,93]
     ·exact .inl ⟨C,r⟩
     ·exact .inr (.inr ⟨C,r⟩)
    ·exact .inr (.inl C)
   rcases g5 with ⟨hk,hn⟩ | f6
   ·have d8:TL=[]:=by rw [c6.out,if_pos (by rw [hk,hn];rfl)]
    subst d8
    rw [aA] at Z
    rw [hk] at c0
    obtain ⟨V,n4,c4,rfl,G,E,D⟩:=e3.out.strN
    have X:=zq (lk ⟨#[91]⟩ ⟨#[93]⟩ V n4 c4 _ w2 G (by have:=Z.out;omega) E D)
    clear E D G
    go_wp2_with fail
    refine X.out.mono ?_;rintro e w7 ⟨v7,rfl,a1,j⟩
    obtain ⟨z,H,B,rfl⟩:=j.val
    have Y:=zq j
    have c:=zq (q.out.call a1)
    have a4:=c.out.f2.bel
    have a6:=(q.out).rb.lt
    have a5:=(q.out).f2.bel.size
    obtain ⟨u0,r0⟩:=c.out.rb.r0
    obtain ⟨u1,r1⟩:=c.out.rb.r1
    obtain ⟨u2,r2⟩:=c.out.rb.r2
    obtain ⟨u3,r3⟩:=c.out.rb.r3
    have f0:=c.out.rb.rf 0
    have f1:=c.out.rb.rf 1
    have f2:=c.out.rb.rf 2
    have f3:=c.out.rb.rf 3
    clear j
    go_wp2_with fail
    refine ay (v:=aK #[aN #[.slice z H B,aa ⟨#[]⟩,ab ae 0,ab ae 0],am true]) (by simp [results,Tryz.results147,go_sem,r0,r1,r2,r3]) rfl ⟨z,H,B,rfl,dg a4 _ (by omega) _ _ _ _,?_⟩
    rw [aA]
    exact (Y.out.put4 a6 _ _ _ _).mono a5
   ·have d8:TL=s1 124::TP:=by
     rw [c6.out,if_neg]
     intro h
     rw [aF,beq_iff_eq,beq_iff_eq] at h
     rcases f6 with C | ⟨_,C⟩
     ·exact C h.1
     ·exact C h.2
    subst d8
    have h6:R.length+1+TP.length<=80001:=by have:=Z.out;rw [aB,bo] at this;omega
    have b5:=zq (fun W (h:ax w.heap.size w W) (r:ax a.heap.size a W)=>O.out I Q W h ((TmsAt.keep g0.out r).mono r.size))
    have f5:a.heap.size+1<=w2.heap.size:=by have:=b3.size;simp at this;exact this
    have e4:Hid (w2.ownsRow (a.heap.size+1) 9 1 v2 R.length (R.map aQ)):=zq (by
     have h:=e3.out
     have e1:(a.alloc (.cells #[ab ae u.kind,ab ae u.num,aa u.name,.slice I u.args.length Q] 25)).heap.size=a.heap.size+1:=by simp
     unfold OwnS at h
     rw [e1] at h
     exact h)
    have g2:ax a.heap.size a w2:=((aj _ _).alloc (ag _) _).trans (b3.mono (by simp))
    have e2:Hid (∀(N:az) (g:ai),g.ownsRow (a.heap.size+1) 9 1 N (R.length+1) (R.map aQ ++ #[aQ ⟨#[124]⟩].toList)->ax (a.heap.size+1) w2 g->(Fr3 w g o TA TN TC t A b2/\TBx g a.heap.size u I Q/\ax a.heap.size a g/\OwnS 9 (a.heap.size+1) g N (R++[s1 124])/\a.heap.size+1<=g.heap.size)):=zq (fun N g ho s=>by
     have i0:=a0.out.rb.lt
     have i:=q.out
     have d:∀b k,b<a.heap.size+1->g.cell? ⟨b,k,none⟩=w2.cell? ⟨b,k,none⟩/\g.frozen? ⟨b,k,none⟩=w2.frozen? ⟨b,k,none⟩:=fun b k U=>⟨s.cell (p:=⟨b,k,none⟩) U,s.frozen (p:=⟨b,k,none⟩) U⟩
     have b4:=s.size
     refine ⟨⟨⟨g4.trans (s.mono (by omega)),?_,?_⟩,?_⟩,?_,g2.trans (s.mono (by omega)),OwnS.snoc (m:=[s1 124]) ho,by omega⟩
     ·exact ⟨by omega,(d _ _ (by omega)).1.trans i.f2.wb.c0,(d _ _ (by omega)).1.trans i.f2.wb.c1,(d _ _ (by omega)).1.trans i.f2.wb.c2,(d _ _ (by omega)).1.trans i.f2.wb.c3⟩
     ·exact ⟨by omega,(d _ _ (by omega)).1.trans i.f2.tb.c0,(d _ _ (by omega)).1.trans i.f2.tb.c1,(d _ _ (by omega)).1.trans i.f2.tb.c2,(d _ _ (by omega)).1.trans i.f2.tb.c3⟩
     ·exact ⟨by omega,i.rb.r0.imp fun _ k=>(d _ _ (by omega)).1.trans k,i.rb.r1.imp fun _ k=>(d _ _ (by omega)).1.trans k,i.rb.r2.imp fun _ k=>(d _ _ (by omega)).1.trans k,i.rb.r3.imp fun _ k=>(d _ _ (by omega)).1.trans k,fun k=>(d _ _ (by omega)).2.trans (i.rb.rf k)⟩
     ·exact ⟨by omega,(d _ _ (by omega)).1.trans F.c0,(d _ _ (by omega)).1.trans F.c1,(d _ _ (by omega)).1.trans F.c2,(d _ _ (by omega)).1.trans F.c3⟩)
    have h7:(R++[s1 124]).length=R.length+1:=by simp
    have e6:Hid ((R++[s1 124])++TP=R++s1 124::TP):=zq (by simp)
    rcases f6 with hk | ⟨hk,hn⟩
    ·skip
     go_wp2_with ((with_reducible refine jF ?_);go_must (refine dO rfl _ _ 65 9 rfl bw _ 1 16 jf rfl (by decide) (a.heap.size+1) _ _ _ rfl w2 e4.out #[aa ⟨#[124]⟩] rfl (by simp [eO]) rfl rfl (by omega) (by omega) f5 ?_;intro N g a7 s g6;obtain ⟨f,l,d5,a2,b4⟩:=e2.out N g a7 s;have c8:=zq f;have b6:=zq a2;have z0:=f.f2.wb.c0;have z1:=f.f2.wb.c1;have z2:=f.f2.wb.c2;have z3:=f.f2.wb.c3;have d0:=l.c0;have d1:=l.c1;have d2:=l.c2;have d3:=l.c3;have d9:=f.f2.bel;clear a7 a2 f l))
     refine (b5.out _ d9 d5).mono ?_;rintro e w5 ⟨v5,rfl,M,a3⟩
     obtain ⟨A5,c5,rfl,a9⟩:=a3.src
     have b9:=zq a9
     have b7:=zq (b6.out.below M)
     have c9:=zq (c8.out.call M)
     have e0:a.heap.size+1<=w5.heap.size:=aI b4 M.size
     clear a9 a3 z0 z1 z2 z3 d0 d1 d2 d3
     go_wp2_with ((with_reducible refine jF ?_);go_must (refine gO rfl _ _ 65 9 rfl bw _ 1 16 jf rfl (by decide) (a.heap.size+1) _ _ _ rfl b7.out A5 _ c5 _ rfl b9.out (gh _) (by omega) (by omega) e0 w5 (aj _ _) ?_;intro v6 w6 a8 d4 g7;have b8:Hid (OwnS 9 (a.heap.size+1) w6 v6 (R++s1 124::TP)):=(by rw [<-e6.out];exact zq (OwnS.snoc a8));have L:=zq (Fr3.over c9.out a0.out.rb.lt d4);clear a8;obtain ⟨V,n4,c4,rfl,G,E,D⟩:=b8.out.strN;have X:=zq (lk ⟨#[91]⟩ ⟨#[93]⟩ V n4 c4 _ w6 G (by have:=Z.out;omega) E D);clear E D G))
     with_reducible refine X.out.mono ?_;rintro e w7 ⟨v7,rfl,a1,j⟩
     obtain ⟨z,H,B,rfl⟩:=j.val
     have Y:=zq j
     have c:=zq (L.out.call a1)
     have a4:=c.out.f2.bel
     have a6:=(L.out).rb.lt
     have a5:=(L.out).f2.bel.size
     obtain ⟨u0,r0⟩:=c.out.rb.r0
     obtain ⟨u1,r1⟩:=c.out.rb.r1
     obtain ⟨u2,r2⟩:=c.out.rb.r2
     obtain ⟨u3,r3⟩:=c.out.rb.r3
     have f0:=c.out.rb.rf 0
     have f1:=c.out.rb.rf 1
     have f2:=c.out.rb.rf 2
     have f3:=c.out.rb.rf 3
     clear j
     go_wp2_with fail
     refine ay (v:=aK #[aN #[.slice z H B,aa ⟨#[]⟩,ab ae 0,ab ae 0],am true]) (by simp [results,Tryz.results147,go_sem,r0,r1,r2,r3]) rfl ⟨z,H,B,rfl,dg a4 _ (by omega) _ _ _ _,?_⟩
     exact (Y.out.put4 a6 _ _ _ _).mono a5
    ·rw [hk] at c0 b5
     have i1:(u.name.toList==[91,93])=false:=by simpa using hn
     go_wp2_with ((with_reducible refine jF ?_);go_must (refine dO rfl _ _ 65 9 rfl bw _ 1 16 jf rfl (by decide) (a.heap.size+1) _ _ _ rfl w2 e4.out #[aa ⟨#[124]⟩] rfl (by simp [eO]) rfl rfl (by omega) (by omega) f5 ?_;intro N g a7 s g6;obtain ⟨f,l,d5,a2,b4⟩:=e2.out N g a7 s;have c8:=zq f;have b6:=zq a2;have z0:=f.f2.wb.c0;have z1:=f.f2.wb.c1;have z2:=f.f2.wb.c2;have z3:=f.f2.wb.c3;have d0:=l.c0;have d1:=l.c1;have d2:=l.c2;have d3:=l.c3;have d9:=f.f2.bel;clear a7 a2 f l))
     refine (b5.out _ d9 d5).mono ?_;rintro e w5 ⟨v5,rfl,M,a3⟩
     obtain ⟨A5,c5,rfl,a9⟩:=a3.src
     have b9:=zq a9
     have b7:=zq (b6.out.below M)
     have c9:=zq (c8.out.call M)
     have e0:a.heap.size+1<=w5.heap.size:=aI b4 M.size
     clear a9 a3 z0 z1 z2 z3 d0 d1 d2 d3
     go_wp2_with ((with_reducible refine jF ?_);go_must (refine gO rfl _ _ 65 9 rfl bw _ 1 16 jf rfl (by decide) (a.heap.size+1) _ _ _ rfl b7.out A5 _ c5 _ rfl b9.out (gh _) (by omega) (by omega) e0 w5 (aj _ _) ?_;intro v6 w6 a8 d4 g7;have b8:Hid (OwnS 9 (a.heap.size+1) w6 v6 (R++s1 124::TP)):=(by rw [<-e6.out];exact zq (OwnS.snoc a8));have L:=zq (Fr3.over c9.out a0.out.rb.lt d4);clear a8;obtain ⟨V,n4,c4,rfl,G,E,D⟩:=b8.out.strN;have X:=zq (lk ⟨#[91]⟩ ⟨#[93]⟩ V n4 c4 _ w6 G (by have:=Z.out;omega) E D);clear E D G))
     with_reducible refine X.out.mono ?_;rintro e w7 ⟨v7,rfl,a1,j⟩
     obtain ⟨z,H,B,rfl⟩:=j.val
     have Y:=zq j
     have c:=zq (L.out.call a1)
     have a4:=c.out.f2.bel
     have a6:=(L.out).rb.lt
     have a5:=(L.out).f2.bel.size
     obtain ⟨u0,r0⟩:=c.out.rb.r0
     obtain ⟨u1,r1⟩:=c.out.rb.r1
     obtain ⟨u2,r2⟩:=c.out.rb.r2
     obtain ⟨u3,r3⟩:=c.out.rb.r3
     have f0:=c.out.rb.rf 0
     have f1:=c.out.rb.rf 1
     have f2:=c.out.rb.rf 2
     have f3:=c.out.rb.rf 3
     clear j
     go_wp2_with fail
     refine ay (v:=aK #[aN #[.slice z H B,aa ⟨#[]⟩,ab ae 0,ab ae 0],am true]) (by simp [results,Tryz.results147,go_sem,r0,r1,r2,r3]) rfl ⟨z,H,B,rfl,dg a4 _ (by omega) _ _ _ _,?_⟩
     exact (Y.out.put4 a6 _ _ _ _).mono a5
  ·have g8:(LN==2)=false:=by simpa using hl
   have n:=zq (show eu t=false by rw [K.out,hc1,g8];rfl)
   rw [n.out,sa n.out]
   clear K HX f7 J b1 O
   go_enter Tryz.func147,Tryz.ntmps147
   go_wp2_with fail
   refine ay (v:=aK #[aN #[.slice none 0 0,aa ⟨#[]⟩,ab ae 0,ab ae 0],am false]) (by simp [results,Tryz.results147,go_sem]) rfl ⟨none,0,0,rfl,b0,OwnS.nil _ _ _⟩
end Go.Proofs.YtlikcjbjibhjgaaGreatDoor
namespace Hb
open Go Go.RowKit
theorem kn {l:List OpR} (h:Sorted l) {i j:Nat} (b:j<l.length) (a:i<j):gT (l[i]'(by omega)) l[j]=true:=(List.pairwise_iff_getElem.1 h) i j (by omega) b a
theorem ww {a b:OpR} (h:gT a b=true):a.name.toList<=b.name.toList:=by
 rw [kz] at h
 rcases h with h | ⟨h,_⟩
 ·exact List.le_of_lt h
 ·rw [h];exact List.le_refl _
theorem qU {a b:OpR} (h:gT a b=true) (c:a.name.toList=b.name.toList):bX a.typ<bX b.typ:=by
 rw [kz] at h
 rcases h with h | ⟨_,h⟩
 ·rw [c] at h;exact absurd h (List.lt_irrefl _)
 ·exact h
def LG (l:List OpR):Prop:=∀a∈l,∀b∈l,a.name.toList=b.name.toList->¬(bX a.typ=2/\bX b.typ=3)
theorem sj {l:List OpR} (h:bB l=true):LG l:=by
 intro a n b o d ⟨h2,h3⟩
 have e:=kW h
 obtain ⟨i,q,rfl⟩:=cI n
 obtain ⟨j,m,rfl⟩:=cI o
 rcases Nat.lt_trichotomy i j with c | c | c
 ·rcases Nat.eq_or_lt_of_le (show i+1<=j from c) with p | r
  ·subst p
   have:=pz h i m
   rw [zA,d,h2,h3] at this
   simp at this
  ·have f:=kn e (i:=i) (j:=i+1) (by omega) (by omega)
   have g:=kn e (i:=i+1) (j:=j) m r
   have s:=ww f
   have t:=ww g
   have k:l[i].name.toList=l[i+1].name.toList:=List.le_antisymm s (by rw [d];exact t)
   have u:=qU f k
   have v:=qU g (k.symm.trans d)
   omega
 ·subst c;omega
 ·have:=qU (kn e q c) d.symm
  omega
theorem FT {l:List OpR} (f:l.length<=100) (g:∀a∈l,nK a=true) (h:Sorted l) (i:LG l):bB l=true:=by
 refine qs l f fun j b=>?_
 unfold Dg
 rw [lh l j b,g _ (aR b)]
 rcases Nat.eq_zero_or_pos j with d | d
 ·subst d;rfl
 ·have k:=kn h b (show j-1<j by omega)
  rw [lh l (j-1) (by omega),zA,k]
  have e:¬((l[j-1].name.toList==l[j].name.toList&&(bX l[j-1].typ==2&&bX l[j].typ==3))=true):=by
   intro c
   simp only [aF,beq_iff_eq] at c
   exact i _ (aR _) _ (aR b) c.1 c.2
  rw [dN] at e
  rw [e];simp
theorem oG {l:List OpR} (h:bB l=true):∀a∈l,nK a=true:=by
 intro a b
 obtain ⟨j,c,rfl⟩:=cI b
 exact FS h j c
theorem IG {l:List OpR} (k:Sorted l) {g:ByteArray} {c:Int} {a:OpR} (h:a∈l) (d:lN g c a=true):l.find? (lN g c)=some a:=by
 cases hf:l.find? (lN g c) with
 | none=>rw [List.find?_eq_none] at hf;exact absurd d (hf a h)
 | some b=>
  have m:=eH hf
  have f:=List.find?_some hf
  unfold lN at d f
  simp only [aF,beq_iff_eq] at d f
  obtain ⟨i,n,rfl⟩:=cI h
  obtain ⟨j,o,rfl⟩:=cI m
  rcases Nat.lt_trichotomy i j with e | e | e
  ·have:=qU (kn k o e) (d.1.trans f.1.symm)
   omega
  ·subst e;rfl
  ·have:=qU (kn k n e) (f.1.trans d.1.symm)
   omega
theorem zK {o a:OpR} {l:List OpR}:a∈kI o l↔a∈l/\jp o a=false:=by
 unfold kI
 rw [List.mem_filter]
 simp
theorem xU {o a:OpR} {l:List OpR}:a∈oi l o↔(0<o.prec/\a=o)\/(a∈l/\jp o a=false):=by
 unfold oi
 split
 ·rename_i h
  rw [(oW o (kI o l)).mem_iff,bg,zK]
  simp [h]
 ·rename_i h
  rw [zK]
  simp [h]
theorem tj {o:OpR}:∀{t:List OpR},Sorted t->(∀a∈t,jp o a=false)->Sorted (qE o t)
 | [],_,_=>by unfold qE Sorted;simp
 | a::t,h,hne=>by
  unfold Sorted at h |-
  rw [ex] at h
  unfold qE
  split
  ·rename_i d
   rw [ex]
   refine ⟨fun b c=>?_,ex.2 h⟩
   rcases bg.1 c with rfl | c
   ·exact (me _ _).1 d
   ·exact oY ((me _ _).1 d) (h.1 b c)
  ·rename_i d
   rw [ex]
   refine ⟨fun b c=>?_,tj h.2 fun b c=>hne b (by simp [c])⟩
   rcases bg.1 ((oW o t).mem_iff.1 c) with rfl | c
   ·have f:gT b a=false:=by rw [<-dN,<-me];exact d
    have g:jp a b=false:=by
     have:=hne a (by simp)
     rw [<-dN,Ac] at this |-
     exact fun e=>this ⟨e.1.symm,e.2.symm⟩
    exact DE f g
   ·exact h.1 b c
theorem AT {l:List OpR} (h:Sorted l) (o:OpR):Sorted (oi l o):=by
 unfold oi
 split
 ·exact tj (h.rest o) (CZ o l)
 ·exact h.rest o
structure Sets (l:List OpR) (o:OpR):Prop where
 val:bB l=true
 p0:0<=o.prec
 p1:o.prec<=1200
 cls:bX o.typ≠0
 sz:o.name.size<=100
 fix:kT l o=false
 len:(oi l o).length<=100
theorem GJ (l:List OpR) (o:OpR):(nJ l o).2=0↔Sets l o:=by
 cases hb:(!bB l||decide (o.prec<0)||decide (1200<o.prec)||bX o.typ==0||decide (100<o.name.size))
 ·cases hf:kT l o
  ·by_cases a:100<(oi l o).length
   ·rw [vA hb hf a]
    exact ⟨fun h=>(by cases h),fun h=>absurd h.len (by omega)⟩
   ·rw [sH hb hf a]
    simp at hb
    exact ⟨fun _=>⟨hb.1.1.1.1,by omega,by omega,hb.1.2,by omega,hf,by omega⟩,fun _=>rfl⟩
  ·rw [yQ hb hf]
   exact ⟨fun h=>(by cases h),fun h=>(by rw [h.fix] at hf;cases hf)⟩
 ·rw [yR hb]
  refine ⟨fun h=>(by cases h),fun h=>?_⟩
  have c:=h.p0;have d:=h.p1;have b:=h.cls;have e:=h.sz
  rw [h.val] at hb
  simp [b] at hb
  omega
theorem GI {l:List OpR} {o:OpR} (h:Sets l o):nJ l o=(oi l o,0):=by
 refine sH ?_ h.fix (by have:=h.len;omega)
 have b:=h.p0;have c:=h.p1;have a:=h.cls;have d:=h.sz
 rw [h.val]
 simp [a]
 omega
theorem zW {l:List OpR} (h:bB l=true) (a:ByteArray) (c:Int):dt l a c=l.find? (lN a c):=by unfold dt;rw [h];rfl
theorem Sets.ok {l:List OpR} {o:OpR} (h:Sets l o) (e:0<o.prec):nK o=true:=by
 have b:=h.p1;have c:=h.cls;have d:=h.sz
 have a:=h.fix
 unfold kT at a
 unfold nK
 grind
theorem Sets.mix {l:List OpR} {o b:OpR} (h:Sets l o) (i:0<o.prec) (g:bX o.typ≠1) (c:b∈l) (f:b.name.toList=o.name.toList):bX b.typ≠5-bX o.typ:=by
 intro d
 have e:=h.fix
 unfold kT at e
 have a:(dt l o.name (5-bX o.typ)).isSome=false:=by grind
 rw [zW h.val,IG (kW h.val) c (by unfold lN;simp [f,d])] at a
 cases a
theorem Sets.valid {l:List OpR} {o:OpR} (h:Sets l o):bB (oi l o)=true:=by
 refine FT h.len (fun a c=>?_) (AT (kW h.val) o) ?_
 ·rcases xU.1 c with ⟨f,rfl⟩ | ⟨c,_⟩
  ·exact h.ok f
  ·exact oG h.val a c
 ·intro a c b m d e
  rcases xU.1 c with ⟨f,g⟩ | ⟨j,_⟩ <;> rcases xU.1 m with ⟨n,i⟩ | ⟨k,_⟩
  ·rw [g,i] at e;omega
  ·rw [g] at d e;exact h.mix f (by omega) k d.symm (by omega)
  ·rw [i] at d e;exact h.mix n (by omega) j d (by omega)
  ·exact sj h.val a j b k d e
structure BoxG (w:ai) (g:Nat) (o:OpR):Prop where
 lt:g<w.heap.size
 c0:w.cell? ⟨g,0,none⟩=some (aa o.name)
 c1:w.cell? ⟨g,1,none⟩=some (ab ae o.typ)
 c2:w.cell? ⟨g,2,none⟩=some (ab ae o.prec)
theorem BoxG.call {w w':ai} {g:Nat} {o:OpR} (h:BoxG w g o) (a:ax w.heap.size w w'):BoxG w' g o where
 lt:=aC h.lt a.size
 c0:=(a.cell (p:=⟨_,_,none⟩) h.lt).trans h.c0
 c1:=(a.cell (p:=⟨_,_,none⟩) h.lt).trans h.c1
 c2:=(a.cell (p:=⟨_,_,none⟩) h.lt).trans h.c2
theorem BoxG.start (w:ai) (o:OpR) (e:bD):BoxG (w.alloc (.cells #[aa o.name,ab ae o.typ,ab ae o.prec] e)) w.heap.size o where
 lt:=by simp
 c0:=aq _ _ _ 0
 c1:=aq _ _ _ 1
 c2:=aq _ _ _ 2
theorem EZ {o:WO} {T:List OpR} {S:Tm->WR} {t:Tm} {op:OpR} (h:t.kind=3):dE o T S t op=brk (S t).1 (decide (gi op<(S t).2.prec)||((op.typ==3||op.typ==7)&&((S t).2.typ==2||(S t).2.typ==4))&&(S t).2.prec==op.prec):=by
 unfold dE;rw [if_pos h]
theorem Is {o:WO} {T:List OpR} {S:Tm->WR} {t:Tm} {op:OpR} (h:¬t.kind=3):dE o T S t op=bu o T S t (gi op) true:=by
 unfold dE;rw [if_neg h]
end Hb
namespace Go.Proofs.YtlikcjbjibhjgaaGreatDoor
open Go.RowKit Hb
variable {o:WO} {T:List OpR} {TA:Option Addr} {TN TC:Nat} {S:Tm->WR}
theorem FJ (t:Tm) (op:OpR) (b4:0<=op.prec/\op.prec<=1200) (Y:yo o T TA TN TC S t) (Z:t.kind=3->SOK o T TA TN TC S t) (a3:(S t).1.length<=90000) (A:Option Addr) (j:Nat) (w:ai) (F:Env T TA TN TC w) (G:TmsAt w.heap.size w A t.args) :
  aJ ah 179 #[nN o TA TN TC,er t A j,kZ op] w fun e w'=>∃v,e=aw v/\ax w.heap.size w w'/\OwnS 9 w.heap.size w' v (dE o T S t op):=by
 obtain ⟨p,m⟩:=lz (t.args.length)
 have L:=Fr2.start w o TA TN TC t A j p 103 25 m.out
 have H:=L.call ((aj _ _).alloc (ag _) (.cells #[aa op.name,ab ae op.typ,ab ae op.prec] 39))
 have a4:((w.alloc (.cells #[am o.q,am o.ig,am o.nu,.slice TA TN TC] 103)).alloc (.cells #[ab ae t.kind,ab ae t.num,aa t.name,.slice A p j] 25)).heap.size=w.heap.size+2:=by simp
 have P:BoxG (((w.alloc (.cells #[am o.q,am o.ig,am o.nu,.slice TA TN TC] 103)).alloc (.cells #[ab ae t.kind,ab ae t.num,aa t.name,.slice A p j] 25)).alloc (.cells #[aa op.name,ab ae op.typ,ab ae op.prec] 39)) (w.heap.size+2) op:=by
  have:=BoxG.start ((w.alloc (.cells #[am o.q,am o.ig,am o.nu,.slice TA TN TC] 103)).alloc (.cells #[ab ae t.kind,ab ae t.num,aa t.name,.slice A p j] 25)) op 39
  rw [a4] at this;exact this
 have K:=zq H
 have HG:=zq P
 have b2:=H.bel
 have J:=zq (fun W=>mH op W (by omega))
 have D:=zq (fun W (h:ax w.heap.size w W)=>Y (gi op) true A j W (F.below h) ((G.keep h).mono h.size))
 have n:=zq (fun (h3:t.kind=3) W (h:ax w.heap.size w W)=>Z h3 A j W (F.below h) ((G.keep h).mono h.size))
 have B:=zq (EZ (o:=o) (T:=T) (S:=S) (t:=t) (op:=op))
 have z:=zq (Is (o:=o) (T:=T) (S:=S) (t:=t) (op:=op))
 have HK:=zq a3
 clear F G Y Z a3 H P L a4
 unfold er nN kZ at *
 rw [<-m.out] at D n |-
 by_cases l:t.kind=3
 ·have C:=zq (B.out l)
  have a8:=zq (n.out l)
  have b3:(t.kind==3)=true:=by simp [l]
  clear B z n D l
  generalize gi op=sl at *
  generalize dB op=sr at *
  generalize hx:(S t).2=x at *
  go_enter Tryz.func179,Tryz.ntmps179
  go_wp2_with fail
  refine (J.out _).mono ?_;rintro e w1 ⟨rfl,s⟩
  have a:=K.out.call s
  have Q:=HG.out.call s
  have d:=a.bel
  have M:=a.tb.c0
  have N:=a.tb.c1
  have O:=a.tb.c2
  have r:=a.tb.c3
  have x0:=a.wb.c0
  have x1:=a.wb.c1
  have x2:=a.wb.c2
  have x3:=a.wb.c3
  rw [<-m.out] at r
  go_wp2_with fail
  refine (a8.out _ d).mono ?_;rintro e i ⟨c,g,f,rfl,u,k⟩
  have R:=Q.call u
  have y:=d.trans (u.mono d.size)
  have U:=R.call ((aj _ _).alloc (ag _) (.cells #[.slice c g f,aa x.name,ab ae x.typ,ab ae x.prec] 173))
  have V:=k.below ((aj _ _).alloc (ag _) (.cells #[.slice c g f,aa x.name,ab ae x.typ,ab ae x.prec] 173))
  have I:=y.alloc y.size (.cells #[.slice c g f,aa x.name,ab ae x.typ,ab ae x.prec] 173)
  have a5:=zq (fun (b:Bool)=>ms b _ _ (S t).1 _ (by have:=HK.out;omega) (V.mono d.size) I.size)
  have a0:=aq i #[.slice c g f,aa x.name,ab ae x.typ,ab ae x.prec] 173 0
  have b0:=aq i #[.slice c g f,aa x.name,ab ae x.typ,ab ae x.prec] 173 1
  have a1:=aq i #[.slice c g f,aa x.name,ab ae x.typ,ab ae x.prec] 173 2
  have a2:=aq i #[.slice c g f,aa x.name,ab ae x.typ,ab ae x.prec] 173 3
  clear k V M N O r x0 x1 x2 x3 a Q R
  go_upto_region 5 with fail
  generalize i.alloc (.cells #[.slice c g f,aa x.name,ab ae x.typ,ab ae x.prec] 173)=E at *
  have g1:=U.c1
  have g2:=U.c2
  replace a0:E.cell? ⟨i.heap.size,0,none⟩=some (.slice c g f):=a0
  replace a1:E.cell? ⟨i.heap.size,2,none⟩=some (ab ae x.typ):=a1
  replace a2:E.cell? ⟨i.heap.size,3,none⟩=some (ab ae x.prec):=a2
  clear b0
  go_wp2_with fail
  all_goals
   refine (a5.out _).mono ?_;rintro e w4 ⟨v4,rfl,a9,X⟩
   have b1:=I.trans (a9.mono I.size)
   have a7:=zq X
   clear X
   go_wp2_with fail
   go_ret
   refine ⟨v4,rfl,b1,?_⟩
   rw [C.out]
   have:=a7.out
   (first | exact this | (refine Eq.mp (congrArg (fun b=>OwnS _ _ _ _ (brk (S t).1 b)) ?_) this;grind))
 ·have C:=zq (z.out l)
  clear B z n
  generalize gi op=sl at *
  generalize dB op=sr at *
  go_enter Tryz.func179,Tryz.ntmps179
  go_wp2_with fail
  refine (J.out _).mono ?_;rintro e w1 ⟨rfl,s⟩
  have a:=K.out.call s
  have d:=a.bel
  have M:=a.tb.c0
  have N:=a.tb.c1
  have O:=a.tb.c2
  have r:=a.tb.c3
  have x0:=a.wb.c0
  have x1:=a.wb.c1
  have x2:=a.wb.c2
  have x3:=a.wb.c3
  rw [<-m.out] at r
  go_wp2_with fail
  refine (D.out _ d).mono ?_;rintro e i ⟨v2,rfl,u,k⟩
  have y:=d.trans (u.mono d.size)
  have a6:=zq k
  clear k
  go_wp2_with fail
  go_ret
  exact ⟨v2,rfl,y,by rw [C.out];exact a6.out.mono d.size⟩
end Go.Proofs.YtlikcjbjibhjgaaGreatDoor
namespace Hb
open Go Go.RowKit
theorem uh {T:List OpR} {s:ByteArray} {c:Int} (h:has T s c=true):1<=(cP T s c).prec/\(cP T s c).prec<=1200:=by
 unfold has at h
 unfold cP
 obtain ⟨p,a⟩:=Option.isSome_iff_exists.1 h
 rw [a]
 unfold dt at a
 split at a
 ·rename_i e
  have d:=eH a
  have b:=oG e p d
  show 1<=p.prec/\p.prec<=1200
  unfold nK at b
  grind
 ·cases a
theorem Only.grown {g:Nat} {a b c:ai} {row:Option Nat} (h:Only g a b) (d:b.grownBy c row) (j:∀k,row=some k->a.heap.size<=k):Only g a c :=
 ⟨d.os.trans h.os,d.tape.trans h.tape,d.output.trans h.output,aI h.size d.size,fun k f i=>(d.block k (aC f h.size) (fun e=>by have:=j k e.symm;omega)).trans (h.block k f i)⟩
theorem Only.put4 {g:Nat} {a b:ai} (h:Only g a b) (x y z u:az):Only g a ((((b.setCell ⟨g,0,none⟩ x).setCell ⟨g,1,none⟩ y).setCell ⟨g,2,none⟩ z).setCell ⟨g,3,none⟩ u) :=
 (((h.trans (Only.set g 0 _ x)).trans (Only.set g 1 _ y)).trans (Only.set g 2 _ z)).trans (Only.set g 3 _ u)
structure RegH (g:Nat) (wR w:ai):Prop where
 on:Only g wR w
 rb:RBx w g
theorem RegH.call {g:Nat} {b w w':ai} (h:RegH g b w) (a:ax w.heap.size w w'):RegH g b w':=⟨h.on.trans (Only.of a),h.rb.call a⟩
theorem RegH.drew {g:Nat} {a w:ai} (h:RegH g a w):RegH g a w.drew:=h.call (aj _ _).drew
theorem RegH.alloc {g:Nat} {a w:ai} (h:RegH g a w) (o:Obj):RegH g a (w.alloc o):=h.call ((aj _ _).alloc (ag _) o)
theorem RegH.grown {g:Nat} {c w w':ai} {row:Option Nat} (h:RegH g c w) (b:w.grownBy w' row) (f:∀k,row=some k->c.heap.size<=k) (i:g<c.heap.size):RegH g c w':=by
 have d:some g≠row:=fun e=>by have:=f g e.symm;omega
 have a:∀k,w'.cell? ⟨g,k,none⟩=w.cell? ⟨g,k,none⟩/\w'.frozen? ⟨g,k,none⟩=w.frozen? ⟨g,k,none⟩:=fun k=>⟨b.cell_far ⟨g,k,none⟩ h.rb.lt d,b.frozen_far ⟨g,k,none⟩ h.rb.lt d⟩
 exact ⟨h.on.grown b f,aC h.rb.lt b.size,h.rb.r0.imp fun _ k=>(a _).1.trans k,h.rb.r1.imp fun _ k=>(a _).1.trans k,h.rb.r2.imp fun _ k=>(a _).1.trans k,h.rb.r3.imp fun _ k=>(a _).1.trans k,fun o=>(a _).2.trans (h.rb.rf o)⟩
theorem RBx.put4 {w:ai} {g:Nat} (h:RBx w g) (x y z u:az):RBx ((((w.setCell ⟨g,0,none⟩ x).setCell ⟨g,1,none⟩ y).setCell ⟨g,2,none⟩ z).setCell ⟨g,3,none⟩ u) g:=by
 obtain ⟨u0,f⟩:=h.r0
 obtain ⟨u1,i⟩:=h.r1
 obtain ⟨u2,j⟩:=h.r2
 obtain ⟨u3,k⟩:=h.r3
 obtain ⟨a,b,c,d,e⟩:=pD w g x y z u f i j k _ rfl
 exact ⟨by rw [eD];exact h.lt,⟨_,a⟩,⟨_,b⟩,⟨_,c⟩,⟨_,d⟩,fun o=>(e _).trans (h.rf o)⟩
theorem RegH.put4 {g:Nat} {a w:ai} (h:RegH g a w) (x y z u:az):RegH g a ((((w.setCell ⟨g,0,none⟩ x).setCell ⟨g,1,none⟩ y).setCell ⟨g,2,none⟩ z).setCell ⟨g,3,none⟩ u):=⟨h.on.put4 x y z u,h.rb.put4 x y z u⟩
def jq (o:WO) (T:List OpR) (t:Tm):Bool:=!o.ig&&(has T t.name 3&&t.args.length==1)
def kG (o:WO) (T:List OpR) (S:Tm->WR) (t:Tm):WR:=if jq o T t=true then (dE o T S (t.arg 0) (cP T t.name 3)++[jB o t.name],cP T t.name 3) else ([],op0)
theorem yU {o:WO} {T:List OpR} {S:Tm->WR} {t:Tm} (h:jq o T t=false):kG o T S t=([],op0):=by unfold kG;rw [h];rfl
theorem xf {o:WO} {T:List OpR} {S:Tm->WR} {t:Tm} (h:jq o T t=true):kG o T S t=(dE o T S (t.arg 0) (cP T t.name 3)++[jB o t.name],cP T t.name 3):=by unfold kG;rw [if_pos h]
end Hb
namespace Go.Proofs.YtlikcjbjibhjgaaGreatDoor
open Go.RowKit Hb
variable {o:WO} {T:List OpR} {TA:Option Addr} {TN TC:Nat} {S:Tm->WR}
theorem DM (t:Tm) (h6:t.name.size<=100) (c9:t.args.length=1->yo o T TA TN TC S (t.arg 0)) (d0:t.args.length=1->(t.arg 0).kind=3->SOK o T TA TN TC S (t.arg 0)) (g3:(S (t.arg 0)).1.length<=80000) (d3:∀op,(dE o T S (t.arg 0) op).length<=80000) (A:Option Addr) (M:Nat) (w:ai) (G:Env T TA TN TC w) (hT:TmsAt w.heap.size w A t.args) :
  aJ ah 154 #[nN o TA TN TC,er t A M] w fun e w'=>∃l n' c',e=aw (ym l n' c' (kG o T S t).2 (jq o T t))/\ax w.heap.size w w'/\OwnS 9 w.heap.size w' (.slice l n' c') (kG o T S t).1:=by
 obtain ⟨i,hi,e4,e5,e6⟩:=info_parts jf
 have HI:=zq hi
 have c5:=zq e4
 have c7:=zq e5
 have c8:=zq e6
 clear hi e4 e5 e6
 obtain ⟨D,r⟩:=lz (t.args.length)
 have HX:=zq (Fr3.start w o TA TN TC t A M D 103 25 173 r.out (.slice none 0 0) (aa ⟨#[]⟩) (ab ae 0) (ab ae 0))
 have a5:=HX.out.f2.bel
 have J:Hid (jq o T t=(!o.ig&&(has T t.name 3&&t.args.length==1))):=zq rfl
 have L:=zq (fun W (h:ax w.heap.size w W)=>lZ TA TN TC T t.name W G.tab.len G.few (G.tab.below h).ops)
 have a9:=zq (fun W (h:ax w.heap.size w W)=>sW o TA TN TC t.name W (by omega) (G.door.below h))
 have a7:=zq (fun (h1:D=1) (op:OpR) (g4:0<=op.prec/\op.prec<=1200) l E W (h:ax w.heap.size w W) (h2:TmsAt w.heap.size w l (t.arg 0).args)=>FJ (t.arg 0) op g4 (c9 (by rw [<-r.out];exact h1)) (d0 (by rw [<-r.out];exact h1)) (by omega) l E W (G.below h) ((h2.keep h).mono h.size))
 have a6:=zq (fun (h:D=1)=>hT.get 0 (by rw [<-r.out,h];decide))
 have a4:=zq (fun (h:D=1)=>Tm.arg_get t 0 (by rw [<-r.out,h];decide))
 have a0:=zq d3
 have b1:=zq (uh (T:=T) (s:=t.name) (c:=3))
 have HY:=zq (xf (o:=o) (T:=T) (S:=S) (t:=t))
 have b0:=zq (yU (o:=o) (T:=T) (S:=S) (t:=t))
 have b8:Hid ((dt T t.name 3).isSome=has T t.name 3):=zq rfl
 have b7:Hid ((dt T t.name 3).getD op0=cP T t.name 3):=zq rfl
 rw [b8.out,b7.out] at L
 clear hT G c9 d0 g3 d3 b8 b7
 unfold er nN ym kZ at *
 rw [<-r.out] at J |-
 have g1:(jq o T t=false/\(o.ig=true\/has T t.name 3=false\/¬D=1))\/(o.ig=false/\has T t.name 3=true/\D=1):=by
  rw [J.out]
  cases o.ig <;> cases has T t.name 3 <;> by_cases h:D=1 <;> simp [h]
 rcases g1 with ⟨b3,g7⟩ | ⟨U,a2,hl⟩
 ·rw [b3,b0.out b3]
  clear J a7 a6 a4 a0 b1 HY b0 a9 b3 HI c5 c7 c8
  generalize has T t.name 3=hs at *
  generalize cP T t.name 3=op at *
  rcases g7 with V | V | V
  all_goals
   have f7:=zq V
   clear V
   go_enter Tryz.func154,Tryz.ntmps154
   go_wp2_with fail
   refine (L.out _ a5).mono ?_;rintro e j ⟨rfl,b2⟩
   have a:=HX.out.call b2
   have n:=a.call ((aj _ _).alloc (ag _) (.cells #[aa op.name,ab ae op.typ,ab ae op.prec] 39))
   have y1:=n.f2.wb.c1
   have y3:=n.f2.tb.c3
   rw [<-r.out] at y3
   obtain ⟨u0,r0⟩:=a.rb.r0
   obtain ⟨u1,r1⟩:=a.rb.r1
   obtain ⟨u2,r2⟩:=a.rb.r2
   obtain ⟨u3,r3⟩:=a.rb.r3
   have f0:=a.rb.rf 0
   have f1:=a.rb.rf 1
   have f2:=a.rb.rf 2
   have f3:=a.rb.rf 3
   have d4:=a.rb.lt
   have d1:=a.f2.bel
   clear a n
   have V:=f7.out
   go_wp2_with fail
   all_goals
    refine ay (v:=aK #[aN #[.slice none 0 0,aa ⟨#[]⟩,ab ae 0,ab ae 0],am false]) (by simp [results,Tryz.results154,go_sem,r0,r1,r2,r3,d4]) rfl ⟨none,0,0,rfl,(dg d1 _ (by omega) _ _ _ _).alloc (by rw [eD];exact d1.size) _,OwnS.nil _ _ _⟩
 ·have b4:jq o T t=true:=by rw [J.out,U,a2,hl];rfl
  rw [b4,HY.out b4]
  subst hl
  obtain ⟨b,d,l,E,rfl,hb,N,O,P,Q,d8⟩:=a6.out rfl
  have h0:0<t.args.length:=by have:=r.out;omega
  have b5:=zq (a4.out rfl)
  have g5:=b1.out a2
  have Z:=zq (a7.out rfl (cP T t.name 3) (by omega) l E)
  rw [b5.out] at Z a0 |-
  rw [a2] at L
  rw [gY,bv] at N O P Q
  have f5:=zq d8
  have b6:=zq (⟨N,O,P,Q⟩:_/\_/\_/\_)
  have e8:=zq U
  clear J a7 a6 a4 b1 HY b0 b4 a2 g5 U d8 N O P Q b5
  generalize cP T t.name 3=op at *
  generalize t.args[0]=x at *
  obtain ⟨B,a8⟩:=lz (dE o T S x op)
  have h5:B.length<=80000:=by rw [a8.out];exact a0.out op
  rw [<-a8.out] at Z |-
  clear a0 a8
  go_enter Tryz.func154,Tryz.ntmps154
  go_wp2_with fail
  refine (L.out _ a5).mono ?_;rintro e j ⟨rfl,b2⟩
  have a:=HX.out.call b2
  have n:=a.call ((aj _ _).alloc (ag _) (.cells #[aa op.name,ab ae op.typ,ab ae op.prec] 39))
  have R:=n.f2.bel
  have H:=BoxG.start j op 39
  have y1:=n.f2.wb.c1
  have y3:=n.f2.tb.c3
  rw [<-r.out] at y3
  have U:=e8.out
  go_upto_region 4 with fail
  generalize j.alloc (.cells #[aa op.name,ab ae op.typ,ab ae op.prec] 39)=f at *
  have d4:=a.rb.lt
  have d5:=n.rb.lt
  have K:Hid (∀X,RegH (w.heap.size+2) f X->X.cell? ⟨w.heap.size,0,none⟩=some (am o.q)/\X.cell? ⟨w.heap.size,1,none⟩=some (am o.ig)/\X.cell? ⟨w.heap.size,2,none⟩=some (am o.nu)/\X.cell? ⟨w.heap.size,3,none⟩=some (.slice TA TN TC)/\X.cell? ⟨w.heap.size+1,2,none⟩=some (aa t.name)/\X.cell? ⟨w.heap.size+1,3,none⟩=some (.slice (some ⟨b,d,none⟩) 1 M)/\X.cell? ⟨b,d,none⟩=some (ab ae x.kind)/\X.cell? ⟨b,d+1,none⟩=some (ab ae x.num)/\X.cell? ⟨b,d+2,none⟩=some (aa x.name)/\X.cell? ⟨b,d+3,none⟩=some (.slice l x.args.length E)/\X.cell? ⟨j.heap.size,0,none⟩=some (aa op.name)/\X.cell? ⟨j.heap.size,1,none⟩=some (ab ae op.typ)/\X.cell? ⟨j.heap.size,2,none⟩=some (ab ae op.prec)/\RegH (w.heap.size+2) f X):=zq (fun X h=>by
   have z:∀g k,g<f.heap.size->g≠w.heap.size+2->X.cell? ⟨g,k,none⟩=f.cell? ⟨g,k,none⟩:=fun g k h1 h2=>h.on.cell (p:=⟨g,k,none⟩) h1 h2
   have C:=n.f2.wb
   have a3:=n.f2.tb
   obtain ⟨N,O,P,Q⟩:=b6.out
   have I:∀k,X.cell? ⟨b,k,none⟩=w.cell? ⟨b,k,none⟩:=fun k=>(z b k (aC hb R.size) (by omega)).trans (R.cell (p:=⟨b,k,none⟩) hb)
   have h3:=a3.c3
   rw [<-r.out] at h3
   exact ⟨(z _ _ C.lt (by omega)).trans C.c0,(z _ _ C.lt (by omega)).trans C.c1,(z _ _ C.lt (by omega)).trans C.c2,(z _ _ C.lt (by omega)).trans C.c3,(z _ _ a3.lt (by omega)).trans a3.c2,(z _ _ a3.lt (by omega)).trans h3,(I _).trans N,(I _).trans O,(I _).trans P,(I _).trans Q,(z _ _ H.lt (by omega)).trans H.c0,(z _ _ H.lt (by omega)).trans H.c1,(z _ _ H.lt (by omega)).trans H.c2,h⟩)
  have F:Hid (∀X,(X.cell? ⟨w.heap.size,0,none⟩=some (am o.q)/\X.cell? ⟨w.heap.size,1,none⟩=some (am o.ig)/\X.cell? ⟨w.heap.size,2,none⟩=some (am o.nu)/\X.cell? ⟨w.heap.size,3,none⟩=some (.slice TA TN TC)/\X.cell? ⟨w.heap.size+1,2,none⟩=some (aa t.name)/\X.cell? ⟨w.heap.size+1,3,none⟩=some (.slice (some ⟨b,d,none⟩) 1 M)/\X.cell? ⟨b,d,none⟩=some (ab ae x.kind)/\X.cell? ⟨b,d+1,none⟩=some (ab ae x.num)/\X.cell? ⟨b,d+2,none⟩=some (aa x.name)/\X.cell? ⟨b,d+3,none⟩=some (.slice l x.args.length E)/\X.cell? ⟨j.heap.size,0,none⟩=some (aa op.name)/\X.cell? ⟨j.heap.size,1,none⟩=some (ab ae op.typ)/\X.cell? ⟨j.heap.size,2,none⟩=some (ab ae op.prec)/\RegH (w.heap.size+2) f X)->RegH (w.heap.size+2) f X):=zq (fun X h=>h.2.2.2.2.2.2.2.2.2.2.2.2.2)
  have f6:Hid (RegH (w.heap.size+2) f f.drew):=zq (RegH.drew ⟨Only.refl _ _,n.rb⟩)
  have a1:∀X,RegH (w.heap.size+2) f X->ax w.heap.size w X:=fun X h=>R.trans (h.on.below (by omega) R.size)
  have e7:=zq a1
  have e9:Hid (∀X,RegH (w.heap.size+2) f X->aJ ah 179 #[aN #[am o.q,am o.ig,am o.nu,.slice TA TN TC],aN #[ab ae x.kind,ab ae x.num,aa x.name,.slice l x.args.length E],aN #[aa op.name,ab ae op.typ,ab ae op.prec]] X fun e w'=>∃v,e=aw v/\ax X.heap.size X w'/\OwnS 9 f.heap.size w' v B) :=
   zq (fun X h=>(Z.out X (a1 X h) f5.out).mono fun _ _ ⟨v,I,hB,hO⟩=>⟨v,I,hB,hO.mono h.on.size⟩)
  have c4:=zq (fun X h=>a9.out X (a1 X h))
  obtain ⟨Y,b9⟩:=lz (jB o t.name)
  rw [<-b9.out] at c4
  clear U y1 y3 a1 Z a9 L HX a5 b6 a
  go_region_held3 (fun w'=>w'.cell? ⟨w.heap.size,0,none⟩=some (am o.q)/\w'.cell? ⟨w.heap.size,1,none⟩=some (am o.ig)/\w'.cell? ⟨w.heap.size,2,none⟩=some (am o.nu)/\w'.cell? ⟨w.heap.size,3,none⟩=some (.slice TA TN TC)/\w'.cell? ⟨w.heap.size+1,2,none⟩=some (aa t.name)/\w'.cell? ⟨w.heap.size+1,3,none⟩=some (.slice (some ⟨b,d,none⟩) 1 M)/\w'.cell? ⟨b,d,none⟩=some (ab ae x.kind)/\w'.cell? ⟨b,d+1,none⟩=some (ab ae x.num)/\w'.cell? ⟨b,d+2,none⟩=some (aa x.name)/\w'.cell? ⟨b,d+3,none⟩=some (.slice l x.args.length E)/\w'.cell? ⟨j.heap.size,0,none⟩=some (aa op.name)/\w'.cell? ⟨j.heap.size,1,none⟩=some (ab ae op.typ)/\w'.cell? ⟨j.heap.size,2,none⟩=some (ab ae op.prec)/\RegH (w.heap.size+2) f w')
   (first
    | with_reducible exact K.out _ f6.out
    | with_reducible exact K.out _ (RegH.call (F.out _ (by with_reducible assumption)) (by with_reducible assumption))
    | with_reducible exact K.out _ y
    | with_reducible exact K.out _ (RegH.alloc (F.out _ (by with_reducible assumption)) _)
    | with_reducible exact K.out _ (RegH.put4 (F.out _ (by with_reducible assumption)) _ _ _ _))
   (first
    | (go_at_call 179;(with_reducible refine (e9.out _ (F.out _ (by with_reducible assumption))).mono ?_);rintro e w4 ⟨v4,rfl,g8,f9⟩)
    | (go_at_call 108;(with_reducible refine (c4.out _ (F.out _ (by with_reducible assumption))).mono ?_);rintro e w5 ⟨rfl,f8⟩;have g0:=f9.below f8)
    | (have d9:=g0.alloc (.cells #[aa Y] 9);have d7:=F.out (w5.alloc (.cells #[aa Y] 9)) (by with_reducible assumption);refine step_append_lies _ (by rfl) _ _ 65 (by rfl) f.heap.size 9 i _ 1 16 bw HI.out c5.out c7.out c8.out (by rfl) (by decide) v4 B.length (B.map aQ) (by rfl) d9 ⟨w5.heap.size,0,none⟩ 1 1 [aa Y] (by rfl) (by rfl) (World.news_of_block (heap_alloc_new w5 _)) (by intro u hu;rw [List.mem_singleton] at hu;subst hu;rfl) (by decide) (by unfold maxLen;omega) (by omega) d7.on.size (w5.heap.size+1) (by simp) ?_;intro g6 c6 w6 d6 d2 g9 h4;have y:RegH (w.heap.size+2) f w6:=d7.grown d2 (fun k hk=>(d9.lt k hk).1) d5;obtain ⟨u0,r0⟩:=y.rb.r0;obtain ⟨u1,r1⟩:=y.rb.r1;obtain ⟨u2,r2⟩:=y.rb.r2;obtain ⟨u3,r3⟩:=y.rb.r3;have f0:=y.rb.rf 0;have f1:=y.rb.rf 1;have f2:=y.rb.rf 2;have f3:=y.rb.rf 3)
    | fail)
  have g2:=dg (e7.out w6 y) (w.heap.size+2) (by omega) (.slice (some ⟨g6,0,none⟩) (B.length+1) c6) (aa op.name) (ab ae op.typ) (ab ae op.prec)
  have f4:Hid (OwnS 9 f.heap.size w6 (.slice (some ⟨g6,0,none⟩) (B.length+1) c6) (B++[Y])):=zq (OwnS.snoc (m:=[Y]) d6)
  clear d6 d2
  go_wp2_with fail
  refine ay (v:=aK #[aN #[.slice (some ⟨g6,0,none⟩) (B.length+1) c6,aa op.name,ab ae op.typ,ab ae op.prec],am true]) (by simp [results,Tryz.results154,go_sem,r0,r1,r2,r3]) rfl ⟨_,_,_,rfl,g2,?_⟩
  rw [<-b9.out]
  exact (f4.out.put4 d5 _ _ _ _).mono R.size
end Go.Proofs.YtlikcjbjibhjgaaGreatDoor
