/- Parts of the proof. -/
import Derived.Test.YtlikcjbjibhjgaaGreatDoorR01
import Derived.Test.YtlikcjbjibhjgaaGreatDoorR10
import Derived.Test.YtlikcjbjibhjgaaGreatDoorR03
import Derived.Carry
import Derived.DeepKeys4
import Derived.Maps.OwnSet
import Derived.RegionTactic
import Derived.OwnWalk
import Derived.Test.YtlikcjbjibhjgaaGreatDoorR02
import Derived.RangeFuncNested
import Derived.RangeFuncBound
import Derived.RangeFuncCalls
import Derived.RangeFuncLeaves
set_option maxHeartbeats 12800000
set_option maxRecDepth 100000
open Array renaming getElem?_eq_some_iff -> aM
open Bool renaming and_eq_true -> aF
open Go renaming Calls -> aJ, TypeId -> bD, Value -> az, World -> ai, bodyPost_ret -> ay, heap_setCell_other -> aS, maxLen -> be
open Go.Ending renaming returned -> aw
open Go.IntKind renaming i64 -> ae
open Go.Proofs.Tryz renaming prog -> ah, underlying2 -> da
open Go.RowKit renaming Below -> ax
open Go.RowKit.Below renaming refl -> aj
open Go.Value renaming agg -> aN, int -> ab, pointer -> au, string -> aa
open Go.World renaming cell?_alloc_new -> aq
open List renaming getElem?_eq_some_iff -> dV, getElem?_set -> fe, getElem_mem -> aR, length -> hJ, length_map -> bm, length_take -> bM, map_cons -> bE, mem_of_getElem? -> fG, pairwise_cons -> ex, take_length -> cL, take_succ_eq_append_getElem -> aO
open Nat renaming le_refl -> ag, le_succ -> cQ, le_trans -> aI, lt_of_lt_of_le -> aC, zero_le -> bp
namespace Go.Proofs.YtlikcjbjibhjgaaGreatDoor
open Go.RowKit Hb
structure CnS (w:ai) (mb m0:Nat) (acc:List Int):Prop where
 map:∃n D,MapIs ah 2 2 w mb acc n D
 cell:w.cell? ⟨m0,0,none⟩=some (.map (some mb))
 lt:m0<w.heap.size
 ltm:mb<w.heap.size
 ne:m0≠mb
theorem CnS.below {w w':ai} {d b:Nat} {c:List Int} (h:CnS w d b c) (a:ax w.heap.size w w'):CnS w' d b c where
 map:=by
  obtain ⟨n,D,f⟩:=h.map
  exact ⟨n,D,f.kept (row:=none) ⟨a.os,a.tape,a.output,a.size,fun k e _=>a.block k e⟩ (by simp)⟩
 cell:=(a.cell (p:=⟨b,0,none⟩) h.lt).trans h.cell
 lt:=aC h.lt a.size
 ltm:=aC h.ltm a.size
 ne:=h.ne
theorem Nf {x:Int} (c:0<=x) (d:x<=1099511627776):(Lit.int .i64 x).wf=true:=by
 have a:IntKind.i64.min=-9223372036854775808:=rfl
 have b:IntKind.i64.max=9223372036854775807:=rfl
 simp only [Lit.wf,a,b,aF,decide_eq_true_iff]
 omega
theorem Cy (w:ai):(zeroValue 2).run ah w=.ok (ab ae 0) w:=by kernel_rfl
structure RX (w0:ai) (mb:Nat) (w:ai):Prop where
 bel:Bx mb w0.heap.size w0 w
 ltm:mb<w0.heap.size
 lt:w0.heap.size+1<w.heap.size
 r0:∃v,w.cell? ⟨w0.heap.size+1,0,none⟩=some v
 r1:∃v,w.cell? ⟨w0.heap.size+1,1,none⟩=some v
 r2:∃v,w.cell? ⟨w0.heap.size+1,2,none⟩=some v
 r3:∃v,w.cell? ⟨w0.heap.size+1,3,none⟩=some v
 fr:∀o,w.frozen? ⟨w0.heap.size+1,o,none⟩=false
theorem RX.step {w0 w w':ai} {mb:Nat} (h:RX w0 mb w) (a:Bx mb w.heap.size w w'):RX w0 mb w':=by
 have d:=h.ltm
 have c:w0.heap.size+1≠mb:=by omega
 have b:=h.lt
 exact ⟨h.bel.trans (a.mono (by omega)),d,aC b a.size,h.r0.imp fun _ k=>(a.cell (p:=⟨_,_,none⟩) b c).trans k,h.r1.imp fun _ k=>(a.cell (p:=⟨_,_,none⟩) b c).trans k,h.r2.imp fun _ k=>(a.cell (p:=⟨_,_,none⟩) b c).trans k,h.r3.imp fun _ k=>(a.cell (p:=⟨_,_,none⟩) b c).trans k,fun o=>(a.frozen (p:=⟨_,o,none⟩) b c).trans (h.fr o)⟩
theorem RX.new {w0 w w':ai} {a:Nat} (h:RX w0 a w) (b:w.grownBy w' (some a)):RX w0 a w' :=
 h.step ((Bx.refl a w.heap.size w).grown b (ag _) (fun k e=>.inr (by injection e with e;exact e.symm)))
theorem RX.start (w:ai) (g:Nat) (h:g<w.heap.size) (a b c d:az) (e:bD):RX w g ((w.alloc (.cells #[a,b,c,d] e)).alloc (.cells #[ab ae 0,ab ae 0,aa ⟨#[]⟩,.slice none 0 0] e)):=by
 have f:=R4.start (w0:=w) (w:=w.alloc (.cells #[a,b,c,d] e)) ((aj _ _).alloc (ag _) _) (ab ae 0) (ab ae 0) (aa ⟨#[]⟩) (.slice none 0 0) e
 have i:(w.alloc (.cells #[a,b,c,d] e)).heap.size=w.heap.size+1:=by simp
 rw [i] at f
 exact ⟨Bx.of f.bel,h,f.lt,f.r0,f.r1,f.r2,f.r3,f.fr⟩
theorem RX.put {w0 w:ai} {a:Nat} (h:RX w0 a w) (x y z u:az):Bx a w0.heap.size w0 ((((w.setCell ⟨w0.heap.size+1,0,none⟩ x).setCell ⟨w0.heap.size+1,1,none⟩ y).setCell ⟨w0.heap.size+1,2,none⟩ z).setCell ⟨w0.heap.size+1,3,none⟩ u) :=
 (((h.bel.setCell (p:=⟨_,_,none⟩) (cQ _) _).setCell (p:=⟨_,_,none⟩) (cQ _) _).setCell (p:=⟨_,_,none⟩) (cQ _) _).setCell (p:=⟨_,_,none⟩) (cQ _) _
theorem CnS.blocks {w w':ai} {f e:Nat} {g:List Int} (h:CnS w f e g) (i:w.heap.size<=w'.heap.size) (m:w'.heap[f]? = w.heap[f]?) (l:w'.heap[e]? = w.heap[e]?):CnS w' f e g where
 map:=by
  obtain ⟨n,D,⟨k,j,o,rest⟩,a,b,c,d⟩:=h.map
  exact ⟨n,D,⟨k,j,m.trans o,rest⟩,a,b,c,d⟩
 cell:=(World.cell?_of_block (a:=⟨e,0,none⟩) l).trans h.cell
 lt:=aC h.lt i
 ltm:=aC h.ltm i
 ne:=h.ne
theorem KY (t:Tm) (A:Option Addr) (l:Nat) (w:ai) (b p:Nat) (acc:List Int) (m:t.kind=0) (C:dH t=true) (f:CnS w b p acc) (a1:acc.length<=100000) :
  aJ ah 66 #[er t A l,au (some ⟨p,0,none⟩)] w fun e w'=>e=aw (aN #[ab ae 0,ab ae (ed (jK t acc) t.num),aa ⟨#[]⟩,.slice none 0 0])/\Bx b w.heap.size w w'/\CnS w' b p (jK t acc):=by
 have J:0<=t.num/\t.num<=1099511627776:=by unfold dH at C;rw [if_pos m] at C;simp at C;omega
 have B:=Maps.keyOf_int_mk (P:=ah) da (Nf J.1 J.2)
 have F:Hid (jK t acc=if t.num ∉ acc then acc++[t.num] else acc):=zq (by unfold jK;simp [m])
 obtain ⟨n,D,j⟩:=f.map
 unfold er
 rw [m]
 generalize t.num=x at *
 generalize t.name=u at *
 generalize t.args.length=q at *
 generalize jK t acc=G at *
 have g:ax w.heap.size w ((w.alloc (.cells #[ab ae 0,ab ae x,aa u,.slice A q l] 25)).alloc (.cells #[ab ae 0,ab ae 0,aa ⟨#[]⟩,.slice none 0 0] 25)):=((aj _ _).alloc (ag _) _).alloc (by simp) _
 have y:=f.below g
 have o:=j.kept (row:=none) (w':=(w.alloc (.cells #[ab ae 0,ab ae x,aa u,.slice A q l] 25)).alloc (.cells #[ab ae 0,ab ae 0,aa ⟨#[]⟩,.slice none 0 0] 25)) ⟨g.os,g.tape,g.output,g.size,fun k m _=>g.block k m⟩ (by simp)
 have c0:=f.cell
 have a0:=f.lt
 go_enter Tryz.func66,Tryz.ntmps66
 by_cases i:x∈acc
 ·have S:=j.at_ x (.lit (.int .i64 0)) i
  have z:Maps.has D (.int .i64 x)=true:=by have:=j.has x;rw [decide_eq_true i] at this;exact this
  have E:Hid (∀c,ax w.heap.size w ((w.alloc (.cells #[ab ae 0,ab ae x,aa u,.slice A q l] 25)).alloc (.cells #[ab ae 0,ab ae c,aa ⟨#[]⟩,.slice none 0 0] 25))):=zq fun c=>((aj _ _).alloc (ag _) _).alloc (by simp) _
  have d:=zq f
  clear y g f
  go_wp2_with (at_lookup;go_must (refine wpList_lookup_own_ok_int _ rfl _ _ 128 rfl 2 2 .i64 (Maps.int_keyed da) Tryz.underlying128 da (Cy _) b n D rfl o.own _ _ rfl B ?_;intro c I X;rw [z]))
  have T:c=ed acc x:=by
   have h:=I.symm.trans S
   injection h with h;injection h
  have r:G=acc:=by rw [F.out,if_neg (fun h=>h i)]
  subst r
  exact ay (v:=aN #[ab ae 0,ab ae c,aa ⟨#[]⟩,.slice none 0 0]) (by simp [results,Tryz.results66,go_sem]) rfl ⟨by rw [T],Bx.of (E.out c),d.out.below (E.out c)⟩
 ·have z:Maps.has D (.int .i64 x)=false:=by have:=j.has x;rw [decide_eq_false i] at this;exact this
  have W:plainElem (H:=Unit) ah 2 (.int .i64 (acc.length:Nat))=some (.lit (.int .i64 (acc.length:Nat)),[]):=plainElem_int da (Nf (by omega) (by omega))
  have U:n<be:=by have:=j.few;unfold be;omega
  have R:RX w b ((w.alloc (.cells #[ab ae 0,ab ae x,aa u,.slice A q l] 25)).alloc (.cells #[ab ae 0,ab ae 0,aa ⟨#[]⟩,.slice none 0 0] 25)):=RX.start w b f.ltm _ _ _ _ _
  have d:=zq y
  have r:G=acc++[x]:=by rw [F.out,if_pos i]
  have L:=zq (zm i)
  clear y g f
  go_wp2_with (first | (at_lookup;go_must (refine wpList_lookup_own_ok_int _ rfl _ _ 128 rfl 2 2 .i64 (Maps.int_keyed da) Tryz.underlying128 da (Cy _) b n D rfl o.own _ _ rfl B ?_;intro c I X;rw [z])) | (at_len;go_must (refine wpList_len_own _ rfl _ 128 rfl 2 2 Tryz.underlying128 _ b n D rfl o.own ?_;rw [j.size])) | (at_mapUpdate;go_must (refine wpList_mapUpdate_own _ rfl _ _ _ 128 rfl 2 2 (Maps.int_keyed da) Tryz.underlying128 _ b n D rfl o.own U _ _ _ rfl rfl B (.lit (.int .i64 acc.length)) [] W ?_;intro K V s;have a:=R.new s;obtain ⟨u0,Y⟩:=a.r0;obtain ⟨u1,Z⟩:=a.r1;obtain ⟨u2,r2⟩:=a.r2;obtain ⟨u3,r3⟩:=a.r3;have f0:=a.fr 0;have f1:=a.fr 1;have f2:=a.fr 2;have f3:=a.fr 3)))
  have N:=a.put (ab ae 0) (ab ae acc.length) (aa ⟨#[]⟩) (.slice none 0 0)
  have M:=MapIs.put (Maps.int_keyed da) o i V trivial
  have O:CnS K b p (acc++[x]):=⟨⟨_,_,M⟩,(s.cell_far ⟨p,0,none⟩ d.out.lt (fun e=>d.out.ne (by injection e))).trans d.out.cell,aC d.out.lt s.size,aC d.out.ltm s.size,d.out.ne⟩
  have a2:=a.ltm
  have Q:=O.blocks (w':=(((K.setCell ⟨w.heap.size+1,0,none⟩ (ab ae 0)).setCell ⟨w.heap.size+1,1,none⟩ (ab ae acc.length)).setCell ⟨w.heap.size+1,2,none⟩ (aa ⟨#[]⟩)).setCell ⟨w.heap.size+1,3,none⟩ (.slice none 0 0)) (by simp) (bR _ _ _ _ _ _ _ (by omega)) (bR _ _ _ _ _ _ _ (by omega))
  exact ay (v:=aN #[ab ae 0,ab ae acc.length,aa ⟨#[]⟩,.slice none 0 0]) (by simp [results,Tryz.results66,go_sem,Y,Z,r2,r3]) rfl ⟨by rw [r,L.out],N,by rw [r];exact Q⟩
end Go.Proofs.YtlikcjbjibhjgaaGreatDoor
namespace Hb
open Go Go.RowKit
noncomputable def nG (t u:Tm):Bool:=@decide (t=u) (Classical.propDecidable _)
theorem Dv {t u:Tm} (h:t=u):nG t u=true:=by unfold nG;simp [h]
theorem mn {t u:Tm} (h:¬t=u):nG t u=false:=by unfold nG;simp [h]
theorem oX {t u:Tm}:nG t u=true↔t=u:=by unfold nG;simp
theorem Gf {t u:Tm} (a:t.kind=u.kind) (b:t.num=u.num) (c:t.name=u.name) (d:t.args=u.args):t=u:=by
 cases t;cases u
 simp only [Tm.kind,Tm.num,Tm.name,Tm.args] at a b c d
 subst a b c d
 rfl
theorem Cu {a b:ByteArray} (h:a.toList=b.toList):a=b:=by
 rw [jb,jb] at h
 exact ByteArray.ext (Array.ext' h)
theorem AC {l m:List Tm} (h:l.length=m.length) (a:∀j (b:j<l.length) (c:j<m.length),l[j]=m[j]):l=m:=List.ext_getElem h a
structure TT (w0 w:ai) (t u:Tm) (A B:Option Addr) (c d:Nat):Prop where
 bel:ax w0.heap.size w0 w
 lt:w0.heap.size+1<w.heap.size
 a0:w.cell? ⟨w0.heap.size,0,none⟩=some (ab ae t.kind)
 a1:w.cell? ⟨w0.heap.size,1,none⟩=some (ab ae t.num)
 a2:w.cell? ⟨w0.heap.size,2,none⟩=some (aa t.name)
 a3:w.cell? ⟨w0.heap.size,3,none⟩=some (.slice A t.args.length c)
 b0:w.cell? ⟨w0.heap.size+1,0,none⟩=some (ab ae u.kind)
 b1:w.cell? ⟨w0.heap.size+1,1,none⟩=some (ab ae u.num)
 b2:w.cell? ⟨w0.heap.size+1,2,none⟩=some (aa u.name)
 b3:w.cell? ⟨w0.heap.size+1,3,none⟩=some (.slice B u.args.length d)
theorem TT.call {w0 w w':ai} {t u:Tm} {A B:Option Addr} {c d:Nat} (h:TT w0 w t u A B c d) (a:ax w.heap.size w w'):TT w0 w' t u A B c d:=by
 have e:=h.lt
 have b:∀j,w'.cell? ⟨w0.heap.size,j,none⟩=w.cell? ⟨w0.heap.size,j,none⟩:=fun j=>a.cell (p:=⟨w0.heap.size,j,none⟩) (by show w0.heap.size<_;omega)
 have hd:∀j,w'.cell? ⟨w0.heap.size+1,j,none⟩=w.cell? ⟨w0.heap.size+1,j,none⟩:=fun j=>a.cell (p:=⟨w0.heap.size+1,j,none⟩) e
 exact ⟨h.bel.trans (a.mono h.bel.size),aC e a.size,(b 0).trans h.a0,(b 1).trans h.a1,(b 2).trans h.a2,(b 3).trans h.a3,(hd 0).trans h.b0,(hd 1).trans h.b1,(hd 2).trans h.b2,(hd 3).trans h.b3⟩
theorem TT.start (w:ai) (t u:Tm) (A B:Option Addr) (c d:Nat) (e:bD) :
  TT w ((w.alloc (.cells #[ab ae t.kind,ab ae t.num,aa t.name,.slice A t.args.length c] e)).alloc (.cells #[ab ae u.kind,ab ae u.num,aa u.name,.slice B u.args.length d] e)) t u A B c d:=by
 obtain ⟨W1,f⟩:∃W1,W1=w.alloc (.cells #[ab ae t.kind,ab ae t.num,aa t.name,.slice A t.args.length c] e):=⟨_,rfl⟩
 rw [<-f]
 have s1:W1.heap.size=w.heap.size+1:=by rw [f];simp
 have h:ax w.heap.size w W1:=by rw [f];exact (aj _ _).alloc (ag _) _
 have g:ax W1.heap.size W1 (W1.alloc (.cells #[ab ae u.kind,ab ae u.num,aa u.name,.slice B u.args.length d] e)):=(aj _ _).alloc (ag _) _
 have a:∀j,(W1.alloc (.cells #[ab ae u.kind,ab ae u.num,aa u.name,.slice B u.args.length d] e)).cell? ⟨w.heap.size,j,none⟩=(#[ab ae t.kind,ab ae t.num,aa t.name,.slice A t.args.length c]:Array az)[j]?:=fun j=>by
  rw [g.cell (p:=⟨w.heap.size,j,none⟩) (by show w.heap.size<_;omega),f];exact aq _ _ _ j
 have b:∀j,(W1.alloc (.cells #[ab ae u.kind,ab ae u.num,aa u.name,.slice B u.args.length d] e)).cell? ⟨w.heap.size+1,j,none⟩=(#[ab ae u.kind,ab ae u.num,aa u.name,.slice B u.args.length d]:Array az)[j]?:=fun j=>by
  have:=aq W1 #[ab ae u.kind,ab ae u.num,aa u.name,.slice B u.args.length d] e j
  rw [s1] at this;exact this
 exact ⟨h.trans (g.mono (by omega)),by simp;omega,a 0,a 1,a 2,a 3,b 0,b 1,b 2,b 3⟩
end Hb
namespace Go.Proofs.YtlikcjbjibhjgaaGreatDoor
open Go.RowKit Hb
theorem xz:∀(t u:Tm) (A B:Option Addr) (c d:Nat) (w:ai),TmsAt w.heap.size w A t.args->TmsAt w.heap.size w B u.args ->
  aJ ah 39 #[er t A c,er u B d] w fun e w'=>e=aw (.bool (nG t u))/\ax w.heap.size w w':=by
 refine Tm.ind fun t ih=>?_
 intro u A B c d w o D
 have z:=zq (TT.start w t u A B c d 25)
 have HT:=zq o
 have HU:=zq D
 have b6:=zq ih
 have U:=zq (Gf (t:=t) (u:=u))
 have hm:=o.len
 unfold be at hm
 have V:=zq (fun (h:¬t.kind=u.kind)=>mn (t:=t) (u:=u) fun e=>h (by rw [e]))
 have X:=zq (fun (h:¬t.num=u.num)=>mn (t:=t) (u:=u) fun e=>h (by rw [e]))
 have Y:=zq (fun (h:¬t.name=u.name)=>mn (t:=t) (u:=u) fun e=>h (by rw [e]))
 have v:=zq (fun (h:¬t.args.length=u.args.length)=>mn (t:=t) (u:=u) fun e=>h (by rw [e]))
 have b7:=zq (fun (j:Nat) (f:j<t.args.length) (g:j<u.args.length) (h:¬t.args[j]=u.args[j])=>mn (t:=t) (u:=u) fun e=>h (by simp only [e]))
 have HY:=zq (Dv (t:=t) (u:=u))
 have l:=z.out.bel
 clear o D ih
 unfold er at *
 generalize hq:nG t u=q at *
 clear hq
 obtain ⟨L,n⟩:∃L,Hid (t.args.length=L):=⟨_,zq rfl⟩
 obtain ⟨M,s⟩:∃M,Hid (u.args.length=M):=⟨_,zq rfl⟩
 rw [n.out] at z hm l v |-
 rw [s.out] at z l v |-
 generalize t.kind=a0 at *
 generalize t.num=Z at *
 generalize t.name=H at *
 generalize u.kind=b0 at *
 generalize u.num=b1 at *
 generalize u.name=I at *
 by_cases J:a0=b0
 ·subst J
  by_cases K:Z=b1
  ·subst K
   by_cases N:H=I
   ·subst N
    by_cases e3:L=M
    ·subst e3
     have b5:=zq (U.out rfl rfl rfl)
     clear U V X Y v
     go_enter Tryz.func39,Tryz.ntmps39
     go_wp2_with fail
     go_loopw [5] (fun i wr=>∃k:Nat,k<=L/\i=ab ae k/\Hid (TT w wr t u A B c d)/\Hid (∀j (f:j<t.args.length) (g:j<u.args.length),j<k->t.args[j]=u.args[j])) (fun i _=>L-(intOf i).toNat)
     case atStart=>exact ⟨0,bp _,rfl,z,zq fun j _ _ h=>absurd h (by omega)⟩
     case round=>
      obtain ⟨k,hk,rfl,m,T⟩:=hrel
      have b3:=m.out.a3
      have b4:=m.out.b3
      rw [n.out] at b3
      rw [s.out] at b4
      have E:=m.out.bel
      by_cases d5:k<L
      ·have P:k<t.args.length:=by have:=n.out;omega
       have a8:k<u.args.length:=by have:=s.out;omega
       obtain ⟨b,c6,Q,ca,rfl,hb,c0,c1,c2,c3,hs⟩:=(HT.out.keep E).get k P
       obtain ⟨b',c7,R,cb,rfl,c8,d0,d1,d2,d3,a9⟩:=(HU.out.keep E).get k a8
       have a5:=E.size
       have G:=zq (b7.out k P a8)
       have F:Hid (t.args[k]=u.args[k]->∀j (f:j<t.args.length) (g:j<u.args.length),j<k+1->t.args[j]=u.args[j]):=zq (fun O j f g hj=>by
        by_cases c4:j=k
        ·subst c4;exact O
        ·exact T.out j f g (by omega))
       have S:=zq (fun W (h:TT w W t u (some ⟨b,c6,none⟩) (some ⟨b',c7,none⟩) c d) (o:TmsAt W.heap.size W Q t.args[k].args) (D:TmsAt W.heap.size W R u.args[k].args)=>b6.out t.args[k] (aR P) u.args[k] Q R ca cb W o D)
       have a6:=(hs.keep (aj _ wr).drew).mono a5
       have a7:=(a9.keep (aj _ wr).drew).mono a5
       have p:=zq (S.out wr.drew (m.out.call (aj _ _).drew) a6 a7)
       have r:=zq (oX (t:=t.args[k]) (u:=u.args[k]))
       have c9:(0:Int)<=(k:Int):=by omega
       have d4:(k:Int)<(L:Int):=by omega
       have HD:=zq (m.out.call (aj _ wr).drew)
       clear hs a9 a6 a7 S
       unfold er at p
       obtain ⟨x,hx⟩:∃x,x=t.args[k]:=⟨_,rfl⟩
       obtain ⟨y,hy⟩:∃y,y=u.args[k]:=⟨_,rfl⟩
       rw [<-hx] at p G F r c0 c1 c2 c3
       rw [<-hy] at p G F r d0 d1 d2 d3
       clear hx hy
       go_wp2_with fail
       go_region_law (first
        | (go_simp;go_at_call 39;(with_reducible refine p.out.mono ?_);rintro e w2 ⟨rfl,b8⟩)
        | fail)
       all_goals
        have a4:=HD.out.call b8
        have b9:=a4.bel
        cases hq2:nG x y
        ·have c5:¬x=y:=fun e=>by rw [r.out.2 e] at hq2;cases hq2
         have a:=G.out c5
         subst a
         go_wp2_with fail
         go_ret
         exact ⟨rfl,b9⟩
        ·have O:=r.out.1 hq2
         go_wp2_with fail
         go_roundw
         case rel=>exact ⟨k+1,by omega,by go_num,zq a4,zq (F.out O)⟩
         case measure=>simp [intOf] <;> omega
      ·have a:=HY.out (b5.out (AC (by rw [n.out,s.out]) fun j f g=>T.out j f g (by have:=n.out;omega)))
       subst a
       go_wp2_with fail
       go_ret
       exact ⟨rfl,E⟩
    ·have a:=v.out e3
     subst a
     have C:((L:Int)==(M:Int))=false:=by simp;omega
     have f2:¬(L:Int)=(M:Int):=by omega
     go_enter Tryz.func39,Tryz.ntmps39
     go_wp2_with fail
     go_ret
     exact ⟨rfl,l⟩
   ·have a:=Y.out N
    subst a
    have C:¬H.toList=I.toList:=fun h=>N (Cu h)
    have f2:(H.toList==I.toList)=false:=by simpa using C
    go_enter Tryz.func39,Tryz.ntmps39
    go_wp2_with fail
    go_ret
    exact ⟨rfl,l⟩
  ·have a:=X.out K
   subst a
   have C:(Z==b1)=false:=by simpa using K
   go_enter Tryz.func39,Tryz.ntmps39
   go_wp2_with fail
   go_ret
   exact ⟨rfl,l⟩
 ·have a:=V.out J
  subst a
  have C:(a0==b0)=false:=by simpa using J
  go_enter Tryz.func39,Tryz.ntmps39
  go_wp2_with fail
  go_ret
  exact ⟨rfl,l⟩
end Go.Proofs.YtlikcjbjibhjgaaGreatDoor
namespace Hb
open Go Go.RowKit
theorem CpX.start0 (w:ai) (t:Tm) (A:Option Addr) (b a:Nat) (e:bD):ax w.heap.size w ((((w.alloc (.cells #[ab ae t.kind,ab ae t.num,aa t.name,.slice A a b] e)).alloc (.cells #[ab ae 0,ab ae 0,aa ⟨#[]⟩,.slice none 0 0] e)).alloc (.cells #[ab ae t.kind,ab ae t.num,aa t.name,.slice none 0 0] e))) :=
 (((aj _ _).alloc (ag _) _).alloc (by simp) _).alloc (by simp;omega) _
end Hb
namespace Go.Proofs.YtlikcjbjibhjgaaGreatDoor
open Go.RowKit Hb
theorem _root_.Hb.ba_nil {s:ByteArray} (h:(s.toList==[])=true):s=⟨#[]⟩:=Cu (by rw [eq_of_beq h,jb])
theorem Gr (m p lo:Nat) (g3:lo<=m):∀(t:Tm) (A:Option Addr) (F:Nat) (w:ai) (d:List Int),TmsAt lo w A t.args->t.allOk=true->CnS w m p d->d.length+t.nodes<=100000 ->
    aJ ah 65 #[er t A F,.func (.func 66) #[] #[au (some ⟨p,0,none⟩)]] w fun e w'=>∃D H,e=aw (er (fX (ed (dJ t d)) t) D H)/\Bx m w.heap.size w w'/\kk w w' D (fX (ed (dJ t d)) t).args/\CnS w' m p (dJ t d):=by
  refine Tm.ind fun t ih=>?_
  intro A F w d hT N J e9
  obtain ⟨i,hi,c8,c9,d0⟩:=info_parts yb
  have HI:=zq hi
  have e1:=zq c8
  have e2:=zq c9
  have e3:=zq d0
  clear hi c8 c9 d0
  have HT:=zq hT
  have a6:=J.ltm
  have f4:=J.lt
  have M:dH t=true:=by rw [Tm.allOk_eq,aF] at N;exact N.1
  have hm:t.args.length<=8:=by
    have:=M
    unfold dH at this
    grind
  have a8:Hid (∀a∈t.args,a.allOk=true):=zq (by
    rw [Tm.allOk_eq,aF,List.all_eq_true] at N
    exact N.2)
  have a7:=zq ih
  obtain ⟨L,E⟩:=lz (t.args.length)
  have b2:=zq (CpX.start w a6 t A F L 25 E.out)
  have d6:=zq J
  by_cases C:t.kind=0
  · have Y:t.args.length=0:=by
      have y:=M
      unfold dH at y
      rw [if_pos C] at y
      simp at y
      exact List.length_eq_zero_iff.2 y.2
    have c5:t.name=⟨#[]⟩:=by
      have y:=M
      unfold dH at y
      rw [if_pos C] at y
      simp only [aF] at y
      exact ba_nil y.1.2
    have c4:t.args=[]:=List.eq_nil_of_length_eq_zero Y
    have a9:Hid (fX (ed (dJ t d)) t=.mk 0 (ed (jK t d) t.num) ⟨#[]⟩ []):=zq (by rw [jy,if_pos C,C,c4,c5,py Y];rfl)
    have e0:=zq (py Y d)
    have T:=zq (fun W (h:CnS W m p d)=>KY t A F W m p d C M h (by have:=t.nodes_pos;omega))
    have b4:=zq (RX.start w m a6 (ab ae t.kind) (ab ae t.num) (aa t.name) (.slice A L F) 25)
    have hW:ax w.heap.size w ((w.alloc (.cells #[ab ae t.kind,ab ae t.num,aa t.name,.slice A L F] 25)).alloc (.cells #[ab ae 0,ab ae 0,aa ⟨#[]⟩,.slice none 0 0] 25)):=((aj _ _).alloc (ag _) _).alloc (by simp) _
    have b1:=zq (J.below hW)
    have e7:(t.kind==0)=true:=by simp [C]
    unfold er at T |-
    rw [<-E.out] at T |-
    clear N ih hT b2 hW J M a7 a8 c5 Y c4
    rw [C] at T b4 b1 e7 |-
    generalize t.num=a1 at *
    generalize t.name=c at *
    go_enter Tryz.func65,Tryz.ntmps65
    go_wp2_with fail
    refine (T.out _ b1.out).mono ?_;rintro e w1 ⟨rfl,b5,Q⟩
    have z:=b4.out.step b5
    have a3:=zq Q
    clear b5 Q
    obtain ⟨v0,r0⟩:=z.r0
    obtain ⟨v1,r1⟩:=z.r1
    obtain ⟨v2,r2⟩:=z.r2
    obtain ⟨v3,r3⟩:=z.r3
    have f0:=z.fr 0
    have f1:=z.fr 1
    have f2:=z.fr 2
    have f3:=z.fr 3
    have U:=zq (z.put (ab ae 0) (ab ae (ed (jK t d) a1)) (aa ⟨#[]⟩) (.slice none 0 0))
    have d7:=zq (a3.out.blocks (w':=(((w1.setCell ⟨w.heap.size+1,0,none⟩ (ab ae 0)).setCell ⟨w.heap.size+1,1,none⟩ (ab ae (ed (jK t d) a1))).setCell ⟨w.heap.size+1,2,none⟩ (aa ⟨#[]⟩)).setCell ⟨w.heap.size+1,3,none⟩ (.slice none 0 0)) (by simp) (bR _ _ _ _ _ _ _ (by omega)) (bR _ _ _ _ _ _ _ (by omega)))
    clear z
    go_wp2_with fail
    exact ay (v:=aN #[ab ae 0,ab ae (ed (jK t d) a1),aa ⟨#[]⟩,.slice none 0 0]) (by simp [results,Tryz.results65,go_sem,r0,r1,r2,r3]) rfl ⟨none,0,by rw [a9.out];rfl,U.out,by rw [a9.out];exact TmsK.nil,by rw [e0.out];exact d7.out⟩
  have g0:(t.kind==0)=false:=by simp [C]
  have a4:Hid (dJ t d=lj t.args d):=zq (sY C d)
  have b0:Hid (∀f,fX f t=.mk t.kind t.num t.name (t.args.map (fX f))):=zq fun f=>by rw [jy,if_neg C]
  have d2:Hid (∀k (hk:k<t.args.length),(lj (t.args.take k) d).length+t.args[k].nodes<=100000):=zq fun k hk=>by
    have h1:(lj (t.args.take k) d).length<=d.length+pa (t.args.take k):=vT _ d
    have y:=vw t.args k hk
    have h3:=CH t.args (k+1)
    have h4:=Tm.nodes_eq t
    have h5:pa t.args=(t.args.map Tm.nodes).sum:=rfl
    omega
  clear ih hT N J M e9
  unfold er at *
  rw [<-E.out] at hm |-
  have d9:=zq (d6.out.below (CpX.start0 w t A F L 25))
  go_enter Tryz.func65,Tryz.ntmps65
  go_wp2_with fail
  go_loopw [24] (fun i wr=>∃k:Nat,∃v:az,∃o:List TR,k<=L/\i=ab ae k/\Hid (CpX m w wr 25 t A F v o)/\Hid (o.map (·.1)=(t.args.take k).map (fX (ed (lj (t.args.take k) d))))/\Hid (CnS wr m p (lj (t.args.take k) d))) (fun i _=>L-(intOf i).toNat)
  case atStart=>exact ⟨0,_,[],bp _,rfl,b2,zq (by simp),d9⟩
  case round=>
    obtain ⟨k,v,o,hk,rfl,l,V,O⟩:=hrel
    have b3:=l.out.b3
    rw [<-E.out] at b3
    by_cases g4:k<L
    · have K:k<t.args.length:=by have:=E.out;omega
      obtain ⟨b,f8,D,H,rfl,n,c0,c1,q,c3,hs⟩:=(TmsAt.get (B:=lo) (TmsK.keep HT.out (fun b n=>l.out.bel.block b (by omega) (by omega)) (fun _ h=>h))) k K
      have R:=l.out.call (Bx.of ((aj _ _).alloc (ag _) (.cells #[ab ae t.args[k].kind,ab ae t.args[k].num,aa t.args[k].name,.slice D t.args[k].args.length H] 25)))
      have P:=R.drew
      have a5:ax wr.heap.size wr (wr.alloc (.cells #[ab ae t.args[k].kind,ab ae t.args[k].num,aa t.args[k].name,.slice D t.args[k].args.length H] 25)).drew:=((aj _ wr).alloc (ag _) _).drew
      have HA:=zq (a7.out t.args[k] (aR K) D H (wr.alloc (.cells #[ab ae t.args[k].kind,ab ae t.args[k].num,aa t.args[k].name,.slice D t.args[k].args.length H] 25)).drew (lj (t.args.take k) d) (TmsAt.keep hs (a5.mono (by have:=l.out.bel.size;omega))) (a8.out _ (aR K)) (O.out.below a5) (d2.out k K))
      obtain ⟨c,a0⟩:=lz (fX (ed (dJ t.args[k] (lj (t.args.take k) d))) t.args[k])
      rw [<-a0.out] at HA
      have HC:Hid (aJ ah 65 #[aN #[ab ae t.args[k].kind,ab ae t.args[k].num,aa t.args[k].name,.slice D t.args[k].args.length H],.func (.func 66) #[] #[au (some ⟨p,0,none⟩)]] (wr.alloc (.cells #[ab ae t.args[k].kind,ab ae t.args[k].num,aa t.args[k].name,.slice D t.args[k].args.length H] 25)).drew fun e w'=>∃g q,e=aw (aN #[ab ae c.kind,ab ae c.num,aa c.name,.slice g c.args.length q])/\CpX m w w' 25 t (some ⟨b,f8,none⟩) F v o/\TmsK (fun b=>w.heap.size+3<=b/\b<w'.heap.size/\v.ownBlock≠some b) w' g c.args/\CnS w' m p (lj (t.args.take (k+1)) d)) :=
        zq (HA.out.mono fun e w' hh=>by
          obtain ⟨g,q,S,hB,hN,e5⟩:=hh
          refine ⟨g,q,S,P.call hB,hN.keep (fun _ _=>rfl) fun b n=>⟨aI P.lt n.1,n.2,fun ee=>?_⟩,?_⟩
          · have:=(P.own.own.lt b ee).2
            have h1:=n.1
            omega
          · rw [aO K,wH];exact e5)
      have Z:o.length=k:=by
        have:=congrArg hJ V.out
        rw [bm,bm,bM] at this;omega
      have d4:Hid ((o++[((c,none,0):TR)]).map (fun x:TR=>x.1)=(t.args.take (k+1)).map (fX (ed (lj (t.args.take (k+1)) d)))):=zq (by
        rw [List.map_append,V.out,aO K,GL,a0.out];rfl)
      have b7:=R.c3
      have b8:=R.cf 3
      have g1:(0:Int)<=(k:Int):=by omega
      have f9:(k:Int)<(L:Int):=by omega
      clear hs HA a0 a5 O
      obtain ⟨a,d1⟩:=lz (t.args[k])
      rw [<-d1.out] at HC c0 c1 q c3 R P b7 b8
      go_wp2_with fail
      go_region_law (first
        | (go_simp;go_at_call 65;(with_reducible refine HC.out.mono ?_);rintro e G ⟨g,s,rfl,X,Q,b6⟩;have k3:=X.c3;have kf:=X.cf 3;have r:=X.call (Bx.of ((aj _ _).alloc (ag _) (.cells #[ab ae c.kind,ab ae c.num,aa c.name,.slice g c.args.length s] 25)));have k5:=r.c3;have f7:=r.cf 3)
        | go_must (have q1:o.length+1<=be:=by unfold be;omega
                   have q2:(o.length+1) * 56<=140737488355328:=by omega
                   have q3:w.heap.size+3<=(G.alloc (.cells #[ab ae c.kind,ab ae c.num,aa c.name,.slice g c.args.length s] 25)).heap.size:=r.lt
                   have q4:∀j u,(iW (c,g,s))[j]? = some u->(G.alloc (.cells #[ab ae c.kind,ab ae c.num,aa c.name,.slice g c.args.length s] 25)).cell? ((⟨G.heap.size,0,none⟩:Addr).add j)=some u:=World.news_of_block (heap_alloc_new G _)
                   have q5:(G.alloc (.cells #[ab ae c.kind,ab ae c.num,aa c.name,.slice g c.args.length s] 25)).heap.size=G.heap.size+1:=by simp
                   refine step_append_lies _ (by rfl) _ _ 23 (by rfl) (w.heap.size+3) 25 i _ 4 56 Tryz.underlying23 HI.out e1.out e2.out e3.out (by rfl) (by decide) v o.length (eB o) (by rfl) r.own.own ⟨G.heap.size,0,none⟩ 1 1 (iW (c,g,s)) (by rfl) (by rfl) q4 (ql _) (by decide) q1 q2 q3 (G.heap.size+1) q5 ?_;intro g2 e4 w3 c6 I e6 g5;clear q1 q2 q3 q4 q5;have k4:=(r.far I (w.heap.size+2) 3 (by omega)).1.trans r.c3;have f6:=(r.far I (w.heap.size+2) 3 (by omega)).2.trans (r.cf 3))
        | fail)
      all_goals
        have HN:=zq (r.app (c,g,s) (Q.keep (fun b n=>heap_alloc_old G _ n.2.1) fun b n=>⟨n.1,by simp;omega,n.2.2⟩) c6 I (by
          rcases e6 with h' | h'
          · exact .inl h'.symm
          · exact .inr (by rw [h'];simp [Value.ownBlock])))
        rw [Z] at HN
        have d5:Hid ((o++[((c,g,s):TR)]).map (fun x:TR=>x.1)=(t.args.take (k+1)).map (fX (ed (lj (t.args.take (k+1)) d)))):=zq (by rw [<-d4.out];simp)
        have d8:Hid (CnS (w3.setCell ⟨w.heap.size+2,3,none⟩ (.slice (some ⟨g2,0,none⟩) (k+1) e4)) m p (lj (t.args.take (k+1)) d)):=zq (by
          have hq:=b6.below ((aj _ _).alloc (ag _) (.cells #[ab ae c.kind,ab ae c.num,aa c.name,.slice g c.args.length s] 25))
          have b9:∀b,b<w.heap.size->some b≠v.ownBlock:=fun b n e=>by have:=(r.own.own.lt b e.symm).1;omega
          have f5:=hq.blocks I.size (I.block m hq.ltm (b9 m a6)) (I.block p hq.lt (b9 p f4))
          exact f5.blocks (by simp) (aS _ _ _ _ (by show m≠w.heap.size+2;omega)) (aS _ _ _ _ (by show p≠w.heap.size+2;omega)))
        clear b6 k3 kf k4 f6 k5 f7 X Q r c6 I P R b7 b8
        go_wp2_with fail
        go_roundw
        case rel=>exact ⟨k+1,_,o++[(c,g,s)],by omega,by go_num,HN,d5,d8⟩
        case measure=>simp [intOf] <;> omega
    · have e8:k=L:=by omega
      subst e8
      obtain ⟨g,q,rfl,hN⟩:=l.out.own.tms
      have Z:o.length=k:=by
        have:=congrArg hJ V.out
        rw [bm,bm,bM,<-E.out] at this;omega
      have c7:o.map (fun x:TR=>x.1)=t.args.map (fX (ed (lj t.args d))):=by rw [V.out,E.out,cL]
      rw [E.out,cL] at O
      rw [Z] at l
      have k0:=l.out.c0
      have k1:=l.out.c1
      have k2:=l.out.c2
      have k3:=l.out.c3
      obtain ⟨v0,r0⟩:=l.out.r0
      obtain ⟨v1,r1⟩:=l.out.r1
      obtain ⟨v2,r2⟩:=l.out.r2
      obtain ⟨v3,r3⟩:=l.out.r3
      have f0:=l.out.rf 0
      have f1:=l.out.rf 1
      have f2:=l.out.rf 2
      have f3:=l.out.rf 3
      have U:=zq (l.out.put (ab ae t.kind) (ab ae t.num) (aa t.name) (.slice g k q))
      have d3:Hid (kk w ((((wr.setCell ⟨w.heap.size+1,0,none⟩ (ab ae t.kind)).setCell ⟨w.heap.size+1,1,none⟩ (ab ae t.num)).setCell ⟨w.heap.size+1,2,none⟩ (aa t.name)).setCell ⟨w.heap.size+1,3,none⟩ (.slice g k q)) g (t.args.map (fX (ed (lj t.args d))))):=zq (by
        obtain ⟨A3,c3,S,h3⟩:=U.out.2.tms
        rw [c7] at h3
        injection S with S _ _
        subst S
        exact h3.keep (fun _ _=>rfl) fun b n=>⟨by have:=n.1;omega,n.2⟩)
      have a3:=zq (O.out.blocks (w':=(((wr.setCell ⟨w.heap.size+1,0,none⟩ (ab ae t.kind)).setCell ⟨w.heap.size+1,1,none⟩ (ab ae t.num)).setCell ⟨w.heap.size+1,2,none⟩ (aa t.name)).setCell ⟨w.heap.size+1,3,none⟩ (.slice g k q)) (by simp) (bR _ _ _ _ _ _ _ (by omega)) (bR _ _ _ _ _ _ _ (by omega)))
      clear hN c7 Z O
      go_wp2_with fail
      exact ay (v:=aN #[ab ae t.kind,ab ae t.num,aa t.name,.slice g k q]) (by simp [results,Tryz.results65,go_sem,r0,r1,r2,r3]) rfl ⟨g,q,by rw [b0.out,a4.out];show _=Ending.returned (aN #[_,_,_,.slice _ (t.args.map _).length _]);rw [bm,<-E.out];rfl,U.out.1,by rw [b0.out,a4.out];exact d3.out,by rw [a4.out];exact a3.out⟩
end Go.Proofs.YtlikcjbjibhjgaaGreatDoor
namespace Hb
open Go Go.RowKit
theorem R4.bx {w0 w w':ai} {g c:Nat} (h:R4 w0 w g) (a:Bx c w.heap.size w w') (d:w0.heap.size<=c) (b:g≠c):R4 w0 w' g :=
 ⟨h.bel.trans ((a.mono h.bel.size).new d),h.le,aC h.lt a.size,h.r0.imp fun _ k=>(a.cell (p:=⟨_,_,none⟩) h.lt b).trans k,h.r1.imp fun _ k=>(a.cell (p:=⟨_,_,none⟩) h.lt b).trans k,h.r2.imp fun _ k=>(a.cell (p:=⟨_,_,none⟩) h.lt b).trans k,h.r3.imp fun _ k=>(a.cell (p:=⟨_,_,none⟩) h.lt b).trans k,fun o=>(a.frozen (p:=⟨_,o,none⟩) h.lt b).trans (h.fr o)⟩
end Hb
namespace Go.Proofs.YtlikcjbjibhjgaaGreatDoor
open Go.RowKit Hb
theorem CnS.start (w:ai):CnS ((w.alloc (.map #[] 0)).alloc (.cells #[.map (some w.heap.size)] 128)) w.heap.size (w.heap.size+1) []:=by
 have a:ax (w.alloc (.map #[] 0)).heap.size (w.alloc (.map #[] 0)) ((w.alloc (.map #[] 0)).alloc (.cells #[.map (some w.heap.size)] 128)):=(aj _ _).alloc (ag _) _
 have c:(w.alloc (.map #[] 0)).heap.size=w.heap.size+1:=by simp
 exact ⟨⟨_,_,(MapIs.start w ah 2 2).kept (row:=none) ⟨a.os,a.tape,a.output,a.size,fun k b _=>a.block k b⟩ (by simp)⟩,by rw [<-c];exact aq _ _ _ 0,by simp,by simp;omega,by omega⟩
theorem CG (t:Tm) (A:Option Addr) (a:Nat) (w:ai) (o:TmsAt w.heap.size w A t.args) :
  aJ ah 38 #[er t A a] w fun e w'=>∃A' cap',e=aw (er (gy t) A' cap')/\ax w.heap.size w w'/\kk w w' A' (gy t).args:=by
 have x:=R4.start (w0:=w) (w:=w.alloc (.cells #[ab ae t.kind,ab ae t.num,aa t.name,.slice A t.args.length a] 25)) ((aj _ _).alloc (ag _) _) (ab ae 0) (ab ae 0) (aa ⟨#[]⟩) (.slice none 0 0) 25
 have L:(w.alloc (.cells #[ab ae t.kind,ab ae t.num,aa t.name,.slice A t.args.length a] 25)).heap.size=w.heap.size+1:=by simp
 rw [L] at x
 have j:=zq x
 have r:Hid (TBoxT w ((w.alloc (.cells #[ab ae t.kind,ab ae t.num,aa t.name,.slice A t.args.length a] 25)).alloc (.cells #[ab ae 0,ab ae 0,aa ⟨#[]⟩,.slice none 0 0] 25)) t A a) :=
  zq ((TBoxT.start w t A a 25).call ((aj _ _).alloc (ag _) _))
 have F:=zq (fun (W:ai) (h:TBoxT w W t A a)=>(⟨h.c0,h.c1,h.c2,h.c3⟩:_/\_/\_/\_))
 have i:=zq (fun (W:ai) (h:R4 w W (w.heap.size+1))=>mT t A a W ((o.keep h.bel).mono h.bel.size))
 cases hv:cd t
 ·have l:=zq (show gy t=tm0 by unfold gy;rw [hv];rfl)
  rw [hv] at i
  clear hv r o F
  rw [l.out]
  unfold er at *
  generalize t.kind=a0 at *
  generalize t.num=R at *
  generalize t.name=S at *
  generalize t.args.length=T at *
  go_enter Tryz.func38,Tryz.ntmps38
  go_wp2_with fail
  refine (i.out _ j.out).mono ?_;rintro e c ⟨rfl,k⟩
  have f:=j.out.call k
  obtain ⟨v0,B⟩:=f.r0
  obtain ⟨v1,C⟩:=f.r1
  obtain ⟨v2,D⟩:=f.r2
  obtain ⟨v3,E⟩:=f.r3
  have U:=f.fr 0
  have V:=f.fr 1
  have X:=f.fr 2
  have Y:=f.fr 3
  have a6:=f.put (ab ae 0) (ab ae 0) (aa ⟨#[]⟩) (.slice none 0 0)
  go_wp2_with fail
  exact ay (v:=aN #[ab ae 0,ab ae 0,aa ⟨#[]⟩,.slice none 0 0]) (by simp [results,Tryz.results38,go_sem,B,C,D,E]) rfl ⟨none,0,rfl,a6,TmsK.nil⟩
 ·obtain ⟨a5,K⟩:=(iA t).1 hv
  have l:=zq (show gy t=fX (ed (dJ t [])) t by unfold gy;rw [hv];rfl)
  rw [hv] at i
  rw [l.out]
  have q:=zq (fun (W:ai) (h:ax w.heap.size w W) (z N:Nat) (hm:w.heap.size<=z) (Z:CnS W z N [])=>Gr z N w.heap.size hm t A a W [] (o.keep h) K Z (by simp;omega))
  obtain ⟨u,M⟩:∃u,u=fX (ed (dJ t [])) t:=⟨_,rfl⟩
  rw [<-M] at q |-
  clear hv o x L M K a5 l
  have b4:∀(w:ai),(Instr.makeMap 128 none).run ah w=.ok (.map (some w.heap.size)) (w.alloc (.map #[] 0)):=fun w=>run_makeMap _ w
  have a9:∀(G:Fn) (first a:Array az) (w:ai),(Instr.makeFunc G first a).run ah w=.ok (.func G first a) w:=fun _ _ _ _=>rfl
  unfold er at *
  generalize t.kind=a0 at *
  generalize t.num=R at *
  generalize t.name=S at *
  generalize t.args.length=T at *
  go_enter Tryz.func38,Tryz.ntmps38
  go_wp2_with fail
  refine (i.out _ j.out).mono ?_;rintro e c ⟨rfl,k⟩
  have m:=zq (j.out.call k)
  obtain ⟨b0,b1,b2,b3⟩:=F.out _ (r.out.call k)
  have a8:w.heap.size+1<c.heap.size:=m.out.lt
  have a7:w.heap.size<c.heap.size:=by omega
  clear j r k i
  go_wp2_with fail
  have H:ax c.heap.size c ((c.alloc (.map #[] 0)).alloc (.cells #[.map (some c.heap.size)] 128)):=((aj _ _).alloc (ag _) _).alloc (by simp) _
  have p:=m.out.call H
  have y:=p.bel
  refine (q.out _ y c.heap.size (c.heap.size+1) m.out.bel.size (CnS.start c)).mono ?_;rintro e O ⟨g,n,rfl,I,s,-⟩
  have d:=p.bx I m.out.bel.size (by omega)
  have HN:=zq s
  have a4:w.heap.size<=((c.alloc (.map #[] 0)).alloc (.cells #[.map (some c.heap.size)] 128)).heap.size:=y.size
  obtain ⟨v0,B⟩:=d.r0
  obtain ⟨v1,C⟩:=d.r1
  obtain ⟨v2,D⟩:=d.r2
  obtain ⟨v3,E⟩:=d.r3
  have U:=d.fr 0
  have V:=d.fr 1
  have X:=d.fr 2
  have Y:=d.fr 3
  have Q:=zq (d.put (ab ae u.kind) (ab ae u.num) (aa u.name) (.slice g u.args.length n))
  have P:Hid (kk w ((((O.setCell ⟨w.heap.size+1,0,none⟩ (ab ae u.kind)).setCell ⟨w.heap.size+1,1,none⟩ (ab ae u.num)).setCell ⟨w.heap.size+1,2,none⟩ (aa u.name)).setCell ⟨w.heap.size+1,3,none⟩ (.slice g u.args.length n)) g u.args) :=
   zq (TmsK.keep s (fun b J=>bR O (w.heap.size+1) _ _ _ _ b (by have:=p.lt;omega)) (fun b J=>⟨by omega,by rw [eD];exact J.2⟩))
  clear H p I s d y q a4
  go_wp2_with fail
  exact ay (v:=aN #[ab ae u.kind,ab ae u.num,aa u.name,.slice g u.args.length n]) (by simp [results,Tryz.results38,go_sem,B,C,D,E]) rfl ⟨g,n,rfl,Q.out,P.out⟩
theorem yA:∀(t u:Tm) (A B:Option Addr) (c d:Nat) (w:ai),TmsAt w.heap.size w A t.args->TmsAt w.heap.size w B u.args ->
  aJ ah 37 #[er t A c,er u B d] w fun e w'=>e=aw (.bool (nG t u))/\ax w.heap.size w w':=by
 refine Tm.ind fun t ih=>?_
 intro u A B c d w p F
 have D:=zq (TT.start w t u A B c d 25)
 have HT:=zq p
 have HU:=zq F
 have b8:=zq ih
 have Z:=zq (Gf (t:=t) (u:=u))
 have hm:=p.len
 unfold be at hm
 have a4:=zq (fun (h:¬t.kind=u.kind)=>mn (t:=t) (u:=u) fun e=>h (by rw [e]))
 have a5:=zq (fun (h:¬t.num=u.num)=>mn (t:=t) (u:=u) fun e=>h (by rw [e]))
 have a6:=zq (fun (h:¬t.name=u.name)=>mn (t:=t) (u:=u) fun e=>h (by rw [e]))
 have C:=zq (fun (h:¬t.args.length=u.args.length)=>mn (t:=t) (u:=u) fun e=>h (by rw [e]))
 have b9:=zq (fun (j:Nat) (l:j<t.args.length) (m:j<u.args.length) (h:¬t.args[j]=u.args[j])=>mn (t:=t) (u:=u) fun e=>h (by simp only [e]))
 have HY:=zq (Dv (t:=t) (u:=u))
 have n:=D.out.bel
 clear p F ih
 unfold er at *
 generalize hq:nG t u=q at *
 clear hq
 obtain ⟨L,o⟩:∃L,Hid (t.args.length=L):=⟨_,zq rfl⟩
 obtain ⟨M,z⟩:∃M,Hid (u.args.length=M):=⟨_,zq rfl⟩
 rw [o.out] at D hm n C |-
 rw [z.out] at D n C |-
 generalize t.kind=a0 at *
 generalize t.num=a1 at *
 generalize t.name=K at *
 generalize u.kind=b0 at *
 generalize u.num=b1 at *
 generalize u.name=N at *
 by_cases P:a0=b0
 ·subst P
  by_cases Q:a1=b1
  ·subst Q
   by_cases R:K=N
   ·subst R
    by_cases e3:L=M
    ·subst e3
     have b7:=zq (Z.out rfl rfl rfl)
     clear Z a4 a5 a6 C
     go_enter Tryz.func37,Tryz.ntmps37
     go_wp2_with fail
     go_loopw [38] (fun i wr=>∃k:Nat,k<=L/\i=ab ae k/\Hid (TT w wr t u A B c d)/\Hid (∀j (l:j<t.args.length) (m:j<u.args.length),j<k->t.args[j]=u.args[j])) (fun i _=>L-(intOf i).toNat)
     case atStart=>exact ⟨0,bp _,rfl,D,zq fun j _ _ h=>absurd h (by omega)⟩
     case round=>
      obtain ⟨k,hk,rfl,g,Y⟩:=hrel
      have b3:=g.out.a3
      have b4:=g.out.b3
      rw [o.out] at b3
      rw [z.out] at b4
      have G:=g.out.bel
      by_cases e4:k<L
      ·have T:k<t.args.length:=by have:=o.out;omega
       have b5:k<u.args.length:=by have:=z.out;omega
       obtain ⟨b,c8,r,O,rfl,hb,c0,c1,c2,c3,hs⟩:=(HT.out.keep G).get k T
       obtain ⟨b',c9,U,cb,rfl,d4,d0,d1,d2,d3,b6⟩:=(HU.out.keep G).get k b5
       have H:=G.size
       have J:=zq (b9.out k T b5)
       have I:Hid (t.args[k]=u.args[k]->∀j (l:j<t.args.length) (m:j<u.args.length),j<k+1->t.args[j]=u.args[j]):=zq (fun S j l m hj=>by
        by_cases c6:j=k
        ·subst c6;exact S
        ·exact Y.out j l m (by omega))
       have V:=zq (fun W (h:TT w W t u (some ⟨b,c8,none⟩) (some ⟨b',c9,none⟩) c d) (p:TmsAt W.heap.size W r t.args[k].args) (F:TmsAt W.heap.size W U u.args[k].args)=>b8.out t.args[k] (aR T) u.args[k] r U O cb W p F)
       have f:ax wr.heap.size wr (wr.alloc (.cells #[ab ae t.args[k].kind,ab ae t.args[k].num,aa t.args[k].name,.slice r t.args[k].args.length O] 25)).drew:=((aj _ wr).alloc (ag _) _).drew
       have a8:=((hs.keep (f.mono H)).mono (aI H f.size))
       have a9:=((b6.keep (f.mono H)).mono (aI H f.size))
       have s:=zq (V.out (wr.alloc (.cells #[ab ae t.args[k].kind,ab ae t.args[k].num,aa t.args[k].name,.slice r t.args[k].args.length O] 25)).drew (g.out.call f) a8 a9)
       have v:=zq (oX (t:=t.args[k]) (u:=u.args[k]))
       have d8:w.heap.size+1<wr.heap.size:=g.out.lt
       have d7:w.heap.size<wr.heap.size:=by omega
       have d9:b'<wr.heap.size:=by omega
       have d5:(0:Int)<=(k:Int):=by omega
       have d6:(k:Int)<(L:Int):=by omega
       have X:=zq (g.out.call f)
       clear hs b6 a8 a9 V f
       unfold er at s
       obtain ⟨x,hx⟩:∃x,x=t.args[k]:=⟨_,rfl⟩
       obtain ⟨y,hy⟩:∃y,y=u.args[k]:=⟨_,rfl⟩
       rw [<-hx] at X s J I v c0 c1 c2 c3
       rw [<-hy] at s J I v d0 d1 d2 d3
       clear hx hy
       go_wp2_with fail
       go_region_law (first
        | (go_simp;go_at_call 37;(with_reducible refine s.out.mono ?_);rintro e w2 ⟨rfl,c4⟩)
        | fail)
       all_goals
        have a7:=X.out.call c4
        have c5:=a7.bel
        cases hq2:nG x y
        ·have c7:¬x=y:=fun e=>by rw [v.out.2 e] at hq2;cases hq2
         have a:=J.out c7
         subst a
         go_wp2_with fail
         go_ret
         exact ⟨rfl,c5⟩
        ·have S:=v.out.1 hq2
         go_wp2_with fail
         go_roundw
         case rel=>exact ⟨k+1,by omega,by go_num,zq a7,zq (I.out S)⟩
         case measure=>simp [intOf] <;> omega
      ·have a:=HY.out (b7.out (AC (by rw [o.out,z.out]) fun j l m=>Y.out j l m (by have:=o.out;omega)))
       subst a
       go_wp2_with fail
       go_ret
       exact ⟨rfl,G⟩
    ·have a:=C.out e3
     subst a
     have E:((L:Int)==(M:Int))=false:=by simp;omega
     have f2:¬(L:Int)=(M:Int):=by omega
     go_enter Tryz.func37,Tryz.ntmps37
     go_wp2_with fail
     go_ret
     exact ⟨rfl,n⟩
   ·have a:=a6.out R
    subst a
    have E:¬K.toList=N.toList:=fun h=>R (Cu h)
    have f2:(K.toList==N.toList)=false:=by simpa using E
    go_enter Tryz.func37,Tryz.ntmps37
    go_wp2_with fail
    go_ret
    exact ⟨rfl,n⟩
  ·have a:=a5.out Q
   subst a
   have E:(a1==b1)=false:=by simpa using Q
   go_enter Tryz.func37,Tryz.ntmps37
   go_wp2_with fail
   go_ret
   exact ⟨rfl,n⟩
 ·have a:=a4.out P
  subst a
  have E:(a0==b0)=false:=by simpa using P
  go_enter Tryz.func37,Tryz.ntmps37
  go_wp2_with fail
  go_ret
  exact ⟨rfl,n⟩
end Go.Proofs.YtlikcjbjibhjgaaGreatDoor
namespace Hb
open Go Go.RowKit
noncomputable def Lv (t u:Tm):Bool:=cd t&&cd u&&nG t u
def nM:Nat->(Nat->Bool)->Nat
 | 0,_=>0
 | n+1,S=>nM n S+(if S n=true then 0 else 1)
def ik (S:Nat->Bool) (j:Nat):Nat->Bool:=fun i=>if i=j then true else S i
theorem lm (S:Nat->Bool) (j:Nat):ik S j j=true:=if_pos rfl
theorem ce (S:Nat->Bool) {j i:Nat} (h:i≠j):ik S j i=S i:=if_neg h
theorem uC:∀(n:Nat) (S T:Nat->Bool),(∀i,i<n->S i=T i)->nM n S=nM n T
 | 0,_,_,_=>rfl
 | n+1,S,T,h=>by
  unfold nM
  rw [uC n S T (fun i a=>h i (by omega)),h n (by omega)]
theorem uB:∀(n:Nat) (S:Nat->Bool) (j:Nat),j<n->S j=false->nM n (ik S j)+1=nM n S
 | 0,_,_,h,_=>absurd h (by omega)
 | n+1,S,j,hj,h=>by
  unfold nM
  by_cases e:n=j
  ·subst e
   rw [uC n (ik S n) S (fun i a=>ce S (by omega)),lm,h]
   simp
  ·rw [ce S e]
   have:=uB n S j (by omega) h
   omega
theorem rO:∀(n:Nat) (S:Nat->Bool),nM n S=0->∀j,j<n->S j=true
 | 0,_,_,_,h=>absurd h (by omega)
 | n+1,S,h,j,hj=>by
  unfold nM at h
  by_cases e:j=n
  ·subst e
   by_cases c:S j=true
   ·exact c
   ·rw [if_neg c] at h;omega
  ·exact rO n S (by omega) j (by omega)
def Bk (X:ai) (g:Nat) (vs:List az):Prop:=∃e,X.heap[g]? = some (.cells vs.toArray e)
theorem Bk.lt {X:ai} {g:Nat} {vs:List az} (h:Bk X g vs):g<X.heap.size:=by
 obtain ⟨e,h⟩:=h
 exact (aM.1 h).1
theorem Bk.c {X:ai} {g:Nat} {vs:List az} (h:Bk X g vs) (j:Nat) (v:az) (a:vs[j]? = some v):X.cell? ⟨g,j,none⟩=some v:=by
 obtain ⟨e,h⟩:=h
 simp [World.cell?,h,a]
theorem Bk.f {X:ai} {g:Nat} {vs:List az} (h:Bk X g vs) (o:Nat):X.frozen? ⟨g,o,none⟩=false:=by
 obtain ⟨e,h⟩:=h
 unfold World.frozen?
 rw [h]
 simp
theorem Bk.call {X a:ai} {g:Nat} {vs:List az} (h:Bk X g vs) (b:ax X.heap.size X a):Bk a g vs:=by
 have c:=h.lt
 obtain ⟨e,h⟩:=h
 exact ⟨e,(b.block g c).trans h⟩
theorem Bk.al {X:ai} {g:Nat} {vs:List az} (h:Bk X g vs) (o:Obj):Bk (X.alloc o) g vs:=h.call ((aj _ _).alloc (ag _) o)
theorem Bk.dr {X:ai} {g:Nat} {vs:List az} (h:Bk X g vs):Bk X.drew g vs:=h.call (aj _ _).drew
theorem Bk.new (X:ai) (vs:List az) (e:bD):Bk (X.alloc (.cells vs.toArray e)) X.heap.size vs:=⟨e,World.alloc_heap_new X _⟩
theorem Bk.other {X:ai} {g:Nat} {vs:List az} (h:Bk X g vs) {a:Nat} (b:g≠a) (j:Nat) (v:az):Bk (X.setCell ⟨a,j,none⟩ v) g vs:=by
 obtain ⟨e,h⟩:=h
 exact ⟨e,(aS X ⟨a,j,none⟩ g v b).trans h⟩
theorem Bk.set {X:ai} {g:Nat} {vs:List az} (h:Bk X g vs) (j:Nat) (v:az):Bk (X.setCell ⟨g,j,none⟩ v) g (vs.set j v):=by
 obtain ⟨e,h⟩:=h
 refine ⟨e,?_⟩
 have a:=(aM.1 h).1
 simp only [World.setCell,Array.getElem?_modify,h]
 simp
theorem Bk.keeps {X a:ai} {g:Nat} {vs:List az} (h:Bk X g vs) (b:a.heap[g]? = X.heap[g]?):Bk a g vs:=by
 obtain ⟨e,h⟩:=h
 exact ⟨e,b.trans h⟩
structure Bks (X:ai) (l:List (Nat×List az)):Prop where
 bk:∀x∈l,Bk X x.1 x.2
 ord:(l.map (·.1)).Pairwise (· > ·)
theorem Bks.nil (X:ai):Bks X []:=⟨fun x a=>(by cases a),List.Pairwise.nil⟩
theorem Bks.at {X:ai} {l:List (Nat×List az)} (h:Bks X l) (j g:Nat) (vs:List az) (a:l[j]? = some (g,vs)):Bk X g vs:=h.bk (g,vs) (fG a)
theorem Bks.cell {X:ai} {l:List (Nat×List az)} (h:Bks X l) (j i:Nat) {g:Nat} {vs:List az} {v:az} (b:l[j]? = some (g,vs)) (a:vs[i]? = some v):X.cell? ⟨g,i,none⟩=some v:=(h.at j g vs b).c i v a
theorem Bks.lt {X:ai} {l:List (Nat×List az)} (h:Bks X l) (j:Nat) {g:Nat} {vs:List az} (a:l[j]? = some (g,vs)):g<X.heap.size:=(h.at j g vs a).lt
theorem Bks.keep {X a:ai} {l:List (Nat×List az)} (h:Bks X l) (c:∀x∈l,a.heap[x.1]? = X.heap[x.1]?):Bks a l:=⟨fun x b=>(h.bk x b).keeps (c x b),h.ord⟩
theorem Bks.call {X a:ai} {l:List (Nat×List az)} (h:Bks X l) (b:ax X.heap.size X a):Bks a l:=⟨fun x c=>(h.bk x c).call b,h.ord⟩
theorem Bks.new {X:ai} {l:List (Nat×List az)} (h:Bks X l) (vs:List az) (e:bD) {g:Nat} (b:X.heap.size=g):Bks (X.alloc (.cells vs.toArray e)) ((g,vs)::l):=by
 subst b
 refine ⟨fun x a=>?_,?_⟩
 ·rcases List.mem_cons.1 a with rfl | a
  ·exact Bk.new X vs e
  ·exact (h.bk x a).al _
 ·rw [bE,ex]
  refine ⟨fun g b=>?_,h.ord⟩
  obtain ⟨x,a,rfl⟩:=List.mem_map.1 b
  exact (h.bk x a).lt
theorem Bks.set {X:ai} {l:List (Nat×List az)} (h:Bks X l) (j i:Nat) {g:Nat} {vs:List az} (c:l[j]? = some (g,vs)) (v:az):Bks (X.setCell ⟨g,i,none⟩ v) (l.set j (g,vs.set i v)):=by
 have s:(l.set j (g,vs.set i v)).map (·.1)=l.map (·.1):=by
  rw [List.map_set]
  refine List.ext_getElem? fun k=>?_
  rw [fe]
  split
  ·rename_i e
   subst e
   split
   ·rw [List.getElem?_map,c];rfl
   ·rename_i t
    rw [List.getElem?_eq_none (by simpa using t)]
  ·rfl
 refine ⟨fun x w=>?_,by rw [s];exact h.ord⟩
 obtain ⟨k,a⟩:=List.mem_iff_getElem?.1 w
 rw [fe] at a
 split at a
 ·split at a
  ·injection a with a;subst a
   exact (h.at j g vs c).set i v
  ·cases a
 ·rename_i u
  have r:=h.bk x (fG a)
  refine r.other (fun e=>?_) i v
  have p:(l.map (·.1))[k]? = some x.1:=by rw [List.getElem?_map,a];rfl
  have q:(l.map (·.1))[j]? = some g:=by rw [List.getElem?_map,c];rfl
  obtain ⟨n,d⟩:=dV.1 p
  obtain ⟨o,f⟩:=dV.1 q
  have m:=List.pairwise_iff_getElem.1 h.ord
  rcases Nat.lt_or_gt_of_ne (fun e=>u e:j≠k) with b | b
  ·have:=m j k o n b
   rw [d,f] at this;omega
  ·have:=m k j n o b
   rw [d,f] at this;omega
theorem Bks.set4 {X:ai} {l:List (Nat×List az)} (h:Bks X l) (j:Nat) {g:Nat} {u0 u1 u2 u3:az} (f:l[j]? = some (g,[u0,u1,u2,u3])) (a b c e:az) :
  Bks ((((X.setCell ⟨g,0,none⟩ a).setCell ⟨g,1,none⟩ b).setCell ⟨g,2,none⟩ c).setCell ⟨g,3,none⟩ e) (l.set j (g,[a,b,c,e])):=by
 have d:j<l.length:=(dV.1 f).1
 have i:=h.set j 0 f a
 have k:=i.set j 1 (g:=g) (vs:=[a,u1,u2,u3]) (by rw [fe];simp [d]) b
 have m:=k.set j 2 (g:=g) (vs:=[a,b,u2,u3]) (by rw [fe];simp [d]) c
 have n:=m.set j 3 (g:=g) (vs:=[a,b,c,u3]) (by rw [fe];simp [d]) e
 simpa using n
theorem Bks.tl {X:ai} {x:Nat×List az} {l:List (Nat×List az)} (h:Bks X (x::l)):Bks X l:=⟨fun y a=>h.bk y (List.mem_cons_of_mem _ a),by have:=h.ord;rw [bE,ex] at this;exact this.2⟩
theorem CO {l:List (Nat×List az)} {j g:Nat} {vs:List az} (c:List az) (a:l[j]? = some (g,vs)):∀x∈l.set j (g,c),∃y∈l,y.1=x.1:=fun x b=>by
 rcases List.mem_or_eq_of_mem_set b with h | h
 ·exact ⟨x,h,rfl⟩
 ·exact ⟨_,fG a,by rw [h]⟩
end Hb
