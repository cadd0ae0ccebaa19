/- Parts of the proof. -/
import Derived.Test.YtgapnafkelokaaaGreatDoorR01
import Derived.Test.YtgapnafkelokaaaGreatDoorR34
set_option maxHeartbeats 12800000
set_option maxRecDepth 100000
open Go renaming Calls -> aG, heap_setCell_other -> bd, maxLen -> bc
open Go.Ending renaming returned -> av
open Go.IntKind renaming i64 -> ae
open Go.Proofs.Tryz renaming prog -> ah
open Go.RowKit renaming Below -> ay
open Go.RowKit.Below renaming refl -> ak
open Go.Value renaming agg -> aN, bool -> an, bool -> fx, int -> ab, string -> aa
open Nat renaming le_refl -> ag, reduceAdd -> ar, zero_add -> ap, zero_le -> bj
namespace Hb
open Go Go.RowKit
theorem CT {T:List OpR} {t u:Tm}:(CU T t u).1.size<=16384:=by
 unfold CU
 split
 ·by_cases h:(fP (km oQ T (kW t u) 1200 false++[s1 46])++⟨#[10]⟩:ByteArray).size<=16384
  ·rw [mV h];exact h
  ·rw [rm h];exact bj _
 ·exact bj _
theorem CS {t u:Tm} (h:(ia t || !fZ u)=false):kW t u=t:=by unfold kW;rw [h];rfl
theorem CR {t u:Tm} (h:(ia t || !fZ u)=true):kW t u=.mk 3 0 ⟨#[58,45]⟩ [t,u]:=by unfold kW;rw [if_pos h]
theorem uj {n:Nat} (h:n<=16384):wrap64 ((n:Int)-1)=(n:Int)-1:=IntWalk.wrap64_in _ (by omega)
theorem KA {w z:World} {g:Nat} {u0 u1 u2 u3:Value} (h:Bk z g [u0,u1,u2,u3]) (j:ay w.heap.size w z) (i:w.heap.size<=g) (a c d e:Value) :
  Bk ((((z.setCell ⟨g,0,none⟩ a).setCell ⟨g,1,none⟩ c).setCell ⟨g,2,none⟩ d).setCell ⟨g,3,none⟩ e) g [a,c,d,e]/\ay w.heap.size w ((((z.setCell ⟨g,0,none⟩ a).setCell ⟨g,1,none⟩ c).setCell ⟨g,2,none⟩ d).setCell ⟨g,3,none⟩ e)/\((((z.setCell ⟨g,0,none⟩ a).setCell ⟨g,1,none⟩ c).setCell ⟨g,2,none⟩ d).setCell ⟨g,3,none⟩ e).heap.size=z.heap.size/\∀b,b≠g->((((z.setCell ⟨g,0,none⟩ a).setCell ⟨g,1,none⟩ c).setCell ⟨g,2,none⟩ d).setCell ⟨g,3,none⟩ e).heap[b]? = z.heap[b]? :=
 ⟨(((h.set 0 a).set 1 c).set 2 d).set 3 e,(((j.setCell (p:=⟨g,_,none⟩) i _).setCell (p:=⟨g,_,none⟩) i _).setCell (p:=⟨g,_,none⟩) i _).setCell (p:=⟨g,_,none⟩) i _,by simp,fun b f=>by
  rw [bd _ _ _ _ f,bd _ _ _ _ f,bd _ _ _ _ f,bd _ _ _ _ f]⟩
end Hb
namespace Go.Proofs.YtgapnafkelokaaaGreatDoor
open Go.RowKit Hb
theorem rU (w:World):aG ah 29 #[] w fun e w'=>e=av (aN #[ab ae 1,ab ae 1,an false,an false])/\ay w.heap.size w w':=by
 have a:=(ak w.heap.size w).alloc (ag _) (.cells #[ab ae 1,ab ae 1,an false,an false] 53)
 go_enter Tryz.func29,Tryz.ntmps29
 go_wp2_with fail
 exact bodyPost_ret (v:=aN #[ab ae 1,ab ae 1,an false,an false]) (by simp [results,Tryz.results29,go_sem]) rfl ⟨rfl,a⟩
attribute [local go_sem] Oper.semAt_some
theorem wg {T:List OpR} {TA:Option Addr} {TN TC:Nat} {t u:Tm} (ft:Tm.All (fun x=>cV x=true) t) (fu:Tm.All (fun x=>cV x=true) u) (A B:Option Addr) (c d:Nat) (w:World) (hD:DoorOk w) (hm:TN<=bc) (f9:Tab w TA TN TC T) (hT:TmsAt w.heap.size w A t.args) (hU:TmsAt w.heap.size w B u.args) :
  aG ah 9 #[IJ t u A B c d,.slice TA TN TC] w fun e w'=>e=av (an true)/\ay w.heap.size w w':=by
 have HE:=zq (fun W (h:ay w.heap.size w W)=>qI W (hD.below h))
 have e0:Hid (ay w.heap.size w (w.alloc (.cells #[ab ae t.kind,ab ae t.num,aa t.name,.slice A t.args.length c,ab ae u.kind,ab ae u.num,aa u.name,.slice B u.args.length d] 38))):=zq ((ak _ w).alloc (ag _) _)
 have g5:Hid (Bk (w.alloc (.cells #[ab ae t.kind,ab ae t.num,aa t.name,.slice A t.args.length c,ab ae u.kind,ab ae u.num,aa u.name,.slice B u.args.length d] 38)) w.heap.size [ab ae t.kind,ab ae t.num,aa t.name,.slice A t.args.length c,ab ae u.kind,ab ae u.num,aa u.name,.slice B u.args.length d]):=zq (Bk.new w [ab ae t.kind,ab ae t.num,aa t.name,.slice A t.args.length c,ab ae u.kind,ab ae u.num,aa u.name,.slice B u.args.length d] 38)
 obtain ⟨r,z⟩:=lz (CU T t u)
 obtain ⟨q,HQ⟩:=lz (kW t u)
 obtain ⟨bp,d5⟩:=lz ((ia t || !fZ u))
 have c6:Hid (bp=true->q=.mk 3 0 ⟨#[58,45]⟩ [t,u]):=zq fun h=>by rw [d5.out] at h;rw [HQ.out,CR h]
 have c5:Hid (bp=false->q=t):=zq fun h=>by rw [d5.out] at h;rw [HQ.out,CS h]
 have g9:Hid (∀W,ay w.heap.size w W->aG ah 16 #[aN #[ab ae t.kind,ab ae t.num,aa t.name,.slice A t.args.length c,ab ae u.kind,ab ae u.num,aa u.name,.slice B u.args.length d],.slice TA TN TC] W fun e w'=>e=av (.tuple #[aa r.1,ab ae r.2])/\ay W.heap.size W w'):=zq (fun W h=>by
  rw [z.out]
  exact wm (T:=T) (TA:=TA) (TN:=TN) (TC:=TC) ft fu A B c d W (hD.below h) hm (f9.below h) ((hT.keep h).mono h.size) ((hU.keep h).mono h.size))
 have I:=zq (fun (h:r.2=0) (N:bu q=true)=>by
  rw [z.out] at h
  rw [HQ.out] at N
  have p:=yy ft fu h N 1 1 false false rfl
  rw [<-z.out,<-HQ.out] at p
  exact p)
 have h4:r.1.size<=16384:=by rw [z.out];exact CT
 have F:Hid (∀C c X,TmsAt X.heap.size X C q.args->aG ah 19 #[dR q C c] X fun e w'=>e=av (an (bu q))/\ay X.heap.size X w'):=zq fun C c X h=>lY q C c X h
 have J:Hid (∀(tx:ByteArray) X,tx.size<=bc->ay w.heap.size w X->aG ah 27 #[aa tx,ab ae 0,aN #[.slice TA TN TC,ab ae 1,ab ae 1,an false,an false,.slice none 0 0]] X (LY X (lG tx.data.toList 0 ⟨T,1,1,false,false,[]⟩))):=zq fun tx X hx hX=>
  AI tx 0 TA TN TC 1 1 false false none 0 0 T [] X (f9.below hX) rfl (bj _) (Pairs.nil _ _) hx
 have o:Hid (∀(g:Tm) (C:Option Addr) (c:Nat) D e X,TmsAt X.heap.size X C g.args->TmsAt X.heap.size X D q.args->bu g=true->bu q=true->iV g=iV q->aG ah 28 #[dR g C c,dR q D e] X fun e w'=>e=av (an true)/\ay X.heap.size X w'):=zq fun g C c D e X R f L M h3=>by
  have h:=rV g q C D c e X R f L M
  rw [h3,vP.2 rfl] at h
  exact h
 have d1:Hid (∀X,ay w.heap.size w X->TmsAt X.heap.size X A t.args):=zq fun X h=>(hT.keep h).mono h.size
 have c8:Hid (∀X E,ay w.heap.size w X->w.heap.size<=E->E<X.heap.size->TmsK (fun b=>b≠E/\b<X.heap.size+1) (X.alloc (.cells #[ab ae t.kind,ab ae t.num,aa t.name,.slice A t.args.length c,ab ae u.kind,ab ae u.num,aa u.name,.slice B u.args.length d] 24)) (some ⟨X.heap.size,0,none⟩) [t,u]):=zq fun X E h L M=>
  TmsK.rows (rs:=[(t,A,c),(u,B,d)]) (e:=24) ⟨by omega,by omega⟩ (by simp [bc]) (fun x hx=>by
   have i:=h.alloc h.size (.cells #[ab ae t.kind,ab ae t.num,aa t.name,.slice A t.args.length c,ab ae u.kind,ab ae u.num,aa u.name,.slice B u.args.length d] 24)
   have hs:=h.size
   simp only [List.mem_cons,List.mem_nil_iff,or_false] at hx
   rcases hx with rfl|rfl
   ·exact TmsK.keep hT (fun b d2=>i.block b d2) (fun b d2=>⟨by omega,by omega⟩)
   ·exact TmsK.keep hU (fun b d2=>i.block b d2) (fun b d2=>⟨by omega,by omega⟩))
 have a5:Hid (bp=(ia t || !fZ u)):=d5
 have c7:Hid (ia t=(t.kind==3&&(t.name.toList==[58,45]&&t.args.length==2))):=zq rfl
 have d0:Hid (fZ u=(u.kind==2&&u.name.toList==[116,114,117,101])):=zq rfl
 clear z HQ d5 hT hU f9 hD ft fu hm
 obtain ⟨s,es⟩:=r
 have d8:=zq h4
 clear h4
 unfold IJ
 go_enter Tryz.func9,Tryz.ntmps9
 go_wp2_with fail
 refine (HE.out _ e0.out).mono ?_;rintro e w1 ⟨rfl,a⟩
 have e1:=bz e0 a
 have e6:=zq (g5.out.call a)
 clear a e0 g5 HE
 have Z:=e6.out.all0
 simp only [aW,ap,ar,and_true] at Z
 go_wp2_with fail
 refine (g9.out _ e1.out).mono ?_;rintro e w2 ⟨rfl,a⟩
 have e2:=bz e1 a
 have e7:=zq (e6.out.call a)
 clear a e1 e6 g9 Z
 obtain ⟨x,HX⟩:=lz (w2.alloc (.cells #[ab ae t.kind,ab ae t.num,aa t.name,.slice A t.args.length c] 24))
 obtain ⟨E,d6⟩:=lz (w2.heap.size)
 have a:ay w2.heap.size w2 x:=by rw [HX.out];exact (ak _ _).alloc (ag _) _
 have Y:Hid (Bk x E [ab ae t.kind,ab ae t.num,aa t.name,.slice A t.args.length c]):=zq (by rw [HX.out,d6.out];exact Bk.new w2 [ab ae t.kind,ab ae t.num,aa t.name,.slice A t.args.length c] 24)
 have d7:Hid (w.heap.size<=E):=zq (by rw [d6.out];exact e2.out.size)
 have V:=bz e2 a
 have b3:=zq (e7.out.call a)
 have Z:=e7.out.all0
 simp only [aW,ap,ar,and_true] at Z
 go_upto_region 5 with fail
 rw [<-HX.out,<-d6.out]
 clear a e2 e7 Z HX d6
 go_cut [8] from 22 to 35 (fun v wc=>v=an (ia t)/\wc=x)
 case first=>
  have f:=Y.out.all0
  simp only [aW,ap,ar,and_true] at f
  have z:=c7
  clear V b3 Y F J o d1 c8 I c6 c5 a5 d0 c7
  generalize t.kind=a0 at *
  generalize t.name=a2 at *
  by_cases f0:a0=3
  ·subst f0
   cases f1:(a2.toList==[58,45])
   ·have f2:¬a2.toList=[58,45]:=by simpa using f1
    have hR:ia t=false:=by rw [z.out,f1];rfl
    go_wp2_with fail
    go_meet
    exact ⟨congrArg fx hR.symm,rfl⟩
   ·have f2:a2.toList=[58,45]:=by simpa using f1
    have hR:ia t=(t.args.length==2):=by rw [z.out,f1];rfl
    generalize t.args.length=n at *
    by_cases f3:n=2
    ·subst f3
     go_wp2_with fail
     go_meet
     exact ⟨congrArg fx hR.symm,rfl⟩
    ·have f4:(n==2)=false:=by simpa using f3
     have f5:¬(n:Int)=2:=by omega
     rw [f4] at hR
     go_wp2_with fail
     go_meet
     exact ⟨congrArg fx (by rw [hR];simpa using f5),rfl⟩
  ·have hR:ia t=false:=by
    rw [z.out,show (a0==3)=false by simpa using f0];rfl
   go_wp2_with fail
   go_meet
   exact ⟨congrArg fx hR.symm,rfl⟩
 case rest=>
  obtain ⟨rfl,hx⟩:=hcut
  subst hx
  go_upto_region 6 with fail
  go_cut [48] from 36 to 47 (fun v wy=>v=an bp/\wy=wc)
  case first=>
   have f:=b3.out.all0
   simp only [aW,ap,ar,and_true] at f
   have z:=d0
   clear V Y F J o d1 c8 I c6 c5 d0 c7 b3
   generalize ia t=rl at *
   cases rl
   ·generalize u.kind=b0 at *
    generalize u.name=b2 at *
    by_cases g0:b0=2
    ·subst g0
     cases g1:(b2.toList==[116,114,117,101])
     ·have g2:¬b2.toList=[116,114,117,101]:=by simpa using g1
      have hQ:fZ u=false:=by rw [z.out,g1];rfl
      go_wp2_with fail
      go_meet
      exact ⟨congrArg fx (by rw [a5.out,hQ];rfl),rfl⟩
     ·have g2:b2.toList=[116,114,117,101]:=by simpa using g1
      have hQ:fZ u=true:=by rw [z.out,g1];rfl
      go_wp2_with fail
      go_meet
      exact ⟨congrArg fx (by rw [a5.out,hQ];rfl),rfl⟩
    ·have hQ:fZ u=false:=by
      rw [z.out,show (b0==2)=false by simpa using g0];rfl
     go_wp2_with fail
     go_meet
     exact ⟨congrArg fx (by rw [a5.out,hQ];rfl),rfl⟩
   ·go_wp2_with fail
    go_meet
    exact ⟨congrArg fx (by rw [a5.out];rfl),rfl⟩
  case rest=>
   obtain ⟨rfl,hx⟩:=hcut
   subst hx
   cases bp
   ·have P:Hid (q=t):=zq (c5.out (by first | rfl | trivial))
    have F:Hid (∀X,TmsAt X.heap.size X A q.args->aG ah 19 #[aN #[ab ae t.kind,ab ae t.num,aa t.name,.slice A t.args.length c]] X fun e w'=>e=av (an (bu q))/\ay X.heap.size X w'):=zq fun X h=>by
     have p:=F.out A c X h
     unfold dR at p
     rwa [P.out] at p |-
    have o:Hid (∀(g:Tm) (C:Option Addr) (c':Nat) X,TmsAt X.heap.size X C g.args->TmsAt X.heap.size X A q.args->bu g=true->bu q=true->iV g=iV q->aG ah 28 #[aN #[ab ae g.kind,ab ae g.num,aa g.name,.slice C g.args.length c'],aN #[ab ae t.kind,ab ae t.num,aa t.name,.slice A t.args.length c]] X fun e w'=>e=av (an true)/\ay X.heap.size X w'):=zq fun g C c' X R f L M h3=>by
     have p:=o.out g C c' A c X R f L M h3
     unfold dR at p
     have e:=P.out
     subst e
     exact p
    have O:=V
    have a7:=Y
    have a1:Hid (TmsAt wc.heap.size wc A q.args):=zq (by rw [P.out];exact d1.out _ V.out)
    clear V Y b3 d1 c8 c6 c5 a5 c7 d0 d7 P
    go_upto_region 8 with fail
    by_cases he:es=0
    rotate_left
    ·have i:(es != 0)=true:=by simpa using he
     clear he I F J o
     go_wp2_with fail
     go_ret
     exact ⟨rfl,O.out⟩
    subst he
    have f:=a7.out.all0
    simp only [aW,ap,ar,and_true] at f
    go_wp2_with fail
    refine (F.out _ a1.out).mono ?_;rintro e x6 ⟨rfl,a⟩
    have a3:=bz O a
    have c2:=zq (a7.out.call a)
    have b4:=zq ((a1.out.keep a).mono a.size)
    clear a O a7 a1 f F
    cases N:bu q
    ·clear I J o
     go_wp2_with fail
     go_ret
     exact ⟨rfl,a3.out⟩
    obtain ⟨Kd,d3,d4,a9,b1,a8⟩:=I.out (by first | rfl | trivial) N
    obtain ⟨g,HG⟩:=lz (fT Kd q)
    rw [<-HG.out] at a9 b1 a8
    obtain ⟨S,c1⟩:=lz (d3.length)
    obtain ⟨U,c9⟩:=lz (d4.length)
    have b9:Hid (∀X,ay w.heap.size w X->aG ah 27 #[aa s,ab ae 0,aN #[.slice TA TN TC,ab ae 1,ab ae 1,an false,an false,.slice none 0 0]] X fun e w'=>∃C G j l k m,e=av (.tuple #[aN #[ab ae g.kind,ab ae g.num,aa g.name,.slice C g.args.length G,.slice j S l,.slice k U m,ab ae ((s.size:Int)-1)],ab ae 0,ab ae 0])/\ay X.heap.size X w'/\kt X w' C g.args):=zq fun X hX=>by
     have h:=J.out s X (by have:=d8.out;unfold bc;omega) hX
     rw [a9] at h
     rw [c1.out,c9.out]
     exact h.mono fun _ _ ⟨C,c,j,l,k,m,h0,L,M,_⟩=>⟨C,c,j,l,k,m,h0,L,M⟩
    have f7:=zq (fun C c X R f=>o.out g C c X R f b1 N a8)
    have h5:=uj d8.out
    clear I J o a9 b1 a8 HG c1 c9 d3 d4 Kd N
    go_wp2_with fail
    refine (rU _).mono ?_;rintro e x7 ⟨rfl,a⟩
    have a4:=bz a3 a
    have c3:=zq (c2.out.call a)
    have b5:=zq ((b4.out.keep a).mono a.size)
    clear a a3 c2 b4
    go_wp2_with fail
    refine (b9.out _ a4.out).mono ?_;rintro e H ⟨C,G,j,l,k,m,rfl,a,hn⟩
    have b7:=bz a4 a
    have c4:=zq (c3.out.call a)
    have b6:=zq ((b5.out.keep a).mono a.size)
    have c0:=zq (TmsK.at' (hn.keep (fun _ _=>rfl) fun _ i=>i.2))
    clear a a4 c3 b5 b9 hn
    obtain ⟨x9,Q⟩:=lz (H.alloc (.cells #[ab ae g.kind,ab ae g.num,aa g.name,.slice C g.args.length G,.slice j S l,.slice k U m,ab ae ((s.size:Int)-1)] 57))
    obtain ⟨g2,a6⟩:=lz (H.heap.size)
    have a:ay H.heap.size H x9:=by rw [Q.out];exact (ak _ _).alloc (ag _) _
    have e9:Hid (Bk x9 g2 [ab ae g.kind,ab ae g.num,aa g.name,.slice C g.args.length G,.slice j S l,.slice k U m,ab ae ((s.size:Int)-1)]):=zq (by rw [Q.out,a6.out];exact Bk.new H [ab ae g.kind,ab ae g.num,aa g.name,.slice C g.args.length G,.slice j S l,.slice k U m,ab ae ((s.size:Int)-1)] 57)
    have b8:=bz b7 a
    have e8:=zq (c4.out.call a)
    have d9:=zq ((b6.out.keep a).mono a.size)
    have e4:=zq ((c0.out.keep a).mono a.size)
    go_upto_region 11 with fail
    rw [<-Q.out,<-a6.out]
    clear a b7 c4 b6 c0 Q a6
    have f:=e9.out.all0
    simp only [aW,ap,ar,and_true] at f
    have hk:=e8.out.all0
    simp only [aW,ap,ar,and_true] at hk
    go_wp2_with fail
    refine (f7.out _ _ _ e4.out d9.out).mono ?_;rintro e wz ⟨rfl,a⟩
    have e3:=bz b8 a
    clear a b8
    go_wp2_with fail
    go_ret
    exact ⟨rfl,e3.out⟩
   ·have Z:=b3.out.all0
    simp only [aW,ap,ar,and_true] at Z
    have g3:=c8.out _ E V.out d7.out Y.out.lt
    obtain ⟨y,HY⟩:=lz (wc.alloc (.cells #[ab ae t.kind,ab ae t.num,aa t.name,.slice A t.args.length c,ab ae u.kind,ab ae u.num,aa u.name,.slice B u.args.length d] 24))
    obtain ⟨K,e5⟩:=lz (wc.heap.size)
    have a:ay wc.heap.size wc y:=by rw [HY.out];exact (ak _ _).alloc (ag _) _
    have hs:y.heap.size=wc.heap.size+1:=by rw [HY.out];simp
    rw [<-HY.out,<-hs,<-e5.out] at g3
    have g4:=bz V a
    have g8:=zq (Y.out.call a)
    have g6:=zq g3
    clear g3 hs a c8
    go_wp2_with fail
    rw [<-HY.out,<-e5.out]
    refine (iX _ _ _ _ _).mono ?_;rintro e y2 ⟨rfl,a⟩
    have O:=bz g4 a
    have f6:=zq (g8.out.call a)
    have g7:Hid (TmsK (fun b=>b≠E/\b<y2.heap.size) y2 (some ⟨K,0,none⟩) [t,u]):=zq (g6.out.keep (fun b i=>a.block b i.2) (fun b i=>⟨i.1,Nat.lt_of_lt_of_le i.2 a.size⟩))
    clear a g4 g8 g6 HY e5 V Y b3 Z
    have hp:=KA f6.out O.out d7.out (ab ae 3) (ab ae 0) (aa ⟨#[58,45]⟩) (.slice (some ⟨K,0,none⟩) 2 2)
    obtain ⟨x5,f8⟩:=lz (((((y2.setCell ⟨E,0,none⟩ (ab ae 3)).setCell ⟨E,1,none⟩ (ab ae 0)).setCell ⟨E,2,none⟩ (aa ⟨#[58,45]⟩)).setCell ⟨E,3,none⟩ (.slice (some ⟨K,0,none⟩) 2 2)))
    rw [<-f8.out] at hp
    have hf:=f6.out.all0
    simp only [aW,ap,ar,and_true] at hf
    go_upto_region 8 with fail
    rw [<-f8.out]
    have P:Hid (q=.mk 3 0 ⟨#[58,45]⟩ [t,u]):=zq (c6.out (by first | rfl | trivial))
    have F:Hid (∀X,TmsAt X.heap.size X (some ⟨K,0,none⟩) q.args->aG ah 19 #[aN #[ab ae 3,ab ae 0,aa ⟨#[58,45]⟩,.slice (some ⟨K,0,none⟩) 2 2]] X fun e w'=>e=av (an (bu q))/\ay X.heap.size X w'):=zq fun X h=>by
     have p:=F.out (some ⟨K,0,none⟩) 2 X h
     unfold dR at p
     rwa [P.out] at p |-
    have o:Hid (∀(g:Tm) (C:Option Addr) (c':Nat) X,TmsAt X.heap.size X C g.args->TmsAt X.heap.size X (some ⟨K,0,none⟩) q.args->bu g=true->bu q=true->iV g=iV q->aG ah 28 #[aN #[ab ae g.kind,ab ae g.num,aa g.name,.slice C g.args.length c'],aN #[ab ae 3,ab ae 0,aa ⟨#[58,45]⟩,.slice (some ⟨K,0,none⟩) 2 2]] X fun e w'=>e=av (an true)/\ay X.heap.size X w'):=zq fun g C c' X R f L M h3=>by
     have p:=o.out g C c' (some ⟨K,0,none⟩) 2 X R f L M h3
     unfold dR at p
     have e:=P.out
     subst e
     exact p
    have O:=zq hp.2.1
    have a7:=zq hp.1
    have a1:Hid (TmsAt x5.heap.size x5 (some ⟨K,0,none⟩) q.args):=zq (by
     rw [P.out]
     exact g7.out.keep (fun b i=>hp.2.2.2 b i.1) (fun b i=>by rw [hp.2.2.1];exact i.2))
    clear hp hf f8 g7 f6 d1 c6 c5 a5 c7 d0 d7 P
    by_cases he:es=0
    rotate_left
    ·have i:(es != 0)=true:=by simpa using he
     clear he I F J o
     go_wp2_with fail
     go_ret
     exact ⟨rfl,O.out⟩
    subst he
    have f:=a7.out.all0
    simp only [aW,ap,ar,and_true] at f
    go_wp2_with fail
    refine (F.out _ a1.out).mono ?_;rintro e x6 ⟨rfl,a⟩
    have a3:=bz O a
    have c2:=zq (a7.out.call a)
    have b4:=zq ((a1.out.keep a).mono a.size)
    clear a O a7 a1 f F
    cases N:bu q
    ·clear I J o
     go_wp2_with fail
     go_ret
     exact ⟨rfl,a3.out⟩
    obtain ⟨Kd,d3,d4,a9,b1,a8⟩:=I.out (by first | rfl | trivial) N
    obtain ⟨g,HG⟩:=lz (fT Kd q)
    rw [<-HG.out] at a9 b1 a8
    obtain ⟨S,c1⟩:=lz (d3.length)
    obtain ⟨U,c9⟩:=lz (d4.length)
    have b9:Hid (∀X,ay w.heap.size w X->aG ah 27 #[aa s,ab ae 0,aN #[.slice TA TN TC,ab ae 1,ab ae 1,an false,an false,.slice none 0 0]] X fun e w'=>∃C G j l k m,e=av (.tuple #[aN #[ab ae g.kind,ab ae g.num,aa g.name,.slice C g.args.length G,.slice j S l,.slice k U m,ab ae ((s.size:Int)-1)],ab ae 0,ab ae 0])/\ay X.heap.size X w'/\kt X w' C g.args):=zq fun X hX=>by
     have h:=J.out s X (by have:=d8.out;unfold bc;omega) hX
     rw [a9] at h
     rw [c1.out,c9.out]
     exact h.mono fun _ _ ⟨C,c,j,l,k,m,h0,L,M,_⟩=>⟨C,c,j,l,k,m,h0,L,M⟩
    have f7:=zq (fun C c X R f=>o.out g C c X R f b1 N a8)
    have h5:=uj d8.out
    clear I J o a9 b1 a8 HG c1 c9 d3 d4 Kd N
    go_wp2_with fail
    refine (rU _).mono ?_;rintro e x7 ⟨rfl,a⟩
    have a4:=bz a3 a
    have c3:=zq (c2.out.call a)
    have b5:=zq ((b4.out.keep a).mono a.size)
    clear a a3 c2 b4
    go_wp2_with fail
    refine (b9.out _ a4.out).mono ?_;rintro e H ⟨C,G,j,l,k,m,rfl,a,hn⟩
    have b7:=bz a4 a
    have c4:=zq (c3.out.call a)
    have b6:=zq ((b5.out.keep a).mono a.size)
    have c0:=zq (TmsK.at' (hn.keep (fun _ _=>rfl) fun _ i=>i.2))
    clear a a4 c3 b5 b9 hn
    obtain ⟨x9,Q⟩:=lz (H.alloc (.cells #[ab ae g.kind,ab ae g.num,aa g.name,.slice C g.args.length G,.slice j S l,.slice k U m,ab ae ((s.size:Int)-1)] 57))
    obtain ⟨g2,a6⟩:=lz (H.heap.size)
    have a:ay H.heap.size H x9:=by rw [Q.out];exact (ak _ _).alloc (ag _) _
    have e9:Hid (Bk x9 g2 [ab ae g.kind,ab ae g.num,aa g.name,.slice C g.args.length G,.slice j S l,.slice k U m,ab ae ((s.size:Int)-1)]):=zq (by rw [Q.out,a6.out];exact Bk.new H [ab ae g.kind,ab ae g.num,aa g.name,.slice C g.args.length G,.slice j S l,.slice k U m,ab ae ((s.size:Int)-1)] 57)
    have b8:=bz b7 a
    have e8:=zq (c4.out.call a)
    have d9:=zq ((b6.out.keep a).mono a.size)
    have e4:=zq ((c0.out.keep a).mono a.size)
    go_upto_region 11 with fail
    rw [<-Q.out,<-a6.out]
    clear a b7 c4 b6 c0 Q a6
    have f:=e9.out.all0
    simp only [aW,ap,ar,and_true] at f
    have hk:=e8.out.all0
    simp only [aW,ap,ar,and_true] at hk
    go_wp2_with fail
    refine (f7.out _ _ _ e4.out d9.out).mono ?_;rintro e wz ⟨rfl,a⟩
    have e3:=bz b8 a
    clear a b8
    go_wp2_with fail
    go_ret
    exact ⟨rfl,e3.out⟩
end Go.Proofs.YtgapnafkelokaaaGreatDoor
