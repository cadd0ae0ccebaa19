/- Parts of the proof. -/
import Derived.Test.YtgapnafkelokaaaGreatDoorR07
import Derived.Test.YtgapnafkelokaaaGreatDoorR05
import Derived.Test.YtgapnafkelokaaaGreatDoorR01
import Derived.Test.YtgapnafkelokaaaGreatDoorR02
import Derived.Test.YtgapnafkelokaaaGreatDoorR06
import Derived.Deep.CutBlock
import Derived.Deep.RegionHeld3
import Derived.Deep.AppendLies
set_option maxHeartbeats 12800000
set_option maxRecDepth 100000
open Go renaming Calls -> aG, World -> aj
open Go.Ending renaming returned -> av
open Go.IntKind renaming i64 -> ae
open Go.Proofs.Tryz renaming prog -> ah
open Go.RowKit renaming Below -> ay
open Go.RowKit.Below renaming refl -> ak
open Go.Sort renaming grow -> fb
open Go.Value renaming agg -> aN, bool -> an, int -> ab, string -> aa
open Go.World renaming cell?_alloc_new -> aq
open List renaming cons_append -> ai, length_take -> cZ, mem_singleton -> aJ, setIfInBounds_toArray -> da, set_cons_succ -> bE, set_cons_zero -> bD, take_succ_eq_append_getElem -> aK
open Nat renaming le_refl -> ag, lt_of_lt_of_le -> aB
namespace Hb
open Go Go.RowKit
theorem AU {o x:OpR}:∀{t:List OpR},(∃a∈t,fp o a=true)->kP o (t++[x])=kP o t++[x]
 | [],h=>by obtain ⟨a,f,_⟩:=h;cases f
 | a::t,h=>by
  by_cases c:ke o a<0
  ·rw [ai];unfold kP;rw [if_pos c,if_pos c];rfl
  ·rw [ai];unfold kP;rw [if_neg c,if_neg c]
   rw [AU (t:=t)]
   ·rfl
   ·obtain ⟨b,d,e⟩:=h
    rcases List.mem_cons.1 d with rfl | d
    ·exact absurd ((rq _ _).2 e) c
    ·exact ⟨b,d,e⟩
theorem xZ {o:OpR}:∀{t:List OpR},(∀a∈t,fp o a=false)->kP o t=t++[o]
 | [],_=>rfl
 | a::t,h=>by
  unfold kP
  rw [if_neg (by rw [rq,h a (by simp)];simp),xZ fun b c=>h b (by simp [c])]
  rfl
theorem ya {o x:OpR} (c:fp o x=true):∀{t:List OpR},(∀a∈t,fp o a=false)->kP o (t++[x])=t++[o]++[x]
 | [],_=>by
  show (if ke o x<0 then o::x::[] else x::kP o [])=_
  rw [if_pos ((rq _ _).2 c)];rfl
 | a::t,h=>by
  rw [ai]
  unfold kP
  rw [if_neg (by rw [rq,h a (by simp)];simp),ya c fun b d=>h b (by simp [d])]
  rfl
def jy (o:OpR) (l:List OpR) (k:Nat) (dn:Bool):List OpR:=if dn=true then kP o (l.take k) else l.take k
structure Withs (o:OpR) (l:List OpR) (k:Nat) (dn:Bool):Prop where
 yes:dn=true->∃a∈l.take k,fp o a=true
 no:dn=false->∀a∈l.take k,fp o a=false
theorem Withs.start (o:OpR) (l:List OpR):Withs o l 0 false:=⟨fun h=>by (cases h),fun _ a h=>by simp at h⟩
theorem sn {l:List OpR} {k:Nat} {a:OpR} (b:k<l.length):a∈l.take (k+1)↔a∈l.take k\/a=l[k]:=by
 rw [aK b,List.mem_append,aJ]
theorem Withs.done {o:OpR} {l:List OpR} {k:Nat} (h:Withs o l k true) (d:k<l.length):Withs o l (k+1) true/\jy o l (k+1) true=jy o l k true++[l[k]]:=by
 obtain ⟨a,b,c⟩:=h.yes rfl
 refine ⟨⟨fun _=>⟨a,(sn d).2 (.inl b),c⟩,fun h=>by (cases h)⟩,?_⟩
 unfold jy
 rw [if_pos rfl,if_pos rfl,aK d,AU ⟨a,b,c⟩]
theorem Withs.skip {o:OpR} {l:List OpR} {k:Nat} (h:Withs o l k false) (c:k<l.length) (d:fp o l[k]=false):Withs o l (k+1) false/\jy o l (k+1) false=jy o l k false++[l[k]]:=by
 refine ⟨⟨fun h=>by (cases h),fun _ a b=>?_⟩,?_⟩
 ·rcases (sn c).1 b with b | rfl
  ·exact h.no rfl a b
  ·exact d
 ·unfold jy
  rw [if_neg (by simp),if_neg (by simp),aK c]
theorem Withs.put {o:OpR} {l:List OpR} {k:Nat} (h:Withs o l k false) (b:k<l.length) (a:fp o l[k]=true):Withs o l (k+1) true/\jy o l (k+1) true=jy o l k false++[o]++[l[k]]:=by
 refine ⟨⟨fun _=>⟨_,(sn b).2 (.inr rfl),a⟩,fun h=>by (cases h)⟩,?_⟩
 unfold jy
 rw [if_pos rfl,if_neg (by simp),aK b,ya a (h.no rfl)]
theorem tJ {o:OpR} {l:List OpR} {k:Nat} {dn:Bool} (a:k<=l.length):(jy o l k dn).length<=l.length+1:=by
 unfold jy
 split
 ·rw [Fe,cZ];omega
 ·rw [cZ];omega
theorem vy {w:aj} {a e m:Nat} {v:Value} {l:List OpR} (h:w.ownsRow a e 3 v m (eu l)):w.ownsRow a e 3 v l.length (eu l):=by
 have:=AN h
 rw [this];exact h
end Hb
namespace Go.Proofs.YtgapnafkelokaaaGreatDoor
open Go.RowKit Hb
theorem Ed (A:Option Addr) (n b0:Nat) (l:List OpR) (o:OpR) (w:aj) (hm:n<=400) (hT:Tab w A n b0 l) :
  aG ah 98 #[.slice A n b0,kU o] w fun e w'=>∃t n' x,e=av (.slice t n' x)/\ay w.heap.size w w'/\Tab w' t n' x (kP o l):=by
 obtain ⟨f,a7⟩:∃f,f=w.alloc (.cells #[aa o.name,ab ae o.typ,ab ae o.prec] 80):=⟨_,rfl⟩
 have a0:BoxAt w f o:=by rw [a7];exact BoxAt.start w o 80
 have E:=zq hT.len
 have HP:=zq (hT.ops.below a0.bel)
 have a5:Hid (∀W,ay f.heap.size f W->W.cell? ⟨w.heap.size,0,none⟩=some (aa o.name)/\W.cell? ⟨w.heap.size,1,none⟩=some (ab ae o.typ)/\W.cell? ⟨w.heap.size,2,none⟩=some (ab ae o.prec)/\w.heap.size<W.heap.size):=zq fun W j=>by
  have h:=a0.call j
  exact ⟨h.c0,h.c1,h.c2,h.lt⟩
 have a9:Hid (∀W,ay f.heap.size f W->ay w.heap.size w W):=zq fun W j=>(a0.call j).bel
 have b7:ay f.heap.size f (w.alloc (.cells #[aa o.name,ab ae o.typ,ab ae o.prec] 80)):=by rw [<-a7];exact ak _ _
 have mixed:Tryz.prog.follows Departure.mixedOrders=true:=by kernel_rfl
 have HX:=zq (fun a W=>tv o a W)
 clear hT a0 a7
 unfold kU at *
 go_enter Tryz.func98,Tryz.ntmps98
 go_wp2_with fail
 go_loopw [5,6,7] (fun v d i wr=>∃(k:Nat) (dn:Bool),k<=n/\d=an dn/\i=ab ae k/\ay f.heap.size f wr/\Hid (Withs o l k dn)/\Hid (wr.ownsRow f.heap.size 80 3 v (jy o l k dn).length (eu (jy o l k dn)))) (fun _ _ i _=>n-(intOf i).toNat)
 case atStart=>exact ⟨0,false,Nat.zero_le _,rfl,rfl,b7,zq (Withs.start o l),zq (World.ownsRow_nil _ _ _ _)⟩
 case round=>
  obtain ⟨k,dn,hk,rfl,rfl,j,Z,s⟩:=hrel
  have a2:=j.size
  have M:(jy o l k dn).length<=70368744:=by have:=tJ (o:=o) (l:=l) (k:=k) (dn:=dn) (by have:=E.out;omega);have:=E.out;omega
  by_cases c4:k<n
  ·have a3:k<l.length:=by have:=E.out;omega
   obtain ⟨b,G,rfl,a1,C0,C1,C2⟩:=HP.out k a3
   have U:Hid (∀W,ay f.heap.size f W->W.cell? ⟨b,G+k * 3,none⟩=some (aa l[k].name)/\W.cell? ⟨b,G+k * 3+1,none⟩=some (ab ae l[k].typ)/\W.cell? ⟨b,G+k * 3+2,none⟩=some (ab ae l[k].prec)/\b<W.heap.size):=zq fun W h=>
    ⟨(h.cell (p:=⟨b,_,none⟩) a1).trans C0,(h.cell (p:=⟨b,_,none⟩) a1).trans C1,(h.cell (p:=⟨b,_,none⟩) a1).trans C2,aB a1 h.size⟩
   clear C0 C1 C2
   have V:=zq (fun (h:Withs o l k true)=>h.done a3)
   have X:=zq (fun (h:Withs o l k false) (hb:fp o l[k]=false)=>h.skip a3 hb)
   have Y:=zq (fun (h:Withs o l k false) (hb:fp o l[k]=true)=>h.put a3 hb)
   have b9:(0:Int)<=(k:Int):=by omega
   have c3:(k:Int)<(n:Int):=by omega
   generalize l[k]=a at *
   cases dn
   ·have D:Hid (∀n g,aG ah 42 #[aN #[aa o.name,ab ae o.typ,ab ae o.prec],aN #[aa a.name,ab ae a.typ,ab ae a.prec]] (fb (wr.drewN n) g) fun e w'=>e=av (an (fp o a))/\∃q os',w'=fb ((fb (wr.drewN n) g).drewN q) os'):=zq fun n g=>HX.out a _
    obtain ⟨z0,z1,z2,zl⟩:=a5.out wr j
    obtain ⟨R,S,T,yl⟩:=U.out wr j
    have q0:∀n g,(fb (wr.drewN n) g).cell? ⟨w.heap.size,0,none⟩=some (aa o.name):=cell_grown zl z0
    have q1:∀n g,(fb (wr.drewN n) g).cell? ⟨w.heap.size,1,none⟩=some (ab ae o.typ):=cell_grown zl z1
    have q2:∀n g,(fb (wr.drewN n) g).cell? ⟨w.heap.size,2,none⟩=some (ab ae o.prec):=cell_grown zl z2
    have r0:∀n g,(fb (wr.drewN n) g).cell? ⟨b,G+k * 3,none⟩=some (aa a.name):=cell_grown yl R
    have r1:∀n g,(fb (wr.drewN n) g).cell? ⟨b,G+k * 3+1,none⟩=some (ab ae a.typ):=cell_grown yl S
    have r2:∀n g,(fb (wr.drewN n) g).cell? ⟨b,G+k * 3+2,none⟩=some (ab ae a.prec):=cell_grown yl T
    clear z0 z1 z2 R S T
    cases hbf:fp o a
    ·rw [hbf] at D
     have u:=zq (X.out Z.out hbf)
     clear hbf V X Y
     go_wp2_with fail
     refine wp_region_quiet_grown (by assumption) (by kernel_rfl) ?_
     iterate 8
      with_reducible refine cJ (by kernel_rfl) (fun K c=>?_)
      go_simp
      refine c _ ?_
      clear c K
     with_reducible refine cJ (by kernel_rfl) (fun K c=>?_)
     go_simp
     apply Exists.intro
     refine ⟨fun _=>?_,c _ ?_⟩
     (go_at_call 42;(with_reducible refine Calls.grown_of (D.out _ _)))
     clear c K
     with_reducible refine cJ (by kernel_rfl) (fun K c=>?_)
     go_simp
     refine c _ ?_
     clear c K
     refine wpQuiet_nil ?_
     intro _ N
     obtain ⟨⟨z,B⟩,O⟩:=N
     subst O
     have y:=ru wr z B
     have H:=zq (oh s.out y)
     have r:=j.trans (y.mono a2)
     generalize fb (wr.drewN z) B=Q at *
     clear q0 q1 q2 r0 r1 r2 D
     obtain ⟨R,S,T,_⟩:=U.out Q r
     have L:=r.size
     go_wp2_with ((with_reducible refine ni ?_);go_must (refine gI rfl _ _ rfl f.heap.size _ _ _ rfl _ H.out a rfl rfl M L ?_;intro v1 w7 m C a8))
     have F:=zq m
     clear m
     go_roundw
     case rel=>exact ⟨k+1,false,by omega,rfl,by go_num,r.trans C,zq u.out.1,by rw [u.out.2];exact zq (vy F.out)⟩
     case measure=>simp [intOf] <;> omega
    ·rw [hbf] at D
     have u:=zq (Y.out Z.out hbf)
     clear hbf V X Y
     go_wp2_with fail
     refine wp_region_quiet_grown (by assumption) (by kernel_rfl) ?_
     iterate 8
      with_reducible refine cJ (by kernel_rfl) (fun K c=>?_)
      go_simp
      refine c _ ?_
      clear c K
     with_reducible refine cJ (by kernel_rfl) (fun K c=>?_)
     go_simp
     apply Exists.intro
     refine ⟨fun _=>?_,c _ ?_⟩
     (go_at_call 42;(with_reducible refine Calls.grown_of (D.out _ _)))
     clear c K
     with_reducible refine cJ (by kernel_rfl) (fun K c=>?_)
     go_simp
     refine c _ ?_
     clear c K
     refine wpQuiet_nil ?_
     intro _ N
     obtain ⟨⟨z,B⟩,O⟩:=N
     subst O
     have y:=ru wr z B
     have H:=zq (oh s.out y)
     have r:=j.trans (y.mono a2)
     generalize fb (wr.drewN z) B=Q at *
     clear q0 q1 q2 r0 r1 r2 D
     obtain ⟨z0,z1,z2,_⟩:=a5.out Q r
     have L:=r.size
     have b6:(jy o l k false).length+1<=70368744:=by have:=tJ (o:=o) (l:=l) (k:=k) (dn:=false) (by have:=E.out;omega);have:=E.out;omega
     go_wp2_with (first
      | ((with_reducible refine ni ?_);have _m:=F;refine gI rfl _ _ rfl f.heap.size _ _ _ rfl _ F.out a rfl rfl b6 b5 ?_;intro v2 w8 b1 b4 b8)
      | ((with_reducible refine ni ?_);go_must (refine gI rfl _ _ rfl f.heap.size _ _ _ rfl _ H.out o rfl rfl M L ?_;intro v1 w7 m C a8;have F:=zq m;clear m;have a6:=r.trans C;obtain ⟨R,S,T,_⟩:=U.out w7 a6;have b5:=a6.size)))
     have b3:=zq b1
     clear b1
     go_roundw
     case rel=>exact ⟨k+1,true,by omega,rfl,by go_num,a6.trans b4,zq u.out.1,by rw [u.out.2];exact zq (vy b3.out)⟩
     case measure=>simp [intOf] <;> omega
   ·have u:=zq (V.out Z.out)
    clear V X Y
    go_wp2_with fail
    refine wp_region_quiet_grown (by assumption) (by kernel_rfl) ?_
    iterate 3
     with_reducible refine cJ (by kernel_rfl) (fun K c=>?_)
     go_simp
     refine c _ ?_
     clear c K
    iterate 6
     with_reducible refine iN (by kernel_rfl) ?_
     simp only [Act.put,da,bD,bE]
    with_reducible refine cJ (by kernel_rfl) (fun K c=>?_)
    go_simp
    refine c _ ?_
    clear c K
    refine wpQuiet_nil ?_
    intro _ N
    obtain ⟨⟨z,B⟩,O⟩:=N
    subst O
    have y:=ru wr z B
    have H:=zq (oh s.out y)
    have r:=j.trans (y.mono a2)
    generalize fb (wr.drewN z) B=Q at *
    obtain ⟨R,S,T,_⟩:=U.out Q r
    have L:=r.size
    go_wp2_with ((with_reducible refine ni ?_);go_must (refine gI rfl _ _ rfl f.heap.size _ _ _ rfl _ H.out a rfl rfl M L ?_;intro v1 w7 m C a8))
    have F:=zq m
    clear m
    go_roundw
    case rel=>exact ⟨k+1,true,by omega,rfl,by go_num,r.trans C,zq u.out.1,by rw [u.out.2];exact zq (vy F.out)⟩
    case measure=>simp [intOf] <;> omega
  ·have a4:l.take k=l:=List.take_of_length_le (by have:=E.out;omega)
   cases dn
   ·have b2:Hid (kP o l=l++[o]):=zq (xZ fun a ha=>Z.out.no rfl a (by rw [a4];exact ha))
    have P:jy o l k false=l:=by unfold jy;rw [if_neg (by simp),a4]
    rw [P] at s M
    obtain ⟨z0,z1,z2,_⟩:=a5.out wr j
    clear P
    go_wp2_with ((with_reducible refine ni ?_);go_must (refine gI rfl _ _ rfl f.heap.size _ _ _ rfl _ s.out o rfl rfl M a2 ?_;intro v1 w7 m C a8))
    rw [<-b2.out] at m
    obtain ⟨t,x,rfl⟩:=rZ m
    have I:=zq (Tab.own m)
    have J:=a9.out _ (j.trans C)
    clear m
    go_ret
    first | exact ⟨t,_,x,rfl,J,I.out⟩ | exact ⟨t,_,⟨x,rfl⟩,J,I.out⟩
   ·have P:jy o l k true=kP o l:=by unfold jy;rw [if_pos rfl,a4]
    rw [P] at s
    obtain ⟨t,x,rfl⟩:=rZ s.out
    have I:=zq (Tab.own s.out)
    have J:=a9.out _ j
    clear P s a4
    go_wp2_with fail
    go_ret
    first | exact ⟨t,_,x,rfl,J,I.out⟩ | exact ⟨t,_,⟨x,rfl⟩,J,I.out⟩
end Go.Proofs.YtgapnafkelokaaaGreatDoor
namespace Hb
open Go Go.RowKit
structure BoxG (w:aj) (g:Nat) (o:OpR):Prop where
 lt:g<w.heap.size
 c0:w.cell? ⟨g,0,none⟩=some (aa o.name)
 c1:w.cell? ⟨g,1,none⟩=some (ab ae o.typ)
 c2:w.cell? ⟨g,2,none⟩=some (ab ae o.prec)
theorem BoxG.call {w w':aj} {g:Nat} {o:OpR} (h:BoxG w g o) (a:ay w.heap.size w w'):BoxG w' g o where
 lt:=aB h.lt a.size
 c0:=(a.cell (p:=⟨_,_,none⟩) h.lt).trans h.c0
 c1:=(a.cell (p:=⟨_,_,none⟩) h.lt).trans h.c1
 c2:=(a.cell (p:=⟨_,_,none⟩) h.lt).trans h.c2
theorem BoxG.start (w:aj) (o:OpR) (e:TypeId):BoxG (w.alloc (.cells #[aa o.name,ab ae o.typ,ab ae o.prec] e)) w.heap.size o where
 lt:=by simp
 c0:=aq _ _ _ 0
 c1:=aq _ _ _ 1
 c2:=aq _ _ _ 2
theorem Ct {o:WO} {T:List OpR} {S:Tm->WR} {t:Tm} {op:OpR} (h:t.kind=3):dC o T S t op=brk (S t).1 (decide (fX op<(S t).2.prec)||((op.typ==3||op.typ==7)&&((S t).2.typ==2||(S t).2.typ==4))&&(S t).2.prec==op.prec):=by
 unfold dC;rw [if_pos h]
theorem EZ {o:WO} {T:List OpR} {S:Tm->WR} {t:Tm} {op:OpR} (h:¬t.kind=3):dC o T S t op=bo o T S t (fX op) true:=by
 unfold dC;rw [if_neg h]
end Hb
namespace Go.Proofs.YtgapnafkelokaaaGreatDoor
open Go.RowKit Hb
variable {o:WO} {T:List OpR} {TA:Option Addr} {TN TC:Nat} {S:Tm->WR}
theorem Dn (t:Tm) (op:OpR) (b4:0<=op.prec/\op.prec<=1200) (Y:uF o T TA TN TC S t) (Z:t.kind=3->SOK o T TA TN TC S t) (a3:(S t).1.length<=90000) (A:Option Addr) (j:Nat) (w:aj) (F:Env T TA TN TC w) (G:TmsAt w.heap.size w A t.args) :
  aG ah 171 #[lW o TA TN TC,dR t A j,kU op] w fun e w'=>∃v,e=av v/\ay w.heap.size w w'/\OwnS 9 w.heap.size w' v (dC o T S t op):=by
 obtain ⟨p,m⟩:=lz (t.args.length)
 have L:=Fr2.start w o TA TN TC t A j p 67 24 m.out
 have H:=L.call ((ak _ _).alloc (ag _) (.cells #[aa op.name,ab ae op.typ,ab ae op.prec] 80))
 have a4:((w.alloc (.cells #[an o.q,an o.ig,an o.nu,.slice TA TN TC] 67)).alloc (.cells #[ab ae t.kind,ab ae t.num,aa t.name,.slice A p j] 24)).heap.size=w.heap.size+2:=by simp
 have P:BoxG (((w.alloc (.cells #[an o.q,an o.ig,an o.nu,.slice TA TN TC] 67)).alloc (.cells #[ab ae t.kind,ab ae t.num,aa t.name,.slice A p j] 24)).alloc (.cells #[aa op.name,ab ae op.typ,ab ae op.prec] 80)) (w.heap.size+2) op:=by
  have:=BoxG.start ((w.alloc (.cells #[an o.q,an o.ig,an o.nu,.slice TA TN TC] 67)).alloc (.cells #[ab ae t.kind,ab ae t.num,aa t.name,.slice A p j] 24)) op 80
  rw [a4] at this;exact this
 have K:=zq H
 have HG:=zq P
 have b2:=H.bel
 have J:=zq (fun W=>lJ op W (by omega))
 have D:=zq (fun W (h:ay w.heap.size w W)=>Y (fX op) true A j W (F.below h) ((G.keep h).mono h.size))
 have n:=zq (fun (h3:t.kind=3) W (h:ay w.heap.size w W)=>Z h3 A j W (F.below h) ((G.keep h).mono h.size))
 have B:=zq (Ct (o:=o) (T:=T) (S:=S) (t:=t) (op:=op))
 have z:=zq (EZ (o:=o) (T:=T) (S:=S) (t:=t) (op:=op))
 have HK:=zq a3
 clear F G Y Z a3 H P L a4
 unfold dR lW kU at *
 rw [<-m.out] at D n |-
 by_cases l:t.kind=3
 ·have C:=zq (B.out l)
  have a8:=zq (n.out l)
  have b3:(t.kind==3)=true:=by simp [l]
  clear B z n D l
  generalize fX op=sl at *
  generalize dv op=sr at *
  generalize hx:(S t).2=x at *
  go_enter Tryz.func171,Tryz.ntmps171
  go_wp2_with fail
  refine (J.out _).mono ?_;rintro e w1 ⟨rfl,s⟩
  have a:=K.out.call s
  have Q:=HG.out.call s
  have d:=a.bel
  have M:=a.tb.c0
  have N:=a.tb.c1
  have O:=a.tb.c2
  have r:=a.tb.c3
  have x0:=a.wb.c0
  have x1:=a.wb.c1
  have x2:=a.wb.c2
  have x3:=a.wb.c3
  rw [<-m.out] at r
  go_wp2_with fail
  refine (a8.out _ d).mono ?_;rintro e i ⟨c,g,f,rfl,u,k⟩
  have R:=Q.call u
  have y:=d.trans (u.mono d.size)
  have U:=R.call ((ak _ _).alloc (ag _) (.cells #[.slice c g f,aa x.name,ab ae x.typ,ab ae x.prec] 138))
  have V:=k.below ((ak _ _).alloc (ag _) (.cells #[.slice c g f,aa x.name,ab ae x.typ,ab ae x.prec] 138))
  have I:=y.alloc y.size (.cells #[.slice c g f,aa x.name,ab ae x.typ,ab ae x.prec] 138)
  have a5:=zq (fun (b:Bool)=>lu b _ _ (S t).1 _ (by have:=HK.out;omega) (V.mono d.size) I.size)
  have a0:=aq i #[.slice c g f,aa x.name,ab ae x.typ,ab ae x.prec] 138 0
  have b0:=aq i #[.slice c g f,aa x.name,ab ae x.typ,ab ae x.prec] 138 1
  have a1:=aq i #[.slice c g f,aa x.name,ab ae x.typ,ab ae x.prec] 138 2
  have a2:=aq i #[.slice c g f,aa x.name,ab ae x.typ,ab ae x.prec] 138 3
  clear k V M N O r x0 x1 x2 x3 a Q R
  go_upto_region 5 with fail
  generalize i.alloc (.cells #[.slice c g f,aa x.name,ab ae x.typ,ab ae x.prec] 138)=E at *
  have g1:=U.c1
  have g2:=U.c2
  replace a0:E.cell? ⟨i.heap.size,0,none⟩=some (.slice c g f):=a0
  replace a1:E.cell? ⟨i.heap.size,2,none⟩=some (ab ae x.typ):=a1
  replace a2:E.cell? ⟨i.heap.size,3,none⟩=some (ab ae x.prec):=a2
  clear b0
  go_wp2_with fail
  all_goals
   refine (a5.out _).mono ?_;rintro e w4 ⟨v4,rfl,a9,X⟩
   have b1:=I.trans (a9.mono I.size)
   have a7:=zq X
   clear X
   go_wp2_with fail
   go_ret
   refine ⟨v4,rfl,b1,?_⟩
   rw [C.out]
   have:=a7.out
   (first | exact this | (refine Eq.mp (congrArg (fun b=>OwnS _ _ _ _ (brk (S t).1 b)) ?_) this;grind))
 ·have C:=zq (z.out l)
  clear B z n
  generalize fX op=sl at *
  generalize dv op=sr at *
  go_enter Tryz.func171,Tryz.ntmps171
  go_wp2_with fail
  refine (J.out _).mono ?_;rintro e w1 ⟨rfl,s⟩
  have a:=K.out.call s
  have d:=a.bel
  have M:=a.tb.c0
  have N:=a.tb.c1
  have O:=a.tb.c2
  have r:=a.tb.c3
  have x0:=a.wb.c0
  have x1:=a.wb.c1
  have x2:=a.wb.c2
  have x3:=a.wb.c3
  rw [<-m.out] at r
  go_wp2_with fail
  refine (D.out _ d).mono ?_;rintro e i ⟨v2,rfl,u,k⟩
  have y:=d.trans (u.mono d.size)
  have a6:=zq k
  clear k
  go_wp2_with fail
  go_ret
  exact ⟨v2,rfl,y,by rw [C.out];exact a6.out.mono d.size⟩
end Go.Proofs.YtgapnafkelokaaaGreatDoor
namespace Hb
open Go Go.RowKit
theorem sF {T:List OpR} {s:ByteArray} {c:Int} (h:has T s c=true):1<=(cQ T s c).prec/\(cQ T s c).prec<=1200:=by
 unfold has at h
 unfold cQ
 obtain ⟨p,a⟩:=Option.isSome_iff_exists.1 h
 rw [a]
 unfold dt at a
 split at a
 ·rename_i e
  have d:=List.mem_of_find?_eq_some a
  have b:=pG e p d
  show 1<=p.prec/\p.prec<=1200
  unfold oj at b
  grind
 ·cases a
theorem Only.grown {g:Nat} {a b c:aj} {row:Option Nat} (h:Only g a b) (d:b.grownBy c row) (j:∀k,row=some k->a.heap.size<=k):Only g a c :=
 ⟨d.os.trans h.os,d.tape.trans h.tape,d.output.trans h.output,Nat.le_trans h.size d.size,fun k f i=>(d.block k (aB f h.size) (fun e=>by have:=j k e.symm;omega)).trans (h.block k f i)⟩
theorem Only.put4 {g:Nat} {a b:aj} (h:Only g a b) (x y z u:Value):Only g a ((((b.setCell ⟨g,0,none⟩ x).setCell ⟨g,1,none⟩ y).setCell ⟨g,2,none⟩ z).setCell ⟨g,3,none⟩ u) :=
 (((h.trans (Only.set g 0 _ x)).trans (Only.set g 1 _ y)).trans (Only.set g 2 _ z)).trans (Only.set g 3 _ u)
structure RegH (g:Nat) (wR w:aj):Prop where
 on:Only g wR w
 rb:RBx w g
theorem RegH.call {g:Nat} {b w w':aj} (h:RegH g b w) (a:ay w.heap.size w w'):RegH g b w':=⟨h.on.trans (Only.of a),h.rb.call a⟩
theorem RegH.drew {g:Nat} {a w:aj} (h:RegH g a w):RegH g a w.drew:=h.call (ak _ _).drew
theorem RegH.alloc {g:Nat} {a w:aj} (h:RegH g a w) (o:Obj):RegH g a (w.alloc o):=h.call ((ak _ _).alloc (ag _) o)
theorem RegH.grown {g:Nat} {c w w':aj} {row:Option Nat} (h:RegH g c w) (b:w.grownBy w' row) (f:∀k,row=some k->c.heap.size<=k) (i:g<c.heap.size):RegH g c w':=by
 have d:some g≠row:=fun e=>by have:=f g e.symm;omega
 have a:∀k,w'.cell? ⟨g,k,none⟩=w.cell? ⟨g,k,none⟩/\w'.frozen? ⟨g,k,none⟩=w.frozen? ⟨g,k,none⟩:=fun k=>⟨b.cell_far ⟨g,k,none⟩ h.rb.lt d,b.frozen_far ⟨g,k,none⟩ h.rb.lt d⟩
 exact ⟨h.on.grown b f,aB h.rb.lt b.size,h.rb.r0.imp fun _ k=>(a _).1.trans k,h.rb.r1.imp fun _ k=>(a _).1.trans k,h.rb.r2.imp fun _ k=>(a _).1.trans k,h.rb.r3.imp fun _ k=>(a _).1.trans k,fun o=>(a _).2.trans (h.rb.rf o)⟩
theorem RBx.put4 {w:aj} {g:Nat} (h:RBx w g) (x y z u:Value):RBx ((((w.setCell ⟨g,0,none⟩ x).setCell ⟨g,1,none⟩ y).setCell ⟨g,2,none⟩ z).setCell ⟨g,3,none⟩ u) g:=by
 obtain ⟨u0,f⟩:=h.r0
 obtain ⟨u1,i⟩:=h.r1
 obtain ⟨u2,j⟩:=h.r2
 obtain ⟨u3,k⟩:=h.r3
 obtain ⟨a,b,c,d,e⟩:=oa w g x y z u f i j k _ rfl
 exact ⟨by rw [ec];exact h.lt,⟨_,a⟩,⟨_,b⟩,⟨_,c⟩,⟨_,d⟩,fun o=>(e _).trans (h.rf o)⟩
theorem RegH.put4 {g:Nat} {a w:aj} (h:RegH g a w) (x y z u:Value):RegH g a ((((w.setCell ⟨g,0,none⟩ x).setCell ⟨g,1,none⟩ y).setCell ⟨g,2,none⟩ z).setCell ⟨g,3,none⟩ u):=⟨h.on.put4 x y z u,h.rb.put4 x y z u⟩
def iJ (o:WO) (T:List OpR) (t:Tm):Bool:=!o.ig&&(has T t.name 3&&t.args.length==1)
def jY (o:WO) (T:List OpR) (S:Tm->WR) (t:Tm):WR:=if iJ o T t=true then (dC o T S (t.arg 0) (cQ T t.name 3)++[jo o t.name],cQ T t.name 3) else ([],op0)
theorem wY {o:WO} {T:List OpR} {S:Tm->WR} {t:Tm} (h:iJ o T t=false):jY o T S t=([],op0):=by unfold jY;rw [h];rfl
theorem uS {o:WO} {T:List OpR} {S:Tm->WR} {t:Tm} (h:iJ o T t=true):jY o T S t=(dC o T S (t.arg 0) (cQ T t.name 3)++[jo o t.name],cQ T t.name 3):=by unfold jY;rw [if_pos h]
end Hb
namespace Go.Proofs.YtgapnafkelokaaaGreatDoor
open Go.RowKit Hb
variable {o:WO} {T:List OpR} {TA:Option Addr} {TN TC:Nat} {S:Tm->WR}
theorem Bj (t:Tm) (h6:t.name.size<=100) (c9:t.args.length=1->uF o T TA TN TC S (t.arg 0)) (d0:t.args.length=1->(t.arg 0).kind=3->SOK o T TA TN TC S (t.arg 0)) (g3:(S (t.arg 0)).1.length<=80000) (d3:∀op,(dC o T S (t.arg 0) op).length<=80000) (A:Option Addr) (M:Nat) (w:aj) (G:Env T TA TN TC w) (hT:TmsAt w.heap.size w A t.args) :
  aG ah 132 #[lW o TA TN TC,dR t A M] w fun e w'=>∃l n' c',e=av (we l n' c' (jY o T S t).2 (iJ o T t))/\ay w.heap.size w w'/\OwnS 9 w.heap.size w' (.slice l n' c') (jY o T S t).1:=by
 obtain ⟨i,hi,e4,e5,e6⟩:=info_parts eA
 have HI:=zq hi
 have c5:=zq e4
 have c7:=zq e5
 have c8:=zq e6
 clear hi e4 e5 e6
 obtain ⟨D,r⟩:=lz (t.args.length)
 have HX:=zq (Fr3.start w o TA TN TC t A M D 67 24 138 r.out (.slice none 0 0) (aa ⟨#[]⟩) (ab ae 0) (ab ae 0))
 have a5:=HX.out.f2.bel
 have J:Hid (iJ o T t=(!o.ig&&(has T t.name 3&&t.args.length==1))):=zq rfl
 have L:=zq (fun W (h:ay w.heap.size w W)=>lk TA TN TC T t.name W G.tab.len G.few (G.tab.below h).ops)
 have a9:=zq (fun W (h:ay w.heap.size w W)=>ry o TA TN TC t.name W (by omega) (G.door.below h))
 have a7:=zq (fun (h1:D=1) (op:OpR) (g4:0<=op.prec/\op.prec<=1200) l E W (h:ay w.heap.size w W) (h2:TmsAt w.heap.size w l (t.arg 0).args)=>Dn (t.arg 0) op g4 (c9 (by rw [<-r.out];exact h1)) (d0 (by rw [<-r.out];exact h1)) (by omega) l E W (G.below h) ((h2.keep h).mono h.size))
 have a6:=zq (fun (h:D=1)=>hT.get 0 (by rw [<-r.out,h];decide))
 have a4:=zq (fun (h:D=1)=>Tm.arg_get t 0 (by rw [<-r.out,h];decide))
 have a0:=zq d3
 have b1:=zq (sF (T:=T) (s:=t.name) (c:=3))
 have HY:=zq (uS (o:=o) (T:=T) (S:=S) (t:=t))
 have b0:=zq (wY (o:=o) (T:=T) (S:=S) (t:=t))
 have b8:Hid ((dt T t.name 3).isSome=has T t.name 3):=zq rfl
 have b7:Hid ((dt T t.name 3).getD op0=cQ T t.name 3):=zq rfl
 rw [b8.out,b7.out] at L
 clear hT G c9 d0 g3 d3 b8 b7
 unfold dR lW we kU at *
 rw [<-r.out] at J |-
 have g1:(iJ o T t=false/\(o.ig=true\/has T t.name 3=false\/¬D=1))\/(o.ig=false/\has T t.name 3=true/\D=1):=by
  rw [J.out]
  cases o.ig <;> cases has T t.name 3 <;> by_cases h:D=1 <;> simp [h]
 rcases g1 with ⟨b3,g7⟩ | ⟨U,a2,hl⟩
 ·rw [b3,b0.out b3]
  clear J a7 a6 a4 a0 b1 HY b0 a9 b3 HI c5 c7 c8
  generalize has T t.name 3=hs at *
  generalize cQ T t.name 3=op at *
  rcases g7 with V | V | V
  all_goals
   have f7:=zq V
   clear V
   go_enter Tryz.func132,Tryz.ntmps132
   go_wp2_with fail
   refine (L.out _ a5).mono ?_;rintro e j ⟨rfl,b2⟩
   have a:=HX.out.call b2
   have n:=a.call ((ak _ _).alloc (ag _) (.cells #[aa op.name,ab ae op.typ,ab ae op.prec] 80))
   have y1:=n.f2.wb.c1
   have y3:=n.f2.tb.c3
   rw [<-r.out] at y3
   obtain ⟨u0,r0⟩:=a.rb.r0
   obtain ⟨u1,r1⟩:=a.rb.r1
   obtain ⟨u2,r2⟩:=a.rb.r2
   obtain ⟨u3,r3⟩:=a.rb.r3
   have f0:=a.rb.rf 0
   have f1:=a.rb.rf 1
   have f2:=a.rb.rf 2
   have f3:=a.rb.rf 3
   have d4:=a.rb.lt
   have d1:=a.f2.bel
   clear a n
   have V:=f7.out
   go_wp2_with fail
   all_goals
    refine bodyPost_ret (v:=.tuple #[aN #[.slice none 0 0,aa ⟨#[]⟩,ab ae 0,ab ae 0],an false]) (by simp [results,Tryz.results132,go_sem,r0,r1,r2,r3,d4]) rfl ⟨none,0,0,rfl,(cM d1 _ (by omega) _ _ _ _).alloc (by rw [ec];exact d1.size) _,OwnS.nil _ _ _⟩
 ·have b4:iJ o T t=true:=by rw [J.out,U,a2,hl];rfl
  rw [b4,HY.out b4]
  subst hl
  obtain ⟨b,d,l,E,rfl,hb,N,O,P,Q,d8⟩:=a6.out rfl
  have h0:0<t.args.length:=by have:=r.out;omega
  have b5:=zq (a4.out rfl)
  have g5:=b1.out a2
  have Z:=zq (a7.out rfl (cQ T t.name 3) (by omega) l E)
  rw [b5.out] at Z a0 |-
  rw [a2] at L
  rw [Nat.zero_mul,Nat.add_zero] at N O P Q
  have f5:=zq d8
  have b6:=zq (⟨N,O,P,Q⟩:_/\_/\_/\_)
  have e8:=zq U
  clear J a7 a6 a4 b1 HY b0 b4 a2 g5 U d8 N O P Q b5
  generalize cQ T t.name 3=op at *
  generalize t.args[0]=x at *
  obtain ⟨B,a8⟩:=lz (dC o T S x op)
  have h5:B.length<=80000:=by rw [a8.out];exact a0.out op
  rw [<-a8.out] at Z |-
  clear a0 a8
  go_enter Tryz.func132,Tryz.ntmps132
  go_wp2_with fail
  refine (L.out _ a5).mono ?_;rintro e j ⟨rfl,b2⟩
  have a:=HX.out.call b2
  have n:=a.call ((ak _ _).alloc (ag _) (.cells #[aa op.name,ab ae op.typ,ab ae op.prec] 80))
  have R:=n.f2.bel
  have H:=BoxG.start j op 80
  have y1:=n.f2.wb.c1
  have y3:=n.f2.tb.c3
  rw [<-r.out] at y3
  have U:=e8.out
  go_upto_region 4 with fail
  generalize j.alloc (.cells #[aa op.name,ab ae op.typ,ab ae op.prec] 80)=f at *
  have d4:=a.rb.lt
  have d5:=n.rb.lt
  have K:Hid (∀X,RegH (w.heap.size+2) f X->X.cell? ⟨w.heap.size,0,none⟩=some (an o.q)/\X.cell? ⟨w.heap.size,1,none⟩=some (an o.ig)/\X.cell? ⟨w.heap.size,2,none⟩=some (an o.nu)/\X.cell? ⟨w.heap.size,3,none⟩=some (.slice TA TN TC)/\X.cell? ⟨w.heap.size+1,2,none⟩=some (aa t.name)/\X.cell? ⟨w.heap.size+1,3,none⟩=some (.slice (some ⟨b,d,none⟩) 1 M)/\X.cell? ⟨b,d,none⟩=some (ab ae x.kind)/\X.cell? ⟨b,d+1,none⟩=some (ab ae x.num)/\X.cell? ⟨b,d+2,none⟩=some (aa x.name)/\X.cell? ⟨b,d+3,none⟩=some (.slice l x.args.length E)/\X.cell? ⟨j.heap.size,0,none⟩=some (aa op.name)/\X.cell? ⟨j.heap.size,1,none⟩=some (ab ae op.typ)/\X.cell? ⟨j.heap.size,2,none⟩=some (ab ae op.prec)/\RegH (w.heap.size+2) f X):=zq (fun X h=>by
   have z:∀g k,g<f.heap.size->g≠w.heap.size+2->X.cell? ⟨g,k,none⟩=f.cell? ⟨g,k,none⟩:=fun g k h1 h2=>h.on.cell (p:=⟨g,k,none⟩) h1 h2
   have C:=n.f2.wb
   have a3:=n.f2.tb
   obtain ⟨N,O,P,Q⟩:=b6.out
   have I:∀k,X.cell? ⟨b,k,none⟩=w.cell? ⟨b,k,none⟩:=fun k=>(z b k (aB hb R.size) (by omega)).trans (R.cell (p:=⟨b,k,none⟩) hb)
   have h3:=a3.c3
   rw [<-r.out] at h3
   exact ⟨(z _ _ C.lt (by omega)).trans C.c0,(z _ _ C.lt (by omega)).trans C.c1,(z _ _ C.lt (by omega)).trans C.c2,(z _ _ C.lt (by omega)).trans C.c3,(z _ _ a3.lt (by omega)).trans a3.c2,(z _ _ a3.lt (by omega)).trans h3,(I _).trans N,(I _).trans O,(I _).trans P,(I _).trans Q,(z _ _ H.lt (by omega)).trans H.c0,(z _ _ H.lt (by omega)).trans H.c1,(z _ _ H.lt (by omega)).trans H.c2,h⟩)
  have F:Hid (∀X,(X.cell? ⟨w.heap.size,0,none⟩=some (an o.q)/\X.cell? ⟨w.heap.size,1,none⟩=some (an o.ig)/\X.cell? ⟨w.heap.size,2,none⟩=some (an o.nu)/\X.cell? ⟨w.heap.size,3,none⟩=some (.slice TA TN TC)/\X.cell? ⟨w.heap.size+1,2,none⟩=some (aa t.name)/\X.cell? ⟨w.heap.size+1,3,none⟩=some (.slice (some ⟨b,d,none⟩) 1 M)/\X.cell? ⟨b,d,none⟩=some (ab ae x.kind)/\X.cell? ⟨b,d+1,none⟩=some (ab ae x.num)/\X.cell? ⟨b,d+2,none⟩=some (aa x.name)/\X.cell? ⟨b,d+3,none⟩=some (.slice l x.args.length E)/\X.cell? ⟨j.heap.size,0,none⟩=some (aa op.name)/\X.cell? ⟨j.heap.size,1,none⟩=some (ab ae op.typ)/\X.cell? ⟨j.heap.size,2,none⟩=some (ab ae op.prec)/\RegH (w.heap.size+2) f X)->RegH (w.heap.size+2) f X):=zq (fun X h=>h.2.2.2.2.2.2.2.2.2.2.2.2.2)
  have f6:Hid (RegH (w.heap.size+2) f f.drew):=zq (RegH.drew ⟨Only.refl _ _,n.rb⟩)
  have a1:∀X,RegH (w.heap.size+2) f X->ay w.heap.size w X:=fun X h=>R.trans (h.on.below (by omega) R.size)
  have e7:=zq a1
  have e9:Hid (∀X,RegH (w.heap.size+2) f X->aG ah 171 #[aN #[an o.q,an o.ig,an o.nu,.slice TA TN TC],aN #[ab ae x.kind,ab ae x.num,aa x.name,.slice l x.args.length E],aN #[aa op.name,ab ae op.typ,ab ae op.prec]] X fun e w'=>∃v,e=av v/\ay X.heap.size X w'/\OwnS 9 f.heap.size w' v B) :=
   zq (fun X h=>(Z.out X (a1 X h) f5.out).mono fun _ _ ⟨v,I,hB,hO⟩=>⟨v,I,hB,hO.mono h.on.size⟩)
  have c4:=zq (fun X h=>a9.out X (a1 X h))
  obtain ⟨Y,b9⟩:=lz (jo o t.name)
  rw [<-b9.out] at c4
  clear U y1 y3 a1 Z a9 L HX a5 b6 a
  go_region_held3 (fun w'=>w'.cell? ⟨w.heap.size,0,none⟩=some (an o.q)/\w'.cell? ⟨w.heap.size,1,none⟩=some (an o.ig)/\w'.cell? ⟨w.heap.size,2,none⟩=some (an o.nu)/\w'.cell? ⟨w.heap.size,3,none⟩=some (.slice TA TN TC)/\w'.cell? ⟨w.heap.size+1,2,none⟩=some (aa t.name)/\w'.cell? ⟨w.heap.size+1,3,none⟩=some (.slice (some ⟨b,d,none⟩) 1 M)/\w'.cell? ⟨b,d,none⟩=some (ab ae x.kind)/\w'.cell? ⟨b,d+1,none⟩=some (ab ae x.num)/\w'.cell? ⟨b,d+2,none⟩=some (aa x.name)/\w'.cell? ⟨b,d+3,none⟩=some (.slice l x.args.length E)/\w'.cell? ⟨j.heap.size,0,none⟩=some (aa op.name)/\w'.cell? ⟨j.heap.size,1,none⟩=some (ab ae op.typ)/\w'.cell? ⟨j.heap.size,2,none⟩=some (ab ae op.prec)/\RegH (w.heap.size+2) f w')
   (first
    | with_reducible exact K.out _ f6.out
    | with_reducible exact K.out _ (RegH.call (F.out _ (by with_reducible assumption)) (by with_reducible assumption))
    | with_reducible exact K.out _ y
    | with_reducible exact K.out _ (RegH.alloc (F.out _ (by with_reducible assumption)) _)
    | with_reducible exact K.out _ (RegH.put4 (F.out _ (by with_reducible assumption)) _ _ _ _))
   (first
    | (go_at_call 171;(with_reducible refine (e9.out _ (F.out _ (by with_reducible assumption))).mono ?_);rintro e w4 ⟨v4,rfl,g8,f9⟩)
    | (go_at_call 83;(with_reducible refine (c4.out _ (F.out _ (by with_reducible assumption))).mono ?_);rintro e w5 ⟨rfl,f8⟩;have g0:=f9.below f8)
    | (have d9:=g0.alloc (.cells #[aa Y] 9);have d7:=F.out (w5.alloc (.cells #[aa Y] 9)) (by with_reducible assumption);refine step_append_lies _ (by rfl) _ _ 28 (by rfl) f.heap.size 9 i _ 1 16 Tryz.underlying28 HI.out c5.out c7.out c8.out (by rfl) (by decide) v4 B.length (B.map Value.string) (by rfl) d9 ⟨w5.heap.size,0,none⟩ 1 1 [aa Y] (by rfl) (by rfl) (World.news_of_block (heap_alloc_new w5 _)) (by intro u hu;rw [aJ] at hu;subst hu;rfl) (by decide) (by unfold maxLen;omega) (by omega) d7.on.size (w5.heap.size+1) (by simp) ?_;intro g6 c6 w6 d6 d2 g9 h4;have y:RegH (w.heap.size+2) f w6:=d7.grown d2 (fun k hk=>(d9.lt k hk).1) d5;obtain ⟨u0,r0⟩:=y.rb.r0;obtain ⟨u1,r1⟩:=y.rb.r1;obtain ⟨u2,r2⟩:=y.rb.r2;obtain ⟨u3,r3⟩:=y.rb.r3;have f0:=y.rb.rf 0;have f1:=y.rb.rf 1;have f2:=y.rb.rf 2;have f3:=y.rb.rf 3)
    | fail)
  have g2:=cM (e7.out w6 y) (w.heap.size+2) (by omega) (.slice (some ⟨g6,0,none⟩) (B.length+1) c6) (aa op.name) (ab ae op.typ) (ab ae op.prec)
  have f4:Hid (OwnS 9 f.heap.size w6 (.slice (some ⟨g6,0,none⟩) (B.length+1) c6) (B++[Y])):=zq (OwnS.snoc (m:=[Y]) d6)
  clear d6 d2
  go_wp2_with fail
  refine bodyPost_ret (v:=.tuple #[aN #[.slice (some ⟨g6,0,none⟩) (B.length+1) c6,aa op.name,ab ae op.typ,ab ae op.prec],an true]) (by simp [results,Tryz.results132,go_sem,r0,r1,r2,r3]) rfl ⟨_,_,_,rfl,g2,?_⟩
  rw [<-b9.out]
  exact (f4.out.put4 d5 _ _ _ _).mono R.size
end Go.Proofs.YtgapnafkelokaaaGreatDoor
