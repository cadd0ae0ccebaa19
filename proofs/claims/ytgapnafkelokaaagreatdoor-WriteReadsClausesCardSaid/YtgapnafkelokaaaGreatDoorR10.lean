/- Parts of the proof. -/
import Derived.Test.YtgapnafkelokaaaGreatDoorR01
import Derived.Test.YtgapnafkelokaaaGreatDoorR09
set_option maxHeartbeats 12800000
set_option maxRecDepth 100000
open Bool renaming and_eq_true -> aE
open Go renaming Calls -> aG, Value -> aA, World -> aj, bodyPost_ret -> aw, maxLen -> bc, step_append_lies -> bZ
open Go.Ending renaming returned -> av
open Go.Instr renaming index -> fo
open Go.IntKind renaming i64 -> ae
open Go.Proofs.Tryz renaming prog -> ah, results85 -> gP, underlying172 -> fS, underlying28 -> aS
open Go.RowKit renaming Below -> ay
open Go.RowKit.Below renaming refl -> ak
open Go.Value renaming agg -> aN, bool -> an, int -> ab, pointer -> ax, string -> aM, string -> aa, tuple -> aF
open List renaming all_eq_true -> bh, flatMap_cons -> gz, getD_eq_getElem?_getD -> aR, getElem?_eq_none -> ed, getElem_mem -> aQ, length_append -> aC, length_cons -> be, length_map -> bm, length_nil -> dm, map_cons -> bR, mem_cons -> bi, mem_cons_of_mem -> ba, mem_cons_self -> aY, sum_cons -> gE
open Nat renaming le_refl -> ag, le_trans -> aH
namespace Hb
open Go Go.RowKit
def iE (o:WO) (t:Tm):Bool:=!o.ig&&(t.isNm [123,125]&&t.args.length==1)
def li (o:WO) (T:List OpR) (S:Tm->WR) (t:Tm):WR:=if iE o t=true then (s1 123::(bo o T S (t.arg 0) 1200 false++[s1 125]),op0) else ([],op0)
theorem yU {o:WO} {T:List OpR} {S:Tm->WR} {t:Tm} (h:iE o t=false):li o T S t=([],op0):=by unfold li;rw [h];rfl
theorem wZ {o:WO} {T:List OpR} {S:Tm->WR} {t:Tm} (h:iE o t=true):li o T S t=(s1 123::(bo o T S (t.arg 0) 1200 false++[s1 125]),op0):=by unfold li;rw [if_pos h]
end Hb
namespace Go.Proofs.YtgapnafkelokaaaGreatDoor
open Go.RowKit Hb
variable {o:WO} {T:List OpR} {TA:Option Addr} {TN TC:Nat} {S:Tm->WR}
def iz (k:FuncId) (args:Array aA) (w:aj) (l:List ByteArray) (p:OpR) (a:Bool):Prop :=
 aG ah k args w fun e w'=>∃A' n' c',e=av (we A' n' c' p a)/\ay w.heap.size w w'/\OwnS 9 w.heap.size w' (.slice A' n' c') l
theorem FZ (t:Tm) (A:Option Addr) (h j i:Nat) (w:aj) (l:List ByteArray) (p:OpR) (bb:Bool) (m:∀W,ay w.heap.size w W->iz 123 #[lW o TA TN TC,dR t A h] W l p bb) (c:WBox w j o TA TN TC) (b:TBx w i t A h) :
  iz 122 #[ax (some ⟨j,0,none⟩),ax (some ⟨i,0,none⟩)] w l p bb:=by
 have u:=RBx.start w (.slice none 0 0) (aa ⟨#[]⟩) (ab ae 0) (ab ae 0) 138
 have d:=(ak w.heap.size w).alloc (ag _) (.cells #[.slice none 0 0,aa ⟨#[]⟩,ab ae 0,ab ae 0] 138)
 have r:=zq (m _ d)
 have D:=c.c0
 have E:=c.c1
 have F:=c.c2
 have G:=c.c3
 have H:=b.c0
 have I:=b.c1
 have J:=b.c2
 have K:=b.c3
 have T:=c.lt
 have S:=b.lt
 clear m
 unfold iz dR lW we at *
 generalize t.kind=a0 at *
 generalize t.num=L at *
 generalize t.name=M at *
 generalize t.args.length=N at *
 go_enter Tryz.func122,Tryz.ntmps122
 go_wp2_with fail
 refine r.out.mono ?_;rintro e U ⟨f,q,g,rfl,k,n⟩
 have a:=u.call k
 have x:=d.trans (k.mono d.size)
 have s:=zq n
 obtain ⟨u0,y⟩:=a.r0
 obtain ⟨u1,z⟩:=a.r1
 obtain ⟨u2,B⟩:=a.r2
 obtain ⟨u3,C⟩:=a.r3
 have O:=a.rf 0
 have P:=a.rf 1
 have Q:=a.rf 2
 have R:=a.rf 3
 clear n D E F G H I J K
 go_wp2_with fail
 refine aw (v:=aF #[aN #[.slice f q g,aa p.name,ab ae p.typ,ab ae p.prec],an bb]) (by simp [results,Tryz.results122,go_sem,y,z,B,C]) rfl ⟨f,q,g,rfl,cM x _ (ag _) _ _ _ _,?_⟩
 exact (s.out.put4 (by simp) _ _ _ _).mono d.size
theorem FY (t:Tm) (A:Option Addr) (h j i:Nat) (w:aj) (l:List ByteArray) (p:OpR) (bb:Bool) (m:∀W,ay w.heap.size w W->iz 125 #[lW o TA TN TC,dR t A h] W l p bb) (c:WBox w j o TA TN TC) (b:TBx w i t A h) :
  iz 124 #[ax (some ⟨j,0,none⟩),ax (some ⟨i,0,none⟩)] w l p bb:=by
 have u:=RBx.start w (.slice none 0 0) (aa ⟨#[]⟩) (ab ae 0) (ab ae 0) 138
 have d:=(ak w.heap.size w).alloc (ag _) (.cells #[.slice none 0 0,aa ⟨#[]⟩,ab ae 0,ab ae 0] 138)
 have r:=zq (m _ d)
 have D:=c.c0
 have E:=c.c1
 have F:=c.c2
 have G:=c.c3
 have H:=b.c0
 have I:=b.c1
 have J:=b.c2
 have K:=b.c3
 have T:=c.lt
 have S:=b.lt
 clear m
 unfold iz dR lW we at *
 generalize t.kind=a0 at *
 generalize t.num=L at *
 generalize t.name=M at *
 generalize t.args.length=N at *
 go_enter Tryz.func124,Tryz.ntmps124
 go_wp2_with fail
 refine r.out.mono ?_;rintro e U ⟨f,q,g,rfl,k,n⟩
 have a:=u.call k
 have x:=d.trans (k.mono d.size)
 have s:=zq n
 obtain ⟨u0,y⟩:=a.r0
 obtain ⟨u1,z⟩:=a.r1
 obtain ⟨u2,B⟩:=a.r2
 obtain ⟨u3,C⟩:=a.r3
 have O:=a.rf 0
 have P:=a.rf 1
 have Q:=a.rf 2
 have R:=a.rf 3
 clear n D E F G H I J K
 go_wp2_with fail
 refine aw (v:=aF #[aN #[.slice f q g,aa p.name,ab ae p.typ,ab ae p.prec],an bb]) (by simp [results,Tryz.results124,go_sem,y,z,B,C]) rfl ⟨f,q,g,rfl,cM x _ (ag _) _ _ _ _,?_⟩
 exact (s.out.put4 (by simp) _ _ _ _).mono d.size
theorem FW (t:Tm) (A:Option Addr) (h j i:Nat) (w:aj) (l:List ByteArray) (p:OpR) (bb:Bool) (m:∀W,ay w.heap.size w W->iz 128 #[lW o TA TN TC,dR t A h] W l p bb) (c:WBox w j o TA TN TC) (b:TBx w i t A h) :
  iz 127 #[ax (some ⟨j,0,none⟩),ax (some ⟨i,0,none⟩)] w l p bb:=by
 have u:=RBx.start w (.slice none 0 0) (aa ⟨#[]⟩) (ab ae 0) (ab ae 0) 138
 have d:=(ak w.heap.size w).alloc (ag _) (.cells #[.slice none 0 0,aa ⟨#[]⟩,ab ae 0,ab ae 0] 138)
 have r:=zq (m _ d)
 have D:=c.c0
 have E:=c.c1
 have F:=c.c2
 have G:=c.c3
 have H:=b.c0
 have I:=b.c1
 have J:=b.c2
 have K:=b.c3
 have T:=c.lt
 have S:=b.lt
 clear m
 unfold iz dR lW we at *
 generalize t.kind=a0 at *
 generalize t.num=L at *
 generalize t.name=M at *
 generalize t.args.length=N at *
 go_enter Tryz.func127,Tryz.ntmps127
 go_wp2_with fail
 refine r.out.mono ?_;rintro e U ⟨f,q,g,rfl,k,n⟩
 have a:=u.call k
 have x:=d.trans (k.mono d.size)
 have s:=zq n
 obtain ⟨u0,y⟩:=a.r0
 obtain ⟨u1,z⟩:=a.r1
 obtain ⟨u2,B⟩:=a.r2
 obtain ⟨u3,C⟩:=a.r3
 have O:=a.rf 0
 have P:=a.rf 1
 have Q:=a.rf 2
 have R:=a.rf 3
 clear n D E F G H I J K
 go_wp2_with fail
 refine aw (v:=aF #[aN #[.slice f q g,aa p.name,ab ae p.typ,ab ae p.prec],an bb]) (by simp [results,Tryz.results127,go_sem,y,z,B,C]) rfl ⟨f,q,g,rfl,cM x _ (ag _) _ _ _ _,?_⟩
 exact (s.out.put4 (by simp) _ _ _ _).mono d.size
theorem FV (t:Tm) (A:Option Addr) (h j i:Nat) (w:aj) (l:List ByteArray) (p:OpR) (bb:Bool) (m:∀W,ay w.heap.size w W->iz 130 #[lW o TA TN TC,dR t A h] W l p bb) (c:WBox w j o TA TN TC) (b:TBx w i t A h) :
  iz 129 #[ax (some ⟨j,0,none⟩),ax (some ⟨i,0,none⟩)] w l p bb:=by
 have u:=RBx.start w (.slice none 0 0) (aa ⟨#[]⟩) (ab ae 0) (ab ae 0) 138
 have d:=(ak w.heap.size w).alloc (ag _) (.cells #[.slice none 0 0,aa ⟨#[]⟩,ab ae 0,ab ae 0] 138)
 have r:=zq (m _ d)
 have D:=c.c0
 have E:=c.c1
 have F:=c.c2
 have G:=c.c3
 have H:=b.c0
 have I:=b.c1
 have J:=b.c2
 have K:=b.c3
 have T:=c.lt
 have S:=b.lt
 clear m
 unfold iz dR lW we at *
 generalize t.kind=a0 at *
 generalize t.num=L at *
 generalize t.name=M at *
 generalize t.args.length=N at *
 go_enter Tryz.func129,Tryz.ntmps129
 go_wp2_with fail
 refine r.out.mono ?_;rintro e U ⟨f,q,g,rfl,k,n⟩
 have a:=u.call k
 have x:=d.trans (k.mono d.size)
 have s:=zq n
 obtain ⟨u0,y⟩:=a.r0
 obtain ⟨u1,z⟩:=a.r1
 obtain ⟨u2,B⟩:=a.r2
 obtain ⟨u3,C⟩:=a.r3
 have O:=a.rf 0
 have P:=a.rf 1
 have Q:=a.rf 2
 have R:=a.rf 3
 clear n D E F G H I J K
 go_wp2_with fail
 refine aw (v:=aF #[aN #[.slice f q g,aa p.name,ab ae p.typ,ab ae p.prec],an bb]) (by simp [results,Tryz.results129,go_sem,y,z,B,C]) rfl ⟨f,q,g,rfl,cM x _ (ag _) _ _ _ _,?_⟩
 exact (s.out.put4 (by simp) _ _ _ _).mono d.size
theorem FU (t:Tm) (A:Option Addr) (h j i:Nat) (w:aj) (l:List ByteArray) (p:OpR) (bb:Bool) (m:∀W,ay w.heap.size w W->iz 132 #[lW o TA TN TC,dR t A h] W l p bb) (c:WBox w j o TA TN TC) (b:TBx w i t A h) :
  iz 131 #[ax (some ⟨j,0,none⟩),ax (some ⟨i,0,none⟩)] w l p bb:=by
 have u:=RBx.start w (.slice none 0 0) (aa ⟨#[]⟩) (ab ae 0) (ab ae 0) 138
 have d:=(ak w.heap.size w).alloc (ag _) (.cells #[.slice none 0 0,aa ⟨#[]⟩,ab ae 0,ab ae 0] 138)
 have r:=zq (m _ d)
 have D:=c.c0
 have E:=c.c1
 have F:=c.c2
 have G:=c.c3
 have H:=b.c0
 have I:=b.c1
 have J:=b.c2
 have K:=b.c3
 have T:=c.lt
 have S:=b.lt
 clear m
 unfold iz dR lW we at *
 generalize t.kind=a0 at *
 generalize t.num=L at *
 generalize t.name=M at *
 generalize t.args.length=N at *
 go_enter Tryz.func131,Tryz.ntmps131
 go_wp2_with fail
 refine r.out.mono ?_;rintro e U ⟨f,q,g,rfl,k,n⟩
 have a:=u.call k
 have x:=d.trans (k.mono d.size)
 have s:=zq n
 obtain ⟨u0,y⟩:=a.r0
 obtain ⟨u1,z⟩:=a.r1
 obtain ⟨u2,B⟩:=a.r2
 obtain ⟨u3,C⟩:=a.r3
 have O:=a.rf 0
 have P:=a.rf 1
 have Q:=a.rf 2
 have R:=a.rf 3
 clear n D E F G H I J K
 go_wp2_with fail
 refine aw (v:=aF #[aN #[.slice f q g,aa p.name,ab ae p.typ,ab ae p.prec],an bb]) (by simp [results,Tryz.results131,go_sem,y,z,B,C]) rfl ⟨f,q,g,rfl,cM x _ (ag _) _ _ _ _,?_⟩
 exact (s.out.put4 (by simp) _ _ _ _).mono d.size
theorem FX (t:Tm) (A:Option Addr) (L c F:Nat) (w:aj) (b0:t.args.length=1->uF o T TA TN TC S (t.arg 0)) (d3:(bo o T S (t.arg 0) 1200 false).length<=80000) (hE:Env T TA TN TC w) (b1:TmsAt w.heap.size w A t.args) (M:WBox w c o TA TN TC) (G:TBx w F t A L) :
  iz 126 #[ax (some ⟨c,0,none⟩),ax (some ⟨F,0,none⟩)] w (li o T S t).1 (li o T S t).2 (iE o t):=by
 have K:=RBx.start w (.slice none 0 0) (aa ⟨#[]⟩) (ab ae 0) (ab ae 0) 138
 have l:=(ak w.heap.size w).alloc (ag _) (.cells #[.slice none 0 0,aa ⟨#[]⟩,ab ae 0,ab ae 0] 138)
 have x1:=M.c1
 have y2:=G.c2
 have y3:=G.c3
 have H:=M.lt
 have lt:=G.lt
 obtain ⟨r,y⟩:=lz (t.args.length)
 have u:Hid (iE o t=(!o.ig&&(t.name.toList==[123,125]&&t.args.length==1))):=zq rfl
 have Y:=zq (wZ (o:=o) (T:=T) (S:=S) (t:=t))
 have R:=zq (yU (o:=o) (T:=T) (S:=S) (t:=t))
 have U:=zq (fun (Z:r=1) j n W (h:ay w.heap.size w W) (h2:TmsAt w.heap.size w j (t.arg 0).args)=>uG (b0 (by rw [<-y.out];exact Z)) 1200 j n W (hE.below h) ((h2.keep h).mono h.size))
 have Q:=zq (fun (h:r=1)=>b1.get 0 (by rw [<-y.out,h];decide))
 have P:=zq (fun (h:r=1)=>Tm.arg_get t 0 (by rw [<-y.out,h];decide))
 have z:=zq M
 have b8:=zq G
 rw [<-y.out] at u y3
 clear b0 hE b1 M G
 unfold iz dR lW we at *
 have c9:(iE o t=false/\(o.ig=true\/(t.name.toList==[123,125])=false\/¬r=1))\/(o.ig=false/\(t.name.toList==[123,125])=true/\r=1):=by
  rw [u.out]
  cases o.ig <;> cases (t.name.toList==[123,125]) <;> by_cases h:r=1 <;> simp [h]
 rcases c9 with ⟨a3,d5⟩ | ⟨O,a2,hl⟩
 ·rw [a3,R.out a3]
  clear u Y R U Q P K a3
  rcases d5 with a4 | a4 | a4
  ·go_enter Tryz.func126,Tryz.ntmps126
   go_wp2_with fail
   refine aw (v:=aF #[aN #[.slice none 0 0,aa ⟨#[]⟩,ab ae 0,ab ae 0],an false]) (by simp [results,Tryz.results126,go_sem]) rfl ⟨none,0,0,rfl,l,OwnS.nil _ _ _⟩
  ·have d9:¬t.name.toList=[123,125]:=by simpa using a4
   go_enter Tryz.func126,Tryz.ntmps126
   go_wp2_with fail
   all_goals
    refine aw (v:=aF #[aN #[.slice none 0 0,aa ⟨#[]⟩,ab ae 0,ab ae 0],an false]) (by simp [results,Tryz.results126,go_sem]) rfl ⟨none,0,0,rfl,l,OwnS.nil _ _ _⟩
  ·go_enter Tryz.func126,Tryz.ntmps126
   go_wp2_with fail
   all_goals
    refine aw (v:=aF #[aN #[.slice none 0 0,aa ⟨#[]⟩,ab ae 0,ab ae 0],an false]) (by simp [results,Tryz.results126,go_sem]) rfl ⟨none,0,0,rfl,l,OwnS.nil _ _ _⟩
 ·have a5:iE o t=true:=by rw [u.out,O,a2,hl];rfl
  rw [a5,Y.out a5]
  subst hl
  obtain ⟨b,a,j,n,rfl,N,B,C,D,E,b3⟩:=Q.out rfl
  have d8:0<t.args.length:=by have:=y.out;omega
  have a6:=zq (P.out rfl)
  have V:=zq (U.out rfl j n)
  rw [a6.out] at V d3 |-
  rw [Nat.zero_mul,Nat.add_zero] at B C D E
  have b6:=zq b3
  have a7:=zq (⟨B,C,D,E⟩:_/\_/\_/\_)
  have d2:t.name.toList=[123,125]:=by simpa using a2
  have d6:=zq O
  rw [O] at x1
  clear u U Q P Y R a5 b3 B C D E a6 O
  generalize t.args[0]=x at *
  generalize bo o T S x 1200 false=PL at *
  obtain ⟨f,c6⟩:=lz (w.alloc (.cells #[.slice none 0 0,aa ⟨#[]⟩,ab ae 0,ab ae 0] 138))
  go_enter Tryz.func126,Tryz.ntmps126
  go_upto_region 3 with fail
  rw [<-c6.out] at K l |-
  have d1:=K.lt
  have d4:=l.size
  have I:Hid (∀X,RegH w.heap.size f X->X.cell? ⟨c,0,none⟩=some (an o.q)/\X.cell? ⟨c,1,none⟩=some (an o.ig)/\X.cell? ⟨c,2,none⟩=some (an o.nu)/\X.cell? ⟨c,3,none⟩=some (.slice TA TN TC)/\X.cell? ⟨F,3,none⟩=some (.slice (some ⟨b,a,none⟩) 1 L)/\X.cell? ⟨b,a,none⟩=some (ab ae x.kind)/\X.cell? ⟨b,a+1,none⟩=some (ab ae x.num)/\X.cell? ⟨b,a+2,none⟩=some (aa x.name)/\X.cell? ⟨b,a+3,none⟩=some (.slice j x.args.length n)/\RegH w.heap.size f X):=zq (fun X h=>by
   have i:∀g k,g<w.heap.size->X.cell? ⟨g,k,none⟩=w.cell? ⟨g,k,none⟩:=fun g k Z=>(h.on.cell (p:=⟨g,k,none⟩) (show g<f.heap.size by omega) (show g≠w.heap.size by omega)).trans (l.cell (p:=⟨g,k,none⟩) Z)
   obtain ⟨B,C,D,E⟩:=a7.out
   exact ⟨(i _ _ H).trans z.out.c0,(i _ _ H).trans z.out.c1,(i _ _ H).trans z.out.c2,(i _ _ H).trans z.out.c3,(i _ _ lt).trans y3,(i _ _ N).trans B,(i _ _ N).trans C,(i _ _ N).trans D,(i _ _ N).trans E,h⟩)
  have J:Hid (∀X,(X.cell? ⟨c,0,none⟩=some (an o.q)/\X.cell? ⟨c,1,none⟩=some (an o.ig)/\X.cell? ⟨c,2,none⟩=some (an o.nu)/\X.cell? ⟨c,3,none⟩=some (.slice TA TN TC)/\X.cell? ⟨F,3,none⟩=some (.slice (some ⟨b,a,none⟩) 1 L)/\X.cell? ⟨b,a,none⟩=some (ab ae x.kind)/\X.cell? ⟨b,a+1,none⟩=some (ab ae x.num)/\X.cell? ⟨b,a+2,none⟩=some (aa x.name)/\X.cell? ⟨b,a+3,none⟩=some (.slice j x.args.length n)/\RegH w.heap.size f X)->RegH w.heap.size f X):=zq (fun X h=>h.2.2.2.2.2.2.2.2.2)
  have b7:Hid (RegH w.heap.size f f.drew):=zq (RegH.drew ⟨Only.refl _ _,K⟩)
  have a1:∀X,RegH w.heap.size f X->ay w.heap.size w X:=fun X h=>l.trans (h.on.below (ag _) l.size)
  have b4:=zq a1
  have b9:Hid (∀X,RegH w.heap.size f X->aG ah 32 #[aN #[an o.q,an o.ig,an o.nu,.slice TA TN TC],aN #[ab ae x.kind,ab ae x.num,aa x.name,.slice j x.args.length n],ab ae 1200] X fun e w'=>∃m s,e=av (.slice m PL.length s)/\ay X.heap.size X w'/\StrsAt w' m PL/\tq m PL.length s) :=
   zq (fun X h=>(V.out X (a1 X h) b6.out).mono fun _ _ ⟨v,he,hB,hO⟩=>by
    obtain ⟨m,n4,s,rfl,hn,hs,hh⟩:=hO.strN
    subst hn
    exact ⟨m,s,he,hB,hs,hh⟩)
  clear a1 V a7 z b8 x1 y2 y3 H lt a2 d2
  go_region_held3 (fun w'=>w'.cell? ⟨c,0,none⟩=some (an o.q)/\w'.cell? ⟨c,1,none⟩=some (an o.ig)/\w'.cell? ⟨c,2,none⟩=some (an o.nu)/\w'.cell? ⟨c,3,none⟩=some (.slice TA TN TC)/\w'.cell? ⟨F,3,none⟩=some (.slice (some ⟨b,a,none⟩) 1 L)/\w'.cell? ⟨b,a,none⟩=some (ab ae x.kind)/\w'.cell? ⟨b,a+1,none⟩=some (ab ae x.num)/\w'.cell? ⟨b,a+2,none⟩=some (aa x.name)/\w'.cell? ⟨b,a+3,none⟩=some (.slice j x.args.length n)/\RegH w.heap.size f w')
   (first
    | with_reducible exact I.out _ b7.out
    | with_reducible exact I.out _ d
    | with_reducible exact I.out _ (RegH.call (J.out _ (by with_reducible assumption)) (by with_reducible assumption))
    | with_reducible exact I.out _ (RegH.put4 (J.out _ (by with_reducible assumption)) _ _ _ _))
   (first
    | (go_at_call 32;(with_reducible refine (b9.out _ (J.out _ (by with_reducible assumption))).mono ?_);rintro e w4 ⟨m,s,rfl,d7,c8,c7⟩)
    | (go_at_call 118;have b2:=J.out w4 (by with_reducible assumption);(with_reducible refine (kw ⟨#[123]⟩ ⟨#[125]⟩ m PL.length s PL w4 rfl (by omega) c8 c7).mono ?_);rintro e w5 ⟨v5,rfl,a8,a0⟩;obtain ⟨A5,n5,c5,rfl⟩:=a0.val;have d:=b2.call a8;have a9:=a0.mono b2.on.size;obtain ⟨u0,r0⟩:=d.rb.r0;obtain ⟨u1,r1⟩:=d.rb.r1;obtain ⟨u2,r2⟩:=d.rb.r2;obtain ⟨u3,r3⟩:=d.rb.r3;have f0:=d.rb.rf 0;have f1:=d.rb.rf 1;have f2:=d.rb.rf 2;have f3:=d.rb.rf 3)
    | fail)
  all_goals
   have d0:=cM (b4.out w5 d) w.heap.size (ag _) (.slice A5 n5 c5) (aa ⟨#[]⟩) (ab ae 0) (ab ae 0)
   have b5:=zq a9
   clear a0 a9 a8
   go_wp2_with fail
   refine aw (v:=aF #[aN #[.slice A5 n5 c5,aa ⟨#[]⟩,ab ae 0,ab ae 0],an true]) (by simp [results,Tryz.results126,go_sem,r0,r1,r2,r3]) rfl ⟨_,_,_,rfl,d0,?_⟩
   exact (b5.out.put4 d1 _ _ _ _).mono d4
end Go.Proofs.YtgapnafkelokaaaGreatDoor
namespace Hb
open Go Go.RowKit
inductive K4:Tm->Prop
 | mk (t:Tm) (h:t.kind=0\/t.kind=1\/t.kind=2\/t.kind=3) (ha:∀a∈t.args,K4 a):K4 t
theorem K4.of_ok:∀t:Tm,t.allOk=true->K4 t:=Tm.ind fun t c h=>by
 rw [Tm.allOk_eq,aE] at h
 exact .mk t (qF h.1) fun a b=>c a b (bh.1 h.2 a b)
theorem K4.arg {t:Tm} (h:K4 t) (j:Nat):K4 (t.arg j):=by
 by_cases c:j<t.args.length
 ·rw [Tm.arg_get t j c]
  cases h with | mk _ _ b=>exact b _ (aQ _)
 ·have e:t.arg j=tm0:=by unfold Tm.arg;rw [aR,ed (by omega)];rfl
  rw [e]
  exact .mk _ (.inl rfl) (by intro a b;cases b)
theorem sW {t:Tm} (h:t.cons=true):t.nodes=1+(t.arg 0).nodes+(t.arg 1).nodes:=by
 have c:=Tm.cons_len h
 rw [Tm.nodes_eq t]
 unfold Tm.arg
 generalize t.args=l at c |-
 match l,c with
 | [a,b],_=>simp;omega
theorem ro:∀(n:Nat) (t:Tm),t.nodes<=n->K4 t->(∀x∈cE t,K4 x)/\K4 (cS t)/\((cE t).map Tm.nodes).sum+(cS t).nodes+(if t.cons=true then 1 else 0)<=t.nodes
 | 0,t,h,_=>absurd h (by have:=t.nodes_pos;omega)
 | n+1,t,h,hk=>by
  cases hc:t.cons
  ·rw [iI hc,jl hc]
   refine ⟨?_,hk,?_⟩
   ·intro x a
    exact absurd a (List.not_mem_nil)
   ·simp
  ·have e:=sW hc
   have f:=(t.arg 0).nodes_pos
   obtain ⟨b,c,d⟩:=ro n (t.arg 1) (by omega) (hk.arg 1)
   rw [ju hc,kG hc]
   refine ⟨?_,c,?_⟩
   ·intro x a
    rcases bi.1 a with rfl | a
    ·exact hk.arg 0
    ·exact b x a
   ·rw [bR,gE,e];simp;omega
variable {o:WO} {T:List OpR} {S:Tm->WR}
theorem pz (l:List ByteArray) (b:Bool):(brk l b).length<=l.length+2:=by unfold brk;split <;> simp
theorem eY {t:Tm} (d:(S t).1.length+3<=9 * t.nodes) (m:Int) (b:Bool):(bo o T S t m b).length+1<=9 * t.nodes:=by
 have:=t.nodes_pos
 have a:=pz [jo o t.name] (b&&kN T t.name)
 have c:=pz (S t).1 (decide (m<(S t).2.prec))
 unfold bo
 simp at a
 repeat' split
 all_goals first | (simp;omega) | omega
theorem pe {t:Tm} (a:(S t).1.length+3<=9 * t.nodes) (op:OpR):(dC o T S t op).length+1<=9 * t.nodes:=by
 unfold dC
 split
 ·refine aH (Nat.add_le_add_right (pz _ _) 1) (by omega)
 ·exact eY a _ _
theorem uy (P:Tm->List ByteArray):∀l:List Tm,(∀x∈l,(P x).length+1<=9 * x.nodes)->(l.flatMap fun u=>s1 44::P u).length<=9 * (l.map Tm.nodes).sum
 | [],_=>by simp
 | a::l,h=>by
  have c:=h a (aY ..)
  have d:=uy P l fun x b=>h x (ba _ b)
  rw [gz,aC,be,bR,gE];omega
theorem oU (P:Tm->List ByteArray) (l:List Tm) (h:∀x∈l,(P x).length+1<=9 * x.nodes):(cY P l).length<=9 * (l.map Tm.nodes).sum:=by
 cases l with
 | nil=>simp [cY]
 | cons a l=>
  have c:=h a (aY ..)
  have d:=uy P l fun x b=>h x (ba _ b)
  unfold cY
  rw [aC,bR,gE];omega
theorem qn (t:Tm) (j:Nat) (h:j<t.args.length):(t.arg j).nodes+1<=t.nodes:=t.nodes_arg j h
end Hb
namespace Hb
open Go Go.RowKit
variable {o:WO} {T:List OpR} {S:Tm->WR}
theorem Bm {t:Tm} (c:t.args.length=2):t.nodes=1+(t.arg 0).nodes+(t.arg 1).nodes:=by
 rw [Tm.nodes_eq t]
 unfold Tm.arg
 generalize t.args=l at c |-
 match l,c with
 | [a,b],_=>simp;omega
theorem DJ {u:Tm} (a:(S u).1.length+3<=9 * u.nodes):(iR (cF o T S) u).length<=9 * u.nodes:=by
 have:=eY (o:=o) (T:=T) a 999 false
 unfold iR cF
 split
 ·simp
 ·rw [be];exact this
theorem Hi {u:Tm} (h:u.kind=0\/u.kind=1\/u.kind=2):(iR (cF o T S) u).length<=4:=by
 have a:=pz [jo o u.name] (false&&kN T u.name)
 simp at a
 have:(bo o T S u 999 false).length<=3:=by
  unfold bo
  repeat' split
  all_goals first | (simp;done) | (simp;omega) | omega
 unfold iR cF
 split
 ·simp
 ·rw [be];omega
theorem Gq (d:∀x,K4 x->(S x).1.length+3<=9 * x.nodes) (t:Tm) (f:K4 t):(mx o T S t).1.length+3<=9 * t.nodes:=by
 have w:=t.nodes_pos
 have g:=d _ (f.arg 0)
 have n:=d _ (f.arg 1)
 have y:t.kind=0\/t.kind=1\/t.kind=2\/t.kind=3:=by cases f with | mk _ h _=>exact h
 have p:∀a∈t.args,K4 a:=by cases f with | mk _ _ h=>exact h
 obtain ⟨k,l,m⟩:=ro t.nodes t (ag _) f
 unfold mx
 split
 ·simp;omega
 split
 ·rename_i b
  have c:t.isNm [46]=true/\t.args.length=2:=by simpa using b
  have q:=oU (cF o T S) (cE t) fun x j=>eY (d x (k x j)) 999 false
  show (s1 91::((cY (cF o T S) (cE t)++iR (cF o T S) (cS t))++[s1 93])).length+3<=_
  simp only [be,aC,dm]
  cases hcc:t.cons
  ·have v:t.kind≠3:=fun e=>by
    have:t.cons=true:=by unfold Tm.cons;rw [e,c.1,c.2];rfl
    rw [this] at hcc;cases hcc
   rw [iI hcc,jl hcc]
   have:=Hi (o:=o) (T:=T) (S:=S) (u:=t) (by omega)
   simp only [cY,dm]
   omega
  ·rw [if_pos hcc] at m
   have:=DJ (o:=o) (T:=T) (d _ l)
   omega
 split
 ·rename_i b
  have c:t.args.length=1:=by simp at b;exact b.2.2
  have i:=qn t 0 (by omega)
  have:=eY (o:=o) (T:=T) g 1200 false
  simp only [be,aC,dm]
  omega
 split
 ·rename_i b
  have c:t.args.length=2:=by simp at b;exact b.2.2
  have i:=Bm c
  have r:=pe (o:=o) (T:=T) g (cQ T t.name 2)
  have s:=eY (o:=o) (T:=T) n (dv (cQ T t.name 2)) true
  simp only [be,aC,dm]
  omega
 split
 ·rename_i b
  have c:t.args.length=1:=by simp at b;exact b.2.2
  have i:=qn t 0 (by omega)
  have s:=eY (o:=o) (T:=T) g (dv (cQ T t.name 1)) true
  have z:(iL o T S (t.arg 0) (cQ T t.name 1)).length<=(bo o T S (t.arg 0) (dv (cQ T t.name 1)) true).length+2:=pz _ _
  simp only [be,aC]
  split <;> simp only [be,dm] <;> omega
 split
 ·rename_i b
  have c:t.args.length=1:=by simp at b;exact b.2.2
  have i:=qn t 0 (by omega)
  have r:=pe (o:=o) (T:=T) g (cQ T t.name 3)
  simp only [be,aC,dm]
  omega
 ·have q:=oU (cF o T S) t.args fun x j=>eY (d x (p x j)) 999 false
  have i:=Tm.nodes_eq t
  simp only [be,aC,dm]
  omega
theorem wM (o:WO) (T:List OpR):∀(f:Nat) (t:Tm),K4 t->(tt o T f t).1.length+3<=9 * t.nodes
 | 0,t,_=>by have:=t.nodes_pos;show 0+3<=_;omega
 | f+1,t,h=>Gq (wM o T f) t h
end Hb
namespace Hb
open Go Go.RowKit
variable {o:WO} {T:List OpR} {S:Tm->WR}
theorem Gp (t:Tm):0<(mx o T S t).1.length:=by
 unfold mx
 repeat' split
 all_goals first | (simp;done) | (simp;omega)
theorem DO (o:WO) (T:List OpR) (f:Nat) (t:Tm) (h:0<f):0<(tt o T f t).1.length:=by
 obtain ⟨g,rfl⟩:∃g,f=g+1:=⟨f-1,by omega⟩
 exact Gp t
theorem yw {l:List ByteArray} (b:Bool) (h:0<l.length):0<(brk l b).length:=by
 unfold brk
 split
 ·simp
 ·exact h
theorem Cj {t:Tm} (h:t.kind=0\/t.kind=1\/t.kind=2\/0<(S t).1.length) (m:Int) (b:Bool):0<(bo o T S t m b).length:=by
 unfold bo
 iterate 2
  split
  ·simp
 split
 ·exact yw _ (by simp)
 ·exact yw _ (by omega)
end Hb
namespace Hb
open Go Go.RowKit
theorem Tm.All.and {P Q:Tm->Prop}:∀t:Tm,Tm.All P t->Tm.All Q t->Tm.All (fun x=>P x/\Q x) t:=Tm.ind fun t c h k=>.mk t ⟨h.here,k.here⟩ fun a b=>c a b (h.sub a b) (k.sub a b)
theorem Tm.All.of_ok:∀t:Tm,t.allOk=true->Tm.All (fun x=>dH x=true) t:=Tm.ind fun t c h=>by
 rw [Tm.allOk_eq,aE] at h
 exact .mk t h.1 fun a b=>c a b (bh.1 h.2 a b)
theorem Tm.All.ok:∀t:Tm,Tm.All (fun x=>dH x=true) t->t.allOk=true:=Tm.ind fun t c h=>by
 rw [Tm.allOk_eq,aE]
 exact ⟨h.here,bh.2 fun a b=>c a b (h.sub a b)⟩
def Okf (t:Tm):Prop:=dH t=true/\cV t=true
theorem Okf.ok {t:Tm} (h:Tm.All Okf t):t.allOk=true:=Tm.All.ok t (Tm.All.imp (fun _ h=>h.1) t h)
theorem Okf.k4 {t:Tm} (h:Tm.All Okf t):K4 t:=K4.of_ok t (Okf.ok h)
theorem Okf.of {t:Tm} (h:t.allOk=true) (k:Tm.All (fun x=>cV x=true) t):Tm.All Okf t:=Tm.All.and t (Tm.All.of_ok t h) k
theorem K4.kind {t:Tm} (h:K4 t):t.kind=0\/t.kind=1\/t.kind=2\/t.kind=3:=by cases h;assumption
theorem K4.sub {t:Tm} (h:K4 t):∀a∈t.args,K4 a:=by cases h;assumption
theorem Gi {P:Tm->Prop} (h:P tm0):Tm.All P tm0:=.mk _ h fun a b=>by cases b
theorem Okf.tm0:Tm.All Okf tm0:=Gi ⟨by decide +kernel,by decide +kernel⟩
theorem Tm.All.arg {P:Tm->Prop} {t:Tm} (h:Tm.All P t) (a:Tm.All P tm0) (j:Nat):Tm.All P (t.arg j):=by
 by_cases b:j<t.args.length
 ·rw [Tm.arg_get t j b];exact h.sub _ (aQ _)
 ·have e:t.arg j=tm0:=by unfold Tm.arg;rw [aR,ed (by omega)];rfl
  rw [e];exact a
variable {o:WO} {T:List OpR} {S S':Tm->WR}
theorem gS {t:Tm} (e:K4 t) (h:t.kind=3->S t=S' t) (m:Int) (b:Bool):bo o T S t m b=bo o T S' t m b:=by
 unfold bo
 by_cases a:t.kind=0
 ·rw [if_pos a,if_pos a]
 rw [if_neg a,if_neg a]
 by_cases c:t.kind=1
 ·rw [if_pos c,if_pos c]
 rw [if_neg c,if_neg c]
 by_cases d:t.kind=2
 ·rw [if_pos d,if_pos d]
 rw [if_neg d,if_neg d,h (by have:=e.kind;omega)]
theorem sw {t:Tm} (a:K4 t) (h:t.kind=3->S t=S' t) (op:OpR):dC o T S t op=dC o T S' t op:=by
 unfold dC
 by_cases c:t.kind=3
 ·rw [if_pos c,if_pos c,h c]
 ·rw [if_neg c,if_neg c];exact gS a h _ _
theorem Ci {t:Tm} (a:K4 t) (h:t.kind=3->S t=S' t) (op:OpR):iL o T S t op=iL o T S' t op:=by
 unfold iL;rw [gS a h]
theorem tY {P Q:Tm->List ByteArray}:∀l:List Tm,(∀x∈l,P x=Q x)->cY P l=cY Q l
 | [],_=>rfl
 | a::l,h=>by
  show P a++(l.flatMap fun u=>s1 44::P u)=Q a++l.flatMap fun u=>s1 44::Q u
  rw [h a (aY ..)]
  have:∀l:List Tm,(∀x∈l,P x=Q x)->(l.flatMap fun u=>s1 44::P u)=l.flatMap fun u=>s1 44::Q u:=by
   intro l
   induction l with
   | nil=>intro _;rfl
   | cons b l ih=>intro h;rw [gz,gz,h b (aY ..),ih fun x c=>h x (ba _ c)]
  rw [this l fun x c=>h x (ba _ c)]
theorem uM:∀(l:List Tm) (a:Tm),a∈l->a.nodes<=(l.map Tm.nodes).sum
 | [],a,c=>by cases c
 | b::l,a,c=>by
  rw [bR,gE]
  rcases bi.1 c with rfl | c
  ·omega
  ·have:=uM l a c;omega
theorem lM {t a:Tm} (h:a∈t.args):a.nodes<t.nodes:=by
 have:=uM t.args a h
 rw [Tm.nodes_eq t];omega
theorem sS {t:Tm} (b:K4 t):(∀x∈cE t,K4 x/\x.nodes<t.nodes)/\K4 (cS t)/\((cS t).kind=3->t.isNm [46]=true->t.args.length=2->(cS t).nodes<t.nodes):=by
 obtain ⟨c,d,e⟩:=ro t.nodes t (ag _) b
 cases hc:t.cons
 ·rw [iI hc,jl hc]
  refine ⟨fun x a=>absurd a (List.not_mem_nil),b,fun f h g=>?_⟩
  have:t.cons=true:=by unfold Tm.cons;rw [f,h,g];rfl
  rw [this] at hc;cases hc
 ·rw [if_pos hc] at e
  refine ⟨fun x a=>⟨c x a,?_⟩,d,fun _ _ _=>by omega⟩
  have:=uM (cE t) x a
  have:=(cS t).nodes_pos
  omega
theorem tT {t:Tm} (a:K4 t) (h:∀x,K4 x->x.kind=3->x.nodes<t.nodes->S x=S' x):mx o T S t=mx o T S' t:=by
 obtain ⟨m,r,s⟩:=sS a
 have k:∀j,j<t.args.length->(t.arg j).kind=3->S (t.arg j)=S' (t.arg j):=fun j u b=>h _ (a.arg j) b (t.nodes_arg j u)
 unfold mx
 by_cases l:iD o t=true
 ·rw [if_pos l,if_pos l]
 rw [if_neg l,if_neg l]
 by_cases i:(t.isNm [46]&&t.args.length==2)=true
 ·rw [if_pos i,if_pos i]
  have q:t.isNm [46]=true/\t.args.length=2:=by simpa using i
  have p:cY (cF o T S) (cE t)=cY (cF o T S') (cE t):=tY _ fun x c=>gS (m x c).1 (fun b=>h x (m x c).1 b (m x c).2) _ _
  have v:iR (cF o T S) (cS t)=iR (cF o T S') (cS t):=by
   unfold iR cF
   rw [gS r fun b=>h _ r b (s b q.1 q.2)]
  rw [p,v]
 rw [if_neg i,if_neg i]
 by_cases d:(!o.ig&&(t.isNm [123,125]&&t.args.length==1))=true
 ·have n:t.args.length=1:=by simp at d;exact d.2.2
  rw [if_pos d,if_pos d,gS (a.arg 0) (k 0 (by omega))]
 rw [if_neg d,if_neg d]
 by_cases e:(!o.ig&&(has T t.name 2&&t.args.length==2))=true
 ·have n:t.args.length=2:=by simp at e;exact e.2.2
  rw [if_pos e,if_pos e,sw (a.arg 0) (k 0 (by omega)),gS (a.arg 1) (k 1 (by omega))]
 rw [if_neg e,if_neg e]
 by_cases f:(!o.ig&&(has T t.name 1&&t.args.length==1))=true
 ·have n:t.args.length=1:=by simp at f;exact f.2.2
  rw [if_pos f,if_pos f,Ci (a.arg 0) (k 0 (by omega))]
 rw [if_neg f,if_neg f]
 by_cases g:(!o.ig&&(has T t.name 3&&t.args.length==1))=true
 ·have n:t.args.length=1:=by simp at g;exact g.2.2
  rw [if_pos g,if_pos g,sw (a.arg 0) (k 0 (by omega))]
 rw [if_neg g,if_neg g]
 have p:cY (cF o T S) t.args=cY (cF o T S') t.args:=tY _ fun x c=>gS (a.sub x c) (fun b=>h x (a.sub x c) b (lM c)) _ _
 rw [p]
theorem wN (o:WO) (T:List OpR):∀(f g:Nat) (t:Tm),K4 t->t.nodes<=f->t.nodes<=g->tt o T f t=tt o T g t
 | 0,_,t,_,h,_=>absurd h (by have:=t.nodes_pos;omega)
 | _,0,t,_,_,h=>absurd h (by have:=t.nodes_pos;omega)
 | f+1,g+1,t,hk,h,k=>tT hk fun x a _ b=>wN o T f g x a (by omega) (by omega)
def str (o:WO) (T:List OpR) (t:Tm):WR:=tt o T t.nodes t
theorem wL (o:WO) (T:List OpR) {f:Nat} {t:Tm} (a:K4 t) (h:t.nodes<=f):tt o T f t=str o T t:=wN o T _ _ t a h (ag _)
theorem yM (o:WO) (T:List OpR) {t:Tm} (b:K4 t):str o T t=mx o T (str o T) t:=by
 obtain ⟨f,a⟩:∃f,t.nodes=f+1:=⟨t.nodes-1,by have:=t.nodes_pos;omega⟩
 unfold str
 rw [a]
 show mx o T (tt o T f) t=_
 exact tT b fun x c _ d=>wL o T c (by omega)
def km (o:WO) (T:List OpR) (t:Tm) (m:Int) (b:Bool):List ByteArray:=bo o T (str o T) t m b
theorem oK (o:WO) (T:List OpR) {t:Tm} (a:K4 t):(str o T t).1.length+3<=9 * t.nodes:=wM o T _ t a
theorem Gn (o:WO) (T:List OpR) (t:Tm):0<(str o T t).1.length:=DO o T _ t t.nodes_pos
end Hb
namespace Hb
open Go Go.RowKit
variable {o:WO} {T:List OpR} {S:Tm->WR} {t:Tm}
theorem gB {b:Bool} (h:b=false):¬b=true:=by rw [h];decide
theorem Lt  (h:iD o t=true):mx o T S t=lh o t:=by
 unfold mx
 exact ((if_pos h).trans (if_pos h).symm)
theorem Ls (a:iD o t=false) (h:dE t=true):mx o T S t=jZ o T S t:=by
 unfold mx
 exact ((if_neg (gB a)).trans ((if_pos h).trans (if_pos h).symm))
theorem Lq (a:iD o t=false) (b:dE t=false) (h:iE o t=true):mx o T S t=li o T S t:=by
 unfold mx
 exact ((if_neg (gB a)).trans ((if_neg (gB b)).trans ((if_pos h).trans (if_pos h).symm)))
theorem Lp (a:iD o t=false) (b:dE t=false) (c:iE o t=false) (h:jT o T t=true):mx o T S t=mL o T S t:=by
 unfold mx
 exact ((if_neg (gB a)).trans ((if_neg (gB b)).trans ((if_neg (gB c)).trans ((if_pos h).trans (if_pos h).symm))))
theorem Lo (a:iD o t=false) (b:dE t=false) (c:iE o t=false) (d:jT o T t=false) (h:jc o T t=true):mx o T S t=lg o T S t:=by
 unfold mx
 exact ((if_neg (gB a)).trans ((if_neg (gB b)).trans ((if_neg (gB c)).trans ((if_neg (gB d)).trans ((if_pos h).trans (if_pos h).symm)))))
theorem Ln (a:iD o t=false) (b:dE t=false) (c:iE o t=false) (d:jT o T t=false) (e:jc o T t=false) (h:iJ o T t=true):mx o T S t=jY o T S t:=by
 unfold mx
 exact ((if_neg (gB a)).trans ((if_neg (gB b)).trans ((if_neg (gB c)).trans ((if_neg (gB d)).trans ((if_neg (gB e)).trans ((if_pos h).trans (if_pos h).symm))))))
theorem Lm (a:iD o t=false) (b:dE t=false) (c:iE o t=false) (d:jT o T t=false) (e:jc o T t=false) (f:iJ o T t=false):mx o T S t=(jo o t.name::(s1 40::(cY (cF o T S) t.args++[s1 41])),op0):=by
 unfold mx
 exact ((if_neg (gB a)).trans ((if_neg (gB b)).trans ((if_neg (gB c)).trans ((if_neg (gB d)).trans ((if_neg (gB e)).trans ((if_neg (gB f)).trans rfl))))))
end Hb
namespace Go.Proofs.YtgapnafkelokaaaGreatDoor
open Go.RowKit Hb
variable {o:WO} {T:List OpR} {TA:Option Addr} {TN TC:Nat} {S:Tm->WR}
theorem AF (a0 a b c d e:aA) (w:aj):(fo 172 (aN #[a0,a,b,c,d,e]) (ab ae 0)).run ah w=.ok a0 w:=by
 have h:=fS
 simp [fo,run_underlying h,asIntOf,go_sem]
theorem AE (a0 a b c d e:aA) (w:aj):(fo 172 (aN #[a0,a,b,c,d,e]) (ab ae 1)).run ah w=.ok a w:=by
 have h:=fS
 simp [fo,run_underlying h,asIntOf,go_sem]
theorem AD (a0 b a c d e:aA) (w:aj):(fo 172 (aN #[a0,b,a,c,d,e]) (ab ae 2)).run ah w=.ok a w:=by
 have h:=fS
 simp [fo,run_underlying h,asIntOf,go_sem]
theorem AC (a0 b c a d e:aA) (w:aj):(fo 172 (aN #[a0,b,c,a,d,e]) (ab ae 3)).run ah w=.ok a w:=by
 have h:=fS
 simp [fo,run_underlying h,asIntOf,go_sem]
theorem AB (a0 b c d a e:aA) (w:aj):(fo 172 (aN #[a0,b,c,d,a,e]) (ab ae 4)).run ah w=.ok a w:=by
 have h:=fS
 simp [fo,run_underlying h,asIntOf,go_sem]
theorem AA (a0 b c d e a:aA) (w:aj):(fo 172 (aN #[a0,b,c,d,e,a]) (ab ae 5)).run ah w=.ok a w:=by
 have h:=fS
 simp [fo,run_underlying h,asIntOf,go_sem]
theorem lI {e b g n c:Nat} {w:aj} {l:List ByteArray} (h:OwnS e b w (.slice (some ⟨g,0,none⟩) n c) l):∀j u,(l.map aM)[j]? = some u->w.cell? ((⟨g,0,none⟩:Addr).add j)=some u:=by
 unfold OwnS at h
 exact h.cells (g:=g) rfl
theorem yx (x y:ByteArray) {b:Nat} {X:aj} {v:aA} {l:List ByteArray} (h:OwnS 9 b X v l) (m:l.length<=100000) :
  aG ah 118 #[aa x,v,aa y] X fun e w'=>∃g c,e=av (.slice (some ⟨g,0,none⟩) (x::(l++[y])).length c)/\ay X.heap.size X w'/\OwnS 9 X.heap.size w' (.slice (some ⟨g,0,none⟩) (x::(l++[y])).length c) (x::(l++[y])):=by
 obtain ⟨A,n,c,rfl,j,k,i⟩:=h.strN
 refine (kw x y A n c l X j (by omega) k i).mono ?_
 rintro e w' ⟨v,rfl,f,a⟩
 obtain ⟨g,d,rfl,_⟩:=oY a (by simp)
 exact ⟨g,d,rfl,f,a⟩
theorem qv (t:Tm) (hv:dE t=true->bu t=true) (h4:t.nodes<=5000) (f5:t.name.size<=100) (g9:(t.args.all cV)=true) (hP:∀x∈t.args,uF o T TA TN TC S x) (hS:∀x∈t.args,x.kind=3->SOK o T TA TN TC S x) (g4:∀x∈cE t,uF o T TA TN TC S x) (g5:dE t=true->uF o T TA TN TC S (cS t))
  (h0:(cY (cF o T S) (cE t)).length+(cF o T S (cS t)).length<=80000) (g1:(S (t.arg 0)).1.length<=80000) (h5:(bo o T S (t.arg 0) 1200 false).length<=80000) (f6:∀j m,(bo o T S (t.arg j) m true).length<=80000/\0<(bo o T S (t.arg j) m true).length/\(hd (bo o T S (t.arg j) m true)).size<=1000000) (g2:∀op,(dC o T S (t.arg 0) op).length<=80000) (h8:(cY (cF o T S) t.args).length<=80000) (g8:t.args.length<=10000) :
  SOK o T TA TN TC (mx o T S) t:=by
 intro A u w hE hT
 obtain ⟨i,hi,h9,i0,i1⟩:=info_parts eA
 have HI:=zq hi
 have c5:=zq h9
 have c8:=zq i0
 have c9:=zq i1
 clear hi h9 i0 i1
 obtain ⟨LN,HL⟩:=lz (t.args.length)
 have HX:=zq (Fr3.start w o TA TN TC t A u LN 67 24 138 HL.out (.slice none 0 0) (aa ⟨#[]⟩) (ab ae 0) (ab ae 0))
 have c4:∀j (h:j<t.args.length),uF o T TA TN TC S (t.arg j):=fun j h=>by rw [Tm.arg_get t j h];exact hP _ (aQ _)
 have f8:∀j (h:j<t.args.length),(t.arg j).kind=3->SOK o T TA TN TC S (t.arg j):=fun j h=>by rw [Tm.arg_get t j h];exact hS _ (aQ _)
 have d0:∀{W V:aj},ay w.heap.size w W->ay W.heap.size W V->Env T TA TN TC V:=fun h E=>(hE.below h).below E
 have d2:∀{W V:aj},ay w.heap.size w W->ay W.heap.size W V->TmsAt V.heap.size V A t.args:=fun h E=>((((hT.keep h).mono h.size).keep E).mono E.size)
 have H0:=zq (fun W (h:ay w.heap.size w W) (F:WBox W w.heap.size o TA TN TC) (ht:TBx W (w.heap.size+1) t A u)=>FZ (o:=o) (TA:=TA) (TN:=TN) (TC:=TC) t A u w.heap.size (w.heap.size+1) W _ _ _ (fun V E=>Dm o TA TN TC t g9 A u V (d0 h E).door (d2 h E)) F ht)
 have H1:=zq (fun W (h:ay w.heap.size w W) (F:WBox W w.heap.size o TA TN TC) (ht:TBx W (w.heap.size+1) t A u)=>FY (o:=o) (TA:=TA) (TN:=TN) (TC:=TC) t A u w.heap.size (w.heap.size+1) W _ _ _ (fun V E=>IV t hv h4 g4 g5 h0 A u V (d0 h E) (d2 h E)) F ht)
 have H2:=zq (fun W (h:ay w.heap.size w W) (F:WBox W w.heap.size o TA TN TC) (ht:TBx W (w.heap.size+1) t A u)=>FX (S:=S) t A u w.heap.size (w.heap.size+1) W (fun e=>c4 0 (by omega)) h5 (hE.below h) ((hT.keep h).mono h.size) F ht)
 have H3:=zq (fun W (h:ay w.heap.size w W) (F:WBox W w.heap.size o TA TN TC) (ht:TBx W (w.heap.size+1) t A u)=>FW (o:=o) (TA:=TA) (TN:=TN) (TC:=TC) t A u w.heap.size (w.heap.size+1) W _ _ _ (fun V E=>Ga t f5 (fun e=>c4 0 (by omega)) (fun e=>f8 0 (by omega)) (fun e=>c4 1 (by omega)) g1 (fun m=>⟨(f6 1 m).1,(f6 1 m).2.1⟩) g2 A u V (d0 h E) (d2 h E)) F ht)
 have H4:=zq (fun W (h:ay w.heap.size w W) (F:WBox W w.heap.size o TA TN TC) (ht:TBx W (w.heap.size+1) t A u)=>FV (o:=o) (TA:=TA) (TN:=TN) (TC:=TC) t A u w.heap.size (w.heap.size+1) W _ _ _ (fun V E=>Dl t f5 (fun e=>c4 0 (by omega)) (fun m=>f6 0 m) A u V (d0 h E) (d2 h E)) F ht)
 have H5:=zq (fun W (h:ay w.heap.size w W) (F:WBox W w.heap.size o TA TN TC) (ht:TBx W (w.heap.size+1) t A u)=>FU (o:=o) (TA:=TA) (TN:=TN) (TC:=TC) t A u w.heap.size (w.heap.size+1) W _ _ _ (fun V E=>Bj t f5 (fun e=>c4 0 (by omega)) (fun e=>f8 0 (by omega)) g1 g2 A u V (d0 h E) (d2 h E)) F ht)
 have d9:=zq (fun W (h:ay w.heap.size w W)=>ry o TA TN TC t.name W (by omega) (hE.below h).door)
 have e3:=zq (fun W (h:ay w.heap.size w W)=>Iw (o:=o) (T:=T) (S:=S) t.args hP (by omega) A LN u W HL.out (by rw [HL.out];exact g8) (hE.below h) ((hT.keep h).mono h.size))
 have e0:=zq h8
 clear hE hT hv h4 f5 g9 hP hS g4 g5 h0 g1 h5 f6 g2 h8 g8 c4 f8 d0 d2
 unfold iz we at H0 H1 H2 H3 H4 H5
 unfold dR lW Io at *
 have a2:=zq (Lt (o:=o) (T:=T) (S:=S) (t:=t))
 have a3:=zq (Ls (o:=o) (T:=T) (S:=S) (t:=t))
 have a4:=zq (Lq (o:=o) (T:=T) (S:=S) (t:=t))
 have a5:=zq (Lp (o:=o) (T:=T) (S:=S) (t:=t))
 have a6:=zq (Lo (o:=o) (T:=T) (S:=S) (t:=t))
 have a7:=zq (Ln (o:=o) (T:=T) (S:=S) (t:=t))
 have e4:=zq (Lm (o:=o) (T:=T) (S:=S) (t:=t))
 obtain ⟨RR,b7⟩:=lz (mx o T S t)
 rw [<-b7.out] at a2 a3 a4 a5 a6 a7 e4 |-
 rw [<-HL.out]
 go_enter Tryz.func85,Tryz.ntmps85
 go_wp2_with fail
 go_loopw [18] (fun i wr=>∃k:Nat,i=ab ae k/\k<=6/\Fr3 w wr o TA TN TC t A u/\Hid ((1<=k->iD o t=false)/\(2<=k->dE t=false)/\(3<=k->iE o t=false)/\(4<=k->jT o T t=false)/\(5<=k->jc o T t=false)/\(6<=k->iJ o T t=false))) (fun i _=>6-(intOf i).toNat)
 case atStart=>exact ⟨0,rfl,by omega,HX.out.call ((ak _ _).alloc (ag _) _),zq (by simp)⟩
 case round=>
  obtain ⟨k,rfl,Y,b,l⟩:=hrel
  clear HX
  by_cases j1:k<6
  ·clear d9 e3 e0 e4 HI c5 c8 c9
   obtain rfl|rfl|rfl|rfl|rfl|rfl:k=0\/k=1\/k=2\/k=3\/k=4\/k=5:=by omega
   ·clear H1 H2 H3 H4 H5 a3 a4 a5 a6 a7
    have d:=zq (H0.out wr b.f2.bel b.f2.wb b.f2.tb)
    obtain ⟨R,z⟩:=lz (lh o t)
    rw [<-z.out] at d a2
    clear H0
    cases hb:(iD o t)
    ·rw [hb] at d
     have Z:=zq hb
     clear hb a2 z
     have ix:=AF
     go_wp2_with fail
     refine d.out.mono ?_;rintro e w2 ⟨y,C,B,rfl,n,s⟩
     have a:=b.call n
     clear s n b d
     go_wp2_with fail
     go_roundw
     case rel=>exact ⟨1,rfl,by decide,a.call ((ak _ _).alloc (ag _) _),zq ⟨(by first | exact fun _=>Z.out | exact fun _=>trivial | exact trivial),fun h=>absurd h (by decide),fun h=>absurd h (by decide),fun h=>absurd h (by decide),fun h=>absurd h (by decide),fun h=>absurd h (by decide)⟩⟩
     case measure=>decide
    ·rw [hb] at d
     have G:=zq (a2.out  hb)
     clear hb a2 z l
     have b1:=G.out
     clear G b7
     subst b1
     have ix:=AF
     go_wp2_with fail
     refine d.out.mono ?_;rintro e w2 ⟨y,C,B,rfl,n,s⟩
     have a:=b.call n
     have a1:=zq s
     have b2:=b.f2.bel.size
     have a9:w.heap.size+1+1<wr.heap.size:=b.rb.lt
     have H:=a.f2.bel
     have a8:=a.rb.lt
     obtain ⟨u0,I⟩:=a.rb.r0
     obtain ⟨u1,J⟩:=a.rb.r1
     obtain ⟨u2,K⟩:=a.rb.r2
     obtain ⟨u3,L⟩:=a.rb.r3
     have f0:=a.rb.rf 0
     have f1:=a.rb.rf 1
     have f2:=a.rb.rf 2
     have f3:=a.rb.rf 3
     clear s n b d a
     go_wp2_with fail
     refine aw (v:=aN #[.slice y C B,aa RR.2.name,ab ae RR.2.typ,ab ae RR.2.prec]) (by simp [results,gP,go_sem,I,J,K,L,a8]) rfl ⟨y,C,B,rfl,?_,?_⟩
     ·exact (cM H _ (by omega) _ _ _ _).alloc (by rw [ec];exact H.size) _
     ·exact ((a1.out.put4 a9 _ _ _ _).below ((ak _ _).alloc (ag _) _)).mono b2
   ·clear H0 H2 H3 H4 H5 a2 a4 a5 a6 a7
    have d:=zq (H1.out wr b.f2.bel b.f2.wb b.f2.tb)
    obtain ⟨R,z⟩:=lz (jZ o T S t)
    rw [<-z.out] at d a3
    clear H1
    cases hb:(dE t)
    ·rw [hb] at d
     have Z:=zq hb
     clear hb a3 z
     have ix:=AE
     go_wp2_with fail
     refine d.out.mono ?_;rintro e w2 ⟨y,C,B,rfl,n,s⟩
     have a:=b.call n
     clear s n b d
     go_wp2_with fail
     go_roundw
     case rel=>exact ⟨2,rfl,by decide,a.call ((ak _ _).alloc (ag _) _),zq ⟨fun _=>l.out.1 (by decide),(by first | exact fun _=>Z.out | exact fun _=>trivial | exact trivial),fun h=>absurd h (by decide),fun h=>absurd h (by decide),fun h=>absurd h (by decide),fun h=>absurd h (by decide)⟩⟩
     case measure=>decide
    ·rw [hb] at d
     have G:=zq (a3.out (l.out.1 (by decide)) hb)
     clear hb a3 z l
     have b1:=G.out
     clear G b7
     subst b1
     have ix:=AE
     go_wp2_with fail
     refine d.out.mono ?_;rintro e w2 ⟨y,C,B,rfl,n,s⟩
     have a:=b.call n
     have a1:=zq s
     have b2:=b.f2.bel.size
     have a9:w.heap.size+1+1<wr.heap.size:=b.rb.lt
     have H:=a.f2.bel
     have a8:=a.rb.lt
     obtain ⟨u0,I⟩:=a.rb.r0
     obtain ⟨u1,J⟩:=a.rb.r1
     obtain ⟨u2,K⟩:=a.rb.r2
     obtain ⟨u3,L⟩:=a.rb.r3
     have f0:=a.rb.rf 0
     have f1:=a.rb.rf 1
     have f2:=a.rb.rf 2
     have f3:=a.rb.rf 3
     clear s n b d a
     go_wp2_with fail
     refine aw (v:=aN #[.slice y C B,aa RR.2.name,ab ae RR.2.typ,ab ae RR.2.prec]) (by simp [results,gP,go_sem,I,J,K,L,a8]) rfl ⟨y,C,B,rfl,?_,?_⟩
     ·exact (cM H _ (by omega) _ _ _ _).alloc (by rw [ec];exact H.size) _
     ·exact ((a1.out.put4 a9 _ _ _ _).below ((ak _ _).alloc (ag _) _)).mono b2
   ·clear H0 H1 H3 H4 H5 a2 a3 a5 a6 a7
    have d:=zq (H2.out wr b.f2.bel b.f2.wb b.f2.tb)
    obtain ⟨R,z⟩:=lz (li o T S t)
    rw [<-z.out] at d a4
    clear H2
    cases hb:(iE o t)
    ·rw [hb] at d
     have Z:=zq hb
     clear hb a4 z
     have ix:=AD
     go_wp2_with fail
     refine d.out.mono ?_;rintro e w2 ⟨y,C,B,rfl,n,s⟩
     have a:=b.call n
     clear s n b d
     go_wp2_with fail
     go_roundw
     case rel=>exact ⟨3,rfl,by decide,a.call ((ak _ _).alloc (ag _) _),zq ⟨fun _=>l.out.1 (by decide),fun _=>l.out.2.1 (by decide),(by first | exact fun _=>Z.out | exact fun _=>trivial | exact trivial),fun h=>absurd h (by decide),fun h=>absurd h (by decide),fun h=>absurd h (by decide)⟩⟩
     case measure=>decide
    ·rw [hb] at d
     have G:=zq (a4.out (l.out.1 (by decide)) (l.out.2.1 (by decide)) hb)
     clear hb a4 z l
     have b1:=G.out
     clear G b7
     subst b1
     have ix:=AD
     go_wp2_with fail
     refine d.out.mono ?_;rintro e w2 ⟨y,C,B,rfl,n,s⟩
     have a:=b.call n
     have a1:=zq s
     have b2:=b.f2.bel.size
     have a9:w.heap.size+1+1<wr.heap.size:=b.rb.lt
     have H:=a.f2.bel
     have a8:=a.rb.lt
     obtain ⟨u0,I⟩:=a.rb.r0
     obtain ⟨u1,J⟩:=a.rb.r1
     obtain ⟨u2,K⟩:=a.rb.r2
     obtain ⟨u3,L⟩:=a.rb.r3
     have f0:=a.rb.rf 0
     have f1:=a.rb.rf 1
     have f2:=a.rb.rf 2
     have f3:=a.rb.rf 3
     clear s n b d a
     go_wp2_with fail
     refine aw (v:=aN #[.slice y C B,aa RR.2.name,ab ae RR.2.typ,ab ae RR.2.prec]) (by simp [results,gP,go_sem,I,J,K,L,a8]) rfl ⟨y,C,B,rfl,?_,?_⟩
     ·exact (cM H _ (by omega) _ _ _ _).alloc (by rw [ec];exact H.size) _
     ·exact ((a1.out.put4 a9 _ _ _ _).below ((ak _ _).alloc (ag _) _)).mono b2
   ·clear H0 H1 H2 H4 H5 a2 a3 a4 a6 a7
    have d:=zq (H3.out wr b.f2.bel b.f2.wb b.f2.tb)
    obtain ⟨R,z⟩:=lz (mL o T S t)
    rw [<-z.out] at d a5
    clear H3
    cases hb:(jT o T t)
    ·rw [hb] at d
     have Z:=zq hb
     clear hb a5 z
     have ix:=AC
     go_wp2_with fail
     refine d.out.mono ?_;rintro e w2 ⟨y,C,B,rfl,n,s⟩
     have a:=b.call n
     clear s n b d
     go_wp2_with fail
     go_roundw
     case rel=>exact ⟨4,rfl,by decide,a.call ((ak _ _).alloc (ag _) _),zq ⟨fun _=>l.out.1 (by decide),fun _=>l.out.2.1 (by decide),fun _=>l.out.2.2.1 (by decide),(by first | exact fun _=>Z.out | exact fun _=>trivial | exact trivial),fun h=>absurd h (by decide),fun h=>absurd h (by decide)⟩⟩
     case measure=>decide
    ·rw [hb] at d
     have G:=zq (a5.out (l.out.1 (by decide)) (l.out.2.1 (by decide)) (l.out.2.2.1 (by decide)) hb)
     clear hb a5 z l
     have b1:=G.out
     clear G b7
     subst b1
     have ix:=AC
     go_wp2_with fail
     refine d.out.mono ?_;rintro e w2 ⟨y,C,B,rfl,n,s⟩
     have a:=b.call n
     have a1:=zq s
     have b2:=b.f2.bel.size
     have a9:w.heap.size+1+1<wr.heap.size:=b.rb.lt
     have H:=a.f2.bel
     have a8:=a.rb.lt
     obtain ⟨u0,I⟩:=a.rb.r0
     obtain ⟨u1,J⟩:=a.rb.r1
     obtain ⟨u2,K⟩:=a.rb.r2
     obtain ⟨u3,L⟩:=a.rb.r3
     have f0:=a.rb.rf 0
     have f1:=a.rb.rf 1
     have f2:=a.rb.rf 2
     have f3:=a.rb.rf 3
     clear s n b d a
     go_wp2_with fail
     refine aw (v:=aN #[.slice y C B,aa RR.2.name,ab ae RR.2.typ,ab ae RR.2.prec]) (by simp [results,gP,go_sem,I,J,K,L,a8]) rfl ⟨y,C,B,rfl,?_,?_⟩
     ·exact (cM H _ (by omega) _ _ _ _).alloc (by rw [ec];exact H.size) _
     ·exact ((a1.out.put4 a9 _ _ _ _).below ((ak _ _).alloc (ag _) _)).mono b2
   ·clear H0 H1 H2 H3 H5 a2 a3 a4 a5 a7
    have d:=zq (H4.out wr b.f2.bel b.f2.wb b.f2.tb)
    obtain ⟨R,z⟩:=lz (lg o T S t)
    rw [<-z.out] at d a6
    clear H4
    cases hb:(jc o T t)
    ·rw [hb] at d
     have Z:=zq hb
     clear hb a6 z
     have ix:=AB
     go_wp2_with fail
     refine d.out.mono ?_;rintro e w2 ⟨y,C,B,rfl,n,s⟩
     have a:=b.call n
     clear s n b d
     go_wp2_with fail
     go_roundw
     case rel=>exact ⟨5,rfl,by decide,a.call ((ak _ _).alloc (ag _) _),zq ⟨fun _=>l.out.1 (by decide),fun _=>l.out.2.1 (by decide),fun _=>l.out.2.2.1 (by decide),fun _=>l.out.2.2.2.1 (by decide),(by first | exact fun _=>Z.out | exact fun _=>trivial | exact trivial),fun h=>absurd h (by decide)⟩⟩
     case measure=>decide
    ·rw [hb] at d
     have G:=zq (a6.out (l.out.1 (by decide)) (l.out.2.1 (by decide)) (l.out.2.2.1 (by decide)) (l.out.2.2.2.1 (by decide)) hb)
     clear hb a6 z l
     have b1:=G.out
     clear G b7
     subst b1
     have ix:=AB
     go_wp2_with fail
     refine d.out.mono ?_;rintro e w2 ⟨y,C,B,rfl,n,s⟩
     have a:=b.call n
     have a1:=zq s
     have b2:=b.f2.bel.size
     have a9:w.heap.size+1+1<wr.heap.size:=b.rb.lt
     have H:=a.f2.bel
     have a8:=a.rb.lt
     obtain ⟨u0,I⟩:=a.rb.r0
     obtain ⟨u1,J⟩:=a.rb.r1
     obtain ⟨u2,K⟩:=a.rb.r2
     obtain ⟨u3,L⟩:=a.rb.r3
     have f0:=a.rb.rf 0
     have f1:=a.rb.rf 1
     have f2:=a.rb.rf 2
     have f3:=a.rb.rf 3
     clear s n b d a
     go_wp2_with fail
     refine aw (v:=aN #[.slice y C B,aa RR.2.name,ab ae RR.2.typ,ab ae RR.2.prec]) (by simp [results,gP,go_sem,I,J,K,L,a8]) rfl ⟨y,C,B,rfl,?_,?_⟩
     ·exact (cM H _ (by omega) _ _ _ _).alloc (by rw [ec];exact H.size) _
     ·exact ((a1.out.put4 a9 _ _ _ _).below ((ak _ _).alloc (ag _) _)).mono b2
   ·clear H0 H1 H2 H3 H4 a2 a3 a4 a5 a6
    have d:=zq (H5.out wr b.f2.bel b.f2.wb b.f2.tb)
    obtain ⟨R,z⟩:=lz (jY o T S t)
    rw [<-z.out] at d a7
    clear H5
    cases hb:(iJ o T t)
    ·rw [hb] at d
     have Z:=zq hb
     clear hb a7 z
     have ix:=AA
     go_wp2_with fail
     refine d.out.mono ?_;rintro e w2 ⟨y,C,B,rfl,n,s⟩
     have a:=b.call n
     clear s n b d
     go_wp2_with fail
     go_roundw
     case rel=>exact ⟨6,rfl,by decide,a.call ((ak _ _).alloc (ag _) _),zq ⟨fun _=>l.out.1 (by decide),fun _=>l.out.2.1 (by decide),fun _=>l.out.2.2.1 (by decide),fun _=>l.out.2.2.2.1 (by decide),fun _=>l.out.2.2.2.2.1 (by decide),(by first | exact fun _=>Z.out | exact fun _=>trivial | exact trivial)⟩⟩
     case measure=>decide
    ·rw [hb] at d
     have G:=zq (a7.out (l.out.1 (by decide)) (l.out.2.1 (by decide)) (l.out.2.2.1 (by decide)) (l.out.2.2.2.1 (by decide)) (l.out.2.2.2.2.1 (by decide)) hb)
     clear hb a7 z l
     have b1:=G.out
     clear G b7
     subst b1
     have ix:=AA
     go_wp2_with fail
     refine d.out.mono ?_;rintro e w2 ⟨y,C,B,rfl,n,s⟩
     have a:=b.call n
     have a1:=zq s
     have b2:=b.f2.bel.size
     have a9:w.heap.size+1+1<wr.heap.size:=b.rb.lt
     have H:=a.f2.bel
     have a8:=a.rb.lt
     obtain ⟨u0,I⟩:=a.rb.r0
     obtain ⟨u1,J⟩:=a.rb.r1
     obtain ⟨u2,K⟩:=a.rb.r2
     obtain ⟨u3,L⟩:=a.rb.r3
     have f0:=a.rb.rf 0
     have f1:=a.rb.rf 1
     have f2:=a.rb.rf 2
     have f3:=a.rb.rf 3
     clear s n b d a
     go_wp2_with fail
     refine aw (v:=aN #[.slice y C B,aa RR.2.name,ab ae RR.2.typ,ab ae RR.2.prec]) (by simp [results,gP,go_sem,I,J,K,L,a8]) rfl ⟨y,C,B,rfl,?_,?_⟩
     ·exact (cM H _ (by omega) _ _ _ _).alloc (by rw [ec];exact H.size) _
     ·exact ((a1.out.put4 a9 _ _ _ _).below ((ak _ _).alloc (ag _) _)).mono b2
  ·have Y:k=6:=by omega
   subst Y
   have e7:=e4.out (l.out.1 (by decide)) (l.out.2.1 (by decide)) (l.out.2.2.1 (by decide)) (l.out.2.2.2.1 (by decide)) (l.out.2.2.2.2.1 (by decide)) (l.out.2.2.2.2.2 (by decide))
   clear H0 H1 H2 H3 H4 H5 a2 a3 a4 a5 a6 a7 e4 l b7 Y j1
   obtain ⟨r,i3⟩:=lz (jo o t.name)
   obtain ⟨RW,i6⟩:=lz (cY (cF o T S) t.args)
   rw [<-i3.out] at d9 e7
   rw [<-i6.out] at e3 e0 e7
   have j4:=e0.out
   obtain ⟨BL,d5⟩:=lz (s1 40::(RW++[s1 41]))
   obtain ⟨BN,b3⟩:=lz (BL.length)
   have d6:0<BN:=by rw [b3.out,d5.out];simp
   have j3:BN<=80002:=by rw [b3.out,d5.out];simp;omega
   have i7:Hid (RR=(r::BL,op0)):=zq (by rw [e7,d5.out])
   have d3:w.heap.size+2<wr.heap.size:=b.rb.lt
   have g0:=b.f2.bel
   have j2:=g0.size
   have a0:Hid (∀X,RegH (w.heap.size+2) wr X->X.cell? ⟨w.heap.size,0,none⟩=some (an o.q)/\X.cell? ⟨w.heap.size,1,none⟩=some (an o.ig)/\X.cell? ⟨w.heap.size,2,none⟩=some (an o.nu)/\X.cell? ⟨w.heap.size,3,none⟩=some (.slice TA TN TC)/\X.cell? ⟨w.heap.size+1,2,none⟩=some (aa t.name)/\X.cell? ⟨w.heap.size+1,3,none⟩=some (.slice A LN u)/\RegH (w.heap.size+2) wr X):=zq (fun X h=>by
    have F:∀g k,g<wr.heap.size->g≠w.heap.size+2->X.cell? ⟨g,k,none⟩=wr.cell? ⟨g,k,none⟩:=fun g k h1 h2=>h.on.cell (p:=⟨g,k,none⟩) h1 h2
    have b9:=b.f2.wb
    have f7:=b.f2.tb
    have h3:=f7.c3
    rw [<-HL.out] at h3
    exact ⟨(F _ _ b9.lt (by omega)).trans b9.c0,(F _ _ b9.lt (by omega)).trans b9.c1,(F _ _ b9.lt (by omega)).trans b9.c2,(F _ _ b9.lt (by omega)).trans b9.c3,(F _ _ f7.lt (by omega)).trans f7.c2,(F _ _ f7.lt (by omega)).trans h3,h⟩)
   have N:Hid (∀X,(X.cell? ⟨w.heap.size,0,none⟩=some (an o.q)/\X.cell? ⟨w.heap.size,1,none⟩=some (an o.ig)/\X.cell? ⟨w.heap.size,2,none⟩=some (an o.nu)/\X.cell? ⟨w.heap.size,3,none⟩=some (.slice TA TN TC)/\X.cell? ⟨w.heap.size+1,2,none⟩=some (aa t.name)/\X.cell? ⟨w.heap.size+1,3,none⟩=some (.slice A LN u)/\RegH (w.heap.size+2) wr X)->RegH (w.heap.size+2) wr X):=zq (fun X h=>h.2.2.2.2.2.2)
   have i9:Hid (RegH (w.heap.size+2) wr wr.drew):=zq (RegH.drew ⟨Only.refl _ _,b.rb⟩)
   have e9:∀X,RegH (w.heap.size+2) wr X->ay w.heap.size w X:=fun X h=>g0.trans (h.on.below (by omega) g0.size)
   have i2:=zq e9
   have i4:=zq (fun X h=>d9.out X (e9 X h))
   have i8:Hid (∀X,RegH (w.heap.size+2) wr X->aG ah 133 #[.slice A LN u,.func (.func 134) #[aN #[an o.q,an o.ig,an o.nu,.slice TA TN TC]] #[]] X fun e w'=>∃v,e=av v/\ay X.heap.size X w'/\OwnS 9 wr.heap.size w' v RW) :=
    zq (fun X h=>(e3.out X (e9 X h)).mono fun _ _ ⟨v,he,hB,hO⟩=>⟨v,he,hB,hO.mono h.on.size⟩)
   have d8:Hid (∀X,RegH (w.heap.size+2) wr X->∀v,OwnS 9 wr.heap.size X v RW->aG ah 118 #[aa ⟨#[40]⟩,v,aa ⟨#[41]⟩] X fun e w'=>∃g c,e=av (.slice (some ⟨g,0,none⟩) BN c)/\ay X.heap.size X w'/\OwnS 9 wr.heap.size w' (.slice (some ⟨g,0,none⟩) BN c) BL) :=
    zq (fun X h v hv=>(yx ⟨#[40]⟩ ⟨#[41]⟩ hv (by omega)).mono fun _ _ ⟨g,c,he,hB,hO⟩=>⟨g,c,by rw [b3.out,d5.out];exact he,hB,by rw [b3.out,d5.out];exact hO.mono h.on.size⟩)
   clear e9 d9 e3 e0 b e7
   go_upto_region 9 with fail
   go_region_held3 (fun w'=>w'.cell? ⟨w.heap.size,0,none⟩=some (an o.q)/\w'.cell? ⟨w.heap.size,1,none⟩=some (an o.ig)/\w'.cell? ⟨w.heap.size,2,none⟩=some (an o.nu)/\w'.cell? ⟨w.heap.size,3,none⟩=some (.slice TA TN TC)/\w'.cell? ⟨w.heap.size+1,2,none⟩=some (aa t.name)/\w'.cell? ⟨w.heap.size+1,3,none⟩=some (.slice A LN u)/\RegH (w.heap.size+2) wr w')
    (first
     | with_reducible exact a0.out _ i9.out
     | with_reducible exact a0.out _ (RegH.call (N.out _ (by with_reducible assumption)) (by with_reducible assumption))
     | with_reducible exact a0.out _ f
     | with_reducible exact a0.out _ d7
     | with_reducible exact a0.out _ f9
     | with_reducible exact a0.out _ d1
     | with_reducible exact a0.out _ (RegH.alloc d7 _)
     | with_reducible exact a0.out _ (RegH.alloc f9 _)
     | with_reducible exact a0.out _ (RegH.alloc d1 _)
     | with_reducible exact a0.out _ (RegH.alloc (N.out _ (by with_reducible assumption)) _)
     | with_reducible exact a0.out _ (RegH.put4 (N.out _ (by with_reducible assumption)) _ _ _ _))
    (first
     | (go_at_call 83;have h6:=N.out _ (by with_reducible assumption);(with_reducible refine (i4.out _ h6).mono ?_);rintro e M ⟨rfl,e5⟩;have d7:=h6.call e5)
     | (go_at_call 133;have h7:=N.out _ (by with_reducible assumption);(with_reducible refine (i8.out _ h7).mono ?_);rintro e w5 ⟨v5,rfl,g3,e6⟩;have f9:=h7.call g3)
     | (go_at_call 118;have b0:=N.out w5 (by with_reducible assumption);(with_reducible refine (d8.out _ b0 v5 e6).mono ?_);rintro e D ⟨U,Q,rfl,b4,b8⟩;have d1:=b0.call b4)
     | (go_at_call 118;have b0:=N.out M (by with_reducible assumption);(with_reducible refine (d8.out _ b0 v5 (e6.below e5)).mono ?_);rintro e D ⟨U,Q,rfl,b4,b8⟩;have d1:=b0.call b4)
     | (go_at_call 118;have b0:=N.out (w5.alloc (.cells #[aa r] 9)) (by with_reducible assumption);(with_reducible refine (d8.out _ b0 v5 (e6.below ((ak _ _).alloc (ag _) (.cells #[aa r] 9)))).mono ?_);rintro e D ⟨U,Q,rfl,b4,b8⟩;have d1:=b0.call b4)
     | (go_at_call 118;have b0:=N.out (M.alloc (.cells #[aa r] 9)) (by with_reducible assumption);(with_reducible refine (d8.out _ b0 v5 ((e6.below e5).below ((ak _ _).alloc (ag _) (.cells #[aa r] 9)))).mono ?_);rintro e D ⟨U,Q,rfl,b4,b8⟩;have d1:=b0.call b4)
     | (have P:=N.out (D.alloc (.cells #[aa r] 9)) (by with_reducible assumption);have O:OwnS 9 wr.heap.size (D.alloc (.cells #[aa r] 9)) (.slice (some ⟨D.heap.size,0,none⟩) 1 1) [r]:=((OwnS.one 9 D r).mono d1.on.size);have b6:OwnS 9 wr.heap.size (D.alloc (.cells #[aa r] 9)) (.slice (some ⟨U,0,none⟩) BN Q) BL:=b8.below ((ak _ _).alloc (ag _) (.cells #[aa r] 9));refine bZ _ (by rfl) _ _ 28 (by rfl) wr.heap.size 9 i _ 1 16 aS HI.out c5.out c8.out c9.out (by rfl) (by decide) (.slice (some ⟨D.heap.size,0,none⟩) 1 1) 1 ([r].map aM) (by rfl) O ⟨U,0,none⟩ BN Q (BL.map aM) (by rfl) (by rw [b3.out,bm,Nat.mul_one]) (lI b6) (fM _) d6 (by unfold bc;omega) (by omega) P.on.size (D.heap.size+1) (by simp) ?_;intro g7 c7 w7 d4 b5 e8 f4;have f:RegH (w.heap.size+2) wr w7:=P.grown b5 (fun k Y=>(O.lt k Y).1) d3;obtain ⟨u0,I⟩:=f.rb.r0;obtain ⟨u1,J⟩:=f.rb.r1;obtain ⟨u2,K⟩:=f.rb.r2;obtain ⟨u3,L⟩:=f.rb.r3;have f0:=f.rb.rf 0;have f1:=f.rb.rf 1;have f2:=f.rb.rf 2;have f3:=f.rb.rf 3)
     | (have P:=N.out (M.alloc (.cells #[aa r] 9)) (by with_reducible assumption);have O:OwnS 9 wr.heap.size (M.alloc (.cells #[aa r] 9)) (.slice (some ⟨M.heap.size,0,none⟩) 1 1) [r]:=((OwnS.one 9 M r).mono d7.on.size);have b6:OwnS 9 wr.heap.size (M.alloc (.cells #[aa r] 9)) (.slice (some ⟨U,0,none⟩) BN Q) BL:=(b8.below e5).below ((ak _ _).alloc (ag _) (.cells #[aa r] 9));refine bZ _ (by rfl) _ _ 28 (by rfl) wr.heap.size 9 i _ 1 16 aS HI.out c5.out c8.out c9.out (by rfl) (by decide) (.slice (some ⟨M.heap.size,0,none⟩) 1 1) 1 ([r].map aM) (by rfl) O ⟨U,0,none⟩ BN Q (BL.map aM) (by rfl) (by rw [b3.out,bm,Nat.mul_one]) (lI b6) (fM _) d6 (by unfold bc;omega) (by omega) P.on.size (M.heap.size+1) (by simp) ?_;intro g7 c7 w7 d4 b5 e8 f4;have f:RegH (w.heap.size+2) wr w7:=P.grown b5 (fun k Y=>(O.lt k Y).1) d3;obtain ⟨u0,I⟩:=f.rb.r0;obtain ⟨u1,J⟩:=f.rb.r1;obtain ⟨u2,K⟩:=f.rb.r2;obtain ⟨u3,L⟩:=f.rb.r3;have f0:=f.rb.rf 0;have f1:=f.rb.rf 1;have f2:=f.rb.rf 2;have f3:=f.rb.rf 3)
     | (have P:=N.out (D) (by with_reducible assumption);have O:OwnS 9 wr.heap.size (D) (.slice (some ⟨w5.heap.size,0,none⟩) 1 1) [r]:=((OwnS.one 9 w5 r).mono f9.on.size).below b4;have b6:OwnS 9 wr.heap.size (D) (.slice (some ⟨U,0,none⟩) BN Q) BL:=b8;refine bZ _ (by rfl) _ _ 28 (by rfl) wr.heap.size 9 i _ 1 16 aS HI.out c5.out c8.out c9.out (by rfl) (by decide) (.slice (some ⟨w5.heap.size,0,none⟩) 1 1) 1 ([r].map aM) (by rfl) O ⟨U,0,none⟩ BN Q (BL.map aM) (by rfl) (by rw [b3.out,bm,Nat.mul_one]) (lI b6) (fM _) d6 (by unfold bc;omega) (by omega) P.on.size D.heap.size rfl ?_;intro g7 c7 w7 d4 b5 e8 f4;have f:RegH (w.heap.size+2) wr w7:=P.grown b5 (fun k Y=>(O.lt k Y).1) d3;obtain ⟨u0,I⟩:=f.rb.r0;obtain ⟨u1,J⟩:=f.rb.r1;obtain ⟨u2,K⟩:=f.rb.r2;obtain ⟨u3,L⟩:=f.rb.r3;have f0:=f.rb.rf 0;have f1:=f.rb.rf 1;have f2:=f.rb.rf 2;have f3:=f.rb.rf 3)
     | (have P:=N.out (D) (by with_reducible assumption);have O:OwnS 9 wr.heap.size (D) (.slice (some ⟨M.heap.size,0,none⟩) 1 1) [r]:=((OwnS.one 9 M r).mono d7.on.size).below b4;have b6:OwnS 9 wr.heap.size (D) (.slice (some ⟨U,0,none⟩) BN Q) BL:=b8;refine bZ _ (by rfl) _ _ 28 (by rfl) wr.heap.size 9 i _ 1 16 aS HI.out c5.out c8.out c9.out (by rfl) (by decide) (.slice (some ⟨M.heap.size,0,none⟩) 1 1) 1 ([r].map aM) (by rfl) O ⟨U,0,none⟩ BN Q (BL.map aM) (by rfl) (by rw [b3.out,bm,Nat.mul_one]) (lI b6) (fM _) d6 (by unfold bc;omega) (by omega) P.on.size D.heap.size rfl ?_;intro g7 c7 w7 d4 b5 e8 f4;have f:RegH (w.heap.size+2) wr w7:=P.grown b5 (fun k Y=>(O.lt k Y).1) d3;obtain ⟨u0,I⟩:=f.rb.r0;obtain ⟨u1,J⟩:=f.rb.r1;obtain ⟨u2,K⟩:=f.rb.r2;obtain ⟨u3,L⟩:=f.rb.r3;have f0:=f.rb.rf 0;have f1:=f.rb.rf 1;have f2:=f.rb.rf 2;have f3:=f.rb.rf 3)
     | (have P:=N.out (D) (by with_reducible assumption);have O:OwnS 9 wr.heap.size (D) (.slice (some ⟨M.heap.size,0,none⟩) 1 1) [r]:=(((OwnS.one 9 M r).mono d7.on.size).below g3).below b4;have b6:OwnS 9 wr.heap.size (D) (.slice (some ⟨U,0,none⟩) BN Q) BL:=b8;refine bZ _ (by rfl) _ _ 28 (by rfl) wr.heap.size 9 i _ 1 16 aS HI.out c5.out c8.out c9.out (by rfl) (by decide) (.slice (some ⟨M.heap.size,0,none⟩) 1 1) 1 ([r].map aM) (by rfl) O ⟨U,0,none⟩ BN Q (BL.map aM) (by rfl) (by rw [b3.out,bm,Nat.mul_one]) (lI b6) (fM _) d6 (by unfold bc;omega) (by omega) P.on.size D.heap.size rfl ?_;intro g7 c7 w7 d4 b5 e8 f4;have f:RegH (w.heap.size+2) wr w7:=P.grown b5 (fun k Y=>(O.lt k Y).1) d3;obtain ⟨u0,I⟩:=f.rb.r0;obtain ⟨u1,J⟩:=f.rb.r1;obtain ⟨u2,K⟩:=f.rb.r2;obtain ⟨u3,L⟩:=f.rb.r3;have f0:=f.rb.rf 0;have f1:=f.rb.rf 1;have f2:=f.rb.rf 2;have f3:=f.rb.rf 3)
     | fail)
   all_goals
    have j0:=cM (i2.out w7 f) (w.heap.size+2) (by omega) (.slice (some ⟨g7,0,none⟩) (1+BN) c7) (aa ⟨#[]⟩) (ab ae 0) (ab ae 0)
    have i5:Hid (OwnS 9 wr.heap.size w7 (.slice (some ⟨g7,0,none⟩) (1+BN) c7) (r::BL)):=zq (by
     unfold OwnS
     have e1:(r::BL).length=1+BN:=by rw [b3.out];simp;omega
     have e2:(r::BL).map aM=([r].map aM)++BL.map aM:=by simp
     rw [e1,e2];exact d4)
    clear d4 b5
    go_wp2_with fail
    refine aw (v:=aN #[.slice (some ⟨g7,0,none⟩) (1+BN) c7,aa ⟨#[]⟩,ab ae 0,ab ae 0]) (by simp [results,gP,go_sem,I,J,K,L]) rfl ?_
    have e:=i7.out
    subst e
    exact ⟨_,_,_,rfl,j0,(i5.out.put4 d3 _ _ _ _).mono j2⟩
end Go.Proofs.YtgapnafkelokaaaGreatDoor
namespace Hb
open Go Go.RowKit
def Small (l:List ByteArray):Prop:=∀s∈l,s.size<=1000
theorem Small.nil:Small []:=fun s a=>by cases a
theorem Small.cons {s:ByteArray} {l:List ByteArray} (h:s.size<=1000) (k:Small l):Small (s::l):=fun x a=>by
 rcases bi.1 a with rfl | a
 ·exact h
 ·exact k x a
theorem Small.app {l k:List ByteArray} (h:Small l) (b:Small k):Small (l++k):=fun x a=>by
 rcases List.mem_append.1 a with a | a
 ·exact h x a
 ·exact b x a
theorem iZ (c:UInt8):(s1 c).size<=1000:=by show 1<=1000;decide
theorem Small.one {s:ByteArray} (h:s.size<=1000):Small [s]:=Small.cons h Small.nil
theorem Small.brk {l:List ByteArray} (h:Small l) (b:Bool):Small (brk l b):=by
 unfold Hb.brk
 split
 ·exact .cons (iZ _) (h.app (.one (iZ _)))
 ·exact h
theorem Small.hd {l:List ByteArray} (h:Small l):(hd l).size<=1000:=by
 unfold Hb.hd
 cases l with
 | nil=>show 0<=1000;decide
 | cons a l=>exact h a (aY ..)
theorem qo (a b:ByteArray):(a++b).size=a.size+b.size:=ByteArray.size_append
theorem Fl {t:Tm} (h:cV t=true):(kV t.num).size<=21:=pk _ ((fh t).1 h).1 ((fh t).1 h).2
variable {o:WO} {T:List OpR} {S:Tm->WR}
theorem sh {s:ByteArray} (h:s.size<=100):(jo o s).size<=1000:=by
 unfold jo
 split
 ·rw [rL]
  unfold gq
  split
  ·rw [size_data];omega
  ·have:=vX s.data.toList
   rw [size_data] at this
   unfold fY
   simp only [aC,be,dm]
   omega
 ·omega
theorem vL {n:Int} (a:-9223372036854775808<=n) (b:n<=9223372036854775807):(kn n).size<=1000:=by
 unfold kn
 split
 ·exact iZ _
 ·have:=pk (n / 26) (by omega) (by omega)
  rw [qo]
  show 1+_<=_
  omega
theorem gR {t:Tm} (h:Tm.All Okf t) (a:Small (S t).1) (m:Int) (b:Bool):Small (bo o T S t m b):=by
 have d:=Fl h.here.2
 have c:=sh (o:=o) (jn h.here.1)
 unfold bo
 split
 ·exact .one (by rw [qo];show 1+_<=_;omega)
 split
 ·exact .one (by omega)
 split
 ·exact (Small.one c).brk _
 ·exact a.brk _
theorem sv {t:Tm} (h:Tm.All Okf t) (a:Small (S t).1) (op:OpR):Small (dC o T S t op):=by
 unfold dC
 split
 ·exact a.brk _
 ·exact gR h a _ _
theorem sK (P:Tm->List ByteArray):∀l:List Tm,(∀x∈l,Small (P x))->Small (l.flatMap fun u=>s1 44::P u)
 | [],_=>Small.nil
 | a::l,h=>by
  rw [gz]
  exact (Small.cons (iZ _) (h a (aY ..))).app (sK P l fun x b=>h x (ba _ b))
theorem tX (P:Tm->List ByteArray) (l:List Tm) (h:∀x∈l,Small (P x)):Small (cY P l):=by
 cases l with
 | nil=>exact Small.nil
 | cons a l=>exact (h a (aY ..)).app (sK P l fun x b=>h x (ba _ b))
theorem qg {P:Tm->Prop} (b:Tm.All P tm0):∀(n:Nat) (t:Tm),t.nodes<=n->Tm.All P t->(∀x∈cE t,Tm.All P x)/\Tm.All P (cS t)
 | 0,t,h,_=>absurd h (by have:=t.nodes_pos;omega)
 | n+1,t,h,hk=>by
  cases hc:t.cons
  ·rw [iI hc,jl hc]
   exact ⟨fun x a=>absurd a (List.not_mem_nil),hk⟩
  ·have e:=sW hc
   have f:=(t.arg 0).nodes_pos
   obtain ⟨c,d⟩:=qg b n (t.arg 1) (by omega) (hk.arg b 1)
   rw [ju hc,kG hc]
   refine ⟨fun x a=>?_,d⟩
   rcases bi.1 a with rfl | a
   ·exact hk.arg b 0
   ·exact c x a
theorem yP {s:ByteArray} (h:s.size<=100):(jm o s).size<=1000:=by
 unfold jm
 split
 ·omega
 ·exact sh h
theorem Bw (b:∀x,Tm.All Okf x->Small (S x).1) {t:Tm} (h:Tm.All Okf t):Small (mx o T S t).1:=by
 have d:=sh (o:=o) (jn h.here.1)
 have a:=fun j=>h.arg Okf.tm0 j
 obtain ⟨e,f⟩:=qg Okf.tm0 t.nodes t (ag _) h
 unfold mx
 split
 ·have:=(fh _).1 (a 0).here.2
  exact .one (vL this.1 this.2)
 split
 ·refine .cons (iZ _) ((Small.app (tX _ _ fun x c=>gR (e x c) (b x (e x c)) _ _) ?_).app (.one (iZ _)))
  unfold iR
  split
  ·exact Small.nil
  ·exact .cons (iZ _) (gR f (b _ f) _ _)
 split
 ·exact .cons (iZ _) ((gR (a 0) (b _ (a 0)) _ _).app (.one (iZ _)))
 split
 ·exact ((sv (a 0) (b _ (a 0)) _).app (.one (yP (jn h.here.1)))).app (gR (a 1) (b _ (a 1)) _ _)
 split
 ·refine .cons d (.app ?_ ?_)
  ·split
   ·exact .one (iZ _)
   ·exact Small.nil
  ·exact (gR (a 0) (b _ (a 0)) _ _).brk _
 split
 ·exact (sv (a 0) (b _ (a 0)) _).app (.one d)
 ·exact .cons d (.cons (iZ _) ((tX _ _ fun x c=>gR (h.sub x c) (b x (h.sub x c)) _ _).app (.one (iZ _))))
theorem rE (o:WO) (T:List OpR):∀(f:Nat) (t:Tm),Tm.All Okf t->Small (tt o T f t).1
 | 0,_,_=>Small.nil
 | f+1,_,h=>Bw (rE o T f) h
theorem Bt (o:WO) (T:List OpR) {t:Tm} (h:Tm.All Okf t):Small (str o T t).1:=rE o T _ t h
theorem nD (o:WO) (T:List OpR) {t:Tm} (h:Tm.All Okf t) (m:Int) (b:Bool):Small (km o T t m b):=gR h (Bt o T h) m b
theorem rk (o:WO) (T:List OpR) {t:Tm} (h:K4 t) (m:Int) (b:Bool):(km o T t m b).length+1<=9 * t.nodes:=eY (oK o T h) m b
theorem AJ (o:WO) (T:List OpR) {t:Tm} (h:K4 t) (m:Int) (b:Bool):0<(km o T t m b).length:=Cj (by rcases h.kind with h | h | h | h <;> simp [h];exact Gn o T t) m b
end Hb
namespace Go.Proofs.YtgapnafkelokaaaGreatDoor
open Go.RowKit Hb
variable {o:WO} {T:List OpR} {TA:Option Addr} {TN TC:Nat}
theorem SOK.congr {S S':Tm->WR} {t:Tm} (h:S t=S' t) (k:SOK o T TA TN TC S t):SOK o T TA TN TC S' t:=by
 unfold SOK at k |-
 rw [<-h];exact k
theorem rx:∀(n:Nat) (t:Tm),t.nodes<=n->t.nodes<=2000->Tm.All Okf t->uF o T TA TN TC (str o T) t/\(t.kind=3->SOK o T TA TN TC (str o T) t)
 | 0,t,h,_,_=>absurd h (by have:=t.nodes_pos;omega)
 | n+1,t,hn,k,hok=>by
  have b:=Okf.k4 hok
  have F:=oK o T b
  have p:t.kind=3->SOK o T TA TN TC (str o T) t:=fun v=>by
   refine SOK.congr (yM o T b).symm ?_
   obtain ⟨f,q,B⟩:=sS b
   obtain ⟨r,s⟩:=qg Okf.tm0 t.nodes t (ag _) hok
   have i:=ro t.nodes t (ag _) b
   have c:∀x,K4 x->(str o T x).1.length+3<=9 * x.nodes:=fun x a=>oK o T a
   have A:bu t=true:=by unfold bu;rw [decide_eq_true k,Okf.ok hok];rfl
   have E:=qG hok.here.1
   have d:∀j,(t.arg j).nodes<=2000:=fun j=>by
    by_cases z:j<t.args.length
    ·have:=t.nodes_arg j z;omega
    ·have e:t.arg j=tm0:=by unfold Tm.arg;rw [aR,ed (by omega)];rfl
     rw [e,Tm.nodes_eq];simp [tm0,Tm.args]
   have H:=oU (cF o T (str o T)) (cE t) fun x a=>eY (c x (f x a).1) 999 false
   have I:=eY (o:=o) (T:=T) (c _ q) 999 false
   have D:=oU (cF o T (str o T)) t.args fun x a=>eY (c x (b.sub x a)) 999 false
   have G:=Tm.nodes_eq t
   have C:=i.2.2
   refine qv t (fun _=>A) (by omega) (jn hok.here.1) (bh.2 fun x a=>(hok.sub x a).here.2)
    (fun x a=>(rx n x (by have:=lM a;omega) (by have:=lM a;omega) (hok.sub x a)).1)
    (fun x a=>(rx n x (by have:=lM a;omega) (by have:=lM a;omega) (hok.sub x a)).2)
    (fun x a=>(rx n x (by have:=(f x a).2;omega) (by have:=(f x a).2;omega) (r x a)).1)
    (fun l=>?_) ?_ ?_ ?_ ?_ ?_ ?_ (by omega)
   ·unfold dE at l
    have g:t.isNm [46]=true/\t.args.length=2:=by simpa using l
    have y:t.cons=true:=by unfold Tm.cons;rw [v,g.1,g.2];rfl
    have w:=i.2.2
    rw [if_pos y] at w
    exact (rx n _ (by omega) (by omega) s).1
   ·have e:cF o T (str o T) (cS t)=bo o T (str o T) (cS t) 999 false:=rfl
    rw [e]
    omega
   ·have:=c _ (b.arg 0);have:=d 0;omega
   ·have:=eY (o:=o) (T:=T) (c _ (b.arg 0)) 1200 false;have:=d 0;omega
   ·intro j m
    have u:=rk o T (b.arg j) m true
    have k:=d j
    exact ⟨by unfold km at u;omega,AJ o T (b.arg j) m true,aH (nD o T (hok.arg Okf.tm0 j) m true).hd (by decide)⟩
   ·intro op
    have:=pe (o:=o) (T:=T) (c _ (b.arg 0)) op;have:=d 0;omega
   ·omega
  exact ⟨Aj o T TA TN TC (str o T) t hok.here.1 hok.here.2 p (by omega),p⟩
theorem Kl {t:Tm} (q:t.kind=3) (i:dE t=false) (s:t.nodes<=5000) (c:Tm.All Okf t) (g:∀x∈t.args,x.nodes<=2000):uF o T TA TN TC (str o T) t:=by
 have b:=Okf.k4 c
 have z:=oK o T b
 have d:∀x,K4 x->(str o T x).1.length+3<=9 * x.nodes:=fun x a=>oK o T a
 have y:=qG c.here.1
 have n:t.cons=false:=by unfold Tm.cons;rw [q];exact i
 have k:=iI n
 have p:=jl n
 have f:∀j,(t.arg j).nodes<=2000:=fun j=>by
  by_cases r:j<t.args.length
  ·rw [Tm.arg_get t j r];exact g _ (aQ _)
  ·have e:t.arg j=tm0:=by unfold Tm.arg;rw [aR,ed (by omega)];rfl
   rw [e,Tm.nodes_eq];simp [tm0,Tm.args]
 have w:=oU (cF o T (str o T)) t.args fun x a=>eY (d x (b.sub x a)) 999 false
 have A:=Tm.nodes_eq t
 have u:SOK o T TA TN TC (str o T) t:=by
  refine SOK.congr (yM o T b).symm ?_
  refine qv t (fun h=>by rw [i] at h;cases h) s (jn c.here.1) (bh.2 fun x a=>(c.sub x a).here.2)
   (fun x a=>(rx x.nodes x (ag _) (g x a) (c.sub x a)).1)
   (fun x a=>(rx x.nodes x (ag _) (g x a) (c.sub x a)).2)
   (fun x a=>by rw [k] at a;cases a) (fun h=>by rw [i] at h;cases h) ?_ ?_ ?_ ?_ ?_ ?_ (by omega)
  ·have l:=eY (o:=o) (T:=T) (d t b) 999 false
   rw [k,p]
   show ([]:List ByteArray).length+(bo o T (str o T) t 999 false).length<=_
   rw [dm];omega
  ·have:=d _ (b.arg 0);have:=f 0;omega
  ·have:=eY (o:=o) (T:=T) (d _ (b.arg 0)) 1200 false;have:=f 0;omega
  ·intro j m
   have l:=rk o T (b.arg j) m true
   have v:=f j
   exact ⟨by unfold km at l;omega,AJ o T (b.arg j) m true,aH (nD o T (c.arg Okf.tm0 j) m true).hd (by decide)⟩
  ·intro op
   have:=pe (o:=o) (T:=T) (d _ (b.arg 0)) op;have:=f 0;omega
  ·omega
 exact Aj o T TA TN TC (str o T) t c.here.1 c.here.2 (fun _=>u) (by omega)
theorem Ix {t:Tm} (a:t.nodes<=2000) (b:Tm.All Okf t):uF o T TA TN TC (str o T) t:=(rx t.nodes t (ag _) a b).1
end Go.Proofs.YtgapnafkelokaaaGreatDoor
