/- Parts of the proof. -/
import Derived.Test.YtlikcjbjibhjgaaGreatDoorR01
import Derived.Test.YtlikcjbjibhjgaaGreatDoorR08
set_option maxHeartbeats 12800000
set_option maxRecDepth 100000
open Bool renaming and_eq_true -> aF
open Go renaming Calls -> aJ, Value -> az, World -> ai, bodyPost_ret -> ay, maxLen -> be, run_underlying -> gk, step_append_lies -> cg
open Go.Ending renaming returned -> aw
open Go.Instr renaming index -> fj
open Go.IntKind renaming i64 -> ae
open Go.Proofs.Tryz renaming prog -> ah, results110 -> gM, underlying205 -> gn, underlying65 -> bw
open Go.RowKit renaming Below -> ax
open Go.RowKit.Below renaming refl -> aj
open Go.Value renaming agg -> aN, bool -> am, int -> ab, pointer -> au, string -> aQ, string -> aa, tuple -> aK
open List renaming all_eq_true -> bh, flatMap_cons -> ek, getD_eq_getElem?_getD -> aX, getElem?_eq_none -> ej, getElem_mem -> aR, length_append -> aB, length_cons -> bo, length_map -> bm, length_nil -> dL, map_cons -> bE, mem_cons -> bg, mem_cons_of_mem -> aW, mem_cons_self -> aV, sum_cons -> ic
open Nat renaming le_refl -> ag, le_trans -> aI
namespace Hb
open Go Go.RowKit
def jh (o:WO) (t:Tm):Bool:=!o.ig&&(t.isNm [123,125]&&t.args.length==1)
def lW (o:WO) (T:List OpR) (S:Tm->WR) (t:Tm):WR:=if jh o t=true then (s1 123::(bu o T S (t.arg 0) 1200 false++[s1 125]),op0) else ([],op0)
theorem Ba {o:WO} {T:List OpR} {S:Tm->WR} {t:Tm} (h:jh o t=false):lW o T S t=([],op0):=by unfold lW;rw [h];rfl
theorem yV {o:WO} {T:List OpR} {S:Tm->WR} {t:Tm} (h:jh o t=true):lW o T S t=(s1 123::(bu o T S (t.arg 0) 1200 false++[s1 125]),op0):=by unfold lW;rw [if_pos h]
end Hb
namespace Go.Proofs.YtlikcjbjibhjgaaGreatDoor
open Go.RowKit Hb
variable {o:WO} {T:List OpR} {TA:Option Addr} {TN TC:Nat} {S:Tm->WR}
def iY (k:FuncId) (args:Array az) (w:ai) (l:List ByteArray) (p:OpR) (a:Bool):Prop :=
 aJ ah k args w fun e w'=>∃A' n' c',e=aw (ym A' n' c' p a)/\ax w.heap.size w w'/\OwnS 9 w.heap.size w' (.slice A' n' c') l
theorem Jq (t:Tm) (A:Option Addr) (h j i:Nat) (w:ai) (l:List ByteArray) (p:OpR) (bb:Bool) (m:∀W,ax w.heap.size w W->iY 145 #[nN o TA TN TC,er t A h] W l p bb) (c:WBox w j o TA TN TC) (b:TBx w i t A h) :
  iY 144 #[au (some ⟨j,0,none⟩),au (some ⟨i,0,none⟩)] w l p bb:=by
 have u:=RBx.start w (.slice none 0 0) (aa ⟨#[]⟩) (ab ae 0) (ab ae 0) 173
 have d:=(aj w.heap.size w).alloc (ag _) (.cells #[.slice none 0 0,aa ⟨#[]⟩,ab ae 0,ab ae 0] 173)
 have r:=zq (m _ d)
 have D:=c.c0
 have E:=c.c1
 have F:=c.c2
 have G:=c.c3
 have H:=b.c0
 have I:=b.c1
 have J:=b.c2
 have K:=b.c3
 have T:=c.lt
 have S:=b.lt
 clear m
 unfold iY er nN ym at *
 generalize t.kind=a0 at *
 generalize t.num=L at *
 generalize t.name=M at *
 generalize t.args.length=N at *
 go_enter Tryz.func144,Tryz.ntmps144
 go_wp2_with fail
 refine r.out.mono ?_;rintro e U ⟨f,q,g,rfl,k,n⟩
 have a:=u.call k
 have x:=d.trans (k.mono d.size)
 have s:=zq n
 obtain ⟨u0,y⟩:=a.r0
 obtain ⟨u1,z⟩:=a.r1
 obtain ⟨u2,B⟩:=a.r2
 obtain ⟨u3,C⟩:=a.r3
 have O:=a.rf 0
 have P:=a.rf 1
 have Q:=a.rf 2
 have R:=a.rf 3
 clear n D E F G H I J K
 go_wp2_with fail
 refine ay (v:=aK #[aN #[.slice f q g,aa p.name,ab ae p.typ,ab ae p.prec],am bb]) (by simp [results,Tryz.results144,go_sem,y,z,B,C]) rfl ⟨f,q,g,rfl,dg x _ (ag _) _ _ _ _,?_⟩
 exact (s.out.put4 (by simp) _ _ _ _).mono d.size
theorem Jp (t:Tm) (A:Option Addr) (h j i:Nat) (w:ai) (l:List ByteArray) (p:OpR) (bb:Bool) (m:∀W,ax w.heap.size w W->iY 147 #[nN o TA TN TC,er t A h] W l p bb) (c:WBox w j o TA TN TC) (b:TBx w i t A h) :
  iY 146 #[au (some ⟨j,0,none⟩),au (some ⟨i,0,none⟩)] w l p bb:=by
 have u:=RBx.start w (.slice none 0 0) (aa ⟨#[]⟩) (ab ae 0) (ab ae 0) 173
 have d:=(aj w.heap.size w).alloc (ag _) (.cells #[.slice none 0 0,aa ⟨#[]⟩,ab ae 0,ab ae 0] 173)
 have r:=zq (m _ d)
 have D:=c.c0
 have E:=c.c1
 have F:=c.c2
 have G:=c.c3
 have H:=b.c0
 have I:=b.c1
 have J:=b.c2
 have K:=b.c3
 have T:=c.lt
 have S:=b.lt
 clear m
 unfold iY er nN ym at *
 generalize t.kind=a0 at *
 generalize t.num=L at *
 generalize t.name=M at *
 generalize t.args.length=N at *
 go_enter Tryz.func146,Tryz.ntmps146
 go_wp2_with fail
 refine r.out.mono ?_;rintro e U ⟨f,q,g,rfl,k,n⟩
 have a:=u.call k
 have x:=d.trans (k.mono d.size)
 have s:=zq n
 obtain ⟨u0,y⟩:=a.r0
 obtain ⟨u1,z⟩:=a.r1
 obtain ⟨u2,B⟩:=a.r2
 obtain ⟨u3,C⟩:=a.r3
 have O:=a.rf 0
 have P:=a.rf 1
 have Q:=a.rf 2
 have R:=a.rf 3
 clear n D E F G H I J K
 go_wp2_with fail
 refine ay (v:=aK #[aN #[.slice f q g,aa p.name,ab ae p.typ,ab ae p.prec],am bb]) (by simp [results,Tryz.results146,go_sem,y,z,B,C]) rfl ⟨f,q,g,rfl,dg x _ (ag _) _ _ _ _,?_⟩
 exact (s.out.put4 (by simp) _ _ _ _).mono d.size
theorem Jn (t:Tm) (A:Option Addr) (h j i:Nat) (w:ai) (l:List ByteArray) (p:OpR) (bb:Bool) (m:∀W,ax w.heap.size w W->iY 150 #[nN o TA TN TC,er t A h] W l p bb) (c:WBox w j o TA TN TC) (b:TBx w i t A h) :
  iY 149 #[au (some ⟨j,0,none⟩),au (some ⟨i,0,none⟩)] w l p bb:=by
 have u:=RBx.start w (.slice none 0 0) (aa ⟨#[]⟩) (ab ae 0) (ab ae 0) 173
 have d:=(aj w.heap.size w).alloc (ag _) (.cells #[.slice none 0 0,aa ⟨#[]⟩,ab ae 0,ab ae 0] 173)
 have r:=zq (m _ d)
 have D:=c.c0
 have E:=c.c1
 have F:=c.c2
 have G:=c.c3
 have H:=b.c0
 have I:=b.c1
 have J:=b.c2
 have K:=b.c3
 have T:=c.lt
 have S:=b.lt
 clear m
 unfold iY er nN ym at *
 generalize t.kind=a0 at *
 generalize t.num=L at *
 generalize t.name=M at *
 generalize t.args.length=N at *
 go_enter Tryz.func149,Tryz.ntmps149
 go_wp2_with fail
 refine r.out.mono ?_;rintro e U ⟨f,q,g,rfl,k,n⟩
 have a:=u.call k
 have x:=d.trans (k.mono d.size)
 have s:=zq n
 obtain ⟨u0,y⟩:=a.r0
 obtain ⟨u1,z⟩:=a.r1
 obtain ⟨u2,B⟩:=a.r2
 obtain ⟨u3,C⟩:=a.r3
 have O:=a.rf 0
 have P:=a.rf 1
 have Q:=a.rf 2
 have R:=a.rf 3
 clear n D E F G H I J K
 go_wp2_with fail
 refine ay (v:=aK #[aN #[.slice f q g,aa p.name,ab ae p.typ,ab ae p.prec],am bb]) (by simp [results,Tryz.results149,go_sem,y,z,B,C]) rfl ⟨f,q,g,rfl,dg x _ (ag _) _ _ _ _,?_⟩
 exact (s.out.put4 (by simp) _ _ _ _).mono d.size
theorem Jm (t:Tm) (A:Option Addr) (h j i:Nat) (w:ai) (l:List ByteArray) (p:OpR) (bb:Bool) (m:∀W,ax w.heap.size w W->iY 152 #[nN o TA TN TC,er t A h] W l p bb) (c:WBox w j o TA TN TC) (b:TBx w i t A h) :
  iY 151 #[au (some ⟨j,0,none⟩),au (some ⟨i,0,none⟩)] w l p bb:=by
 have u:=RBx.start w (.slice none 0 0) (aa ⟨#[]⟩) (ab ae 0) (ab ae 0) 173
 have d:=(aj w.heap.size w).alloc (ag _) (.cells #[.slice none 0 0,aa ⟨#[]⟩,ab ae 0,ab ae 0] 173)
 have r:=zq (m _ d)
 have D:=c.c0
 have E:=c.c1
 have F:=c.c2
 have G:=c.c3
 have H:=b.c0
 have I:=b.c1
 have J:=b.c2
 have K:=b.c3
 have T:=c.lt
 have S:=b.lt
 clear m
 unfold iY er nN ym at *
 generalize t.kind=a0 at *
 generalize t.num=L at *
 generalize t.name=M at *
 generalize t.args.length=N at *
 go_enter Tryz.func151,Tryz.ntmps151
 go_wp2_with fail
 refine r.out.mono ?_;rintro e U ⟨f,q,g,rfl,k,n⟩
 have a:=u.call k
 have x:=d.trans (k.mono d.size)
 have s:=zq n
 obtain ⟨u0,y⟩:=a.r0
 obtain ⟨u1,z⟩:=a.r1
 obtain ⟨u2,B⟩:=a.r2
 obtain ⟨u3,C⟩:=a.r3
 have O:=a.rf 0
 have P:=a.rf 1
 have Q:=a.rf 2
 have R:=a.rf 3
 clear n D E F G H I J K
 go_wp2_with fail
 refine ay (v:=aK #[aN #[.slice f q g,aa p.name,ab ae p.typ,ab ae p.prec],am bb]) (by simp [results,Tryz.results151,go_sem,y,z,B,C]) rfl ⟨f,q,g,rfl,dg x _ (ag _) _ _ _ _,?_⟩
 exact (s.out.put4 (by simp) _ _ _ _).mono d.size
theorem Jl (t:Tm) (A:Option Addr) (h j i:Nat) (w:ai) (l:List ByteArray) (p:OpR) (bb:Bool) (m:∀W,ax w.heap.size w W->iY 154 #[nN o TA TN TC,er t A h] W l p bb) (c:WBox w j o TA TN TC) (b:TBx w i t A h) :
  iY 153 #[au (some ⟨j,0,none⟩),au (some ⟨i,0,none⟩)] w l p bb:=by
 have u:=RBx.start w (.slice none 0 0) (aa ⟨#[]⟩) (ab ae 0) (ab ae 0) 173
 have d:=(aj w.heap.size w).alloc (ag _) (.cells #[.slice none 0 0,aa ⟨#[]⟩,ab ae 0,ab ae 0] 173)
 have r:=zq (m _ d)
 have D:=c.c0
 have E:=c.c1
 have F:=c.c2
 have G:=c.c3
 have H:=b.c0
 have I:=b.c1
 have J:=b.c2
 have K:=b.c3
 have T:=c.lt
 have S:=b.lt
 clear m
 unfold iY er nN ym at *
 generalize t.kind=a0 at *
 generalize t.num=L at *
 generalize t.name=M at *
 generalize t.args.length=N at *
 go_enter Tryz.func153,Tryz.ntmps153
 go_wp2_with fail
 refine r.out.mono ?_;rintro e U ⟨f,q,g,rfl,k,n⟩
 have a:=u.call k
 have x:=d.trans (k.mono d.size)
 have s:=zq n
 obtain ⟨u0,y⟩:=a.r0
 obtain ⟨u1,z⟩:=a.r1
 obtain ⟨u2,B⟩:=a.r2
 obtain ⟨u3,C⟩:=a.r3
 have O:=a.rf 0
 have P:=a.rf 1
 have Q:=a.rf 2
 have R:=a.rf 3
 clear n D E F G H I J K
 go_wp2_with fail
 refine ay (v:=aK #[aN #[.slice f q g,aa p.name,ab ae p.typ,ab ae p.prec],am bb]) (by simp [results,Tryz.results153,go_sem,y,z,B,C]) rfl ⟨f,q,g,rfl,dg x _ (ag _) _ _ _ _,?_⟩
 exact (s.out.put4 (by simp) _ _ _ _).mono d.size
theorem Jo (t:Tm) (A:Option Addr) (L c F:Nat) (w:ai) (b0:t.args.length=1->yo o T TA TN TC S (t.arg 0)) (d3:(bu o T S (t.arg 0) 1200 false).length<=80000) (hE:Env T TA TN TC w) (b1:TmsAt w.heap.size w A t.args) (M:WBox w c o TA TN TC) (G:TBx w F t A L) :
  iY 148 #[au (some ⟨c,0,none⟩),au (some ⟨F,0,none⟩)] w (lW o T S t).1 (lW o T S t).2 (jh o t):=by
 have K:=RBx.start w (.slice none 0 0) (aa ⟨#[]⟩) (ab ae 0) (ab ae 0) 173
 have l:=(aj w.heap.size w).alloc (ag _) (.cells #[.slice none 0 0,aa ⟨#[]⟩,ab ae 0,ab ae 0] 173)
 have x1:=M.c1
 have y2:=G.c2
 have y3:=G.c3
 have H:=M.lt
 have lt:=G.lt
 obtain ⟨r,y⟩:=lz (t.args.length)
 have u:Hid (jh o t=(!o.ig&&(t.name.toList==[123,125]&&t.args.length==1))):=zq rfl
 have Y:=zq (yV (o:=o) (T:=T) (S:=S) (t:=t))
 have R:=zq (Ba (o:=o) (T:=T) (S:=S) (t:=t))
 have U:=zq (fun (Z:r=1) j n W (h:ax w.heap.size w W) (h2:TmsAt w.heap.size w j (t.arg 0).args)=>AO (b0 (by rw [<-y.out];exact Z)) 1200 j n W (hE.below h) ((h2.keep h).mono h.size))
 have Q:=zq (fun (h:r=1)=>b1.get 0 (by rw [<-y.out,h];decide))
 have P:=zq (fun (h:r=1)=>Tm.arg_get t 0 (by rw [<-y.out,h];decide))
 have z:=zq M
 have b8:=zq G
 rw [<-y.out] at u y3
 clear b0 hE b1 M G
 unfold iY er nN ym at *
 have c9:(jh o t=false/\(o.ig=true\/(t.name.toList==[123,125])=false\/¬r=1))\/(o.ig=false/\(t.name.toList==[123,125])=true/\r=1):=by
  rw [u.out]
  cases o.ig <;> cases (t.name.toList==[123,125]) <;> by_cases h:r=1 <;> simp [h]
 rcases c9 with ⟨a3,d5⟩ | ⟨O,a2,hl⟩
 ·rw [a3,R.out a3]
  clear u Y R U Q P K a3
  rcases d5 with a4 | a4 | a4
  ·go_enter Tryz.func148,Tryz.ntmps148
   go_wp2_with fail
   refine ay (v:=aK #[aN #[.slice none 0 0,aa ⟨#[]⟩,ab ae 0,ab ae 0],am false]) (by simp [results,Tryz.results148,go_sem]) rfl ⟨none,0,0,rfl,l,OwnS.nil _ _ _⟩
  ·have d9:¬t.name.toList=[123,125]:=by simpa using a4
   go_enter Tryz.func148,Tryz.ntmps148
   go_wp2_with fail
   all_goals
    refine ay (v:=aK #[aN #[.slice none 0 0,aa ⟨#[]⟩,ab ae 0,ab ae 0],am false]) (by simp [results,Tryz.results148,go_sem]) rfl ⟨none,0,0,rfl,l,OwnS.nil _ _ _⟩
  ·go_enter Tryz.func148,Tryz.ntmps148
   go_wp2_with fail
   all_goals
    refine ay (v:=aK #[aN #[.slice none 0 0,aa ⟨#[]⟩,ab ae 0,ab ae 0],am false]) (by simp [results,Tryz.results148,go_sem]) rfl ⟨none,0,0,rfl,l,OwnS.nil _ _ _⟩
 ·have a5:jh o t=true:=by rw [u.out,O,a2,hl];rfl
  rw [a5,Y.out a5]
  subst hl
  obtain ⟨b,a,j,n,rfl,N,B,C,D,E,b3⟩:=Q.out rfl
  have d8:0<t.args.length:=by have:=y.out;omega
  have a6:=zq (P.out rfl)
  have V:=zq (U.out rfl j n)
  rw [a6.out] at V d3 |-
  rw [Nat.zero_mul,Nat.add_zero] at B C D E
  have b6:=zq b3
  have a7:=zq (⟨B,C,D,E⟩:_/\_/\_/\_)
  have d2:t.name.toList=[123,125]:=by simpa using a2
  have d6:=zq O
  rw [O] at x1
  clear u U Q P Y R a5 b3 B C D E a6 O
  generalize t.args[0]=x at *
  generalize bu o T S x 1200 false=PL at *
  obtain ⟨f,c6⟩:=lz (w.alloc (.cells #[.slice none 0 0,aa ⟨#[]⟩,ab ae 0,ab ae 0] 173))
  go_enter Tryz.func148,Tryz.ntmps148
  go_upto_region 3 with fail
  rw [<-c6.out] at K l |-
  have d1:=K.lt
  have d4:=l.size
  have I:Hid (∀X,RegH w.heap.size f X->X.cell? ⟨c,0,none⟩=some (am o.q)/\X.cell? ⟨c,1,none⟩=some (am o.ig)/\X.cell? ⟨c,2,none⟩=some (am o.nu)/\X.cell? ⟨c,3,none⟩=some (.slice TA TN TC)/\X.cell? ⟨F,3,none⟩=some (.slice (some ⟨b,a,none⟩) 1 L)/\X.cell? ⟨b,a,none⟩=some (ab ae x.kind)/\X.cell? ⟨b,a+1,none⟩=some (ab ae x.num)/\X.cell? ⟨b,a+2,none⟩=some (aa x.name)/\X.cell? ⟨b,a+3,none⟩=some (.slice j x.args.length n)/\RegH w.heap.size f X):=zq (fun X h=>by
   have i:∀g k,g<w.heap.size->X.cell? ⟨g,k,none⟩=w.cell? ⟨g,k,none⟩:=fun g k Z=>(h.on.cell (p:=⟨g,k,none⟩) (show g<f.heap.size by omega) (show g≠w.heap.size by omega)).trans (l.cell (p:=⟨g,k,none⟩) Z)
   obtain ⟨B,C,D,E⟩:=a7.out
   exact ⟨(i _ _ H).trans z.out.c0,(i _ _ H).trans z.out.c1,(i _ _ H).trans z.out.c2,(i _ _ H).trans z.out.c3,(i _ _ lt).trans y3,(i _ _ N).trans B,(i _ _ N).trans C,(i _ _ N).trans D,(i _ _ N).trans E,h⟩)
  have J:Hid (∀X,(X.cell? ⟨c,0,none⟩=some (am o.q)/\X.cell? ⟨c,1,none⟩=some (am o.ig)/\X.cell? ⟨c,2,none⟩=some (am o.nu)/\X.cell? ⟨c,3,none⟩=some (.slice TA TN TC)/\X.cell? ⟨F,3,none⟩=some (.slice (some ⟨b,a,none⟩) 1 L)/\X.cell? ⟨b,a,none⟩=some (ab ae x.kind)/\X.cell? ⟨b,a+1,none⟩=some (ab ae x.num)/\X.cell? ⟨b,a+2,none⟩=some (aa x.name)/\X.cell? ⟨b,a+3,none⟩=some (.slice j x.args.length n)/\RegH w.heap.size f X)->RegH w.heap.size f X):=zq (fun X h=>h.2.2.2.2.2.2.2.2.2)
  have b7:Hid (RegH w.heap.size f f.drew):=zq (RegH.drew ⟨Only.refl _ _,K⟩)
  have a1:∀X,RegH w.heap.size f X->ax w.heap.size w X:=fun X h=>l.trans (h.on.below (ag _) l.size)
  have b4:=zq a1
  have b9:Hid (∀X,RegH w.heap.size f X->aJ ah 50 #[aN #[am o.q,am o.ig,am o.nu,.slice TA TN TC],aN #[ab ae x.kind,ab ae x.num,aa x.name,.slice j x.args.length n],ab ae 1200] X fun e w'=>∃m s,e=aw (.slice m PL.length s)/\ax X.heap.size X w'/\StrsAt w' m PL/\uM m PL.length s) :=
   zq (fun X h=>(V.out X (a1 X h) b6.out).mono fun _ _ ⟨v,he,hB,hO⟩=>by
    obtain ⟨m,n4,s,rfl,hn,hs,hh⟩:=hO.strN
    subst hn
    exact ⟨m,s,he,hB,hs,hh⟩)
  clear a1 V a7 z b8 x1 y2 y3 H lt a2 d2
  go_region_held3 (fun w'=>w'.cell? ⟨c,0,none⟩=some (am o.q)/\w'.cell? ⟨c,1,none⟩=some (am o.ig)/\w'.cell? ⟨c,2,none⟩=some (am o.nu)/\w'.cell? ⟨c,3,none⟩=some (.slice TA TN TC)/\w'.cell? ⟨F,3,none⟩=some (.slice (some ⟨b,a,none⟩) 1 L)/\w'.cell? ⟨b,a,none⟩=some (ab ae x.kind)/\w'.cell? ⟨b,a+1,none⟩=some (ab ae x.num)/\w'.cell? ⟨b,a+2,none⟩=some (aa x.name)/\w'.cell? ⟨b,a+3,none⟩=some (.slice j x.args.length n)/\RegH w.heap.size f w')
   (first
    | with_reducible exact I.out _ b7.out
    | with_reducible exact I.out _ d
    | with_reducible exact I.out _ (RegH.call (J.out _ (by with_reducible assumption)) (by with_reducible assumption))
    | with_reducible exact I.out _ (RegH.put4 (J.out _ (by with_reducible assumption)) _ _ _ _))
   (first
    | (go_at_call 50;(with_reducible refine (b9.out _ (J.out _ (by with_reducible assumption))).mono ?_);rintro e w4 ⟨m,s,rfl,d7,c8,c7⟩)
    | (go_at_call 140;have b2:=J.out w4 (by with_reducible assumption);(with_reducible refine (lk ⟨#[123]⟩ ⟨#[125]⟩ m PL.length s PL w4 rfl (by omega) c8 c7).mono ?_);rintro e w5 ⟨v5,rfl,a8,a0⟩;obtain ⟨A5,n5,c5,rfl⟩:=a0.val;have d:=b2.call a8;have a9:=a0.mono b2.on.size;obtain ⟨u0,r0⟩:=d.rb.r0;obtain ⟨u1,r1⟩:=d.rb.r1;obtain ⟨u2,r2⟩:=d.rb.r2;obtain ⟨u3,r3⟩:=d.rb.r3;have f0:=d.rb.rf 0;have f1:=d.rb.rf 1;have f2:=d.rb.rf 2;have f3:=d.rb.rf 3)
    | fail)
  all_goals
   have d0:=dg (b4.out w5 d) w.heap.size (ag _) (.slice A5 n5 c5) (aa ⟨#[]⟩) (ab ae 0) (ab ae 0)
   have b5:=zq a9
   clear a0 a9 a8
   go_wp2_with fail
   refine ay (v:=aK #[aN #[.slice A5 n5 c5,aa ⟨#[]⟩,ab ae 0,ab ae 0],am true]) (by simp [results,Tryz.results148,go_sem,r0,r1,r2,r3]) rfl ⟨_,_,_,rfl,d0,?_⟩
   exact (b5.out.put4 d1 _ _ _ _).mono d4
end Go.Proofs.YtlikcjbjibhjgaaGreatDoor
namespace Hb
open Go Go.RowKit
inductive K4:Tm->Prop
 | mk (t:Tm) (h:t.kind=0\/t.kind=1\/t.kind=2\/t.kind=3) (ha:∀a∈t.args,K4 a):K4 t
theorem K4.of_ok:∀t:Tm,t.allOk=true->K4 t:=Tm.ind fun t c h=>by
 rw [Tm.allOk_eq,aF] at h
 exact .mk t (sk h.1) fun a b=>c a b (bh.1 h.2 a b)
theorem K4.arg {t:Tm} (h:K4 t) (j:Nat):K4 (t.arg j):=by
 by_cases c:j<t.args.length
 ·rw [Tm.arg_get t j c]
  cases h with | mk _ _ b=>exact b _ (aR _)
 ·have e:t.arg j=tm0:=by unfold Tm.arg;rw [aX,ej (by omega)];rfl
  rw [e]
  exact .mk _ (.inl rfl) (by intro a b;cases b)
theorem uy {t:Tm} (h:t.cons=true):t.nodes=1+(t.arg 0).nodes+(t.arg 1).nodes:=by
 have c:=Tm.cons_len h
 rw [Tm.nodes_eq t]
 unfold Tm.arg
 generalize t.args=l at c |-
 match l,c with
 | [a,b],_=>simp;omega
theorem sQ:∀(n:Nat) (t:Tm),t.nodes<=n->K4 t->(∀x∈cK t,K4 x)/\K4 (di t)/\((cK t).map Tm.nodes).sum+(di t).nodes+(if t.cons=true then 1 else 0)<=t.nodes
 | 0,t,h,_=>absurd h (by have:=t.nodes_pos;omega)
 | n+1,t,h,hk=>by
  cases hc:t.cons
  ·rw [iH hc,jt hc]
   refine ⟨?_,hk,?_⟩
   ·intro x a
    exact absurd a (List.not_mem_nil)
   ·simp
  ·have e:=uy hc
   have f:=(t.arg 0).nodes_pos
   obtain ⟨b,c,d⟩:=sQ n (t.arg 1) (by omega) (hk.arg 1)
   rw [iw hc,jL hc]
   refine ⟨?_,c,?_⟩
   ·intro x a
    rcases bg.1 a with rfl | a
    ·exact hk.arg 0
    ·exact b x a
   ·rw [bE,ic,e];simp;omega
variable {o:WO} {T:List OpR} {S:Tm->WR}
theorem qR (l:List ByteArray) (b:Bool):(brk l b).length<=l.length+2:=by unfold brk;split <;> simp
theorem gH {t:Tm} (d:(S t).1.length+3<=9 * t.nodes) (m:Int) (b:Bool):(bu o T S t m b).length+1<=9 * t.nodes:=by
 have:=t.nodes_pos
 have a:=qR [jB o t.name] (b&&lI T t.name)
 have c:=qR (S t).1 (decide (m<(S t).2.prec))
 unfold bu
 simp at a
 repeat' split
 all_goals first | (simp;omega) | omega
theorem ua {t:Tm} (a:(S t).1.length+3<=9 * t.nodes) (op:OpR):(dE o T S t op).length+1<=9 * t.nodes:=by
 unfold dE
 split
 ·refine aI (Nat.add_le_add_right (qR _ _) 1) (by omega)
 ·exact gH a _ _
theorem wj (P:Tm->List ByteArray):∀l:List Tm,(∀x∈l,(P x).length+1<=9 * x.nodes)->(l.flatMap fun u=>s1 44::P u).length<=9 * (l.map Tm.nodes).sum
 | [],_=>by simp
 | a::l,h=>by
  have c:=h a (aV ..)
  have d:=wj P l fun x b=>h x (aW _ b)
  rw [ek,aB,bo,bE,ic];omega
theorem sI (P:Tm->List ByteArray) (l:List Tm) (h:∀x∈l,(P x).length+1<=9 * x.nodes):(dh P l).length<=9 * (l.map Tm.nodes).sum:=by
 cases l with
 | nil=>simp [dh]
 | cons a l=>
  have c:=h a (aV ..)
  have d:=wj P l fun x b=>h x (aW _ b)
  unfold dh
  rw [aB,bE,ic];omega
theorem rR (t:Tm) (j:Nat) (h:j<t.args.length):(t.arg j).nodes+1<=t.nodes:=t.nodes_arg j h
end Hb
namespace Hb
open Go Go.RowKit
variable {o:WO} {T:List OpR} {S:Tm->WR}
theorem DR {t:Tm} (c:t.args.length=2):t.nodes=1+(t.arg 0).nodes+(t.arg 1).nodes:=by
 rw [Tm.nodes_eq t]
 unfold Tm.arg
 generalize t.args=l at c |-
 match l,c with
 | [a,b],_=>simp;omega
theorem Gm {u:Tm} (a:(S u).1.length+3<=9 * u.nodes):(jd (cR o T S) u).length<=9 * u.nodes:=by
 have:=gH (o:=o) (T:=T) a 999 false
 unfold jd cR
 split
 ·simp
 ·rw [bo];exact this
theorem KB {u:Tm} (h:u.kind=0\/u.kind=1\/u.kind=2):(jd (cR o T S) u).length<=4:=by
 have a:=qR [jB o u.name] (false&&lI T u.name)
 simp at a
 have:(bu o T S u 999 false).length<=3:=by
  unfold bu
  repeat' split
  all_goals first | (simp;done) | (simp;omega) | omega
 unfold jd cR
 split
 ·simp
 ·rw [bo];omega
theorem JL (d:∀x,K4 x->(S x).1.length+3<=9 * x.nodes) (t:Tm) (f:K4 t):(mw o T S t).1.length+3<=9 * t.nodes:=by
 have w:=t.nodes_pos
 have g:=d _ (f.arg 0)
 have n:=d _ (f.arg 1)
 have y:t.kind=0\/t.kind=1\/t.kind=2\/t.kind=3:=by cases f with | mk _ h _=>exact h
 have p:∀a∈t.args,K4 a:=by cases f with | mk _ _ h=>exact h
 obtain ⟨k,l,m⟩:=sQ t.nodes t (ag _) f
 unfold mw
 split
 ·simp;omega
 split
 ·rename_i b
  have c:t.isNm [46]=true/\t.args.length=2:=by simpa using b
  have q:=sI (cR o T S) (cK t) fun x j=>gH (d x (k x j)) 999 false
  show (s1 91::((dh (cR o T S) (cK t)++jd (cR o T S) (di t))++[s1 93])).length+3<=_
  simp only [bo,aB,dL]
  cases hcc:t.cons
  ·have v:t.kind≠3:=fun e=>by
    have:t.cons=true:=by unfold Tm.cons;rw [e,c.1,c.2];rfl
    rw [this] at hcc;cases hcc
   rw [iH hcc,jt hcc]
   have:=KB (o:=o) (T:=T) (S:=S) (u:=t) (by omega)
   simp only [dh,dL]
   omega
  ·rw [if_pos hcc] at m
   have:=Gm (o:=o) (T:=T) (d _ l)
   omega
 split
 ·rename_i b
  have c:t.args.length=1:=by simp at b;exact b.2.2
  have i:=rR t 0 (by omega)
  have:=gH (o:=o) (T:=T) g 1200 false
  simp only [bo,aB,dL]
  omega
 split
 ·rename_i b
  have c:t.args.length=2:=by simp at b;exact b.2.2
  have i:=DR c
  have r:=ua (o:=o) (T:=T) g (cP T t.name 2)
  have s:=gH (o:=o) (T:=T) n (dB (cP T t.name 2)) true
  simp only [bo,aB,dL]
  omega
 split
 ·rename_i b
  have c:t.args.length=1:=by simp at b;exact b.2.2
  have i:=rR t 0 (by omega)
  have s:=gH (o:=o) (T:=T) g (dB (cP T t.name 1)) true
  have z:(gD o T S (t.arg 0) (cP T t.name 1)).length<=(bu o T S (t.arg 0) (dB (cP T t.name 1)) true).length+2:=qR _ _
  simp only [bo,aB]
  split <;> simp only [bo,dL] <;> omega
 split
 ·rename_i b
  have c:t.args.length=1:=by simp at b;exact b.2.2
  have i:=rR t 0 (by omega)
  have r:=ua (o:=o) (T:=T) g (cP T t.name 3)
  simp only [bo,aB,dL]
  omega
 ·have q:=sI (cR o T S) t.args fun x j=>gH (d x (p x j)) 999 false
  have i:=Tm.nodes_eq t
  simp only [bo,aB,dL]
  omega
theorem yD (o:WO) (T:List OpR):∀(f:Nat) (t:Tm),K4 t->(wY o T f t).1.length+3<=9 * t.nodes
 | 0,t,_=>by have:=t.nodes_pos;show 0+3<=_;omega
 | f+1,t,h=>JL (yD o T f) t h
end Hb
namespace Hb
open Go Go.RowKit
variable {o:WO} {T:List OpR} {S:Tm->WR}
theorem JK (t:Tm):0<(mw o T S t).1.length:=by
 unfold mw
 repeat' split
 all_goals first | (simp;done) | (simp;omega)
theorem Gv (o:WO) (T:List OpR) (f:Nat) (t:Tm) (h:0<f):0<(wY o T f t).1.length:=by
 obtain ⟨g,rfl⟩:∃g,f=g+1:=⟨f-1,by omega⟩
 exact JK t
theorem Aw {l:List ByteArray} (b:Bool) (h:0<l.length):0<(brk l b).length:=by
 unfold brk
 split
 ·simp
 ·exact h
theorem EM {t:Tm} (h:t.kind=0\/t.kind=1\/t.kind=2\/0<(S t).1.length) (m:Int) (b:Bool):0<(bu o T S t m b).length:=by
 unfold bu
 iterate 2
  split
  ·simp
 split
 ·exact Aw _ (by simp)
 ·exact Aw _ (by omega)
end Hb
namespace Hb
open Go Go.RowKit
theorem Tm.All.and {P Q:Tm->Prop}:∀t:Tm,Tm.All P t->Tm.All Q t->Tm.All (fun x=>P x/\Q x) t:=Tm.ind fun t c h k=>.mk t ⟨h.here,k.here⟩ fun a b=>c a b (h.sub a b) (k.sub a b)
theorem Tm.All.of_ok:∀t:Tm,t.allOk=true->Tm.All (fun x=>dH x=true) t:=Tm.ind fun t c h=>by
 rw [Tm.allOk_eq,aF] at h
 exact .mk t h.1 fun a b=>c a b (bh.1 h.2 a b)
theorem Tm.All.ok:∀t:Tm,Tm.All (fun x=>dH x=true) t->t.allOk=true:=Tm.ind fun t c h=>by
 rw [Tm.allOk_eq,aF]
 exact ⟨h.here,bh.2 fun a b=>c a b (h.sub a b)⟩
def Okf (t:Tm):Prop:=dH t=true/\dP t=true
theorem Okf.ok {t:Tm} (h:Tm.All Okf t):t.allOk=true:=Tm.All.ok t (Tm.All.imp (fun _ h=>h.1) t h)
theorem Okf.k4 {t:Tm} (h:Tm.All Okf t):K4 t:=K4.of_ok t (Okf.ok h)
theorem Okf.of {t:Tm} (h:t.allOk=true) (k:Tm.All (fun x=>dP x=true) t):Tm.All Okf t:=Tm.All.and t (Tm.All.of_ok t h) k
theorem K4.kind {t:Tm} (h:K4 t):t.kind=0\/t.kind=1\/t.kind=2\/t.kind=3:=by cases h;assumption
theorem K4.sub {t:Tm} (h:K4 t):∀a∈t.args,K4 a:=by cases h;assumption
theorem JE {P:Tm->Prop} (h:P tm0):Tm.All P tm0:=.mk _ h fun a b=>by cases b
theorem Okf.tm0:Tm.All Okf tm0:=JE ⟨by decide +kernel,by decide +kernel⟩
theorem Tm.All.arg {P:Tm->Prop} {t:Tm} (h:Tm.All P t) (a:Tm.All P tm0) (j:Nat):Tm.All P (t.arg j):=by
 by_cases b:j<t.args.length
 ·rw [Tm.arg_get t j b];exact h.sub _ (aR _)
 ·have e:t.arg j=tm0:=by unfold Tm.arg;rw [aX,ej (by omega)];rfl
  rw [e];exact a
variable {o:WO} {T:List OpR} {S S':Tm->WR}
theorem jo {t:Tm} (e:K4 t) (h:t.kind=3->S t=S' t) (m:Int) (b:Bool):bu o T S t m b=bu o T S' t m b:=by
 unfold bu
 by_cases a:t.kind=0
 ·rw [if_pos a,if_pos a]
 rw [if_neg a,if_neg a]
 by_cases c:t.kind=1
 ·rw [if_pos c,if_pos c]
 rw [if_neg c,if_neg c]
 by_cases d:t.kind=2
 ·rw [if_pos d,if_pos d]
 rw [if_neg d,if_neg d,h (by have:=e.kind;omega)]
theorem ub {t:Tm} (a:K4 t) (h:t.kind=3->S t=S' t) (op:OpR):dE o T S t op=dE o T S' t op:=by
 unfold dE
 by_cases c:t.kind=3
 ·rw [if_pos c,if_pos c,h c]
 ·rw [if_neg c,if_neg c];exact jo a h _ _
theorem EL {t:Tm} (a:K4 t) (h:t.kind=3->S t=S' t) (op:OpR):gD o T S t op=gD o T S' t op:=by
 unfold gD;rw [jo a h]
theorem vD {P Q:Tm->List ByteArray}:∀l:List Tm,(∀x∈l,P x=Q x)->dh P l=dh Q l
 | [],_=>rfl
 | a::l,h=>by
  show P a++(l.flatMap fun u=>s1 44::P u)=Q a++l.flatMap fun u=>s1 44::Q u
  rw [h a (aV ..)]
  have:∀l:List Tm,(∀x∈l,P x=Q x)->(l.flatMap fun u=>s1 44::P u)=l.flatMap fun u=>s1 44::Q u:=by
   intro l
   induction l with
   | nil=>intro _;rfl
   | cons b l ih=>intro h;rw [ek,ek,h b (aV ..),ih fun x c=>h x (aW _ c)]
  rw [this l fun x c=>h x (aW _ c)]
theorem wW:∀(l:List Tm) (a:Tm),a∈l->a.nodes<=(l.map Tm.nodes).sum
 | [],a,c=>by cases c
 | b::l,a,c=>by
  rw [bE,ic]
  rcases bg.1 c with rfl | c
  ·omega
  ·have:=wW l a c;omega
theorem mK {t a:Tm} (h:a∈t.args):a.nodes<t.nodes:=by
 have:=wW t.args a h
 rw [Tm.nodes_eq t];omega
theorem ut {t:Tm} (b:K4 t):(∀x∈cK t,K4 x/\x.nodes<t.nodes)/\K4 (di t)/\((di t).kind=3->t.isNm [46]=true->t.args.length=2->(di t).nodes<t.nodes):=by
 obtain ⟨c,d,e⟩:=sQ t.nodes t (ag _) b
 cases hc:t.cons
 ·rw [iH hc,jt hc]
  refine ⟨fun x a=>absurd a (List.not_mem_nil),b,fun f h g=>?_⟩
  have:t.cons=true:=by unfold Tm.cons;rw [f,h,g];rfl
  rw [this] at hc;cases hc
 ·rw [if_pos hc] at e
  refine ⟨fun x a=>⟨c x a,?_⟩,d,fun _ _ _=>by omega⟩
  have:=wW (cK t) x a
  have:=(di t).nodes_pos
  omega
theorem vy {t:Tm} (a:K4 t) (h:∀x,K4 x->x.kind=3->x.nodes<t.nodes->S x=S' x):mw o T S t=mw o T S' t:=by
 obtain ⟨m,r,s⟩:=ut a
 have k:∀j,j<t.args.length->(t.arg j).kind=3->S (t.arg j)=S' (t.arg j):=fun j u b=>h _ (a.arg j) b (t.nodes_arg j u)
 unfold mw
 by_cases l:je o t=true
 ·rw [if_pos l,if_pos l]
 rw [if_neg l,if_neg l]
 by_cases i:(t.isNm [46]&&t.args.length==2)=true
 ·rw [if_pos i,if_pos i]
  have q:t.isNm [46]=true/\t.args.length=2:=by simpa using i
  have p:dh (cR o T S) (cK t)=dh (cR o T S') (cK t):=vD _ fun x c=>jo (m x c).1 (fun b=>h x (m x c).1 b (m x c).2) _ _
  have v:jd (cR o T S) (di t)=jd (cR o T S') (di t):=by
   unfold jd cR
   rw [jo r fun b=>h _ r b (s b q.1 q.2)]
  rw [p,v]
 rw [if_neg i,if_neg i]
 by_cases d:(!o.ig&&(t.isNm [123,125]&&t.args.length==1))=true
 ·have n:t.args.length=1:=by simp at d;exact d.2.2
  rw [if_pos d,if_pos d,jo (a.arg 0) (k 0 (by omega))]
 rw [if_neg d,if_neg d]
 by_cases e:(!o.ig&&(has T t.name 2&&t.args.length==2))=true
 ·have n:t.args.length=2:=by simp at e;exact e.2.2
  rw [if_pos e,if_pos e,ub (a.arg 0) (k 0 (by omega)),jo (a.arg 1) (k 1 (by omega))]
 rw [if_neg e,if_neg e]
 by_cases f:(!o.ig&&(has T t.name 1&&t.args.length==1))=true
 ·have n:t.args.length=1:=by simp at f;exact f.2.2
  rw [if_pos f,if_pos f,EL (a.arg 0) (k 0 (by omega))]
 rw [if_neg f,if_neg f]
 by_cases g:(!o.ig&&(has T t.name 3&&t.args.length==1))=true
 ·have n:t.args.length=1:=by simp at g;exact g.2.2
  rw [if_pos g,if_pos g,ub (a.arg 0) (k 0 (by omega))]
 rw [if_neg g,if_neg g]
 have p:dh (cR o T S) t.args=dh (cR o T S') t.args:=vD _ fun x c=>jo (a.sub x c) (fun b=>h x (a.sub x c) b (mK c)) _ _
 rw [p]
theorem yF (o:WO) (T:List OpR):∀(f g:Nat) (t:Tm),K4 t->t.nodes<=f->t.nodes<=g->wY o T f t=wY o T g t
 | 0,_,t,_,h,_=>absurd h (by have:=t.nodes_pos;omega)
 | _,0,t,_,_,h=>absurd h (by have:=t.nodes_pos;omega)
 | f+1,g+1,t,hk,h,k=>vy hk fun x a _ b=>yF o T f g x a (by omega) (by omega)
def str (o:WO) (T:List OpR) (t:Tm):WR:=wY o T t.nodes t
theorem Gu (o:WO) (T:List OpR) {f:Nat} {t:Tm} (a:K4 t) (h:t.nodes<=f):wY o T f t=str o T t:=yF o T _ _ t a h (ag _)
theorem rp (o:WO) (T:List OpR) {t:Tm} (b:K4 t):str o T t=mw o T (str o T) t:=by
 obtain ⟨f,a⟩:∃f,t.nodes=f+1:=⟨t.nodes-1,by have:=t.nodes_pos;omega⟩
 unfold str
 rw [a]
 show mw o T (wY o T f) t=_
 exact vy b fun x c _ d=>Gu o T c (by omega)
def qZ (o:WO) (T:List OpR) (t:Tm) (m:Int) (b:Bool):List ByteArray:=bu o T (str o T) t m b
theorem wX (o:WO) (T:List OpR) {t:Tm} (a:K4 t):(str o T t).1.length+3<=9 * t.nodes:=yD o T _ t a
theorem JI (o:WO) (T:List OpR) (t:Tm):0<(str o T t).1.length:=Gv o T _ t t.nodes_pos
end Hb
namespace Hb
open Go Go.RowKit
variable {o:WO} {T:List OpR} {S:Tm->WR} {t:Tm}
theorem ia {b:Bool} (h:b=false):¬b=true:=by rw [h];decide
theorem Of  (h:je o t=true):mw o T S t=lV o t:=by
 unfold mw
 exact ((if_pos h).trans (if_pos h).symm)
theorem Oe (a:je o t=false) (h:eu t=true):mw o T S t=kH o T S t:=by
 unfold mw
 exact ((if_neg (ia a)).trans ((if_pos h).trans (if_pos h).symm))
theorem Od (a:je o t=false) (b:eu t=false) (h:jh o t=true):mw o T S t=lW o T S t:=by
 unfold mw
 exact ((if_neg (ia a)).trans ((if_neg (ia b)).trans ((if_pos h).trans (if_pos h).symm)))
theorem Oc (a:je o t=false) (b:eu t=false) (c:jh o t=false) (h:ky o T t=true):mw o T S t=nV o T S t:=by
 unfold mw
 exact ((if_neg (ia a)).trans ((if_neg (ia b)).trans ((if_neg (ia c)).trans ((if_pos h).trans (if_pos h).symm))))
theorem Ob (a:je o t=false) (b:eu t=false) (c:jh o t=false) (d:ky o T t=false) (h:jI o T t=true):mw o T S t=lU o T S t:=by
 unfold mw
 exact ((if_neg (ia a)).trans ((if_neg (ia b)).trans ((if_neg (ia c)).trans ((if_neg (ia d)).trans ((if_pos h).trans (if_pos h).symm)))))
theorem Oa (a:je o t=false) (b:eu t=false) (c:jh o t=false) (d:ky o T t=false) (e:jI o T t=false) (h:jq o T t=true):mw o T S t=kG o T S t:=by
 unfold mw
 exact ((if_neg (ia a)).trans ((if_neg (ia b)).trans ((if_neg (ia c)).trans ((if_neg (ia d)).trans ((if_neg (ia e)).trans ((if_pos h).trans (if_pos h).symm))))))
theorem NZ (a:je o t=false) (b:eu t=false) (c:jh o t=false) (d:ky o T t=false) (e:jI o T t=false) (f:jq o T t=false):mw o T S t=(jB o t.name::(s1 40::(dh (cR o T S) t.args++[s1 41])),op0):=by
 unfold mw
 exact ((if_neg (ia a)).trans ((if_neg (ia b)).trans ((if_neg (ia c)).trans ((if_neg (ia d)).trans ((if_neg (ia e)).trans ((if_neg (ia f)).trans rfl))))))
end Hb
namespace Go.Proofs.YtlikcjbjibhjgaaGreatDoor
open Go.RowKit Hb
variable {o:WO} {T:List OpR} {TA:Option Addr} {TN TC:Nat} {S:Tm->WR}
theorem CW (a0 a b c d e:az) (w:ai):(fj 205 (aN #[a0,a,b,c,d,e]) (ab ae 0)).run ah w=.ok a0 w:=by
 have h:=gn
 simp [fj,gk h,asIntOf,go_sem]
theorem CU (a0 a b c d e:az) (w:ai):(fj 205 (aN #[a0,a,b,c,d,e]) (ab ae 1)).run ah w=.ok a w:=by
 have h:=gn
 simp [fj,gk h,asIntOf,go_sem]
theorem CT (a0 b a c d e:az) (w:ai):(fj 205 (aN #[a0,b,a,c,d,e]) (ab ae 2)).run ah w=.ok a w:=by
 have h:=gn
 simp [fj,gk h,asIntOf,go_sem]
theorem CS (a0 b c a d e:az) (w:ai):(fj 205 (aN #[a0,b,c,a,d,e]) (ab ae 3)).run ah w=.ok a w:=by
 have h:=gn
 simp [fj,gk h,asIntOf,go_sem]
theorem CR (a0 b c d a e:az) (w:ai):(fj 205 (aN #[a0,b,c,d,a,e]) (ab ae 4)).run ah w=.ok a w:=by
 have h:=gn
 simp [fj,gk h,asIntOf,go_sem]
theorem CQ (a0 b c d e a:az) (w:ai):(fj 205 (aN #[a0,b,c,d,e,a]) (ab ae 5)).run ah w=.ok a w:=by
 have h:=gn
 simp [fj,gk h,asIntOf,go_sem]
theorem mF {e b g n c:Nat} {w:ai} {l:List ByteArray} (h:OwnS e b w (.slice (some ⟨g,0,none⟩) n c) l):∀j u,(l.map aQ)[j]? = some u->w.cell? ((⟨g,0,none⟩:Addr).add j)=some u:=by
 unfold OwnS at h
 exact h.cells (g:=g) rfl
theorem Ax (x y:ByteArray) {b:Nat} {X:ai} {v:az} {l:List ByteArray} (h:OwnS 9 b X v l) (m:l.length<=100000) :
  aJ ah 140 #[aa x,v,aa y] X fun e w'=>∃g c,e=aw (.slice (some ⟨g,0,none⟩) (x::(l++[y])).length c)/\ax X.heap.size X w'/\OwnS 9 X.heap.size w' (.slice (some ⟨g,0,none⟩) (x::(l++[y])).length c) (x::(l++[y])):=by
 obtain ⟨A,n,c,rfl,j,k,i⟩:=h.strN
 refine (lk x y A n c l X j (by omega) k i).mono ?_
 rintro e w' ⟨v,rfl,f,a⟩
 obtain ⟨g,d,rfl,_⟩:=qo a (by simp)
 exact ⟨g,d,rfl,f,a⟩
theorem yt (t:Tm) (hv:eu t=true->cd t=true) (h4:t.nodes<=5000) (f5:t.name.size<=100) (g9:(t.args.all dP)=true) (hP:∀x∈t.args,yo o T TA TN TC S x) (hS:∀x∈t.args,x.kind=3->SOK o T TA TN TC S x) (g4:∀x∈cK t,yo o T TA TN TC S x) (g5:eu t=true->yo o T TA TN TC S (di t))
  (h0:(dh (cR o T S) (cK t)).length+(cR o T S (di t)).length<=80000) (g1:(S (t.arg 0)).1.length<=80000) (h5:(bu o T S (t.arg 0) 1200 false).length<=80000) (f6:∀j m,(bu o T S (t.arg j) m true).length<=80000/\0<(bu o T S (t.arg j) m true).length/\(hd (bu o T S (t.arg j) m true)).size<=1000000) (g2:∀op,(dE o T S (t.arg 0) op).length<=80000) (h8:(dh (cR o T S) t.args).length<=80000) (g8:t.args.length<=10000) :
  SOK o T TA TN TC (mw o T S) t:=by
 intro A u w hE hT
 obtain ⟨i,hi,h9,i0,i1⟩:=info_parts jf
 have HI:=zq hi
 have c5:=zq h9
 have c8:=zq i0
 have c9:=zq i1
 clear hi h9 i0 i1
 obtain ⟨LN,HL⟩:=lz (t.args.length)
 have HX:=zq (Fr3.start w o TA TN TC t A u LN 103 25 173 HL.out (.slice none 0 0) (aa ⟨#[]⟩) (ab ae 0) (ab ae 0))
 have c4:∀j (h:j<t.args.length),yo o T TA TN TC S (t.arg j):=fun j h=>by rw [Tm.arg_get t j h];exact hP _ (aR _)
 have f8:∀j (h:j<t.args.length),(t.arg j).kind=3->SOK o T TA TN TC S (t.arg j):=fun j h=>by rw [Tm.arg_get t j h];exact hS _ (aR _)
 have d0:∀{W V:ai},ax w.heap.size w W->ax W.heap.size W V->Env T TA TN TC V:=fun h E=>(hE.below h).below E
 have d2:∀{W V:ai},ax w.heap.size w W->ax W.heap.size W V->TmsAt V.heap.size V A t.args:=fun h E=>((((hT.keep h).mono h.size).keep E).mono E.size)
 have H0:=zq (fun W (h:ax w.heap.size w W) (F:WBox W w.heap.size o TA TN TC) (ht:TBx W (w.heap.size+1) t A u)=>Jq (o:=o) (TA:=TA) (TN:=TN) (TC:=TC) t A u w.heap.size (w.heap.size+1) W _ _ _ (fun V E=>FI o TA TN TC t g9 A u V (d0 h E).door (d2 h E)) F ht)
 have H1:=zq (fun W (h:ax w.heap.size w W) (F:WBox W w.heap.size o TA TN TC) (ht:TBx W (w.heap.size+1) t A u)=>Jp (o:=o) (TA:=TA) (TN:=TN) (TC:=TC) t A u w.heap.size (w.heap.size+1) W _ _ _ (fun V E=>LM t hv h4 g4 g5 h0 A u V (d0 h E) (d2 h E)) F ht)
 have H2:=zq (fun W (h:ax w.heap.size w W) (F:WBox W w.heap.size o TA TN TC) (ht:TBx W (w.heap.size+1) t A u)=>Jo (S:=S) t A u w.heap.size (w.heap.size+1) W (fun e=>c4 0 (by omega)) h5 (hE.below h) ((hT.keep h).mono h.size) F ht)
 have H3:=zq (fun W (h:ax w.heap.size w W) (F:WBox W w.heap.size o TA TN TC) (ht:TBx W (w.heap.size+1) t A u)=>Jn (o:=o) (TA:=TA) (TN:=TN) (TC:=TC) t A u w.heap.size (w.heap.size+1) W _ _ _ (fun V E=>Jt t f5 (fun e=>c4 0 (by omega)) (fun e=>f8 0 (by omega)) (fun e=>c4 1 (by omega)) g1 (fun m=>⟨(f6 1 m).1,(f6 1 m).2.1⟩) g2 A u V (d0 h E) (d2 h E)) F ht)
 have H4:=zq (fun W (h:ax w.heap.size w W) (F:WBox W w.heap.size o TA TN TC) (ht:TBx W (w.heap.size+1) t A u)=>Jm (o:=o) (TA:=TA) (TN:=TN) (TC:=TC) t A u w.heap.size (w.heap.size+1) W _ _ _ (fun V E=>FH t f5 (fun e=>c4 0 (by omega)) (fun m=>f6 0 m) A u V (d0 h E) (d2 h E)) F ht)
 have H5:=zq (fun W (h:ax w.heap.size w W) (F:WBox W w.heap.size o TA TN TC) (ht:TBx W (w.heap.size+1) t A u)=>Jl (o:=o) (TA:=TA) (TN:=TN) (TC:=TC) t A u w.heap.size (w.heap.size+1) W _ _ _ (fun V E=>DM t f5 (fun e=>c4 0 (by omega)) (fun e=>f8 0 (by omega)) g1 g2 A u V (d0 h E) (d2 h E)) F ht)
 have d9:=zq (fun W (h:ax w.heap.size w W)=>sW o TA TN TC t.name W (by omega) (hE.below h).door)
 have e3:=zq (fun W (h:ax w.heap.size w W)=>Lp (o:=o) (T:=T) (S:=S) t.args hP (by omega) A LN u W HL.out (by rw [HL.out];exact g8) (hE.below h) ((hT.keep h).mono h.size))
 have e0:=zq h8
 clear hE hT hv h4 f5 g9 hP hS g4 g5 h0 g1 h5 f6 g2 h8 g8 c4 f8 d0 d2
 unfold iY ym at H0 H1 H2 H3 H4 H5
 unfold er nN Ld at *
 have a2:=zq (Of (o:=o) (T:=T) (S:=S) (t:=t))
 have a3:=zq (Oe (o:=o) (T:=T) (S:=S) (t:=t))
 have a4:=zq (Od (o:=o) (T:=T) (S:=S) (t:=t))
 have a5:=zq (Oc (o:=o) (T:=T) (S:=S) (t:=t))
 have a6:=zq (Ob (o:=o) (T:=T) (S:=S) (t:=t))
 have a7:=zq (Oa (o:=o) (T:=T) (S:=S) (t:=t))
 have e4:=zq (NZ (o:=o) (T:=T) (S:=S) (t:=t))
 obtain ⟨RR,b7⟩:=lz (mw o T S t)
 rw [<-b7.out] at a2 a3 a4 a5 a6 a7 e4 |-
 rw [<-HL.out]
 go_enter Tryz.func110,Tryz.ntmps110
 go_wp2_with fail
 go_loopw [18] (fun i wr=>∃k:Nat,i=ab ae k/\k<=6/\Fr3 w wr o TA TN TC t A u/\Hid ((1<=k->je o t=false)/\(2<=k->eu t=false)/\(3<=k->jh o t=false)/\(4<=k->ky o T t=false)/\(5<=k->jI o T t=false)/\(6<=k->jq o T t=false))) (fun i _=>6-(intOf i).toNat)
 case atStart=>exact ⟨0,rfl,by omega,HX.out.call ((aj _ _).alloc (ag _) _),zq (by simp)⟩
 case round=>
  obtain ⟨k,rfl,Y,b,l⟩:=hrel
  clear HX
  by_cases j1:k<6
  ·clear d9 e3 e0 e4 HI c5 c8 c9
   obtain rfl|rfl|rfl|rfl|rfl|rfl:k=0\/k=1\/k=2\/k=3\/k=4\/k=5:=by omega
   ·clear H1 H2 H3 H4 H5 a3 a4 a5 a6 a7
    have d:=zq (H0.out wr b.f2.bel b.f2.wb b.f2.tb)
    obtain ⟨R,z⟩:=lz (lV o t)
    rw [<-z.out] at d a2
    clear H0
    cases hb:(je o t)
    ·rw [hb] at d
     have Z:=zq hb
     clear hb a2 z
     have ix:=CW
     go_wp2_with fail
     refine d.out.mono ?_;rintro e w2 ⟨y,C,B,rfl,n,s⟩
     have a:=b.call n
     clear s n b d
     go_wp2_with fail
     go_roundw
     case rel=>exact ⟨1,rfl,by decide,a.call ((aj _ _).alloc (ag _) _),zq ⟨(by first | exact fun _=>Z.out | exact fun _=>trivial | exact trivial),fun h=>absurd h (by decide),fun h=>absurd h (by decide),fun h=>absurd h (by decide),fun h=>absurd h (by decide),fun h=>absurd h (by decide)⟩⟩
     case measure=>decide
    ·rw [hb] at d
     have G:=zq (a2.out  hb)
     clear hb a2 z l
     have b1:=G.out
     clear G b7
     subst b1
     have ix:=CW
     go_wp2_with fail
     refine d.out.mono ?_;rintro e w2 ⟨y,C,B,rfl,n,s⟩
     have a:=b.call n
     have a1:=zq s
     have b2:=b.f2.bel.size
     have a9:w.heap.size+1+1<wr.heap.size:=b.rb.lt
     have H:=a.f2.bel
     have a8:=a.rb.lt
     obtain ⟨u0,I⟩:=a.rb.r0
     obtain ⟨u1,J⟩:=a.rb.r1
     obtain ⟨u2,K⟩:=a.rb.r2
     obtain ⟨u3,L⟩:=a.rb.r3
     have f0:=a.rb.rf 0
     have f1:=a.rb.rf 1
     have f2:=a.rb.rf 2
     have f3:=a.rb.rf 3
     clear s n b d a
     go_wp2_with fail
     refine ay (v:=aN #[.slice y C B,aa RR.2.name,ab ae RR.2.typ,ab ae RR.2.prec]) (by simp [results,gM,go_sem,I,J,K,L,a8]) rfl ⟨y,C,B,rfl,?_,?_⟩
     ·exact (dg H _ (by omega) _ _ _ _).alloc (by rw [eD];exact H.size) _
     ·exact ((a1.out.put4 a9 _ _ _ _).below ((aj _ _).alloc (ag _) _)).mono b2
   ·clear H0 H2 H3 H4 H5 a2 a4 a5 a6 a7
    have d:=zq (H1.out wr b.f2.bel b.f2.wb b.f2.tb)
    obtain ⟨R,z⟩:=lz (kH o T S t)
    rw [<-z.out] at d a3
    clear H1
    cases hb:(eu t)
    ·rw [hb] at d
     have Z:=zq hb
     clear hb a3 z
     have ix:=CU
     go_wp2_with fail
     refine d.out.mono ?_;rintro e w2 ⟨y,C,B,rfl,n,s⟩
     have a:=b.call n
     clear s n b d
     go_wp2_with fail
     go_roundw
     case rel=>exact ⟨2,rfl,by decide,a.call ((aj _ _).alloc (ag _) _),zq ⟨fun _=>l.out.1 (by decide),(by first | exact fun _=>Z.out | exact fun _=>trivial | exact trivial),fun h=>absurd h (by decide),fun h=>absurd h (by decide),fun h=>absurd h (by decide),fun h=>absurd h (by decide)⟩⟩
     case measure=>decide
    ·rw [hb] at d
     have G:=zq (a3.out (l.out.1 (by decide)) hb)
     clear hb a3 z l
     have b1:=G.out
     clear G b7
     subst b1
     have ix:=CU
     go_wp2_with fail
     refine d.out.mono ?_;rintro e w2 ⟨y,C,B,rfl,n,s⟩
     have a:=b.call n
     have a1:=zq s
     have b2:=b.f2.bel.size
     have a9:w.heap.size+1+1<wr.heap.size:=b.rb.lt
     have H:=a.f2.bel
     have a8:=a.rb.lt
     obtain ⟨u0,I⟩:=a.rb.r0
     obtain ⟨u1,J⟩:=a.rb.r1
     obtain ⟨u2,K⟩:=a.rb.r2
     obtain ⟨u3,L⟩:=a.rb.r3
     have f0:=a.rb.rf 0
     have f1:=a.rb.rf 1
     have f2:=a.rb.rf 2
     have f3:=a.rb.rf 3
     clear s n b d a
     go_wp2_with fail
     refine ay (v:=aN #[.slice y C B,aa RR.2.name,ab ae RR.2.typ,ab ae RR.2.prec]) (by simp [results,gM,go_sem,I,J,K,L,a8]) rfl ⟨y,C,B,rfl,?_,?_⟩
     ·exact (dg H _ (by omega) _ _ _ _).alloc (by rw [eD];exact H.size) _
     ·exact ((a1.out.put4 a9 _ _ _ _).below ((aj _ _).alloc (ag _) _)).mono b2
   ·clear H0 H1 H3 H4 H5 a2 a3 a5 a6 a7
    have d:=zq (H2.out wr b.f2.bel b.f2.wb b.f2.tb)
    obtain ⟨R,z⟩:=lz (lW o T S t)
    rw [<-z.out] at d a4
    clear H2
    cases hb:(jh o t)
    ·rw [hb] at d
     have Z:=zq hb
     clear hb a4 z
     have ix:=CT
     go_wp2_with fail
     refine d.out.mono ?_;rintro e w2 ⟨y,C,B,rfl,n,s⟩
     have a:=b.call n
     clear s n b d
     go_wp2_with fail
     go_roundw
     case rel=>exact ⟨3,rfl,by decide,a.call ((aj _ _).alloc (ag _) _),zq ⟨fun _=>l.out.1 (by decide),fun _=>l.out.2.1 (by decide),(by first | exact fun _=>Z.out | exact fun _=>trivial | exact trivial),fun h=>absurd h (by decide),fun h=>absurd h (by decide),fun h=>absurd h (by decide)⟩⟩
     case measure=>decide
    ·rw [hb] at d
     have G:=zq (a4.out (l.out.1 (by decide)) (l.out.2.1 (by decide)) hb)
     clear hb a4 z l
     have b1:=G.out
     clear G b7
     subst b1
     have ix:=CT
     go_wp2_with fail
     refine d.out.mono ?_;rintro e w2 ⟨y,C,B,rfl,n,s⟩
     have a:=b.call n
     have a1:=zq s
     have b2:=b.f2.bel.size
     have a9:w.heap.size+1+1<wr.heap.size:=b.rb.lt
     have H:=a.f2.bel
     have a8:=a.rb.lt
     obtain ⟨u0,I⟩:=a.rb.r0
     obtain ⟨u1,J⟩:=a.rb.r1
     obtain ⟨u2,K⟩:=a.rb.r2
     obtain ⟨u3,L⟩:=a.rb.r3
     have f0:=a.rb.rf 0
     have f1:=a.rb.rf 1
     have f2:=a.rb.rf 2
     have f3:=a.rb.rf 3
     clear s n b d a
     go_wp2_with fail
     refine ay (v:=aN #[.slice y C B,aa RR.2.name,ab ae RR.2.typ,ab ae RR.2.prec]) (by simp [results,gM,go_sem,I,J,K,L,a8]) rfl ⟨y,C,B,rfl,?_,?_⟩
     ·exact (dg H _ (by omega) _ _ _ _).alloc (by rw [eD];exact H.size) _
     ·exact ((a1.out.put4 a9 _ _ _ _).below ((aj _ _).alloc (ag _) _)).mono b2
   ·clear H0 H1 H2 H4 H5 a2 a3 a4 a6 a7
    have d:=zq (H3.out wr b.f2.bel b.f2.wb b.f2.tb)
    obtain ⟨R,z⟩:=lz (nV o T S t)
    rw [<-z.out] at d a5
    clear H3
    cases hb:(ky o T t)
    ·rw [hb] at d
     have Z:=zq hb
     clear hb a5 z
     have ix:=CS
     go_wp2_with fail
     refine d.out.mono ?_;rintro e w2 ⟨y,C,B,rfl,n,s⟩
     have a:=b.call n
     clear s n b d
     go_wp2_with fail
     go_roundw
     case rel=>exact ⟨4,rfl,by decide,a.call ((aj _ _).alloc (ag _) _),zq ⟨fun _=>l.out.1 (by decide),fun _=>l.out.2.1 (by decide),fun _=>l.out.2.2.1 (by decide),(by first | exact fun _=>Z.out | exact fun _=>trivial | exact trivial),fun h=>absurd h (by decide),fun h=>absurd h (by decide)⟩⟩
     case measure=>decide
    ·rw [hb] at d
     have G:=zq (a5.out (l.out.1 (by decide)) (l.out.2.1 (by decide)) (l.out.2.2.1 (by decide)) hb)
     clear hb a5 z l
     have b1:=G.out
     clear G b7
     subst b1
     have ix:=CS
     go_wp2_with fail
     refine d.out.mono ?_;rintro e w2 ⟨y,C,B,rfl,n,s⟩
     have a:=b.call n
     have a1:=zq s
     have b2:=b.f2.bel.size
     have a9:w.heap.size+1+1<wr.heap.size:=b.rb.lt
     have H:=a.f2.bel
     have a8:=a.rb.lt
     obtain ⟨u0,I⟩:=a.rb.r0
     obtain ⟨u1,J⟩:=a.rb.r1
     obtain ⟨u2,K⟩:=a.rb.r2
     obtain ⟨u3,L⟩:=a.rb.r3
     have f0:=a.rb.rf 0
     have f1:=a.rb.rf 1
     have f2:=a.rb.rf 2
     have f3:=a.rb.rf 3
     clear s n b d a
     go_wp2_with fail
     refine ay (v:=aN #[.slice y C B,aa RR.2.name,ab ae RR.2.typ,ab ae RR.2.prec]) (by simp [results,gM,go_sem,I,J,K,L,a8]) rfl ⟨y,C,B,rfl,?_,?_⟩
     ·exact (dg H _ (by omega) _ _ _ _).alloc (by rw [eD];exact H.size) _
     ·exact ((a1.out.put4 a9 _ _ _ _).below ((aj _ _).alloc (ag _) _)).mono b2
   ·clear H0 H1 H2 H3 H5 a2 a3 a4 a5 a7
    have d:=zq (H4.out wr b.f2.bel b.f2.wb b.f2.tb)
    obtain ⟨R,z⟩:=lz (lU o T S t)
    rw [<-z.out] at d a6
    clear H4
    cases hb:(jI o T t)
    ·rw [hb] at d
     have Z:=zq hb
     clear hb a6 z
     have ix:=CR
     go_wp2_with fail
     refine d.out.mono ?_;rintro e w2 ⟨y,C,B,rfl,n,s⟩
     have a:=b.call n
     clear s n b d
     go_wp2_with fail
     go_roundw
     case rel=>exact ⟨5,rfl,by decide,a.call ((aj _ _).alloc (ag _) _),zq ⟨fun _=>l.out.1 (by decide),fun _=>l.out.2.1 (by decide),fun _=>l.out.2.2.1 (by decide),fun _=>l.out.2.2.2.1 (by decide),(by first | exact fun _=>Z.out | exact fun _=>trivial | exact trivial),fun h=>absurd h (by decide)⟩⟩
     case measure=>decide
    ·rw [hb] at d
     have G:=zq (a6.out (l.out.1 (by decide)) (l.out.2.1 (by decide)) (l.out.2.2.1 (by decide)) (l.out.2.2.2.1 (by decide)) hb)
     clear hb a6 z l
     have b1:=G.out
     clear G b7
     subst b1
     have ix:=CR
     go_wp2_with fail
     refine d.out.mono ?_;rintro e w2 ⟨y,C,B,rfl,n,s⟩
     have a:=b.call n
     have a1:=zq s
     have b2:=b.f2.bel.size
     have a9:w.heap.size+1+1<wr.heap.size:=b.rb.lt
     have H:=a.f2.bel
     have a8:=a.rb.lt
     obtain ⟨u0,I⟩:=a.rb.r0
     obtain ⟨u1,J⟩:=a.rb.r1
     obtain ⟨u2,K⟩:=a.rb.r2
     obtain ⟨u3,L⟩:=a.rb.r3
     have f0:=a.rb.rf 0
     have f1:=a.rb.rf 1
     have f2:=a.rb.rf 2
     have f3:=a.rb.rf 3
     clear s n b d a
     go_wp2_with fail
     refine ay (v:=aN #[.slice y C B,aa RR.2.name,ab ae RR.2.typ,ab ae RR.2.prec]) (by simp [results,gM,go_sem,I,J,K,L,a8]) rfl ⟨y,C,B,rfl,?_,?_⟩
     ·exact (dg H _ (by omega) _ _ _ _).alloc (by rw [eD];exact H.size) _
     ·exact ((a1.out.put4 a9 _ _ _ _).below ((aj _ _).alloc (ag _) _)).mono b2
   ·clear H0 H1 H2 H3 H4 a2 a3 a4 a5 a6
    have d:=zq (H5.out wr b.f2.bel b.f2.wb b.f2.tb)
    obtain ⟨R,z⟩:=lz (kG o T S t)
    rw [<-z.out] at d a7
    clear H5
    cases hb:(jq o T t)
    ·rw [hb] at d
     have Z:=zq hb
     clear hb a7 z
     have ix:=CQ
     go_wp2_with fail
     refine d.out.mono ?_;rintro e w2 ⟨y,C,B,rfl,n,s⟩
     have a:=b.call n
     clear s n b d
     go_wp2_with fail
     go_roundw
     case rel=>exact ⟨6,rfl,by decide,a.call ((aj _ _).alloc (ag _) _),zq ⟨fun _=>l.out.1 (by decide),fun _=>l.out.2.1 (by decide),fun _=>l.out.2.2.1 (by decide),fun _=>l.out.2.2.2.1 (by decide),fun _=>l.out.2.2.2.2.1 (by decide),(by first | exact fun _=>Z.out | exact fun _=>trivial | exact trivial)⟩⟩
     case measure=>decide
    ·rw [hb] at d
     have G:=zq (a7.out (l.out.1 (by decide)) (l.out.2.1 (by decide)) (l.out.2.2.1 (by decide)) (l.out.2.2.2.1 (by decide)) (l.out.2.2.2.2.1 (by decide)) hb)
     clear hb a7 z l
     have b1:=G.out
     clear G b7
     subst b1
     have ix:=CQ
     go_wp2_with fail
     refine d.out.mono ?_;rintro e w2 ⟨y,C,B,rfl,n,s⟩
     have a:=b.call n
     have a1:=zq s
     have b2:=b.f2.bel.size
     have a9:w.heap.size+1+1<wr.heap.size:=b.rb.lt
     have H:=a.f2.bel
     have a8:=a.rb.lt
     obtain ⟨u0,I⟩:=a.rb.r0
     obtain ⟨u1,J⟩:=a.rb.r1
     obtain ⟨u2,K⟩:=a.rb.r2
     obtain ⟨u3,L⟩:=a.rb.r3
     have f0:=a.rb.rf 0
     have f1:=a.rb.rf 1
     have f2:=a.rb.rf 2
     have f3:=a.rb.rf 3
     clear s n b d a
     go_wp2_with fail
     refine ay (v:=aN #[.slice y C B,aa RR.2.name,ab ae RR.2.typ,ab ae RR.2.prec]) (by simp [results,gM,go_sem,I,J,K,L,a8]) rfl ⟨y,C,B,rfl,?_,?_⟩
     ·exact (dg H _ (by omega) _ _ _ _).alloc (by rw [eD];exact H.size) _
     ·exact ((a1.out.put4 a9 _ _ _ _).below ((aj _ _).alloc (ag _) _)).mono b2
  ·have Y:k=6:=by omega
   subst Y
   have e7:=e4.out (l.out.1 (by decide)) (l.out.2.1 (by decide)) (l.out.2.2.1 (by decide)) (l.out.2.2.2.1 (by decide)) (l.out.2.2.2.2.1 (by decide)) (l.out.2.2.2.2.2 (by decide))
   clear H0 H1 H2 H3 H4 H5 a2 a3 a4 a5 a6 a7 e4 l b7 Y j1
   obtain ⟨r,i3⟩:=lz (jB o t.name)
   obtain ⟨RW,i6⟩:=lz (dh (cR o T S) t.args)
   rw [<-i3.out] at d9 e7
   rw [<-i6.out] at e3 e0 e7
   have j4:=e0.out
   obtain ⟨BL,d5⟩:=lz (s1 40::(RW++[s1 41]))
   obtain ⟨BN,b3⟩:=lz (BL.length)
   have d6:0<BN:=by rw [b3.out,d5.out];simp
   have j3:BN<=80002:=by rw [b3.out,d5.out];simp;omega
   have i7:Hid (RR=(r::BL,op0)):=zq (by rw [e7,d5.out])
   have d3:w.heap.size+2<wr.heap.size:=b.rb.lt
   have g0:=b.f2.bel
   have j2:=g0.size
   have a0:Hid (∀X,RegH (w.heap.size+2) wr X->X.cell? ⟨w.heap.size,0,none⟩=some (am o.q)/\X.cell? ⟨w.heap.size,1,none⟩=some (am o.ig)/\X.cell? ⟨w.heap.size,2,none⟩=some (am o.nu)/\X.cell? ⟨w.heap.size,3,none⟩=some (.slice TA TN TC)/\X.cell? ⟨w.heap.size+1,2,none⟩=some (aa t.name)/\X.cell? ⟨w.heap.size+1,3,none⟩=some (.slice A LN u)/\RegH (w.heap.size+2) wr X):=zq (fun X h=>by
    have F:∀g k,g<wr.heap.size->g≠w.heap.size+2->X.cell? ⟨g,k,none⟩=wr.cell? ⟨g,k,none⟩:=fun g k h1 h2=>h.on.cell (p:=⟨g,k,none⟩) h1 h2
    have b9:=b.f2.wb
    have f7:=b.f2.tb
    have h3:=f7.c3
    rw [<-HL.out] at h3
    exact ⟨(F _ _ b9.lt (by omega)).trans b9.c0,(F _ _ b9.lt (by omega)).trans b9.c1,(F _ _ b9.lt (by omega)).trans b9.c2,(F _ _ b9.lt (by omega)).trans b9.c3,(F _ _ f7.lt (by omega)).trans f7.c2,(F _ _ f7.lt (by omega)).trans h3,h⟩)
   have N:Hid (∀X,(X.cell? ⟨w.heap.size,0,none⟩=some (am o.q)/\X.cell? ⟨w.heap.size,1,none⟩=some (am o.ig)/\X.cell? ⟨w.heap.size,2,none⟩=some (am o.nu)/\X.cell? ⟨w.heap.size,3,none⟩=some (.slice TA TN TC)/\X.cell? ⟨w.heap.size+1,2,none⟩=some (aa t.name)/\X.cell? ⟨w.heap.size+1,3,none⟩=some (.slice A LN u)/\RegH (w.heap.size+2) wr X)->RegH (w.heap.size+2) wr X):=zq (fun X h=>h.2.2.2.2.2.2)
   have i9:Hid (RegH (w.heap.size+2) wr wr.drew):=zq (RegH.drew ⟨Only.refl _ _,b.rb⟩)
   have e9:∀X,RegH (w.heap.size+2) wr X->ax w.heap.size w X:=fun X h=>g0.trans (h.on.below (by omega) g0.size)
   have i2:=zq e9
   have i4:=zq (fun X h=>d9.out X (e9 X h))
   have i8:Hid (∀X,RegH (w.heap.size+2) wr X->aJ ah 155 #[.slice A LN u,.func (.func 156) #[aN #[am o.q,am o.ig,am o.nu,.slice TA TN TC]] #[]] X fun e w'=>∃v,e=aw v/\ax X.heap.size X w'/\OwnS 9 wr.heap.size w' v RW) :=
    zq (fun X h=>(e3.out X (e9 X h)).mono fun _ _ ⟨v,he,hB,hO⟩=>⟨v,he,hB,hO.mono h.on.size⟩)
   have d8:Hid (∀X,RegH (w.heap.size+2) wr X->∀v,OwnS 9 wr.heap.size X v RW->aJ ah 140 #[aa ⟨#[40]⟩,v,aa ⟨#[41]⟩] X fun e w'=>∃g c,e=aw (.slice (some ⟨g,0,none⟩) BN c)/\ax X.heap.size X w'/\OwnS 9 wr.heap.size w' (.slice (some ⟨g,0,none⟩) BN c) BL) :=
    zq (fun X h v hv=>(Ax ⟨#[40]⟩ ⟨#[41]⟩ hv (by omega)).mono fun _ _ ⟨g,c,he,hB,hO⟩=>⟨g,c,by rw [b3.out,d5.out];exact he,hB,by rw [b3.out,d5.out];exact hO.mono h.on.size⟩)
   clear e9 d9 e3 e0 b e7
   go_upto_region 9 with fail
   go_region_held3 (fun w'=>w'.cell? ⟨w.heap.size,0,none⟩=some (am o.q)/\w'.cell? ⟨w.heap.size,1,none⟩=some (am o.ig)/\w'.cell? ⟨w.heap.size,2,none⟩=some (am o.nu)/\w'.cell? ⟨w.heap.size,3,none⟩=some (.slice TA TN TC)/\w'.cell? ⟨w.heap.size+1,2,none⟩=some (aa t.name)/\w'.cell? ⟨w.heap.size+1,3,none⟩=some (.slice A LN u)/\RegH (w.heap.size+2) wr w')
    (first
     | with_reducible exact a0.out _ i9.out
     | with_reducible exact a0.out _ (RegH.call (N.out _ (by with_reducible assumption)) (by with_reducible assumption))
     | with_reducible exact a0.out _ f
     | with_reducible exact a0.out _ d7
     | with_reducible exact a0.out _ f9
     | with_reducible exact a0.out _ d1
     | with_reducible exact a0.out _ (RegH.alloc d7 _)
     | with_reducible exact a0.out _ (RegH.alloc f9 _)
     | with_reducible exact a0.out _ (RegH.alloc d1 _)
     | with_reducible exact a0.out _ (RegH.alloc (N.out _ (by with_reducible assumption)) _)
     | with_reducible exact a0.out _ (RegH.put4 (N.out _ (by with_reducible assumption)) _ _ _ _))
    (first
     | (go_at_call 108;have h6:=N.out _ (by with_reducible assumption);(with_reducible refine (i4.out _ h6).mono ?_);rintro e M ⟨rfl,e5⟩;have d7:=h6.call e5)
     | (go_at_call 155;have h7:=N.out _ (by with_reducible assumption);(with_reducible refine (i8.out _ h7).mono ?_);rintro e w5 ⟨v5,rfl,g3,e6⟩;have f9:=h7.call g3)
     | (go_at_call 140;have b0:=N.out w5 (by with_reducible assumption);(with_reducible refine (d8.out _ b0 v5 e6).mono ?_);rintro e D ⟨U,Q,rfl,b4,b8⟩;have d1:=b0.call b4)
     | (go_at_call 140;have b0:=N.out M (by with_reducible assumption);(with_reducible refine (d8.out _ b0 v5 (e6.below e5)).mono ?_);rintro e D ⟨U,Q,rfl,b4,b8⟩;have d1:=b0.call b4)
     | (go_at_call 140;have b0:=N.out (w5.alloc (.cells #[aa r] 9)) (by with_reducible assumption);(with_reducible refine (d8.out _ b0 v5 (e6.below ((aj _ _).alloc (ag _) (.cells #[aa r] 9)))).mono ?_);rintro e D ⟨U,Q,rfl,b4,b8⟩;have d1:=b0.call b4)
     | (go_at_call 140;have b0:=N.out (M.alloc (.cells #[aa r] 9)) (by with_reducible assumption);(with_reducible refine (d8.out _ b0 v5 ((e6.below e5).below ((aj _ _).alloc (ag _) (.cells #[aa r] 9)))).mono ?_);rintro e D ⟨U,Q,rfl,b4,b8⟩;have d1:=b0.call b4)
     | (have P:=N.out (D.alloc (.cells #[aa r] 9)) (by with_reducible assumption);have O:OwnS 9 wr.heap.size (D.alloc (.cells #[aa r] 9)) (.slice (some ⟨D.heap.size,0,none⟩) 1 1) [r]:=((OwnS.one 9 D r).mono d1.on.size);have b6:OwnS 9 wr.heap.size (D.alloc (.cells #[aa r] 9)) (.slice (some ⟨U,0,none⟩) BN Q) BL:=b8.below ((aj _ _).alloc (ag _) (.cells #[aa r] 9));refine cg _ (by rfl) _ _ 65 (by rfl) wr.heap.size 9 i _ 1 16 bw HI.out c5.out c8.out c9.out (by rfl) (by decide) (.slice (some ⟨D.heap.size,0,none⟩) 1 1) 1 ([r].map aQ) (by rfl) O ⟨U,0,none⟩ BN Q (BL.map aQ) (by rfl) (by rw [b3.out,bm,Nat.mul_one]) (mF b6) (gh _) d6 (by unfold be;omega) (by omega) P.on.size (D.heap.size+1) (by simp) ?_;intro g7 c7 w7 d4 b5 e8 f4;have f:RegH (w.heap.size+2) wr w7:=P.grown b5 (fun k Y=>(O.lt k Y).1) d3;obtain ⟨u0,I⟩:=f.rb.r0;obtain ⟨u1,J⟩:=f.rb.r1;obtain ⟨u2,K⟩:=f.rb.r2;obtain ⟨u3,L⟩:=f.rb.r3;have f0:=f.rb.rf 0;have f1:=f.rb.rf 1;have f2:=f.rb.rf 2;have f3:=f.rb.rf 3)
     | (have P:=N.out (M.alloc (.cells #[aa r] 9)) (by with_reducible assumption);have O:OwnS 9 wr.heap.size (M.alloc (.cells #[aa r] 9)) (.slice (some ⟨M.heap.size,0,none⟩) 1 1) [r]:=((OwnS.one 9 M r).mono d7.on.size);have b6:OwnS 9 wr.heap.size (M.alloc (.cells #[aa r] 9)) (.slice (some ⟨U,0,none⟩) BN Q) BL:=(b8.below e5).below ((aj _ _).alloc (ag _) (.cells #[aa r] 9));refine cg _ (by rfl) _ _ 65 (by rfl) wr.heap.size 9 i _ 1 16 bw HI.out c5.out c8.out c9.out (by rfl) (by decide) (.slice (some ⟨M.heap.size,0,none⟩) 1 1) 1 ([r].map aQ) (by rfl) O ⟨U,0,none⟩ BN Q (BL.map aQ) (by rfl) (by rw [b3.out,bm,Nat.mul_one]) (mF b6) (gh _) d6 (by unfold be;omega) (by omega) P.on.size (M.heap.size+1) (by simp) ?_;intro g7 c7 w7 d4 b5 e8 f4;have f:RegH (w.heap.size+2) wr w7:=P.grown b5 (fun k Y=>(O.lt k Y).1) d3;obtain ⟨u0,I⟩:=f.rb.r0;obtain ⟨u1,J⟩:=f.rb.r1;obtain ⟨u2,K⟩:=f.rb.r2;obtain ⟨u3,L⟩:=f.rb.r3;have f0:=f.rb.rf 0;have f1:=f.rb.rf 1;have f2:=f.rb.rf 2;have f3:=f.rb.rf 3)
     | (have P:=N.out (D) (by with_reducible assumption);have O:OwnS 9 wr.heap.size (D) (.slice (some ⟨w5.heap.size,0,none⟩) 1 1) [r]:=((OwnS.one 9 w5 r).mono f9.on.size).below b4;have b6:OwnS 9 wr.heap.size (D) (.slice (some ⟨U,0,none⟩) BN Q) BL:=b8;refine cg _ (by rfl) _ _ 65 (by rfl) wr.heap.size 9 i _ 1 16 bw HI.out c5.out c8.out c9.out (by rfl) (by decide) (.slice (some ⟨w5.heap.size,0,none⟩) 1 1) 1 ([r].map aQ) (by rfl) O ⟨U,0,none⟩ BN Q (BL.map aQ) (by rfl) (by rw [b3.out,bm,Nat.mul_one]) (mF b6) (gh _) d6 (by unfold be;omega) (by omega) P.on.size D.heap.size rfl ?_;intro g7 c7 w7 d4 b5 e8 f4;have f:RegH (w.heap.size+2) wr w7:=P.grown b5 (fun k Y=>(O.lt k Y).1) d3;obtain ⟨u0,I⟩:=f.rb.r0;obtain ⟨u1,J⟩:=f.rb.r1;obtain ⟨u2,K⟩:=f.rb.r2;obtain ⟨u3,L⟩:=f.rb.r3;have f0:=f.rb.rf 0;have f1:=f.rb.rf 1;have f2:=f.rb.rf 2;have f3:=f.rb.rf 3)
     | (have P:=N.out (D) (by with_reducible assumption);have O:OwnS 9 wr.heap.size (D) (.slice (some ⟨M.heap.size,0,none⟩) 1 1) [r]:=((OwnS.one 9 M r).mono d7.on.size).below b4;have b6:OwnS 9 wr.heap.size (D) (.slice (some ⟨U,0,none⟩) BN Q) BL:=b8;refine cg _ (by rfl) _ _ 65 (by rfl) wr.heap.size 9 i _ 1 16 bw HI.out c5.out c8.out c9.out (by rfl) (by decide) (.slice (some ⟨M.heap.size,0,none⟩) 1 1) 1 ([r].map aQ) (by rfl) O ⟨U,0,none⟩ BN Q (BL.map aQ) (by rfl) (by rw [b3.out,bm,Nat.mul_one]) (mF b6) (gh _) d6 (by unfold be;omega) (by omega) P.on.size D.heap.size rfl ?_;intro g7 c7 w7 d4 b5 e8 f4;have f:RegH (w.heap.size+2) wr w7:=P.grown b5 (fun k Y=>(O.lt k Y).1) d3;obtain ⟨u0,I⟩:=f.rb.r0;obtain ⟨u1,J⟩:=f.rb.r1;obtain ⟨u2,K⟩:=f.rb.r2;obtain ⟨u3,L⟩:=f.rb.r3;have f0:=f.rb.rf 0;have f1:=f.rb.rf 1;have f2:=f.rb.rf 2;have f3:=f.rb.rf 3)
     | (have P:=N.out (D) (by with_reducible assumption);have O:OwnS 9 wr.heap.size (D) (.slice (some ⟨M.heap.size,0,none⟩) 1 1) [r]:=(((OwnS.one 9 M r).mono d7.on.size).below g3).below b4;have b6:OwnS 9 wr.heap.size (D) (.slice (some ⟨U,0,none⟩) BN Q) BL:=b8;refine cg _ (by rfl) _ _ 65 (by rfl) wr.heap.size 9 i _ 1 16 bw HI.out c5.out c8.out c9.out (by rfl) (by decide) (.slice (some ⟨M.heap.size,0,none⟩) 1 1) 1 ([r].map aQ) (by rfl) O ⟨U,0,none⟩ BN Q (BL.map aQ) (by rfl) (by rw [b3.out,bm,Nat.mul_one]) (mF b6) (gh _) d6 (by unfold be;omega) (by omega) P.on.size D.heap.size rfl ?_;intro g7 c7 w7 d4 b5 e8 f4;have f:RegH (w.heap.size+2) wr w7:=P.grown b5 (fun k Y=>(O.lt k Y).1) d3;obtain ⟨u0,I⟩:=f.rb.r0;obtain ⟨u1,J⟩:=f.rb.r1;obtain ⟨u2,K⟩:=f.rb.r2;obtain ⟨u3,L⟩:=f.rb.r3;have f0:=f.rb.rf 0;have f1:=f.rb.rf 1;have f2:=f.rb.rf 2;have f3:=f.rb.rf 3)
     | fail)
   all_goals
    have j0:=dg (i2.out w7 f) (w.heap.size+2) (by omega) (.slice (some ⟨g7,0,none⟩) (1+BN) c7) (aa ⟨#[]⟩) (ab ae 0) (ab ae 0)
    have i5:Hid (OwnS 9 wr.heap.size w7 (.slice (some ⟨g7,0,none⟩) (1+BN) c7) (r::BL)):=zq (by
     unfold OwnS
     have e1:(r::BL).length=1+BN:=by rw [b3.out];simp;omega
     have e2:(r::BL).map aQ=([r].map aQ)++BL.map aQ:=by simp
     rw [e1,e2];exact d4)
    clear d4 b5
    go_wp2_with fail
    refine ay (v:=aN #[.slice (some ⟨g7,0,none⟩) (1+BN) c7,aa ⟨#[]⟩,ab ae 0,ab ae 0]) (by simp [results,gM,go_sem,I,J,K,L]) rfl ?_
    have e:=i7.out
    subst e
    exact ⟨_,_,_,rfl,j0,(i5.out.put4 d3 _ _ _ _).mono j2⟩
end Go.Proofs.YtlikcjbjibhjgaaGreatDoor
namespace Hb
open Go Go.RowKit
def Small (l:List ByteArray):Prop:=∀s∈l,s.size<=1000
theorem Small.nil:Small []:=fun s a=>by cases a
theorem Small.cons {s:ByteArray} {l:List ByteArray} (h:s.size<=1000) (k:Small l):Small (s::l):=fun x a=>by
 rcases bg.1 a with rfl | a
 ·exact h
 ·exact k x a
theorem Small.app {l k:List ByteArray} (h:Small l) (b:Small k):Small (l++k):=fun x a=>by
 rcases List.mem_append.1 a with a | a
 ·exact h x a
 ·exact b x a
theorem jG (c:UInt8):(s1 c).size<=1000:=by show 1<=1000;decide
theorem Small.one {s:ByteArray} (h:s.size<=1000):Small [s]:=Small.cons h Small.nil
theorem Small.brk {l:List ByteArray} (h:Small l) (b:Bool):Small (brk l b):=by
 unfold Hb.brk
 split
 ·exact .cons (jG _) (h.app (.one (jG _)))
 ·exact h
theorem Small.hd {l:List ByteArray} (h:Small l):(hd l).size<=1000:=by
 unfold Hb.hd
 cases l with
 | nil=>show 0<=1000;decide
 | cons a l=>exact h a (aV ..)
theorem wG (a b:ByteArray):(a++b).size=a.size+b.size:=ByteArray.size_append
theorem ID {t:Tm} (h:dP t=true):(kj t.num).size<=21:=qG _ ((eX t).1 h).1 ((eX t).1 h).2
variable {o:WO} {T:List OpR} {S:Tm->WR}
theorem tP {s:ByteArray} (h:s.size<=100):(jB o s).size<=1000:=by
 unfold jB
 split
 ·rw [tr]
  unfold gA
  split
  ·rw [size_data];omega
  ·have:=yi s.data.toList
   rw [size_data] at this
   unfold gB
   simp only [aB,bo,dL]
   omega
 ·omega
theorem ya {n:Int} (a:-9223372036854775808<=n) (b:n<=9223372036854775807):(ld n).size<=1000:=by
 unfold ld
 split
 ·exact jG _
 ·have:=qG (n / 26) (by omega) (by omega)
  rw [wG]
  show 1+_<=_
  omega
theorem iv {t:Tm} (h:Tm.All Okf t) (a:Small (S t).1) (m:Int) (b:Bool):Small (bu o T S t m b):=by
 have d:=ID h.here.2
 have c:=tP (o:=o) (kN h.here.1)
 unfold bu
 split
 ·exact .one (by rw [wG];show 1+_<=_;omega)
 split
 ·exact .one (by omega)
 split
 ·exact (Small.one c).brk _
 ·exact a.brk _
theorem tZ {t:Tm} (h:Tm.All Okf t) (a:Small (S t).1) (op:OpR):Small (dE o T S t op):=by
 unfold dE
 split
 ·exact a.brk _
 ·exact iv h a _ _
theorem un (P:Tm->List ByteArray):∀l:List Tm,(∀x∈l,Small (P x))->Small (l.flatMap fun u=>s1 44::P u)
 | [],_=>Small.nil
 | a::l,h=>by
  rw [ek]
  exact (Small.cons (jG _) (h a (aV ..))).app (un P l fun x b=>h x (aW _ b))
theorem vC (P:Tm->List ByteArray) (l:List Tm) (h:∀x∈l,Small (P x)):Small (dh P l):=by
 cases l with
 | nil=>exact Small.nil
 | cons a l=>exact (h a (aV ..)).app (un P l fun x b=>h x (aW _ b))
theorem rK {P:Tm->Prop} (b:Tm.All P tm0):∀(n:Nat) (t:Tm),t.nodes<=n->Tm.All P t->(∀x∈cK t,Tm.All P x)/\Tm.All P (di t)
 | 0,t,h,_=>absurd h (by have:=t.nodes_pos;omega)
 | n+1,t,h,hk=>by
  cases hc:t.cons
  ·rw [iH hc,jt hc]
   exact ⟨fun x a=>absurd a (List.not_mem_nil),hk⟩
  ·have e:=uy hc
   have f:=(t.arg 0).nodes_pos
   obtain ⟨c,d⟩:=rK b n (t.arg 1) (by omega) (hk.arg b 1)
   rw [iw hc,jL hc]
   refine ⟨fun x a=>?_,d⟩
   rcases bg.1 a with rfl | a
   ·exact hk.arg b 0
   ·exact c x a
theorem AV {s:ByteArray} (h:s.size<=100):(jj o s).size<=1000:=by
 unfold jj
 split
 ·omega
 ·exact tP h
theorem Ec (b:∀x,Tm.All Okf x->Small (S x).1) {t:Tm} (h:Tm.All Okf t):Small (mw o T S t).1:=by
 have d:=tP (o:=o) (kN h.here.1)
 have a:=fun j=>h.arg Okf.tm0 j
 obtain ⟨e,f⟩:=rK Okf.tm0 t.nodes t (ag _) h
 unfold mw
 split
 ·have:=(eX _).1 (a 0).here.2
  exact .one (ya this.1 this.2)
 split
 ·refine .cons (jG _) ((Small.app (vC _ _ fun x c=>iv (e x c) (b x (e x c)) _ _) ?_).app (.one (jG _)))
  unfold jd
  split
  ·exact Small.nil
  ·exact .cons (jG _) (iv f (b _ f) _ _)
 split
 ·exact .cons (jG _) ((iv (a 0) (b _ (a 0)) _ _).app (.one (jG _)))
 split
 ·exact ((tZ (a 0) (b _ (a 0)) _).app (.one (AV (kN h.here.1)))).app (iv (a 1) (b _ (a 1)) _ _)
 split
 ·refine .cons d (.app ?_ ?_)
  ·split
   ·exact .one (jG _)
   ·exact Small.nil
  ·exact (iv (a 0) (b _ (a 0)) _ _).brk _
 split
 ·exact (tZ (a 0) (b _ (a 0)) _).app (.one d)
 ·exact .cons d (.cons (jG _) ((vC _ _ fun x c=>iv (h.sub x c) (b x (h.sub x c)) _ _).app (.one (jG _))))
theorem tg (o:WO) (T:List OpR):∀(f:Nat) (t:Tm),Tm.All Okf t->Small (wY o T f t).1
 | 0,_,_=>Small.nil
 | f+1,_,h=>Ec (tg o T f) h
theorem DZ (o:WO) (T:List OpR) {t:Tm} (h:Tm.All Okf t):Small (str o T t).1:=tg o T _ t h
theorem vJ (o:WO) (T:List OpR) {t:Tm} (h:Tm.All Okf t) (m:Int) (b:Bool):Small (qZ o T t m b):=iv h (DZ o T h) m b
theorem Dd (o:WO) (T:List OpR) {t:Tm} (h:K4 t) (m:Int) (b:Bool):(qZ o T t m b).length+1<=9 * t.nodes:=gH (wX o T h) m b
theorem Kl (o:WO) (T:List OpR) {t:Tm} (h:K4 t) (m:Int) (b:Bool):0<(qZ o T t m b).length:=EM (by rcases h.kind with h | h | h | h <;> simp [h];exact JI o T t) m b
end Hb
namespace Go.Proofs.YtlikcjbjibhjgaaGreatDoor
open Go.RowKit Hb
variable {o:WO} {T:List OpR} {TA:Option Addr} {TN TC:Nat}
theorem SOK.congr {S S':Tm->WR} {t:Tm} (h:S t=S' t) (k:SOK o T TA TN TC S t):SOK o T TA TN TC S' t:=by
 unfold SOK at k |-
 rw [<-h];exact k
theorem yu:∀(n:Nat) (t:Tm),t.nodes<=n->t.nodes<=2000->Tm.All Okf t->yo o T TA TN TC (str o T) t/\(t.kind=3->SOK o T TA TN TC (str o T) t)
 | 0,t,h,_,_=>absurd h (by have:=t.nodes_pos;omega)
 | n+1,t,hn,k,hok=>by
  have b:=Okf.k4 hok
  have F:=wX o T b
  have p:t.kind=3->SOK o T TA TN TC (str o T) t:=fun v=>by
   refine SOK.congr (rp o T b).symm ?_
   obtain ⟨f,q,B⟩:=ut b
   obtain ⟨r,s⟩:=rK Okf.tm0 t.nodes t (ag _) hok
   have i:=sQ t.nodes t (ag _) b
   have c:∀x,K4 x->(str o T x).1.length+3<=9 * x.nodes:=fun x a=>wX o T a
   have A:cd t=true:=by unfold cd;rw [decide_eq_true k,Okf.ok hok];rfl
   have E:=zG hok.here.1
   have d:∀j,(t.arg j).nodes<=2000:=fun j=>by
    by_cases z:j<t.args.length
    ·have:=t.nodes_arg j z;omega
    ·have e:t.arg j=tm0:=by unfold Tm.arg;rw [aX,ej (by omega)];rfl
     rw [e,Tm.nodes_eq];simp [tm0,Tm.args]
   have H:=sI (cR o T (str o T)) (cK t) fun x a=>gH (c x (f x a).1) 999 false
   have I:=gH (o:=o) (T:=T) (c _ q) 999 false
   have D:=sI (cR o T (str o T)) t.args fun x a=>gH (c x (b.sub x a)) 999 false
   have G:=Tm.nodes_eq t
   have C:=i.2.2
   refine yt t (fun _=>A) (by omega) (kN hok.here.1) (bh.2 fun x a=>(hok.sub x a).here.2)
    (fun x a=>(yu n x (by have:=mK a;omega) (by have:=mK a;omega) (hok.sub x a)).1)
    (fun x a=>(yu n x (by have:=mK a;omega) (by have:=mK a;omega) (hok.sub x a)).2)
    (fun x a=>(yu n x (by have:=(f x a).2;omega) (by have:=(f x a).2;omega) (r x a)).1)
    (fun l=>?_) ?_ ?_ ?_ ?_ ?_ ?_ (by omega)
   ·unfold eu at l
    have g:t.isNm [46]=true/\t.args.length=2:=by simpa using l
    have y:t.cons=true:=by unfold Tm.cons;rw [v,g.1,g.2];rfl
    have w:=i.2.2
    rw [if_pos y] at w
    exact (yu n _ (by omega) (by omega) s).1
   ·have e:cR o T (str o T) (di t)=bu o T (str o T) (di t) 999 false:=rfl
    rw [e]
    omega
   ·have:=c _ (b.arg 0);have:=d 0;omega
   ·have:=gH (o:=o) (T:=T) (c _ (b.arg 0)) 1200 false;have:=d 0;omega
   ·intro j m
    have u:=Dd o T (b.arg j) m true
    have k:=d j
    exact ⟨by unfold qZ at u;omega,Kl o T (b.arg j) m true,aI (vJ o T (hok.arg Okf.tm0 j) m true).hd (by decide)⟩
   ·intro op
    have:=ua (o:=o) (T:=T) (c _ (b.arg 0)) op;have:=d 0;omega
   ·omega
  exact ⟨Jr o T TA TN TC (str o T) t hok.here.1 hok.here.2 p (by omega),p⟩
theorem Ng {t:Tm} (a:t.nodes<=2000) (b:Tm.All Okf t):yo o T TA TN TC (str o T) t:=(yu t.nodes t (ag _) a b).1
end Go.Proofs.YtlikcjbjibhjgaaGreatDoor
