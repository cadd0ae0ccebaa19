/- Parts of the proof. -/
import Derived.Test.YtgapnafkelokaaaGreatDoorR03
import Derived.Test.YtgapnafkelokaaaGreatDoorR05
import Derived.Test.YtgapnafkelokaaaGreatDoorR02
import Derived.Test.YtgapnafkelokaaaGreatDoorR01
set_option maxHeartbeats 12800000
set_option maxRecDepth 100000
open Bool renaming and_eq_true -> aE, true_and -> di
open Go renaming Calls -> aG, TypeId -> bJ, Value -> aA, World -> aj, bodyPost_ret -> aw, maxLen -> bc, wpList -> dW
open Go.Ending renaming returned -> av
open Go.IntKind renaming i64 -> ae
open Go.Proofs.Tryz renaming prog -> ah, results123 -> gg, underlying28 -> aS
open Go.RowKit renaming Below -> ay
open Go.RowKit.Below renaming refl -> ak
open Go.Value renaming agg -> aN, bool -> an, int -> ab, oneCell' -> cC, string -> aM, string -> aa, tuple -> aF
open Go.World renaming cell?_alloc_new -> aq, ownsRow_nil -> dY
open List renaming append_nil -> az, getElem_mem -> aQ, length_append -> aC, length_cons -> be, length_nil -> dm, map_append -> bv, take_of_length_le -> bg
open Nat renaming add_zero -> bq, le_refl -> ag, le_trans -> aH, lt_of_lt_of_le -> aB, lt_or_ge -> dy, zero_mul -> gx
namespace Hb
open Go Go.RowKit
def OwnS (e:bJ) (b:Nat) (w:aj) (v:aA) (l:List ByteArray):Prop:=w.ownsRow b e 1 v l.length (l.map aM)
theorem OwnS.below {e b:Nat} {w w':aj} {v:aA} {l:List ByteArray} (h:OwnS e b w v l) (a:ay w.heap.size w w'):OwnS e b w' v l:=kA h a
theorem OwnS.mono {e b c:Nat} {w:aj} {v:aA} {l:List ByteArray} (h:OwnS e b w v l) (i:c<=b):OwnS e c w v l:=by
 refine ⟨h.1,?_⟩
 rcases h.2 with j | ⟨g,a,d,k,f,rest⟩
 ·exact .inl j
 ·exact .inr ⟨g,a,d,k,aH i f,rest⟩
theorem OwnS.strs {e b:Nat} {w:aj} {v:aA} {l:List ByteArray} (h:OwnS e b w v l):∃A cap,v=.slice A l.length cap/\StrsAt w A l/\tq A l.length cap:=by
 obtain ⟨A,cap,d,f⟩:=DN h
 refine ⟨A,cap,d,f,fun j=>?_⟩
 rcases h.2 with ⟨a,_⟩ | ⟨g,c,i,a,_⟩
 ·rw [d] at a;injection a with h1 _ h3;exact .inl ⟨h1,h3⟩
 ·rw [d] at a;injection a with h1 _ _;exact .inr ⟨_,h1⟩
theorem OwnS.src {e b:Nat} {w:aj} {v:aA} {l:List ByteArray} (h:OwnS e b w v l):∃A a,v=.slice A l.length a/\tp w A l.length a 1 (l.map aM):=by
 obtain ⟨A,a,f,d,c⟩:=h.strs
 exact ⟨A,a,f,wK rfl d c⟩
theorem OwnS.one (e:bJ) (w:aj) (s:ByteArray):OwnS e w.heap.size (w.alloc (.cells #[aa s] e)) (.slice (some ⟨w.heap.size,0,none⟩) 1 1) [s] :=
 ⟨by simp,.inr ⟨w.heap.size,1,#[aa s],rfl,ag _,by show (w.heap.push _)[w.heap.size]? = _;simp,ag _,by unfold bc;omega,by simp,by simp⟩⟩
theorem fM (l:List ByteArray):∀u∈l.map aM,u.oneCell'=true:=by
 intro u a;rw [List.mem_map] at a;obtain ⟨s,_,rfl⟩:=a;rfl
theorem nV {P:Program} {w:aj} {B:Array Oper} {rest:List Oper} {o:Oper} {a:Act} {Q:Exit->Act->aj->Prop} (k:o.guard=none) (s x:Operand) (t e:bJ)
  (p:o.op=.call { callee:=.builtin .append,args:=#[s,x],argTypes:=#[t,t] }) (r:P.underlying t=some (.slice e)) (z:aA) (size f:Nat)
  (J:(P.info? e).map (fun i=>(i.zero,i.size,i.bytes))=some (some z,size,f)) (T:z.cells.size=size) (N:0<size)
  (c:Nat) (v:aA) (n:Nat) (xs:List aA) (q:a.eval s=v) (j:w.ownsRow c e size v n xs) (A:Option Addr) (m g:Nat) (d:List aA) (y:a.eval x=.slice A m g) (M:tp w A m g size d)
  (D:∀u∈d,u.oneCell'=true) (U:n+m<=4611686018427387904) (G:(n+m) * f<=140737488355328) (F:c<=w.heap.size)
  (h:∀b w',w'.ownsRow c e size b (n+m) (xs++d)->w.grownBy w' v.ownBlock->(b.ownBlock=v.ownBlock\/b.ownBlock=some w.heap.size)->dW P B Q rest (a.put o.dst b) w'):dW P B Q (o::rest) a w:=by
 obtain ⟨i,l,O,R,S⟩:=info_parts J
 rcases M with ⟨rfl,rfl,rfl,rfl⟩ | ⟨C,rfl,K,H⟩
 ·refine wpList_append_own_none k s x t p c e i size r l v n xs q j y ?_
  exact h v w (by rw [bq,az];exact j) ⟨rfl,rfl,rfl,ag _,fun _ _ _=>rfl⟩ (.inl rfl)
 ·refine wpList_append_own_at _ k s x t p c e i z size f r l O R S T N v n xs q j C m g d y K H D (by unfold bc;omega) G F ?_
  intro b w' L I _ E
  exact h b w' L I E
end Hb
namespace Go.Proofs.YtgapnafkelokaaaGreatDoor
open Go.RowKit Hb
theorem ew {b:Array Oper} {rest:List Oper} {a:Act} {Q:Exit->Act->aj->Prop} {w:aj} {d t p f x g} (h:dW ah b Q (⟨d,.call { callee:=.builtin .append,args:=x,argTypes:=#[28,28] },t,p,f,g⟩::rest) a w):dW ah b Q (⟨d,.call { callee:=.builtin .append,args:=x,argTypes:=#[28,28] },t,p,f,g⟩::rest) a w:=h
structure Env (T:List OpR) (TA:Option Addr) (TN TC:Nat) (w:aj):Prop where
 door:DoorOk w
 tab:Tab w TA TN TC T
 few:TN<=400
theorem Env.below {T:List OpR} {TA:Option Addr} {TN TC:Nat} {w w':aj} (h:Env T TA TN TC w) (a:ay w.heap.size w w'):Env T TA TN TC w':=⟨h.door.below a,h.tab.below a,h.few⟩
theorem DoorOk.tab15 {w:aj} (h:DoorOk w):Tab15 w:=⟨h.lt,h.c15⟩
def lW (o:WO) (TA:Option Addr) (TN TC:Nat):aA:=aN #[an o.q,an o.ig,an o.nu,.slice TA TN TC]
theorem II (n:Int) (a:-9223372036854775808<=n) (b:n<=9223372036854775807) (w:aj) (c:DoorOk w) :
  aG ah 81 #[ab ae n,ab ae 10] w fun e w'=>e=av (aa (kV n))/\ay w.heap.size w w' :=
 (Tryz.strconv_FormatInt_10 n a b w c.pow).mono fun _ _ ⟨he,k,os,hw⟩=>⟨he,by rw [hw];exact ru w k os⟩
theorem ry (o:WO) (TA:Option Addr) (TN TC:Nat) (s:ByteArray) (w:aj) (i:s.size<=1000000) (g:DoorOk w) :
  aG ah 83 #[lW o TA TN TC,aa s] w fun e w'=>e=av (aa (jo o s))/\ay w.heap.size w w':=by
 have a:=(ak w.heap.size w).alloc (ag _) (.cells #[an o.q,an o.ig,an o.nu,.slice TA TN TC] 67)
 have c:=zq (fun W (h:ay w.heap.size w W)=>Gt s W i (g.tab15.below h))
 unfold lW
 cases hq:o.q
 ·have b:=zq (show jo o s=s by unfold jo;rw [hq];rfl)
  rw [hq] at a
  clear hq
  go_enter Tryz.func83,Tryz.ntmps83
  go_wp2_with fail
  go_ret
  exact ⟨nB b.out.symm,a⟩
 ·have b:=zq (show jo o s=⟨(gq s.data.toList).toArray⟩ by unfold jo;rw [hq];rfl)
  rw [hq] at a
  clear hq
  go_enter Tryz.func83,Tryz.ntmps83
  go_wp2_with fail
  refine (c.out _ a).mono ?_;rintro e j ⟨rfl,d⟩
  have f:=a.trans (d.mono a.size)
  go_wp2_with fail
  go_ret
  exact ⟨nB b.out.symm,f⟩
theorem kw (x y:ByteArray) (A:Option Addr) (n a:Nat) (l:List ByteArray) (w:aj) (c:n=l.length) (D:n<=100000) (g:StrsAt w A l) (f:tq A n a) :
  aG ah 118 #[aa x,.slice A n a,aa y] w fun e w'=>∃v,e=av v/\ay w.heap.size w w'/\OwnS 9 w.heap.size w' v (x::(l++[y])):=by
 have i:=zq (OwnS.one 9 w x)
 have b:=(ak w.heap.size w).alloc (ag _) (.cells #[aa x] 9)
 have t:=b.size
 have m:=zq (wK c (g.below b) f)
 have j:=zq c
 clear g f c
 go_enter Tryz.func118,Tryz.ntmps118
 go_wp2_with (first
  | ((with_reducible refine ew ?_);refine gj rfl _ _ 28 9 rfl aS _ 1 16 eA rfl (by decide) w.heap.size _ _ _ rfl i.out A n a _ rfl m.out (fM _) (by simp;omega) (by simp;omega) t w b ?_;intro E z h d B;have k:=zq h;have s:=d.size;clear h)
  | ((with_reducible refine ew ?_);refine bK rfl _ _ 28 9 rfl aS _ 1 16 eA rfl (by decide) w.heap.size _ _ _ rfl z k.out #[aa y] rfl (by simp [cC]) rfl rfl (by simp;omega) (by simp;omega) s ?_;intro u F r q C))
 go_ret
 refine ⟨u,rfl,d.trans q,?_⟩
 unfold OwnS
 have o:(x::(l++[y])).length=[x].length+n+1:=by rw [j.out];simp;omega
 have p:(x::(l++[y])).map aM=[x].map aM++l.map aM ++ #[aM y].toList:=by simp
 rw [o,p];exact r
theorem lu (b:Bool) (v:aA) (a:Nat) (l:List ByteArray) (w:aj) (p:l.length<=100000) (c:OwnS 9 a w v l) (o:a<=w.heap.size) :
  aG ah 82 #[v,an b] w fun e w'=>∃v',e=av v'/\ay w.heap.size w w'/\OwnS 9 a w' v' (brk l b):=by
 obtain ⟨A,k,rfl,h,f⟩:=c.strs
 have i:=zq c
 have d:=zq (kw (s1 40) (s1 41) A l.length k l w rfl p h f)
 clear c h f
 unfold s1 at d
 generalize l.length=n at *
 cases b
 ·go_enter Tryz.func82,Tryz.ntmps82
  go_wp2_with fail
  go_ret
  exact ⟨_,rfl,ak _ _,i.out⟩
 ·go_enter Tryz.func82,Tryz.ntmps82
  go_wp2_with fail
  refine d.out.mono ?_;rintro e r ⟨q,rfl,m,g⟩
  have j:=zq g
  clear g
  go_wp2_with fail
  go_ret
  exact ⟨q,rfl,m,j.out.mono o⟩
theorem Al (s:ByteArray) (i:Nat) (w:aj) (_hs:s.size<=bc) (_hi:i<=1) :
  aG ah 173 #[aa s,ab ae i] w fun e w'=>e=av (an (mr s i))/\w=w':=by
 unfold bc at _hs
 by_cases h:i<s.size
 ·have f:=jU s i h
  have b:=jj s.data.toList i
  have d:=jG s.data.toList i
  have a:=zq (show mr s i=(decide (48<=ie s.data.toList i)&&decide (ie s.data.toList i<=57)) by unfold mr;rw [decide_eq_true h,di])
  generalize ie s.data.toList i=c at *
  go_enter Tryz.func173,Tryz.ntmps173
  go_wp2_with fail
  all_goals go_ret
  all_goals exact ⟨bC (by rw [a.out];grind),rfl⟩
 ·have a:=zq (show mr s i=false by unfold mr;rw [decide_eq_false h,Bool.false_and])
  go_enter Tryz.func173,Tryz.ntmps173
  go_wp2_with fail
  go_ret
  exact ⟨bC a.out.symm,rfl⟩
end Go.Proofs.YtgapnafkelokaaaGreatDoor
namespace Hb
open Go Go.RowKit
inductive Tm.All (P:Tm->Prop):Tm->Prop
 | mk (t:Tm) (h:P t) (ha:∀a∈t.args,Tm.All P a):Tm.All P t
theorem Tm.All.here {P:Tm->Prop} {t:Tm} (h:Tm.All P t):P t:=by cases h;assumption
theorem Tm.All.sub {P:Tm->Prop} {t:Tm} (h:Tm.All P t):∀a∈t.args,Tm.All P a:=by cases h;assumption
theorem Tm.All.imp {P Q:Tm->Prop} (c:∀t,P t->Q t):∀t:Tm,Tm.All P t->Tm.All Q t:=Tm.ind fun t d h=>.mk t (c t h.here) fun a b=>d a b (h.sub a b)
structure TBx (w:aj) (g:Nat) (t:Tm) (A:Option Addr) (cap:Nat):Prop where
 lt:g<w.heap.size
 c0:w.cell? ⟨g,0,none⟩=some (ab ae t.kind)
 c1:w.cell? ⟨g,1,none⟩=some (ab ae t.num)
 c2:w.cell? ⟨g,2,none⟩=some (aa t.name)
 c3:w.cell? ⟨g,3,none⟩=some (.slice A t.args.length cap)
theorem TBx.call {w w':aj} {g:Nat} {t:Tm} {A:Option Addr} {cap:Nat} (h:TBx w g t A cap) (a:ay w.heap.size w w'):TBx w' g t A cap :=
 ⟨aB h.lt a.size,(a.cell (p:=⟨_,_,none⟩) h.lt).trans h.c0,(a.cell (p:=⟨_,_,none⟩) h.lt).trans h.c1,(a.cell (p:=⟨_,_,none⟩) h.lt).trans h.c2,(a.cell (p:=⟨_,_,none⟩) h.lt).trans h.c3⟩
theorem TBx.start (w:aj) (t:Tm) (A:Option Addr) (cap a:Nat) (e:bJ) (b:a=t.args.length):TBx (w.alloc (.cells #[ab ae t.kind,ab ae t.num,aa t.name,.slice A a cap] e)) w.heap.size t A cap :=
 ⟨by simp,aq _ _ _ 0,aq _ _ _ 1,aq _ _ _ 2,by rw [<-b];exact aq _ _ _ 3⟩
theorem rL (l:List UInt8):(⟨l.toArray⟩:ByteArray).size=l.length:=by simp [ByteArray.size]
def cV (t:Tm):Bool:=decide (-9223372036854775808<=t.num)&&decide (t.num<=9223372036854775807)
theorem fh (t:Tm):cV t=true ↔ -9223372036854775808<=t.num/\t.num<=9223372036854775807:=by unfold cV;rw [aE,decide_eq_true_iff,decide_eq_true_iff]
theorem qF {t:Tm} (h:dH t=true):t.kind=0\/t.kind=1\/t.kind=2\/t.kind=3:=by unfold dH at h;grind
theorem jn {t:Tm} (h:dH t=true):t.name.size<=100:=by
 unfold dH at h
 have a:t.name.toList=[]->t.name.size<=100:=fun e=>by
  rw [iC] at e
  have:=congrArg List.length e
  rw [size_data,dm] at this
  omega
 grind
theorem qG {t:Tm} (h:dH t=true):t.args.length<=8:=by unfold dH at h;grind
theorem pk (n:Int) (d:-9223372036854775808<=n) (f:n<=9223372036854775807):(kV n).size<=21:=by
 have a:∀u:Nat,u<18446744073709551616->(Lib.decDigits u).length<=20:=fun u c=>by
  rw [Lib.decDigits_length]
  rcases Nat.eq_zero_or_pos u with rfl | b
  ·rw [Lib.nDigits_small (by decide)];decide
  ·obtain ⟨e,h⟩:=Lib.numDigits_eq u b c
   rw [<-e];split <;> omega
 unfold kV Lib.itoa
 rw [rL]
 split
 ·have:=a n.natAbs (by omega);rw [be];omega
 ·have:=a n.toNat (by omega);omega
structure WBox (w:aj) (g:Nat) (o:WO) (TA:Option Addr) (TN TC:Nat):Prop where
 lt:g<w.heap.size
 c0:w.cell? ⟨g,0,none⟩=some (an o.q)
 c1:w.cell? ⟨g,1,none⟩=some (an o.ig)
 c2:w.cell? ⟨g,2,none⟩=some (an o.nu)
 c3:w.cell? ⟨g,3,none⟩=some (.slice TA TN TC)
theorem WBox.call {w w':aj} {g:Nat} {o:WO} {TA:Option Addr} {TN TC:Nat} (h:WBox w g o TA TN TC) (a:ay w.heap.size w w'):WBox w' g o TA TN TC :=
 ⟨aB h.lt a.size,(a.cell (p:=⟨_,_,none⟩) h.lt).trans h.c0,(a.cell (p:=⟨_,_,none⟩) h.lt).trans h.c1,(a.cell (p:=⟨_,_,none⟩) h.lt).trans h.c2,(a.cell (p:=⟨_,_,none⟩) h.lt).trans h.c3⟩
structure Fr2 (w0 w:aj) (o:WO) (TA:Option Addr) (TN TC:Nat) (t:Tm) (A:Option Addr) (cap:Nat):Prop where
 bel:ay w0.heap.size w0 w
 wb:WBox w w0.heap.size o TA TN TC
 tb:TBx w (w0.heap.size+1) t A cap
theorem Fr2.call {w0 w w':aj} {o:WO} {TA:Option Addr} {TN TC:Nat} {t:Tm} {A:Option Addr} {cap:Nat} (h:Fr2 w0 w o TA TN TC t A cap) (a:ay w.heap.size w w'):Fr2 w0 w' o TA TN TC t A cap :=
 ⟨h.bel.trans (a.mono h.bel.size),h.wb.call a,h.tb.call a⟩
theorem Fr2.start (w:aj) (o:WO) (TA:Option Addr) (TN TC:Nat) (t:Tm) (A:Option Addr) (cap c:Nat) (f d:bJ) (i:c=t.args.length) :
  Fr2 w ((w.alloc (.cells #[an o.q,an o.ig,an o.nu,.slice TA TN TC] f)).alloc (.cells #[ab ae t.kind,ab ae t.num,aa t.name,.slice A c cap] d)) o TA TN TC t A cap:=by
 obtain ⟨W1,e⟩:∃W1,W1=w.alloc (.cells #[an o.q,an o.ig,an o.nu,.slice TA TN TC] f):=⟨_,rfl⟩
 rw [<-e]
 have s1:W1.heap.size=w.heap.size+1:=by rw [e];simp
 have h:ay w.heap.size w W1:=by rw [e];exact (ak _ _).alloc (ag _) _
 have g:ay W1.heap.size W1 (W1.alloc (.cells #[ab ae t.kind,ab ae t.num,aa t.name,.slice A c cap] d)):=(ak _ _).alloc (ag _) _
 have a:∀j,W1.cell? ⟨w.heap.size,j,none⟩=(#[an o.q,an o.ig,an o.nu,.slice TA TN TC]:Array aA)[j]?:=fun j=>by rw [e];exact aq _ _ _ j
 have b:∀j,(W1.alloc (.cells #[ab ae t.kind,ab ae t.num,aa t.name,.slice A c cap] d)).cell? ⟨w.heap.size+1,j,none⟩=(#[ab ae t.kind,ab ae t.num,aa t.name,.slice A c cap]:Array aA)[j]?:=fun j=>by
  have:=aq W1 #[ab ae t.kind,ab ae t.num,aa t.name,.slice A c cap] d j
  rw [s1] at this;exact this
 exact ⟨h.trans (g.mono (by omega)),WBox.call ⟨by omega,a 0,a 1,a 2,a 3⟩ g,⟨by simp;omega,b 0,b 1,b 2,by rw [<-i];exact b 3⟩⟩
end Hb
namespace Go.Proofs.YtgapnafkelokaaaGreatDoor
open Go.RowKit Hb
section
variable (o:WO) (T:List OpR) (TA:Option Addr) (TN TC:Nat) (S:Tm->WR)
def SOK (t:Tm):Prop:=∀(A:Option Addr) (a:Nat) (w:aj),Env T TA TN TC w->TmsAt w.heap.size w A t.args ->
 aG ah 85 #[lW o TA TN TC,dR t A a] w fun e w'=>∃A' n' c',e=av (aN #[.slice A' n' c',aa (S t).2.name,ab ae (S t).2.typ,ab ae (S t).2.prec])/\ay w.heap.size w w'/\OwnS 9 w.heap.size w' (.slice A' n' c') (S t).1
def uF (t:Tm):Prop:=∀(max:Int) (a:Bool) (A:Option Addr) (b:Nat) (w:aj),Env T TA TN TC w->TmsAt w.heap.size w A t.args ->
 aG ah 58 #[lW o TA TN TC,dR t A b,ab ae max,an a] w fun e w'=>∃v,e=av v/\ay w.heap.size w w'/\OwnS 9 w.heap.size w' v (bo o T S t max a)
end
theorem Aj (o:WO) (T:List OpR) (TA:Option Addr) (TN TC:Nat) (S:Tm->WR) (t:Tm) (I:dH t=true) (E:cV t=true) (P:t.kind=3->SOK o T TA TN TC S t) (V:(S t).1.length<=90000):uF o T TA TN TC S t:=by
 intro max k A N w n Q
 obtain ⟨LN,p⟩:=lz (t.args.length)
 have L:=zq (Fr2.start w o TA TN TC t A N LN 67 24 p.out)
 have c:=L.out.bel
 have u:=c.size
 have F:=zq (fun W (h:ay w.heap.size w W)=>II t.num ((fh t).1 E).1 ((fh t).1 E).2 W (n.door.below h))
 have a6:=pk t.num ((fh t).1 E).1 ((fh t).1 E).2
 have y:=zq (fun W (h:ay w.heap.size w W)=>ry o TA TN TC t.name W (by have:=jn I;omega) (n.door.below h))
 have v:=zq (fun W (h:ay w.heap.size w W)=>Jl TA TN TC T t.name W n.tab.len n.few (n.tab.below h).ops)
 have r:=zq (fun (h3:t.kind=3) W (h:ay w.heap.size w W)=>P h3 A N W (n.below h) ((Q.keep h).mono h.size))
 have x:=zq (qF I)
 have g:=zq (show bo o T S t max k=if t.kind=0 then [s1 95++kV t.num] else if t.kind=1 then [kV t.num] else if t.kind=2 then brk [jo o t.name] (k&&kN T t.name) else brk (S t).1 (decide (max<(S t).2.prec)) from rfl)
 have HK:=zq V
 clear n Q I E P V
 unfold dR lW at *
 rw [<-p.out] at r |-
 rcases x.out with a | a | a | a
 ·have i:=zq (show bo o T S t max k=[s1 95++kV t.num] by rw [g.out,if_pos a])
  have H:(t.kind==0)=true:=by simp [a]
  have q:=zq (fun W=>OwnS.one 9 W (s1 95++kV t.num))
  unfold s1 at q
  clear g x r v y a p
  go_enter Tryz.func58,Tryz.ntmps58
  go_wp2_with fail
  refine (F.out _ c).mono ?_;rintro e l ⟨rfl,d⟩
  have b:=c.trans (d.mono u)
  go_wp2_with fail
  go_ret
  exact ⟨_,rfl,b.alloc b.size _,by rw [i.out];exact (q.out _).mono b.size⟩
 ·have j:¬t.kind=0:=by omega
  have i:=zq (show bo o T S t max k=[kV t.num] by rw [g.out,if_neg j,if_pos a])
  have U:(t.kind==0)=false:=by simp [a]
  have H:(t.kind==1)=true:=by simp [a]
  have q:=zq (fun W=>OwnS.one 9 W (kV t.num))
  clear g x r v y a p j
  go_enter Tryz.func58,Tryz.ntmps58
  go_wp2_with fail
  refine (F.out _ c).mono ?_;rintro e l ⟨rfl,d⟩
  have b:=c.trans (d.mono u)
  go_wp2_with fail
  go_ret
  exact ⟨_,rfl,b.alloc b.size _,by rw [i.out];exact (q.out _).mono b.size⟩
 ·have j:¬t.kind=0:=by omega
  have z:¬t.kind=1:=by omega
  have i:=zq (show bo o T S t max k=brk [jo o t.name] (k&&kN T t.name) by rw [g.out,if_neg j,if_neg z,if_pos a])
  have U:(t.kind==0)=false:=by simp [a]
  have a5:(t.kind==1)=false:=by simp [a]
  have H:(t.kind==2)=true:=by simp [a]
  have q:=zq (fun W=>OwnS.one 9 W (jo o t.name))
  clear g x r F a p j z q
  cases k
  ·have G:=zq (show bo o T S t max false=[jo o t.name] by rw [i.out];rfl)
   go_enter Tryz.func58,Tryz.ntmps58
   go_wp2_with fail
   refine (y.out _ c).mono ?_;rintro e l ⟨rfl,d⟩
   have b:=c.trans (d.mono u)
   have C:=OwnS.one 9 l (jo o t.name)
   have B:=lu false _ l.heap.size [jo o t.name] _ (by simp) C (by simp)
   have f:=b.alloc b.size (.cells #[aa (jo o t.name)] 9)
   go_wp2_with fail
   refine B.mono ?_;rintro e Y ⟨J,rfl,m,D⟩
   have s:=f.trans (m.mono f.size)
   go_wp2_with fail
   go_ret
   exact ⟨J,rfl,s,by rw [G.out];exact D.mono b.size⟩
  ·have G:=zq (show bo o T S t max true=brk [jo o t.name] (kN T t.name) by rw [i.out,di])
   have Z:Hid (kN T t.name=(bF T&&T.any (isNm t.name))):=zq rfl
   rw [<-Z.out] at v
   go_enter Tryz.func58,Tryz.ntmps58
   go_wp2_with fail
   refine (y.out _ c).mono ?_;rintro e l ⟨rfl,d⟩
   have b:=c.trans (d.mono u)
   have C:=OwnS.one 9 l (jo o t.name)
   have f:=b.alloc b.size (.cells #[aa (jo o t.name)] 9)
   have R:=(L.out.call d).call ((ak _ _).alloc (ag _) (.cells #[aa (jo o t.name)] 9))
   have x1:=R.wb.c3
   have x2:=R.tb.c2
   go_wp2_with fail
   refine (v.out _ f).mono ?_;rintro e Y ⟨rfl,m⟩
   have s:=f.trans (m.mono f.size)
   have D:=C.below m
   have B:=lu (kN T t.name) _ l.heap.size [jo o t.name] _ (by simp) D (by have:=m.size;simp at this;omega)
   go_wp2_with fail
   refine B.mono ?_;rintro e w3 ⟨v3,rfl,a1,a3⟩
   have a2:=s.trans (a1.mono s.size)
   go_wp2_with fail
   go_ret
   exact ⟨v3,rfl,a2,by rw [G.out];exact a3.mono b.size⟩
 ·have j:¬t.kind=0:=by omega
  have z:¬t.kind=1:=by omega
  have O:¬t.kind=2:=by omega
  have i:=zq (show bo o T S t max k=brk (S t).1 (decide (max<(S t).2.prec)) by rw [g.out,if_neg j,if_neg z,if_neg O])
  have U:(t.kind==0)=false:=by simp [a]
  have a5:(t.kind==1)=false:=by simp [a]
  have H:(t.kind==2)=false:=by simp [a]
  have a0:=zq (r.out a _ c)
  clear g x r F a p j z O y v
  go_enter Tryz.func58,Tryz.ntmps58
  go_wp2_with fail
  refine a0.out.mono ?_;rintro e l ⟨K,X,M,rfl,d,C⟩
  have b:=c.trans (d.mono u)
  have f:=b.alloc b.size (.cells #[.slice K X M,aa (S t).2.name,ab ae (S t).2.typ,ab ae (S t).2.prec] 138)
  have D:=C.below ((ak _ _).alloc (ag _) (.cells #[.slice K X M,aa (S t).2.name,ab ae (S t).2.typ,ab ae (S t).2.prec] 138))
  have B:=lu (decide (max<(S t).2.prec)) _ _ (S t).1 _ (by have:=HK.out;omega) D (aH d.size (by simp))
  go_wp2_with fail
  refine B.mono ?_;rintro e Y ⟨J,rfl,m,a4⟩
  have s:=f.trans (m.mono f.size)
  go_wp2_with fail
  go_ret
  exact ⟨J,rfl,s,by rw [i.out];exact a4.mono u⟩
end Go.Proofs.YtgapnafkelokaaaGreatDoor
namespace Hb
open Go Go.RowKit
theorem tZ (P:Tm->List ByteArray) (l:List Tm) (k:Nat) (h:k<l.length):cY P (l.take (k+1))=cY P (l.take k)++((if k=0 then [] else [s1 44])++P l[k]):=by
 match l,k,h with
 | t::l,0,_=>simp [cY]
 | t::l,k+1,h=>
  have a:k<l.length:=by simpa using h
  rw [if_neg (by omega)]
  show P t++(l.take (k+1)).flatMap (fun u=>s1 44::P u)=(P t++(l.take k).flatMap fun u=>s1 44::P u)++([s1 44]++P l[k])
  rw [List.take_succ_eq_append_getElem a,List.flatMap_append]
  simp
theorem Gz (P:Tm->List ByteArray) (l:List Tm):∀d k,(cY P (l.take k)).length<=(cY P (l.take (k+d))).length:=by
 intro d
 induction d with
 | zero=>intro k;exact ag _
 | succ d ih=>
  intro k
  refine aH (ih k) ?_
  rcases dy (k+d) l.length with h | h
  ·rw [show k+(d+1)=(k+d)+1 by omega,tZ P l (k+d) h,aC];omega
  ·rw [bg h,bg (by omega)]
   exact ag _
theorem BU (P:Tm->List ByteArray) (l:List Tm) (k:Nat):(cY P (l.take k)).length<=(cY P l).length:=by
 rcases dy k l.length with h | h
 ·have:=Gz P l (l.length-k) k
  rw [show k+(l.length-k)=l.length by omega,List.take_length] at this
  exact this
 ·rw [bg h];exact ag _
end Hb
namespace Go.Proofs.YtgapnafkelokaaaGreatDoor
open Go.RowKit Hb
variable {o:WO} {T:List OpR} {TA:Option Addr} {TN TC:Nat} {S:Tm->WR}
def Io (o:WO) (TA:Option Addr) (TN TC:Nat):aA:=.func (.func 134) #[lW o TA TN TC] #[]
theorem uG {t:Tm} (f:uF o T TA TN TC S t) (max:Int) (A:Option Addr) (b:Nat) (w:aj) (d:Env T TA TN TC w) (g:TmsAt w.heap.size w A t.args) :
  aG ah 32 #[lW o TA TN TC,dR t A b,ab ae max] w fun e w'=>∃v,e=av v/\ay w.heap.size w w'/\OwnS 9 w.heap.size w' v (bo o T S t max false):=by
 have i:=zq (Fr2.start w o TA TN TC t A b t.args.length 67 24 rfl)
 have a:=i.out.bel
 have c:=a.size
 have h:=zq (f max false A b _ (d.below a) ((g.keep a).mono c))
 clear d g f
 unfold dR lW at *
 generalize t.kind=a0 at *
 generalize t.num=n at *
 generalize t.name=p at *
 generalize t.args.length=q at *
 go_enter Tryz.func32,Tryz.ntmps32
 go_wp2_with fail
 refine h.out.mono ?_;rintro e r ⟨m,rfl,j,l⟩
 have k:=a.trans (j.mono c)
 go_wp2_with fail
 go_ret
 exact ⟨m,rfl,k,l.mono c⟩
theorem Iy {t:Tm} (f:uF o T TA TN TC S t) (A:Option Addr) (b:Nat) (w:aj) (d:Env T TA TN TC w) (g:TmsAt w.heap.size w A t.args) :
  aG ah 134 #[lW o TA TN TC,dR t A b] w fun e w'=>∃v,e=av v/\ay w.heap.size w w'/\OwnS 9 w.heap.size w' v (cF o T S t):=by
 have i:=zq (Fr2.start w o TA TN TC t A b t.args.length 67 24 rfl)
 have a:=i.out.bel
 have c:=a.size
 have h:=zq (uG f 999 A b _ (d.below a) ((g.keep a).mono c))
 clear d g f
 unfold dR lW at *
 generalize t.kind=a0 at *
 generalize t.num=n at *
 generalize t.name=p at *
 generalize t.args.length=q at *
 go_enter Tryz.func134,Tryz.ntmps134
 go_wp2_with fail
 refine h.out.mono ?_;rintro e r ⟨m,rfl,j,l⟩
 have k:=a.trans (j.mono c)
 go_wp2_with fail
 go_ret
 exact ⟨m,rfl,k,l.mono c⟩
theorem Iw (l:List Tm) (hP:∀x∈l,uF o T TA TN TC S x) (a7:(cY (cF o T S) l).length<=90000) (A:Option Addr) (n b8:Nat) (w:aj) (hn:n=l.length) (hm:n<=10000) (hE:Env T TA TN TC w) (hT:TmsAt w.heap.size w A l) :
  aG ah 133 #[.slice A n b8,Io o TA TN TC] w fun e w'=>∃v,e=av v/\ay w.heap.size w w'/\OwnS 9 w.heap.size w' v (cY (cF o T S) l):=by
 have HN:=zq hn
 have HT:=zq hT
 have b7:=zq (fun k=>aH (BU (cF o T S) l k) a7)
 have HA:=zq (fun (x:Tm) (M:x∈l) (c:Option Addr) (f:Nat) (W:aj) (h:ay w.heap.size w W) (h2:TmsAt w.heap.size w c x.args)=>Iy (hP x M) c f W (hE.below h) ((h2.keep h).mono h.size))
 clear hT hE hP hn a7
 unfold Io lW at *
 go_enter Tryz.func133,Tryz.ntmps133
 go_wp2_with fail
 go_loopw [5,10] (fun v i wr=>∃k:Nat,k<=n/\i=ab ae k/\ay w.heap.size w wr/\Hid (OwnS 9 w.heap.size wr v (cY (cF o T S) (l.take k)))) (fun _ i _=>n-(intOf i).toNat)
 case atStart=>exact ⟨0,Nat.zero_le _,rfl,ak _ _,zq (dY _ _ _ _)⟩
 case round=>
  obtain ⟨k,hk,rfl,u,m⟩:=hrel
  have a6:=u.size
  by_cases a3:k<n
  ·have L:k<l.length:=by have:=HN.out;omega
   obtain ⟨b,b1,c,f,rfl,hb,c0,c1,c2,t,hs⟩:=(HT.out.keep u).get k L
   have b0:TmsAt w.heap.size w c l[k].args:=by
    obtain ⟨b',off',J,n2,a0,_,_,_,_,y3,d0⟩:=HT.out.get k L
    obtain ⟨rfl,rfl⟩:b=b'/\b1=off':=by injection a0 with a0;injection a0 with h1 h2 _;exact ⟨h1,h2⟩
    have e1:=(u.cell (p:=⟨b,b1+k * 4+3,none⟩) hb).trans y3
    rw [e1] at t
    injection t with t;injection t with h1 _ _
    rw [<-h1];exact d0
   have y:=zq (fun W h=>HA.out l[k] (aQ L) c f W h b0)
   have g:=zq (tZ (cF o T S) l k L)
   have X:=zq (b7.out (k+1))
   rw [g.out] at X
   have q:Hid ((cY (cF o T S) (l.take k)).length+((if k=0 then [] else [s1 44]):List ByteArray).length+(cF o T S l[k]).length<=90000):=zq (by
    have:=X.out
    rw [aC,aC] at this;omega)
   clear hs b0 X
   unfold dR at y
   obtain ⟨a,O⟩:=lz (l[k])
   rw [<-O.out] at y g q c0 c1 c2 t
   obtain ⟨p,R⟩:=lz (cF o T S a)
   rw [<-R.out] at y g q
   obtain ⟨d,N⟩:=lz (cY (cF o T S) (l.take k))
   rw [<-N.out] at m g q
   have d3:(0:Int)<=(k:Int):=by omega
   have d4:(k:Int)<(n:Int):=by omega
   by_cases Z:k=0
   ·subst Z
    rw [gx,bq] at c0 c1 c2 t
    have U:Hid (cY (cF o T S) (l.take (0+1))=d++p):=zq (by rw [g.out];rfl)
    have c8:d.length+p.length<=90000:=by have:=q.out;simp at this;omega
    clear g q O N R
    have r:=u.alloc a6 (.cells #[ab ae a.kind,ab ae a.num,aa a.name,.slice c a.args.length f] 24)
    have z:=zq (m.out.below ((ak _ _).alloc (ag _) (.cells #[ab ae a.kind,ab ae a.num,aa a.name,.slice c a.args.length f] 24)))
    go_wp2_with fail
    refine (y.out _ r).mono ?_;rintro e w2 ⟨v2,rfl,B,E⟩
    obtain ⟨J,Y,rfl,I⟩:=E.src
    have P:=zq (z.out.below B)
    have C:=r.trans (B.mono r.size)
    have a2:=C.size
    have V:=zq I
    clear I E z
    go_wp2_with ((with_reducible refine ew ?_);go_must (refine gj rfl _ _ 28 9 rfl aS _ 1 16 eA rfl (by decide) w.heap.size _ _ _ rfl P.out J _ Y _ rfl V.out (fM _) (by omega) (by omega) a2 w C ?_;intro v4 w4 H a1 c7))
    have Q:=zq H
    clear H
    go_roundw
    case rel=>exact ⟨0+1,by omega,by go_num,a1,by rw [U.out];refine zq ?_;unfold OwnS;rw [aC,bv];exact Q.out⟩
    case measure=>simp [intOf] <;> omega
   ·have U:Hid (cY (cF o T S) (l.take (k+1))=(d++[s1 44])++p):=zq (by rw [g.out,if_neg Z];simp)
    have c8:d.length+1+p.length<=90000:=by have:=q.out;rw [if_neg Z] at this;simp at this;omega
    clear g q O N R
    have d5:(0:Int)<(k:Int):=by omega
    have r:=u.alloc a6 (.cells #[ab ae a.kind,ab ae a.num,aa a.name,.slice c a.args.length f] 24)
    have c5:=r.size
    have z:=zq (m.out.below ((ak _ _).alloc (ag _) (.cells #[ab ae a.kind,ab ae a.num,aa a.name,.slice c a.args.length f] 24)))
    have a4:Hid (TBx (wr.alloc (.cells #[ab ae a.kind,ab ae a.num,aa a.name,.slice c a.args.length f] 24)) wr.heap.size a c f):=zq ⟨by simp,aq _ _ _ 0,aq _ _ _ 1,aq _ _ _ 2,aq _ _ _ 3⟩
    obtain ⟨W0,s⟩:=lz (wr.alloc (.cells #[ab ae a.kind,ab ae a.num,aa a.name,.slice c a.args.length f] 24))
    have b3:=zq m.out
    have b2:Hid (∀v' w',w'.ownsRow w.heap.size 9 1 v' (d.length+1) (d.map aM ++ #[aM ⟨#[44]⟩].toList)->(W0.alloc (.cells #[aa ⟨#[44]⟩] 9)).grownBy w' u5.ownBlock->ay w.heap.size w w'->TBx w' wr.heap.size a c f/\OwnS 9 w.heap.size w' v' (d++[s1 44])):=zq (fun v' w' ho hg d1=>by
     have c9:some wr.heap.size≠u5.ownBlock:=fun e=>by have:=(m.out.lt _ e.symm).2;omega
     have a3:wr.heap.size<(W0.alloc (.cells #[aa ⟨#[44]⟩] 9)).heap.size:=by rw [s.out];simp;omega
     have F:=a4.out.call ((ak _ _).alloc (ag _) (.cells #[aa ⟨#[44]⟩] 9))
     rw [<-s.out] at F
     have K:∀j,w'.cell? ⟨wr.heap.size,j,none⟩=(W0.alloc (.cells #[aa ⟨#[44]⟩] 9)).cell? ⟨wr.heap.size,j,none⟩:=fun j=>hg.cell_far ⟨_,j,none⟩ a3 c9
     refine ⟨⟨aB a3 hg.size,(K 0).trans F.c0,(K 1).trans F.c1,(K 2).trans F.c2,(K 3).trans F.c3⟩,?_⟩
     unfold OwnS
     rw [aC,bv];exact ho)
    have b4:Hid (W0.ownsRow w.heap.size 9 1 u5 d.length (d.map aM)):=by rw [s.out];exact z
    have b6:Hid (W0.heap.size=wr.heap.size+1):=zq (by rw [s.out];simp)
    have a5:ay w.heap.size w W0:=by rw [s.out];exact r
    have c4:=a5.size
    clear z a4 b3 r c5
    go_wp2_with ((with_reducible refine ew ?_);rw [<-s.out];go_must (refine bK rfl _ _ 28 9 rfl aS _ 1 16 eA rfl (by decide) w.heap.size _ _ _ rfl W0 b4.out #[aa ⟨#[44]⟩] rfl (by simp [cC]) rfl (by rw [b6.out];rfl) (by omega) (by omega) c4 ?_;intro v1 w1 a8 b9 c6;have D:=a5.trans b9;obtain ⟨G,a9⟩:=b2.out v1 w1 a8 c6 D;have z0:=G.c0;have z1:=G.c1;have z2:=G.c2;have z3:=G.c3;have b5:=zq a9;have d6:=D.size;clear a8 a9))
    refine (y.out _ D).mono ?_;rintro e w2 ⟨v2,rfl,B,E⟩
    obtain ⟨J,Y,rfl,I⟩:=E.src
    have P:=zq (b5.out.below B)
    have C:=D.trans (B.mono D.size)
    have a2:=C.size
    have V:=zq I
    have d2:(d++[s1 44]).length=d.length+1:=by simp
    clear I E z0 z1 z2 z3 G
    go_wp2_with ((with_reducible refine ew ?_);go_must (refine gj rfl _ _ 28 9 rfl aS _ 1 16 eA rfl (by decide) w.heap.size _ _ _ rfl P.out J _ Y _ rfl V.out (fM _) (by omega) (by omega) a2 w C ?_;intro v4 w4 H a1 c7))
    have Q:=zq H
    clear H
    go_roundw
    case rel=>exact ⟨k+1,by omega,by go_num,a1,by rw [U.out];refine zq ?_;unfold OwnS;rw [aC,bv];exact Q.out⟩
    case measure=>simp [intOf] <;> omega
  ·have M:l.take k=l:=bg (by have:=HN.out;omega)
   rw [M] at m
   clear M
   go_wp2_with fail
   go_ret
   exact ⟨_,rfl,u,m.out⟩
end Go.Proofs.YtgapnafkelokaaaGreatDoor
namespace Hb
open Go Go.RowKit
structure RBx (w:aj) (g:Nat):Prop where
 lt:g<w.heap.size
 r0:∃u,w.cell? ⟨g,0,none⟩=some u
 r1:∃u,w.cell? ⟨g,1,none⟩=some u
 r2:∃u,w.cell? ⟨g,2,none⟩=some u
 r3:∃u,w.cell? ⟨g,3,none⟩=some u
 rf:∀o,w.frozen? ⟨g,o,none⟩=false
theorem RBx.call {w w':aj} {g:Nat} (h:RBx w g) (a:ay w.heap.size w w'):RBx w' g :=
 ⟨aB h.lt a.size,h.r0.imp fun _ k=>(a.cell (p:=⟨_,_,none⟩) h.lt).trans k,h.r1.imp fun _ k=>(a.cell (p:=⟨_,_,none⟩) h.lt).trans k,h.r2.imp fun _ k=>(a.cell (p:=⟨_,_,none⟩) h.lt).trans k,h.r3.imp fun _ k=>(a.cell (p:=⟨_,_,none⟩) h.lt).trans k,fun o=>(a.frozen (p:=⟨_,o,none⟩) h.lt).trans (h.rf o)⟩
theorem RBx.start (w:aj) (a b c d:aA) (e:bJ):RBx (w.alloc (.cells #[a,b,c,d] e)) w.heap.size :=
 ⟨by simp,⟨_,aq _ _ _ 0⟩,⟨_,aq _ _ _ 1⟩,⟨_,aq _ _ _ 2⟩,⟨_,aq _ _ _ 3⟩,fun o=>World.frozen?_alloc_new _ _ _ _⟩
structure Fr3 (w0 w:aj) (o:WO) (TA:Option Addr) (TN TC:Nat) (t:Tm) (A:Option Addr) (cap:Nat):Prop where
 f2:Fr2 w0 w o TA TN TC t A cap
 rb:RBx w (w0.heap.size+2)
theorem Fr3.call {w0 w w':aj} {o:WO} {TA:Option Addr} {TN TC:Nat} {t:Tm} {A:Option Addr} {cap:Nat} (h:Fr3 w0 w o TA TN TC t A cap) (a:ay w.heap.size w w'):Fr3 w0 w' o TA TN TC t A cap :=
 ⟨h.f2.call a,h.rb.call a⟩
theorem Fr3.start (w:aj) (o:WO) (TA:Option Addr) (TN TC:Nat) (t:Tm) (A:Option Addr) (cap a:Nat) (b c d:bJ) (k:a=t.args.length) (f g h i:aA) :
  Fr3 w (((w.alloc (.cells #[an o.q,an o.ig,an o.nu,.slice TA TN TC] b)).alloc (.cells #[ab ae t.kind,ab ae t.num,aa t.name,.slice A a cap] c)).alloc (.cells #[f,g,h,i] d)) o TA TN TC t A cap:=by
 have j:=Fr2.start w o TA TN TC t A cap a b c k
 have l:((w.alloc (.cells #[an o.q,an o.ig,an o.nu,.slice TA TN TC] b)).alloc (.cells #[ab ae t.kind,ab ae t.num,aa t.name,.slice A a cap] c)).heap.size=w.heap.size+2:=by simp
 have e:=RBx.start ((w.alloc (.cells #[an o.q,an o.ig,an o.nu,.slice TA TN TC] b)).alloc (.cells #[ab ae t.kind,ab ae t.num,aa t.name,.slice A a cap] c)) f g h i d
 rw [l] at e
 exact ⟨j.call ((ak _ _).alloc (ag _) _),e⟩
theorem OwnS.put4 {e b g:Nat} {w:aj} {v:aA} {l:List ByteArray} (h:OwnS e b w v l) (m:g<b) (x y z u:aA):OwnS e b ((((w.setCell ⟨g,0,none⟩ x).setCell ⟨g,1,none⟩ y).setCell ⟨g,2,none⟩ z).setCell ⟨g,3,none⟩ u) v l:=by
 refine ⟨h.1,?_⟩
 rcases h.2 with i | ⟨k,a,c,j,f,d,rest⟩
 ·exact .inl i
 ·exact .inr ⟨k,a,c,j,f,by rw [ce _ _ _ _ _ _ _ (by omega)];exact d,rest⟩
theorem OwnS.oneAt (e:bJ) (w:aj) (s:ByteArray) (g:Nat) (h:w.heap.size=g):OwnS e g (w.alloc (.cells #[aa s] e)) (.slice (some ⟨g,0,none⟩) 1 1) [s]:=by
 subst h;exact OwnS.one e w s
theorem OwnS.nil (e b:Nat) (w:aj):OwnS e b w (.slice none 0 0) []:=dY _ _ _ _
theorem cM {w0 w:aj} (h:ay w0.heap.size w0 w) (g:Nat) (a:w0.heap.size<=g) (x y z u:aA):ay w0.heap.size w0 ((((w.setCell ⟨g,0,none⟩ x).setCell ⟨g,1,none⟩ y).setCell ⟨g,2,none⟩ z).setCell ⟨g,3,none⟩ u) :=
 (((h.setCell (p:=⟨_,_,none⟩) a _).setCell (p:=⟨_,_,none⟩) a _).setCell (p:=⟨_,_,none⟩) a _).setCell (p:=⟨_,_,none⟩) a _
def we (A:Option Addr) (n c:Nat) (p:OpR) (b:Bool):aA:=aF #[aN #[.slice A n c,aa p.name,ab ae p.typ,ab ae p.prec],an b]
def lh (o:WO) (t:Tm):WR:=if iD o t=true then ([kn (t.arg 0).num],op0) else ([],op0)
theorem zG (n:Int) (h:0<=n):kn n=if n<26 then (⟨#[(65+n % 26).toNat.toUInt8]⟩:ByteArray) else (⟨#[(65+n % 26).toNat.toUInt8]⟩:ByteArray)++kV (n / 26):=by
 have e:(65+n % 26).toNat=65+n.toNat % 26:=by omega
 unfold kn s1
 rw [e]
theorem kI {o:WO} {t:Tm} (h:iD o t=false):lh o t=([],op0):=by unfold lh;rw [h];rfl
end Hb
namespace Go.Proofs.YtgapnafkelokaaaGreatDoor
open Go.RowKit Hb
theorem Dm (o:WO) (TA:Option Addr) (TN TC:Nat) (t:Tm) (T:(t.args.all cV)=true) (A:Option Addr) (y:Nat) (w:aj) (Q:DoorOk w) (R:TmsAt w.heap.size w A t.args) :
  aG ah 123 #[lW o TA TN TC,dR t A y] w fun e w'=>∃D n' c',e=av (we D n' c' (lh o t).2 (iD o t))/\ay w.heap.size w w'/\OwnS 9 w.heap.size w' (.slice D n' c') (lh o t).1:=by
 obtain ⟨k,s⟩:=lz (t.args.length)
 have j:=zq (Fr3.start w o TA TN TC t A y k 67 24 138 s.out (.slice none 0 0) (aa ⟨#[]⟩) (ab ae 0) (ab ae 0))
 have i:=j.out.f2.bel
 have m:=i.size
 have f:ay w.heap.size w (((w.alloc (.cells #[an o.q,an o.ig,an o.nu,.slice TA TN TC] 67)).alloc (.cells #[ab ae t.kind,ab ae t.num,aa t.name,.slice A k y] 24)).alloc (.cells #[.slice none 0 0,aa ⟨#[]⟩,ab ae 0,ab ae 0] 138)):=i
 have a:Hid (iD o t=(o.nu&&(t.name.toList==[36,86,65,82]&&(t.args.length==1&&((t.arg 0).kind==1&&decide (0<=(t.arg 0).num)))))):=zq rfl
 have r:=zq (fun (h:k=1)=>(R.keep i).get 0 (by rw [<-s.out,h];decide))
 have p:=zq (fun (h:k=1)=>Tm.arg_get t 0 (by rw [<-s.out,h];decide))
 have M:=zq T
 have Z:=zq Q
 clear R T Q
 unfold dR lW we
 rw [<-s.out] at a |-
 cases hc1:o.nu
 ·have d:=zq (show iD o t=false by rw [a.out,hc1];rfl)
  rw [d.out,kI d.out]
  rw [hc1] at f
  clear a j i m r p
  go_enter Tryz.func123,Tryz.ntmps123
  go_wp2_with fail
  refine aw (v:=aF #[aN #[.slice none 0 0,aa ⟨#[]⟩,ab ae 0,ab ae 0],an false]) (by simp [results,gg,go_sem]) rfl ⟨none,0,0,rfl,?_,OwnS.nil _ _ _⟩
  exact f
 ·cases hc2:(t.name.toList==[36,86,65,82])
  ·have a5:¬t.name.toList=[36,86,65,82]:=by simpa using hc2
   have d:=zq (show iD o t=false by rw [a.out,hc1,hc2];rfl)
   rw [d.out,kI d.out]
   rw [hc1] at f
   clear a j i m r p
   go_enter Tryz.func123,Tryz.ntmps123
   go_wp2_with fail
   refine aw (v:=aF #[aN #[.slice none 0 0,aa ⟨#[]⟩,ab ae 0,ab ae 0],an false]) (by simp [results,gg,go_sem]) rfl ⟨none,0,0,rfl,?_,OwnS.nil _ _ _⟩
   exact f
  ·have a5:t.name.toList=[36,86,65,82]:=by simpa using hc2
   by_cases W:k=1
   ·subst W
    have b3:0<t.args.length:=by have:=s.out;omega
    obtain ⟨b,Y,D,a7,rfl,hb,u,C,N,O,hs⟩:=r.out rfl
    have E:=zq (p.out rfl)
    rw [E.out] at a
    have U:cV t.args[0]=true:=List.all_eq_true.1 M.out _ (aQ _)
    obtain ⟨a9,b0⟩:=(fh _).1 U
    rw [gx,bq] at u C N O
    have B:Hid (iD o t=true->lh o t=([kn t.args[0].num],op0)):=zq (fun h=>by unfold lh;rw [if_pos h,E.out])
    clear hs U r p E M N O
    generalize t.args[0]=x at *
    cases hk:(x.kind==1)
    ·have V:¬x.kind=1:=by simpa using hk
     have d:=zq (show iD o t=false by rw [a.out,hc1,hc2,hk];rfl)
     rw [d.out,kI d.out]
     rw [hc1] at f u C
     clear a j i m B
     go_enter Tryz.func123,Tryz.ntmps123
     go_wp2_with fail
     refine aw (v:=aF #[aN #[.slice none 0 0,aa ⟨#[]⟩,ab ae 0,ab ae 0],an false]) (by simp [results,gg,go_sem]) rfl ⟨none,0,0,rfl,?_,OwnS.nil _ _ _⟩
     exact f
    ·have V:x.kind=1:=by simpa using hk
     rw [V] at u
     by_cases z:0<=x.num
     ·have H:=zq (show iD o t=true by rw [a.out,hc1,hc2,hk,decide_eq_true z];rfl)
      rw [H.out,B.out H.out]
      generalize x.num=n at *
      have hd:¬n<0:=by omega
      have hm:n.tmod 26=n % 26:=Int.tmod_eq_emod_of_nonneg z
      have hq:n.tdiv 26=n / 26:=Int.tdiv_eq_ediv_of_nonneg z
      have b4:0<=n % 26:=by omega
      have b5:n % 26<26:=by omega
      rw [hc1] at f u C
      have l:=j.out
      rw [hc1] at l
      clear a H j m B
      have S:=qj (P:=ah) 75 9 5 Tryz.underlying75 Tryz.underlying5 Tryz.underlying9 (65+n % 26) (by omega) (by omega) (((w.alloc (.cells #[an o.q,an o.ig,an true,.slice TA TN TC] 67)).alloc (.cells #[ab ae t.kind,ab ae t.num,aa t.name,.slice (some ⟨b,Y,none⟩) 1 y] 24)).alloc (.cells #[.slice none 0 0,aa ⟨#[]⟩,ab ae 0,ab ae 0] 138))
      have a6:(((w.alloc (.cells #[an o.q,an o.ig,an true,.slice TA TN TC] 67)).alloc (.cells #[ab ae t.kind,ab ae t.num,aa t.name,.slice (some ⟨b,Y,none⟩) 1 y] 24)).alloc (.cells #[.slice none 0 0,aa ⟨#[]⟩,ab ae 0,ab ae 0] 138)).heap.size=w.heap.size+1+1+1:=by simp
      rw [a6] at S
      have G:=zq (zG n z)
      obtain ⟨c,J⟩:∃c:ByteArray,c=⟨#[(65+n % 26).toNat.toUInt8]⟩:=⟨_,rfl⟩
      have a8:c.size=1:=by rw [J];rfl
      rw [<-J] at S G
      clear J
      by_cases X:n<26
      ·have F:=zq (show kn n=c by rw [G.out,if_pos X])
       clear l
       go_enter Tryz.func123,Tryz.ntmps123
       go_wp2_with fail
       refine aw (v:=aF #[aN #[.slice (some ⟨w.heap.size+1+1+1+1,0,none⟩) 1 1,aa ⟨#[]⟩,ab ae 0,ab ae 0],an true]) (by simp [results,gg,go_sem]) rfl ⟨_,1,1,rfl,?_,?_⟩
       ·repeat (first | exact ak _ _ | refine Below.alloc ?_ (by simp <;> omega) _)
       ·rw [F.out]
        exact (OwnS.oneAt _ _ _ _ (by simp)).mono (by omega)
      ·have b2:26<=n:=by omega
       have F:=zq (show kn n=c++kV (n / 26) by rw [G.out,if_neg X])
       have K:-9223372036854775808<=n / 26:=by omega
       have L:n / 26<=9223372036854775807:=by omega
       have b1:=pk (n / 26) K L
       have a2:=l.f2.bel.alloc l.f2.bel.size (.cells #[ab .u8 (65+n % 26)] 5)
       have HF:=zq (II (n / 26) K L _ (Z.out.below a2))
       have a0:=zq (l.call ((ak _ _).alloc (ag _) (.cells #[ab .u8 (65+n % 26)] 5)))
       clear l K L
       go_enter Tryz.func123,Tryz.ntmps123
       go_wp2_with fail
       refine HF.out.mono ?_;rintro e w1 ⟨rfl,a1⟩
       have g:=a0.out.call a1
       have I:=g.f2.bel
       obtain ⟨u0,r0⟩:=g.rb.r0
       obtain ⟨u1,r1⟩:=g.rb.r1
       obtain ⟨u2,r2⟩:=g.rb.r2
       obtain ⟨u3,r3⟩:=g.rb.r3
       have f0:=g.rb.rf 0
       have f1:=g.rb.rf 1
       have f2:=g.rb.rf 2
       have f3:=g.rb.rf 3
       have a4:=g.rb.lt
       go_wp2_with fail
       refine aw (v:=aF #[aN #[.slice (some ⟨w1.heap.size,0,none⟩) 1 1,aa ⟨#[]⟩,ab ae 0,ab ae 0],an true]) (by simp [results,gg,go_sem,r0,r1,r2,r3,a4]) rfl ⟨_,1,1,rfl,(cM I _ (by omega) _ _ _ _).alloc (by rw [ec];exact I.size) _,?_⟩
       rw [F.out]
       exact (OwnS.oneAt _ _ _ _ (ec _ _ _ _ _ _)).mono I.size
     ·have b6:x.num<0:=by omega
      have d:=zq (show iD o t=false by rw [a.out,hc1,hc2,hk,decide_eq_false z];rfl)
      rw [d.out,kI d.out]
      rw [hc1] at f u C
      clear a j i m B
      go_enter Tryz.func123,Tryz.ntmps123
      go_wp2_with fail
      refine aw (v:=aF #[aN #[.slice none 0 0,aa ⟨#[]⟩,ab ae 0,ab ae 0],an false]) (by simp [results,gg,go_sem]) rfl ⟨none,0,0,rfl,?_,OwnS.nil _ _ _⟩
      exact f
   ·have a3:(k==1)=false:=by simpa using W
    have d:=zq (show iD o t=false by rw [a.out,hc1,hc2,a3];rfl)
    rw [d.out,kI d.out]
    rw [hc1] at f
    clear a j i m r p
    go_enter Tryz.func123,Tryz.ntmps123
    go_wp2_with fail
    refine aw (v:=aF #[aN #[.slice none 0 0,aa ⟨#[]⟩,ab ae 0,ab ae 0],an false]) (by simp [results,gg,go_sem]) rfl ⟨none,0,0,rfl,?_,OwnS.nil _ _ _⟩
    exact f
end Go.Proofs.YtgapnafkelokaaaGreatDoor
namespace Hb
open Go Go.RowKit
def dE (t:Tm):Bool:=t.isNm [46]&&t.args.length==2
def jZ (o:WO) (T:List OpR) (S:Tm->WR) (t:Tm):WR:=if dE t=true then (s1 91::((cY (cF o T S) (cE t)++iR (cF o T S) (cS t))++[s1 93]),op0) else ([],op0)
theorem qy {o:WO} {T:List OpR} {S:Tm->WR} {t:Tm} (h:dE t=false):jZ o T S t=([],op0):=by unfold jZ;rw [h];rfl
theorem uT {o:WO} {T:List OpR} {S:Tm->WR} {t:Tm} (h:dE t=true):jZ o T S t=(s1 91::((cY (cF o T S) (cE t)++iR (cF o T S) (cS t))++[s1 93]),op0):=by unfold jZ;rw [if_pos h]
theorem Fr3.over {w0 w w':aj} {o:WO} {TA:Option Addr} {TN TC:Nat} {t:Tm} {A:Option Addr} {cap b:Nat} (h:Fr3 w0 w o TA TN TC t A cap) (e:w0.heap.size+2<b) (c:ay (b+1) w w'):Fr3 w0 w' o TA TN TC t A cap:=by
 have i:=c.size
 have d:=h.rb.lt
 have a:∀g k,g<b->w'.cell? ⟨g,k,none⟩=w.cell? ⟨g,k,none⟩/\w'.frozen? ⟨g,k,none⟩=w.frozen? ⟨g,k,none⟩:=fun g k f=>⟨c.cell (p:=⟨g,k,none⟩) (show g<b+1 by omega),c.frozen (p:=⟨g,k,none⟩) (show g<b+1 by omega)⟩
 refine ⟨⟨h.f2.bel.trans (c.mono (by omega)),?_,?_⟩,?_⟩
 ·exact ⟨by omega,(a _ _ (by omega)).1.trans h.f2.wb.c0,(a _ _ (by omega)).1.trans h.f2.wb.c1,(a _ _ (by omega)).1.trans h.f2.wb.c2,(a _ _ (by omega)).1.trans h.f2.wb.c3⟩
 ·exact ⟨by omega,(a _ _ (by omega)).1.trans h.f2.tb.c0,(a _ _ (by omega)).1.trans h.f2.tb.c1,(a _ _ (by omega)).1.trans h.f2.tb.c2,(a _ _ (by omega)).1.trans h.f2.tb.c3⟩
 ·exact ⟨by omega,h.rb.r0.imp fun _ k=>(a _ _ (by omega)).1.trans k,h.rb.r1.imp fun _ k=>(a _ _ (by omega)).1.trans k,h.rb.r2.imp fun _ k=>(a _ _ (by omega)).1.trans k,h.rb.r3.imp fun _ k=>(a _ _ (by omega)).1.trans k,fun k=>(a _ _ (by omega)).2.trans (h.rb.rf k)⟩
theorem OwnS.val {e b:Nat} {w:aj} {v:aA} {l:List ByteArray} (h:OwnS e b w v l):∃A n c,v=.slice A n c:=by
 obtain ⟨A,c,a,_⟩:=h.strs
 exact ⟨A,_,c,a⟩
theorem OwnS.strN {e b:Nat} {w:aj} {v:aA} {l:List ByteArray} (h:OwnS e b w v l):∃A n c,v=.slice A n c/\n=l.length/\StrsAt w A l/\tq A n c:=by
 obtain ⟨A,c,f,d,a⟩:=h.strs
 exact ⟨A,_,c,f,rfl,d,a⟩
theorem OwnS.snoc {e b:Nat} {w:aj} {v:aA} {l m:List ByteArray} (h:w.ownsRow b e 1 v (l.length+m.length) (l.map aM++m.map aM)):OwnS e b w v (l++m):=by
 unfold OwnS;rw [aC,bv];exact h
end Hb
namespace Go.Proofs.YtgapnafkelokaaaGreatDoor
open Go.RowKit Hb
variable {o:WO} {T:List OpR} {TA:Option Addr} {TN TC:Nat} {S:Tm->WR}
theorem IV (t:Tm) (hv:dE t=true->bu t=true) (h0:t.nodes<=5000) (hP:∀x∈cE t,uF o T TA TN TC S x) (d6:dE t=true->uF o T TA TN TC S (cS t)) (h9:(cY (cF o T S) (cE t)).length+(cF o T S (cS t)).length<=80000) (A:Option Addr) (b2:Nat) (w:aj) (hE:Env T TA TN TC w) (hT:TmsAt w.heap.size w A t.args) :
  aG ah 125 #[lW o TA TN TC,dR t A b2] w fun e w'=>∃A' n' c',e=av (we A' n' c' (jZ o T S t).2 (dE t))/\ay w.heap.size w w'/\OwnS 9 w.heap.size w' (.slice A' n' c') (jZ o T S t).1:=by
 obtain ⟨LN,HL⟩:=lz (t.args.length)
 have HX:=zq (Fr3.start w o TA TN TC t A b2 LN 67 24 138 HL.out (.slice none 0 0) (aa ⟨#[]⟩) (ab ae 0) (ab ae 0))
 have b0:=HX.out.f2.bel
 have f7:=b0.size
 have K:Hid (dE t=(t.name.toList==[46]&&t.args.length==2)):=zq rfl
 have HE:=zq hE
 have J:=zq (fun (hc:dE t=true) W (h:ay w.heap.size w W)=>Gk t A b2 W ((hT.keep h).mono h.size) (hv hc))
 have h3:(cE t).length<=10000:=by
  have C:=sT t
  omega
 have HP:=zq hP
 have f9:=zq d6
 have b1:=zq (fun y c1 W (h:ay w.heap.size w W) (r:TmsAt W.heap.size W y (cE t))=>Iw (cE t) hP (by omega) y (cE t).length c1 W rfl h3 (hE.below h) r)
 have O:=zq (fun (hc:dE t=true) y c1 W (h:ay w.heap.size w W) (r:TmsAt W.heap.size W y (cS t).args)=>Iy (d6 hc) y c1 W (hE.below h) r)
 clear hT hE hP d6 hv h0
 unfold dR lW we Io at *
 rw [<-HL.out] at K J |-
 cases hc1:(t.name.toList==[46])
 ·have g9:¬t.name.toList=[46]:=by simpa using hc1
  have n:=zq (show dE t=false by rw [K.out,hc1];rfl)
  rw [n.out,qy n.out]
  clear K HX f7 J b1 O
  go_enter Tryz.func125,Tryz.ntmps125
  go_wp2_with fail
  refine aw (v:=aF #[aN #[.slice none 0 0,aa ⟨#[]⟩,ab ae 0,ab ae 0],an false]) (by simp [results,Tryz.results125,go_sem]) rfl ⟨none,0,0,rfl,b0,OwnS.nil _ _ _⟩
 ·have g9:t.name.toList=[46]:=by simpa using hc1
  by_cases hl:LN=2
  ·subst hl
   have n:=zq (show dE t=true by rw [K.out,hc1];rfl)
   have O:=zq (O.out n.out)
   have J:=zq (J.out n.out)
   rw [n.out,uT n.out]
   have Z:Hid ((cY (cF o T S) (cE t)++iR (cF o T S) (cS t)).length<=80001):=zq (by
    rw [aC];unfold iR;split
    ·rw [dm];omega
    ·rw [be];omega)
   have c6:=zq (show iR (cF o T S) (cS t)=if ((cS t).kind==2&&(cS t).name.toList==[91,93])=true then [] else s1 124::cF o T S (cS t) from rfl)
   clear K HP f9
   generalize cY (cF o T S) (cE t)=R at *
   generalize iR (cF o T S) (cS t)=TL at *
   generalize cF o T S (cS t)=TP at *
   have h4:Hid (op0.name=⟨#[]⟩/\op0.typ=0/\op0.prec=0):=zq ⟨rfl,rfl,rfl⟩
   go_enter Tryz.func125,Tryz.ntmps125
   go_wp2_with fail
   refine (J.out _ b0).mono ?_;rintro e a ⟨y,c1,I,Q,rfl,g1,e7,e8⟩
   have a0:=zq (HX.out.call g1)
   have h8:=a0.out.f2.bel
   have f4:TmsAt a.heap.size a y (cE t):=e7.at fun b U=>U.2
   have d7:TmsAt a.heap.size a I (cS t).args:=e8.at fun b U=>U.2
   obtain ⟨u,HU⟩:=lz (cS t)
   rw [<-HU.out] at d7 O c6 |-
   have g0:=zq d7
   have P:=zq (a0.out.call ((ak _ _).alloc (ag _) (.cells #[ab ae u.kind,ab ae u.num,aa u.name,.slice I u.args.length Q] 24)))
   have g3:=P.out.f2.bel
   have f8:Hid (TBx (a.alloc (.cells #[ab ae u.kind,ab ae u.num,aa u.name,.slice I u.args.length Q] 24)) a.heap.size u I Q):=zq ⟨by simp,aq _ _ _ 0,aq _ _ _ 1,aq _ _ _ 2,aq _ _ _ 3⟩
   have e5:=zq (b1.out y c1 _ g3 ((f4.keep ((ak _ _).alloc (ag _) _)).mono (by simp)))
   have x0:=P.out.f2.wb.c0
   have x1:=P.out.f2.wb.c1
   have x2:=P.out.f2.wb.c2
   have x3:=P.out.f2.wb.c3
   clear f4 d7 e7 e8 J b1
   generalize (cE t).length=en at *
   go_wp2_with fail
   refine e5.out.mono ?_;rintro e w2 ⟨v2,rfl,b3,e9⟩
   have q:=zq (P.out.call b3)
   have F:=f8.out.call b3
   have c0:=F.c0
   have k1:=F.c1
   have h5:=F.c2
   have c3:=F.c3
   have y0:=q.out.f2.wb.c0
   have y1:=q.out.f2.wb.c1
   have y2:=q.out.f2.wb.c2
   have y3:=q.out.f2.wb.c3
   have e3:=zq e9
   have g4:=q.out.f2.bel
   clear e9 e5 x0 x1 x2 x3 HX
   have g5:(u.kind=2/\u.name.toList=[91,93])\/¬u.kind=2\/(u.kind=2/\¬u.name.toList=[91,93]):=by
    by_cases C:u.kind=2
    ·by_cases r:u.name.toList=[91,93]
     ·exact .inl ⟨C,r⟩
     ·exact .inr (.inr ⟨C,r⟩)
    ·exact .inr (.inl C)
   rcases g5 with ⟨hk,hn⟩ | f6
   ·have d8:TL=[]:=by rw [c6.out,if_pos (by rw [hk,hn];rfl)]
    subst d8
    rw [az] at Z
    rw [hk] at c0
    obtain ⟨V,n4,c4,rfl,G,E,D⟩:=e3.out.strN
    have X:=zq (kw ⟨#[91]⟩ ⟨#[93]⟩ V n4 c4 _ w2 G (by have:=Z.out;omega) E D)
    clear E D G
    go_wp2_with fail
    refine X.out.mono ?_;rintro e w7 ⟨v7,rfl,a1,j⟩
    obtain ⟨z,H,B,rfl⟩:=j.val
    have Y:=zq j
    have c:=zq (q.out.call a1)
    have a4:=c.out.f2.bel
    have a6:=(q.out).rb.lt
    have a5:=(q.out).f2.bel.size
    obtain ⟨u0,r0⟩:=c.out.rb.r0
    obtain ⟨u1,r1⟩:=c.out.rb.r1
    obtain ⟨u2,r2⟩:=c.out.rb.r2
    obtain ⟨u3,r3⟩:=c.out.rb.r3
    have f0:=c.out.rb.rf 0
    have f1:=c.out.rb.rf 1
    have f2:=c.out.rb.rf 2
    have f3:=c.out.rb.rf 3
    clear j
    go_wp2_with fail
    refine aw (v:=aF #[aN #[.slice z H B,aa ⟨#[]⟩,ab ae 0,ab ae 0],an true]) (by simp [results,Tryz.results125,go_sem,r0,r1,r2,r3]) rfl ⟨z,H,B,rfl,cM a4 _ (by omega) _ _ _ _,?_⟩
    rw [az]
    exact (Y.out.put4 a6 _ _ _ _).mono a5
   ·have d8:TL=s1 124::TP:=by
     rw [c6.out,if_neg]
     intro h
     rw [aE,beq_iff_eq,beq_iff_eq] at h
     rcases f6 with C | ⟨_,C⟩
     ·exact C h.1
     ·exact C h.2
    subst d8
    have h6:R.length+1+TP.length<=80001:=by have:=Z.out;rw [aC,be] at this;omega
    have b5:=zq (fun W (h:ay w.heap.size w W) (r:ay a.heap.size a W)=>O.out I Q W h ((TmsAt.keep g0.out r).mono r.size))
    have f5:a.heap.size+1<=w2.heap.size:=by have:=b3.size;simp at this;exact this
    have e4:Hid (w2.ownsRow (a.heap.size+1) 9 1 v2 R.length (R.map aM)):=zq (by
     have h:=e3.out
     have e1:(a.alloc (.cells #[ab ae u.kind,ab ae u.num,aa u.name,.slice I u.args.length Q] 24)).heap.size=a.heap.size+1:=by simp
     unfold OwnS at h
     rw [e1] at h
     exact h)
    have g2:ay a.heap.size a w2:=((ak _ _).alloc (ag _) _).trans (b3.mono (by simp))
    have e2:Hid (∀(N:aA) (g:aj),g.ownsRow (a.heap.size+1) 9 1 N (R.length+1) (R.map aM ++ #[aM ⟨#[124]⟩].toList)->ay (a.heap.size+1) w2 g->(Fr3 w g o TA TN TC t A b2/\TBx g a.heap.size u I Q/\ay a.heap.size a g/\OwnS 9 (a.heap.size+1) g N (R++[s1 124])/\a.heap.size+1<=g.heap.size)):=zq (fun N g ho s=>by
     have i0:=a0.out.rb.lt
     have i:=q.out
     have d:∀b k,b<a.heap.size+1->g.cell? ⟨b,k,none⟩=w2.cell? ⟨b,k,none⟩/\g.frozen? ⟨b,k,none⟩=w2.frozen? ⟨b,k,none⟩:=fun b k U=>⟨s.cell (p:=⟨b,k,none⟩) U,s.frozen (p:=⟨b,k,none⟩) U⟩
     have b4:=s.size
     refine ⟨⟨⟨g4.trans (s.mono (by omega)),?_,?_⟩,?_⟩,?_,g2.trans (s.mono (by omega)),OwnS.snoc (m:=[s1 124]) ho,by omega⟩
     ·exact ⟨by omega,(d _ _ (by omega)).1.trans i.f2.wb.c0,(d _ _ (by omega)).1.trans i.f2.wb.c1,(d _ _ (by omega)).1.trans i.f2.wb.c2,(d _ _ (by omega)).1.trans i.f2.wb.c3⟩
     ·exact ⟨by omega,(d _ _ (by omega)).1.trans i.f2.tb.c0,(d _ _ (by omega)).1.trans i.f2.tb.c1,(d _ _ (by omega)).1.trans i.f2.tb.c2,(d _ _ (by omega)).1.trans i.f2.tb.c3⟩
     ·exact ⟨by omega,i.rb.r0.imp fun _ k=>(d _ _ (by omega)).1.trans k,i.rb.r1.imp fun _ k=>(d _ _ (by omega)).1.trans k,i.rb.r2.imp fun _ k=>(d _ _ (by omega)).1.trans k,i.rb.r3.imp fun _ k=>(d _ _ (by omega)).1.trans k,fun k=>(d _ _ (by omega)).2.trans (i.rb.rf k)⟩
     ·exact ⟨by omega,(d _ _ (by omega)).1.trans F.c0,(d _ _ (by omega)).1.trans F.c1,(d _ _ (by omega)).1.trans F.c2,(d _ _ (by omega)).1.trans F.c3⟩)
    have h7:(R++[s1 124]).length=R.length+1:=by simp
    have e6:Hid ((R++[s1 124])++TP=R++s1 124::TP):=zq (by simp)
    rcases f6 with hk | ⟨hk,hn⟩
    ·skip
     go_wp2_with ((with_reducible refine ew ?_);go_must (refine bK rfl _ _ 28 9 rfl aS _ 1 16 eA rfl (by decide) (a.heap.size+1) _ _ _ rfl w2 e4.out #[aa ⟨#[124]⟩] rfl (by simp [cC]) rfl rfl (by omega) (by omega) f5 ?_;intro N g a7 s g6;obtain ⟨f,l,d5,a2,b4⟩:=e2.out N g a7 s;have c8:=zq f;have b6:=zq a2;have z0:=f.f2.wb.c0;have z1:=f.f2.wb.c1;have z2:=f.f2.wb.c2;have z3:=f.f2.wb.c3;have d0:=l.c0;have d1:=l.c1;have d2:=l.c2;have d3:=l.c3;have d9:=f.f2.bel;clear a7 a2 f l))
     refine (b5.out _ d9 d5).mono ?_;rintro e w5 ⟨v5,rfl,M,a3⟩
     obtain ⟨A5,c5,rfl,a9⟩:=a3.src
     have b9:=zq a9
     have b7:=zq (b6.out.below M)
     have c9:=zq (c8.out.call M)
     have e0:a.heap.size+1<=w5.heap.size:=aH b4 M.size
     clear a9 a3 z0 z1 z2 z3 d0 d1 d2 d3
     go_wp2_with ((with_reducible refine ew ?_);go_must (refine gj rfl _ _ 28 9 rfl aS _ 1 16 eA rfl (by decide) (a.heap.size+1) _ _ _ rfl b7.out A5 _ c5 _ rfl b9.out (fM _) (by omega) (by omega) e0 w5 (ak _ _) ?_;intro v6 w6 a8 d4 g7;have b8:Hid (OwnS 9 (a.heap.size+1) w6 v6 (R++s1 124::TP)):=(by rw [<-e6.out];exact zq (OwnS.snoc a8));have L:=zq (Fr3.over c9.out a0.out.rb.lt d4);clear a8;obtain ⟨V,n4,c4,rfl,G,E,D⟩:=b8.out.strN;have X:=zq (kw ⟨#[91]⟩ ⟨#[93]⟩ V n4 c4 _ w6 G (by have:=Z.out;omega) E D);clear E D G))
     with_reducible refine X.out.mono ?_;rintro e w7 ⟨v7,rfl,a1,j⟩
     obtain ⟨z,H,B,rfl⟩:=j.val
     have Y:=zq j
     have c:=zq (L.out.call a1)
     have a4:=c.out.f2.bel
     have a6:=(L.out).rb.lt
     have a5:=(L.out).f2.bel.size
     obtain ⟨u0,r0⟩:=c.out.rb.r0
     obtain ⟨u1,r1⟩:=c.out.rb.r1
     obtain ⟨u2,r2⟩:=c.out.rb.r2
     obtain ⟨u3,r3⟩:=c.out.rb.r3
     have f0:=c.out.rb.rf 0
     have f1:=c.out.rb.rf 1
     have f2:=c.out.rb.rf 2
     have f3:=c.out.rb.rf 3
     clear j
     go_wp2_with fail
     refine aw (v:=aF #[aN #[.slice z H B,aa ⟨#[]⟩,ab ae 0,ab ae 0],an true]) (by simp [results,Tryz.results125,go_sem,r0,r1,r2,r3]) rfl ⟨z,H,B,rfl,cM a4 _ (by omega) _ _ _ _,?_⟩
     exact (Y.out.put4 a6 _ _ _ _).mono a5
    ·rw [hk] at c0 b5
     have i1:(u.name.toList==[91,93])=false:=by simpa using hn
     go_wp2_with ((with_reducible refine ew ?_);go_must (refine bK rfl _ _ 28 9 rfl aS _ 1 16 eA rfl (by decide) (a.heap.size+1) _ _ _ rfl w2 e4.out #[aa ⟨#[124]⟩] rfl (by simp [cC]) rfl rfl (by omega) (by omega) f5 ?_;intro N g a7 s g6;obtain ⟨f,l,d5,a2,b4⟩:=e2.out N g a7 s;have c8:=zq f;have b6:=zq a2;have z0:=f.f2.wb.c0;have z1:=f.f2.wb.c1;have z2:=f.f2.wb.c2;have z3:=f.f2.wb.c3;have d0:=l.c0;have d1:=l.c1;have d2:=l.c2;have d3:=l.c3;have d9:=f.f2.bel;clear a7 a2 f l))
     refine (b5.out _ d9 d5).mono ?_;rintro e w5 ⟨v5,rfl,M,a3⟩
     obtain ⟨A5,c5,rfl,a9⟩:=a3.src
     have b9:=zq a9
     have b7:=zq (b6.out.below M)
     have c9:=zq (c8.out.call M)
     have e0:a.heap.size+1<=w5.heap.size:=aH b4 M.size
     clear a9 a3 z0 z1 z2 z3 d0 d1 d2 d3
     go_wp2_with ((with_reducible refine ew ?_);go_must (refine gj rfl _ _ 28 9 rfl aS _ 1 16 eA rfl (by decide) (a.heap.size+1) _ _ _ rfl b7.out A5 _ c5 _ rfl b9.out (fM _) (by omega) (by omega) e0 w5 (ak _ _) ?_;intro v6 w6 a8 d4 g7;have b8:Hid (OwnS 9 (a.heap.size+1) w6 v6 (R++s1 124::TP)):=(by rw [<-e6.out];exact zq (OwnS.snoc a8));have L:=zq (Fr3.over c9.out a0.out.rb.lt d4);clear a8;obtain ⟨V,n4,c4,rfl,G,E,D⟩:=b8.out.strN;have X:=zq (kw ⟨#[91]⟩ ⟨#[93]⟩ V n4 c4 _ w6 G (by have:=Z.out;omega) E D);clear E D G))
     with_reducible refine X.out.mono ?_;rintro e w7 ⟨v7,rfl,a1,j⟩
     obtain ⟨z,H,B,rfl⟩:=j.val
     have Y:=zq j
     have c:=zq (L.out.call a1)
     have a4:=c.out.f2.bel
     have a6:=(L.out).rb.lt
     have a5:=(L.out).f2.bel.size
     obtain ⟨u0,r0⟩:=c.out.rb.r0
     obtain ⟨u1,r1⟩:=c.out.rb.r1
     obtain ⟨u2,r2⟩:=c.out.rb.r2
     obtain ⟨u3,r3⟩:=c.out.rb.r3
     have f0:=c.out.rb.rf 0
     have f1:=c.out.rb.rf 1
     have f2:=c.out.rb.rf 2
     have f3:=c.out.rb.rf 3
     clear j
     go_wp2_with fail
     refine aw (v:=aF #[aN #[.slice z H B,aa ⟨#[]⟩,ab ae 0,ab ae 0],an true]) (by simp [results,Tryz.results125,go_sem,r0,r1,r2,r3]) rfl ⟨z,H,B,rfl,cM a4 _ (by omega) _ _ _ _,?_⟩
     exact (Y.out.put4 a6 _ _ _ _).mono a5
  ·have g8:(LN==2)=false:=by simpa using hl
   have n:=zq (show dE t=false by rw [K.out,hc1,g8];rfl)
   rw [n.out,qy n.out]
   clear K HX f7 J b1 O
   go_enter Tryz.func125,Tryz.ntmps125
   go_wp2_with fail
   refine aw (v:=aF #[aN #[.slice none 0 0,aa ⟨#[]⟩,ab ae 0,ab ae 0],an false]) (by simp [results,Tryz.results125,go_sem]) rfl ⟨none,0,0,rfl,b0,OwnS.nil _ _ _⟩
end Go.Proofs.YtgapnafkelokaaaGreatDoor
