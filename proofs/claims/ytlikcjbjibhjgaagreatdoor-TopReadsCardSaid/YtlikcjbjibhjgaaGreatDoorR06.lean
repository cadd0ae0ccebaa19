/- Parts of the proof. -/
import Derived.Test.YtlikcjbjibhjgaaGreatDoorR05
import Derived.Lib.AppendZerosOnto
import Derived.Lib.Overlaps
import Derived.Shelf.Spec.SlicesInsert
import Derived.Test.YtlikcjbjibhjgaaGreatDoorRows
import Derived.Test.YtlikcjbjibhjgaaGreatDoorTie
import Derived.Test.YtlikcjbjibhjgaaGreatDoorCards
import Derived.ProofKit
import Derived.LaidMore
import Derived.OpenShut
import Derived.Stop.Joined
import Derived.Stop.LaidErr
import Derived.Lib.LaidTab
import Derived.Lib.ItoaNum
import Derived.Lib.SmallJoins
import Derived.SevenTiedAt
import Derived.Test.YtlikcjbjibhjgaaGreatDoorR03
import Derived.Test.YtlikcjbjibhjgaaGreatDoorR04
import Derived.Test.YtlikcjbjibhjgaaGreatDoorR02
import Derived.Test.YtlikcjbjibhjgaaGreatDoorR01
set_option maxHeartbeats 12800000
set_option maxRecDepth 100000
open Bool renaming true_and -> dl
open Go renaming Calls -> aJ, TypeId -> bD, Value -> az, World -> ai, heap_alloc_new -> dA, info_parts -> eh, maxLen -> be, wpList -> cH, wpList_append_own -> gV
open Go.Act renaming put -> gd
open Go.Builtin renaming zeroCells -> eM
open Go.Ending renaming returned -> aw
open Go.IntKind renaming i64 -> ae
open Go.Proofs.Tryz renaming prog -> ah, underlying22 -> cD, underlying65 -> bw
open Go.RowKit renaming Below -> ax
open Go.RowKit.Below renaming refl -> aj
open Go.Value renaming bool -> am, int -> ab, oneCell' -> eO, slice -> ev, string -> aQ, string -> aa
open Go.World renaming cell?_alloc_new -> aq
open List renaming append_assoc -> bj, length_append -> aB, length_cons -> bo, length_drop -> aH, length_take -> bM, map_append -> bC, take_append_drop -> fs, take_length -> cL, take_of_length_le -> bA
open Nat renaming add_zero -> bv, le_of_lt -> fd, le_refl -> ag, le_trans -> aI, lt_of_lt_of_le -> aC, lt_or_ge -> cS, zero_add -> ap
namespace Hb
open Go Go.RowKit
theorem MK (t:Int):0<=bX t:=by unfold bX;grind
theorem MI (t:Int):bX t<=3:=by unfold bX;grind
end Hb
namespace Go.Proofs.YtlikcjbjibhjgaaGreatDoor
open Go.RowKit Hb
theorem II (A:Option Addr) (n b:Nat) (l:List OpR) (c:Int) (w0 a:ai) (o:OpR) (d:BoxAt w0 a o) (g:n=l.length) (f:n<=400) (h:OpsAt a A l) :
  aJ ah 43 #[.slice A n b,aa o.name,ab ae c] a fun e w'=>e=aw (.tuple #[.agg #[aa ((dt l o.name c).getD op0).name,ab ae ((dt l o.name c).getD op0).typ,ab ae ((dt l o.name c).getD op0).prec],am (dt l o.name c).isSome])/\BoxAt w0 w' o :=
 (qr A n b l o.name c a g f h).mono fun _ _ ⟨he,hb⟩=>⟨he,d.call hb⟩
theorem EQ (A:Option Addr) (n h:Nat) (l:List OpR) (o:OpR) (w:ai) (i:n=l.length) (q:n<=400) (j:OpsAt w A l) :
  aJ ah 20 #[.slice A n h,kZ o] w fun e w'=>e=aw (am (kT l o))/\ax w.heap.size w w':=by
 have a:=BoxAt.start w o 39
 have g:=zq (fun (c:Int) (b:ai) (a:BoxAt w b o)=>II A n h l c w b o a i q (j.below a.bel))
 have k:=zq (fun (b:ai) (a:BoxAt w b o)=>kY a o.typ)
 unfold kZ
 have v:=MK o.typ
 have x:=MI o.typ
 clear j i
 generalize f:bX o.typ=c at *
 have m:=zq f
 clear f
 go_enter Tryz.func20,Tryz.ntmps20
 go_wp2_with (first
  | (go_at_call 19;(with_reducible refine (k.out _ (by with_reducible assumption)).mono ?_);rintro e y ⟨rfl,d⟩;have s:=d.c0;have t:=d.c1;have u:=d.c2)
  | (go_at_call 43;(with_reducible refine (g.out (5-c) _ (by with_reducible assumption)).mono ?_);rintro e r ⟨rfl,p⟩)
  | (go_at_call 43;(with_reducible refine (g.out 3 _ (by with_reducible assumption)).mono ?_);rintro e r ⟨rfl,p⟩))
 all_goals go_ret
 all_goals refine ⟨bN ?_,by first | exact BoxAt.bel (o:=o) (by with_reducible assumption) | (refine Below.alloc (BoxAt.bel (o:=o) (by with_reducible assumption)) ?_ _;exact fd (BoxAt.lt (o:=o) (by with_reducible assumption)))⟩
 all_goals have f:=m.out
 all_goals unfold kT Iu
 all_goals grind
end Go.Proofs.YtlikcjbjibhjgaaGreatDoor
namespace Hb
open Go Go.RowKit
theorem kC {P:Program} (w:ai) (f C D d:bD) (g o e p:Nat) (a:Addr) (n B:Nat) (c:List az) (t:bD) (b:List az) (m:Nat)
  (A:P.underlying f=some (.slice d)) (k:(P.info? d).map (·.size)=some 3)
  (s:w.heap[g]? = some (.cells c.toArray t (0,0))) (x:m=Nat.min n e) (y:b.length=m * 3)
  (z:∀j v,b[j]? = some v->w.cell? (a.add j)=some v) (r:o+b.length<=c.length) (q:∀v∈b,v.oneCell'=true) :
  (Builtin.copy_ #[f,C] D #[.slice (some ⟨g,o,none⟩) e p,.slice (some a) n B]).run P w =
   .ok (goInt m) (w.setRow g (c.take o++b++c.drop (o+b.length)).toArray):=by
 have h:=run_loadCells_list (P:=P) w a b z
 have l:=run_storeCells_at P g o t b 0 c.toArray w s (by simpa using r) q
 simp only [bv] at l
 cases hq:P.info? d with
 | none=>simp [hq] at k
 | some i=>
  have u:i.size=3:=by simpa [hq] using k
  rw [y] at h
  simp [Builtin.copy_,run_underlying A,Builtin.lenOf,Builtin.firstCells,Go.sizeOf,typeInfo,hq,u,<-x,h,l]
theorem yP {α:Type} (a b R d:List α) (l:d.length=3) (m:3<=R.length) :
  ∀C c,C=a++b++R->c=C.take (a.length+3)++b++C.drop (a.length+3+b.length)->(c.take a.length++d++c.drop (a.length+d.length)).take (a.length+3+b.length)=a++d++b/\c.length=C.length/\(c.take a.length++d++c.drop (a.length+d.length)).length=C.length:=by
 intro C c e f
 have g:C.take (a.length+3)=a++(b++R).take 3:=by
  rw [e,bj,List.take_append,bA (by omega),Nat.add_sub_cancel_left]
 have j:((b++R).take 3).length=3:=by rw [bM,aB];omega
 have h:c.take a.length=a:=by
  rw [f,g,bj,bj,List.take_append_of_le_length (ag _),cL]
 have k:c.drop (a.length+d.length)=b++C.drop (a.length+3+b.length):=by
  rw [f,g,l,bj]
  exact List.drop_left' (by rw [aB,j])
 have i:c.length=C.length:=by
  rw [f,aB,aB,bM,aH,e]
  simp only [aB]
  omega
 refine ⟨?_,i,?_⟩
 ·rw [h,k,<-bj]
  exact List.take_left' (by simp only [aB];omega)
 ·rw [h,aB,aB,aH,i,e]
  simp only [aB]
  omega
theorem Ce {α:Type} (a b Z oc:List α) (i:oc.length=3) (j:3+b.length<=Z.length) :
  ∀C c,C=a++Z->c=C.take a.length++oc++C.drop (a.length+oc.length)->(c.take (a.length+3)++b++c.drop (a.length+3+b.length)).take (a.length+3+b.length)=a++oc++b/\c.length=C.length/\(c.take (a.length+3)++b++c.drop (a.length+3+b.length)).length=C.length:=by
 intro C c d g
 have e:C.take a.length=a:=by rw [d];exact List.take_left' rfl
 have f:c.take (a.length+3)=a++oc:=by
  rw [g,e];exact List.take_left' (by rw [aB];omega)
 have h:c.length=C.length:=by
  rw [g,e,aB,aB,aH,d,aB];omega
 refine ⟨?_,h,?_⟩
 ·rw [f]
  exact List.take_left' (by simp only [aB];omega)
 ·rw [f,aB,aB,aB,aH,h,d,aB];omega
theorem zD (l:List OpR) (i:Nat) (o:OpR):aZ (l.take i++o::l.drop i)=aZ (l.take i)++dj o++aZ (l.drop i):=by
 rw [iE,bj];rfl
theorem De {w:ai} {c e n g a:Nat} {l:List OpR} (h:w.ownsRow c e 3 (.slice (some ⟨g,0,none⟩) n a) n (aZ l)):∃R,w.heap[g]? = some (.cells (aZ l++R).toArray e (0,0))/\(aZ l++R).length=a * 3/\n<=a/\a<=be/\c<=g:=by
 rcases h.2 with ⟨b,_⟩ | ⟨q,p,f,b,i,m,o,j,k,d⟩
 ·cases b
 ·injection b with h1 h2 h3
  injection h1 with h1
  injection h1 with h1 _ _
  subst h1;subst h3
  refine ⟨f.toList.drop (n * 3),?_,?_,o,j,i⟩
  ·rw [<-d,fs];exact m
  ·rw [<-d,fs,Array.length_toList];exact k
theorem CX {w:ai} {b e n g a:Nat} {l:List OpR} {C:List az} (h:w.heap[g]? = some (.cells C.toArray e (0,0))) (c:C.length=a * 3) (i:n=l.length) (j:n<=a) (f:a<=be) (d:b<=g) (k:C.take (n * 3)=aZ l):w.ownsRow b e 3 (.slice (some ⟨g,0,none⟩) n a) n (aZ l) :=
 ⟨by rw [eS,i],.inr ⟨g,a,C.toArray,rfl,d,h,j,f,by simpa using c,by simpa using k⟩⟩
end Hb
namespace Go.Proofs.YtlikcjbjibhjgaaGreatDoor
open Go.RowKit Hb
theorem AA {b:Array Oper} {rest:List Oper} {a:Act} {Q:Exit->Act->ai->Prop} {w:ai} {d t p f x g} (h:cH ah b Q (⟨d,.call { callee:=.builtin .copy,args:=x,argTypes:=#[22,22] },t,p,f,g⟩::rest) a w):cH ah b Q (⟨d,.call { callee:=.builtin .copy,args:=x,argTypes:=#[22,22] },t,p,f,g⟩::rest) a w:=h
theorem sG:(Tryz.prog.info? 39).map (·.size)=some 3:=by kernel_rfl
theorem Eu:∀w,(Go.sizeOf 39).run ah w=.ok 3 w:=fun w=>by
 obtain ⟨i,a,_,b,_⟩:=eh ug
 simp [Go.sizeOf,typeInfo,a,b]
theorem zu (w:ai) (a g p m j f cb:Nat) (l:a≠g) (d b:Array az) (h i:bD) (c:w.heap[a]? = some (.cells d h (0,0))) (k:w.heap[g]? = some (.cells b i (0,0))) (n:b.size≠0) :
  (callFunc 48 #[.slice (some ⟨a,0,none⟩) m j,.slice (some ⟨g,p,none⟩) f cb]).run ah w=.ok (.value (am false)) w:=by
 rw [run_callFunc_extern Tryz.func48 (by kernel_rfl) (by kernel_rfl) (by kernel_rfl) (e:=Extern.SlicesOverlaps.overlaps #[22,22] #[4]) (by kernel_rfl),
  Lib.run_overlaps_apart w 22 4 39 cD 3 Eu ⟨a,0,none⟩ ⟨g,p,none⟩ m j f cb l h i d.size b.size (by simp [World.shape?,c]) (by simp [World.shape?,k]) n (by simp [World.frozen?,c]) (by simp [World.frozen?,c])]
 rfl
theorem tJ (A:Option Addr) (n h:Nat) (l:List OpR) (o:OpR) (q d:Nat) (w:ai) (Y:n<=400) (s:w.ownsRow d 39 3 (.slice A n h) n (aZ l)) (O:d<=w.heap.size) (y:w.heap[q]? = some (.cells #[aa o.name,ab ae o.typ,ab ae o.prec] 39 (0,0))) :
  aJ ah 26 #[.slice A n h,ab ae n,.slice (some ⟨q,0,none⟩) 1 1] w fun e w'=>∃c b,e=aw (.slice c (n+1) b)/\ax d w w'/\w'.ownsRow d 39 3 (.slice c (n+1) b) (n+1) (aZ (l++[o])):=by
 obtain ⟨i,I,J,K,L⟩:=eh ug
 have C:=zq I
 have E:=zq J
 have F:=zq K
 have G:=zq L
 have r:=zq s
 have W:=zq y
 have P:n<=h/\h<=be:=by
  rcases s.2 with ⟨a,v⟩ | ⟨t,b,H,a,_,_,M,N,_⟩
  ·injection a with _ _ h3;subst h3;subst v;exact ⟨ag _,by unfold be;omega⟩
  ·injection a with _ _ h3;subst h3;exact ⟨M,N⟩
 obtain ⟨X,Q⟩:=P
 unfold be at Q
 have D:Hid (∀j u,(dj o)[j]? = some u->w.cell? ((⟨q,0,none⟩:Addr).add j)=some u):=zq fun j u U=>by
  rw [rU,ap,cell_of_heap y]
  simpa [dj] using U
 have B:Hid (∀w',w.grownBy w' (ev A n h).ownBlock->ax d w w'):=zq fun w' R=>(aj d w).grown R O fun k S=>(s.lt k S).1
 clear I J K L s y
 cases A with
 | none=>
  have T:n=0/\h=0:=by
   rcases r.out.2 with ⟨a,v⟩ | ⟨t,b,H,a,_⟩
   ·injection a with _ _ h3;exact ⟨v,h3⟩
   ·cases a
  obtain ⟨rfl,rfl⟩:=T
  go_enter Tryz.func26,Tryz.ntmps26
  go_wp2_with (at_builtin;go_must (refine gV _ rfl _ _ 22 rfl d 39 i _ 3 32 cD C.out E.out F.out G.out rfl (by decide) _ 0 (aZ l) rfl r.out ⟨q,0,none⟩ 1 1 (dj o) rfl rfl D.out (pK [o]) (by unfold be;omega) (by omega) (by omega) ?_;intro V z f x _))
  have p:=B.out z x
  obtain ⟨c,b,rfl⟩:=mW f
  have m:=zq f
  clear f
  go_ret
  first | exact ⟨c,⟨b,rfl⟩,p,by rw [iE];exact m.out⟩ | exact ⟨c,b,rfl,p,by rw [iE];exact m.out⟩
 | some ad=>
  obtain ⟨g,rfl⟩:∃g,ad=⟨g,0,none⟩:=by
   rcases r.out.2 with ⟨a,_⟩ | ⟨t,b,H,a,_⟩
   ·cases a
   ·injection a with a _ _;injection a with a;exact ⟨t,a⟩
  go_enter Tryz.func26,Tryz.ntmps26
  go_wp2_with (at_builtin;go_must (refine gV _ rfl _ _ 22 rfl d 39 i _ 3 32 cD C.out E.out F.out G.out rfl (by decide) _ n (aZ l) rfl r.out ⟨q,0,none⟩ 1 1 (dj o) rfl rfl D.out (pK [o]) (by unfold be;omega) (by omega) (by omega) ?_;intro V z f x _))
  all_goals
   have p:=B.out z x
   obtain ⟨c,b,rfl⟩:=mW f
   have m:=zq f
   clear f
   go_ret
   first | exact ⟨c,⟨b,rfl⟩,p,by rw [iE];exact m.out⟩ | exact ⟨c,b,rfl,p,by rw [iE];exact m.out⟩
theorem rB (g n a i:Nat) (l:List OpR) (o:OpR) (b s:Nat) (w:ai) (hm:n<=400) (a7:i<n) (a6:n+1<=a) (L:w.ownsRow s 39 3 (.slice (some ⟨g,0,none⟩) n a) n (aZ l)) (Y:b≠g) (M:w.heap[b]? = some (.cells #[aa o.name,ab ae o.typ,ab ae o.prec] 39 (0,0))) :
  aJ ah 26 #[.slice (some ⟨g,0,none⟩) n a,ab ae i,.slice (some ⟨b,0,none⟩) 1 1] w fun e w'=>e=aw (.slice (some ⟨g,0,none⟩) (n+1) a)/\ax s w w'/\w'.ownsRow s 39 3 (.slice (some ⟨g,0,none⟩) (n+1) a) (n+1) (aZ (l.take i++o::l.drop i)):=by
 have a4:=kD L
 obtain ⟨R,x,f,a9,V,J⟩:=De L
 have t:(aZ (l.take i)).length=i * 3:=by rw [eS,bM];omega
 have q:(aZ (l.drop i)).length=(n-i) * 3:=by rw [eS,aH];omega
 have U:aZ l=aZ (l.take i)++aZ (l.drop i):=by rw [<-iE,fs]
 have T:3<=R.length:=by rw [aB,eS] at f;omega
 rw [U] at x f
 obtain ⟨C,B⟩:∃C,C=aZ (l.take i)++aZ (l.drop i)++R:=⟨_,rfl⟩
 rw [<-B] at x f
 obtain ⟨c,H⟩:∃c,c=C.take (i * 3+3)++aZ (l.drop i)++C.drop (i * 3+3+(n-i) * 3):=⟨_,rfl⟩
 obtain ⟨A,D⟩:∃A,A=c.take (i * 3)++dj o++c.drop (i * 3+(dj o).length):=⟨_,rfl⟩
 obtain ⟨I,X,K⟩:=yP (aZ (l.take i)) (aZ (l.drop i)) R (dj o) rfl T C c B (by rw [t,q];exact H)
 rw [t,q,<-D] at I
 rw [t,<-D] at K
 obtain ⟨z,r⟩:∃z,z=0:=⟨0,rfl⟩
 have a2:Hid (∀(W:ai) (k:bD) (d N:Nat),W.heap[g]? = some (.cells C.toArray 39 (0,0))->(Builtin.copy_ #[22,22] k #[.slice (some ⟨g,z+(i+1) * 3,none⟩) (n-i) d,.slice (some ⟨g,z+i * 3,none⟩) (n+1-i) N]).run ah W=.ok (goInt ((n-i:Nat):Int)) (W.setRow g c.toArray)):=zq fun W k d N E=>by
  have h:=kC (P:=ah) W 22 22 k 39 g (z+(i+1) * 3) (n-i) d ⟨g,z+i * 3,none⟩ (n+1-i) N C 39 (aZ (l.drop i)) (n-i) cD sG E (by simp only [Nat.min_def];split <;> omega) q
   (fun j v u=>by
    have a8:j<(n-i) * 3:=by
     rcases cS j ((n-i) * 3) with h | h
     ·exact h
     ·rw [List.getElem?_eq_none (by omega)] at u;cases u
    rw [rU,cell_of_heap E,r,ap]
    simp only [List.getElem?_toArray]
    rw [B,bj,List.getElem?_append_right (by omega),t,List.getElem?_append_left (by omega),Nat.add_sub_cancel_left]
    exact u) (by rw [q];omega) (pK _)
  rw [h,H,r,q]
  rw [show 0+(i+1) * 3=i * 3+3 by omega]
 have a3:Hid (∀(W:ai) (k:bD) (d:Nat),W.heap[g]? = some (.cells c.toArray 39 (0,0))->W.heap[b]? = some (.cells #[aa o.name,ab ae o.typ,ab ae o.prec] 39 (0,0))->(Builtin.copy_ #[22,22] k #[.slice (some ⟨g,z+i * 3,none⟩) (n+1-i) d,.slice (some ⟨b,0,none⟩) 1 1]).run ah W=.ok (goInt 1) (W.setRow g A.toArray)):=zq fun W k d E a1=>by
  have h:=kC (P:=ah) W 22 22 k 39 g (z+i * 3) (n+1-i) d ⟨b,0,none⟩ 1 1 c 39 (dj o) 1 cD sG E (by simp only [Nat.min_def];split <;> omega) rfl
   (fun j v u=>by
    rw [rU,ap,cell_of_heap a1]
    simpa [dj] using u) (by rw [X,f,r];simp [dj];omega) (pK [o])
  rw [h,D,r,ap]
  rfl
 have F:=zq x
 have HV:=zq M
 have Q:Hid (∀(W:ai) (p m O y cb:Nat),W.heap[g]? = some (.cells C.toArray 39 (0,0))->W.heap[b]? = some (.cells #[aa o.name,ab ae o.typ,ab ae o.prec] 39 (0,0))->(callFunc 48 #[.slice (some ⟨b,0,none⟩) m O,.slice (some ⟨g,p,none⟩) y cb]).run ah W=.ok (.value (am false)) W):=zq fun W p m O y cb h1 h2=>zu W b g p m O y cb Y _ _ _ _ h2 h1 (by simp [f];omega)
 have a0:Hid (∀G:ai,G.heap[g]? = some (.cells A.toArray 39 (0,0))->G.ownsRow s 39 3 (.slice (some ⟨g,0,none⟩) (n+1) a) (n+1) (aZ (l.take i++o::l.drop i))):=zq fun G h=>CX h (by rw [K,f]) (by rw [aB,bM,bo,aH];omega) a6 V J (by rw [zD,<-I];congr 1;omega)
 have S:=zq (show (⟨g,0,none⟩:Addr)=⟨g,z,none⟩ by rw [r])
 rw [S.out]
 unfold be at V
 have Z:=Q.out w (z+(i+1) * 3) 1 1
 have a5:=fun y cb=>Z y cb x M
 clear Z L t q U T B H D I X K f r x M Q a4
 have e1:¬(i=n):=by omega
 have e2:¬(a=i):=by omega
 have e3:¬(a=i+1):=by omega
 have e4:¬(a<n+1):=by omega
 have e5:((i:Int)==(n:Int))=false:=by rw [beq_eq_false_iff_ne];omega
 have e6:decide ((a:Int)<(n:Int)+1)=false:=by simp;omega
 have mixed:Tryz.prog.follows Departure.mixedOrders=true:=by kernel_rfl
 have q1:IntKind.i64.wrap ((i:Int)+1)=(i:Int)+1:=IntWalk.i64_in _ (by omega)
 have q2:(0:Int)<=(i:Int)+1:=by omega
 have q3:(i:Int)+1<=(n:Int)+1:=by omega
 have q4:((i:Int)+1).toNat=i+1:=by omega
 have q5:(0:Int)<=(i:Int):=by omega
 have q6:(i:Int)<=(n:Int)+1:=by omega
 go_enter Tryz.func26,Tryz.ntmps26
 go_wp2_with (simp only [a5])
 go_region_law_o (refine step_copy_runI rfl _ _ 22 22 rfl (.slice (some ⟨g,z+(i+1) * 3,none⟩) (n-i) (a-(i+1))) (.slice (some ⟨g,z+i * 3,none⟩) (n+1-i) (a-i)) (by simp [Act.eval,gd]) (by simp [Act.eval,gd]) (a2.out w.drew 3 (a-(i+1)) (a-i) F.out) ?_)
 go_wp2_with ((with_reducible refine AA ?_);go_must (refine wpList_copy_runI _ rfl _ _ 22 22 rfl _ _ rfl rfl (a3.out (w.drew.setRow g c.toArray) 3 (a-i) (setRow_heap w.drew g _ _ _ _ F.out) ((setRow_other w.drew g b _ Y).trans HV.out)) ?_))
 go_ret
 exact ⟨rfl,below_setRow (below_setRow (aj s w).drew J _) J _,by rw [<-S.out];exact a0.out _ (setRow_heap _ g _ _ _ _ (setRow_heap w.drew g _ _ _ _ F.out))⟩
theorem sy (g n a i:Nat) (l:List OpR) (o:OpR) (f d:Nat) (w:ai) (hm:n<=400) (c5:i<n) (b9:a<n+1) (t:w.ownsRow d 39 3 (.slice (some ⟨g,0,none⟩) n a) n (aZ l)) (s:d<=w.heap.size) (A:w.heap[f]? = some (.cells #[aa o.name,ab ae o.typ,ab ae o.prec] 39 (0,0))) :
  aJ ah 26 #[.slice (some ⟨g,0,none⟩) n a,ab ae i,.slice (some ⟨f,0,none⟩) 1 1] w fun e w'=>∃A' cap',e=aw (.slice A' (n+1) cap')/\ax d w w'/\w'.ownsRow d 39 3 (.slice A' (n+1) cap') (n+1) (aZ (l.take i++o::l.drop i)):=by
 obtain ⟨i0,U,a1,a2,Q⟩:=eh ug
 have b7:=kD t
 obtain ⟨R,c0,b8,c6,b3,c4⟩:=De t
 have b6:g<w.heap.size:=(t.lt g rfl).2
 have c2:f<w.heap.size:=(Array.getElem?_eq_some_iff.1 A).1
 have N:=xF t
 have r:(aZ (l.take i)).length=i * 3:=by rw [eS,bM];omega
 have q:(aZ (l.drop i)).length=(n-i) * 3:=by rw [eS,aH];omega
 obtain ⟨z,B⟩:∃z,z=0:=⟨0,rfl⟩
 have V:OpsIn w g z (l.take i):=fun j m=>by
  rw [bM] at m
  have:=N j (by omega)
  rw [B,List.getElem_take]
  exact this
 have X:OpsIn w g (z+i * 3) (l.drop i):=fun j m=>by
  rw [aH] at m
  have:=N (i+j) (by omega)
  rw [B,List.getElem_drop]
  rw [show 0+i * 3+j * 3=0+(i+j) * 3 by omega]
  exact this
 have a0:(Builtin.firstCells i0.size i (.slice (some ⟨g,z,none⟩) i a)).run ah w.drew=.ok (aZ (l.take i)).toArray w.drew:=by
  rw [a2]
  exact run_firstCells_some w.drew 3 i ⟨g,z,none⟩ i a _ r (Ig (w:=w.drew) V)
 have M:i+(n+1-i)=n+1:=by omega
 obtain ⟨G,y⟩:∃G,G=grownCap w (n+1) a 39:=⟨_,rfl⟩
 have a8:n+1<=G:=by rw [y];exact grownCap_ge w _ _ _
 have T:G<=be:=by rw [y];exact grownCap_le_maxLen w (n+1) a 39 (by unfold be;omega)
 obtain ⟨Z1,K⟩:∃Z:List az,Z=(eM (Value.agg #[aa ⟨#[]⟩,ab ae 0,ab ae 0]).cells (n+1-i)).toList++(eM (Value.agg #[aa ⟨#[]⟩,ab ae 0,ab ae 0]).cells (G-(n+1))).toList:=⟨_,rfl⟩
 have L:Z1.length=(G-i) * 3:=by rw [K,aB,sU,sU];omega
 obtain ⟨C,u⟩:∃C,C=aZ (l.take i)++Z1:=⟨_,rfl⟩
 obtain ⟨b,F⟩:∃b,b=C.take (i * 3)++dj o++C.drop (i * 3+(dj o).length):=⟨_,rfl⟩
 obtain ⟨p,H⟩:∃p,p=b.take (i * 3+3)++aZ (l.drop i)++b.drop (i * 3+3+(n-i) * 3):=⟨_,rfl⟩
 obtain ⟨I,Y,O⟩:=Ce (aZ (l.take i)) (aZ (l.drop i)) Z1 (dj o) rfl (by rw [q,L];omega) C b u (by rw [r];exact F)
 rw [r,q,<-H] at I O
 have x:C.length=G * 3:=by rw [u,aB,r,L];omega
 have c1:Hid (∀c,(Builtin.append_ #[22,3] c #[.slice (some ⟨g,z,none⟩) i a,ab ae ((n:Int)+1-(i:Int))]).run ah w=.ok (.slice (some ⟨w.heap.size,0,none⟩) (n+1) G) (w.drew.alloc (.cells C.toArray 39))):=zq fun c=>by
  have h:=Lib.run_append_grow_zeros w 22 3 c 39 i0 _ ae ae cD Tryz.underlying3 U a1 (some ⟨g,z,none⟩) i a (aZ (l.take i)) a0 (n+1-i) (by omega) (by omega) (by omega) (by omega) (by rw [Q];omega) (by rw [Q,M];exact growslice_fits b9 (by omega))
  rw [M,<-y] at h
  rw [show (n:Int)+1-(i:Int)=((n+1-i:Nat):Int) by omega,h]
  rw [u,K]
  congr 4
  simp
 have b4:Hid (∀(W:ai) (c:bD) (k:Nat),W.heap[w.heap.size]? = some (.cells C.toArray 39 (0,0))->W.heap[f]? = some (.cells #[aa o.name,ab ae o.typ,ab ae o.prec] 39 (0,0))->(Builtin.copy_ #[22,22] c #[.slice (some ⟨w.heap.size,i * 3,none⟩) (n+1-i) k,.slice (some ⟨f,0,none⟩) 1 1]).run ah W=.ok (goInt 1) (W.setRow w.heap.size b.toArray)):=zq fun W c k J b2=>by
  have h:=kC (P:=ah) W 22 22 c 39 w.heap.size (i * 3) (n+1-i) k ⟨f,0,none⟩ 1 1 C 39 (dj o) 1 cD sG J (by simp only [Nat.min_def];split <;> omega) rfl
   (fun j v m=>by
    rw [rU,ap,cell_of_heap b2]
    simpa [dj] using m) (by rw [x];simp [dj];omega) (pK [o])
  rw [h,F]
  rfl
 have b5:Hid (∀(W:ai) (c:bD) (k S:Nat),W.heap[w.heap.size]? = some (.cells b.toArray 39 (0,0))->W.heap[g]? = w.heap[g]? -> (Builtin.copy_ #[22,22] c #[.slice (some ⟨w.heap.size,(i+1) * 3,none⟩) (n-i) k,.slice (some ⟨g,z+i * 3,none⟩) (n-i) S]).run ah W=.ok (goInt ((n-i:Nat):Int)) (W.setRow w.heap.size p.toArray)):=zq fun W c k S J b1=>by
  have h:=kC (P:=ah) W 22 22 c 39 w.heap.size ((i+1) * 3) (n-i) k ⟨g,z+i * 3,none⟩ (n-i) S b 39 (aZ (l.drop i)) (n-i) cD sG J (by simp only [Nat.min_def];split <;> omega) q
   (fun j v m=>by
    have:=Ig X j v m
    rw [rU] at this |-
    rw [<-this]
    exact World.cell?_of_block b1) (by rw [q,Y,x];omega) (pK _)
  rw [h,H,q]
  rw [show (i+1) * 3=i * 3+3 by omega]
 have HV:=zq A
 have a5:Hid (∀E:ai,E.heap[w.heap.size]? = some (.cells p.toArray 39 (0,0))->E.ownsRow d 39 3 (.slice (some ⟨w.heap.size,0,none⟩) (n+1) G) (n+1) (aZ (l.take i++o::l.drop i))):=zq fun E h=>CX h (by rw [O,x]) (by rw [aB,bM,bo,aH];omega) a8 T s (by rw [zD,<-I];congr 1;omega)
 have a6:=zq (show (⟨g,0,none⟩:Addr)=⟨g,z,none⟩ by rw [B])
 rw [a6.out]
 have D:Hid ((w.drew.alloc (.cells C.toArray 39)).heap[w.heap.size]? = some (.cells C.toArray 39 (0,0))):=zq (dA w.drew _)
 have a3:Hid ((w.drew.alloc (.cells C.toArray 39)).heap[f]? = some (.cells #[aa o.name,ab ae o.typ,ab ae o.prec] 39 (0,0))):=zq (((aj w.heap.size w.drew).alloc (ag _) _).block f c2 |>.trans A)
 have a4:Hid ((w.drew.alloc (.cells C.toArray 39)).heap[g]? = w.heap[g]?):=zq (((aj w.heap.size w.drew).alloc (ag _) _).block g b6)
 have c3:Hid (ax d w (w.drew.alloc (.cells C.toArray 39))):=zq (((aj d w).drew).alloc s _)
 unfold be at b3 T
 clear t r q u F H I Y O b8 B c0 A b7 a0 V X N y K L x M U a1 a2 Q
 have a9:g≠w.heap.size:=by omega
 have e1:¬(i=n):=by omega
 have e2:¬(a=i):=by omega
 have e3:¬(G=i):=by omega
 have e4:¬(G=i+1):=by omega
 have e5:((i:Int)==(n:Int))=false:=by rw [beq_eq_false_iff_ne];omega
 have e6:decide ((a:Int)<(n:Int)+1)=true:=by simp;omega
 have e7:(a:Int)<(n:Int)+1:=by omega
 have mixed:Tryz.prog.follows Departure.mixedOrders=true:=by kernel_rfl
 have q1:IntKind.i64.wrap ((i:Int)+1)=(i:Int)+1:=IntWalk.i64_in _ (by omega)
 have q2:(0:Int)<=(i:Int)+1:=by omega
 have q3:(i:Int)+1<=(n:Int)+1:=by omega
 have q4:((i:Int)+1).toNat=i+1:=by omega
 have q5:(0:Int)<=(i:Int):=by omega
 have q6:(i:Int)<=(n:Int)+1:=by omega
 have q7:(i:Int)<=(n:Int):=by omega
 go_enter Tryz.func26,Tryz.ntmps26
 go_wp2_with (first
  | (at_builtin;refine Lib.wpList_append_run _ rfl _ _ _ _ rfl _ _ rfl rfl _ _ (c1.out _) ?_)
  | ((with_reducible refine AA ?_);go_must (refine wpList_copy_runI _ rfl _ _ 22 22 rfl _ _ rfl rfl (b4.out _ 3 (G-i) D.out a3.out) ?_)))
 go_region_law_o (refine step_copy_runI rfl _ _ 22 22 rfl (.slice (some ⟨w.heap.size,(i+1) * 3,none⟩) (n-i) (G-(i+1))) (.slice (some ⟨g,z+i * 3,none⟩) (n-i) (a-i)) (by simp [Act.eval,gd]) (by simp [Act.eval,gd]) (b5.out (((w.alloc (.cells C.toArray 39)).drew.setRow w.heap.size b.toArray).drew) 3 (G-(i+1)) (a-i) (setRow_heap (w.drew.alloc (.cells C.toArray 39)) _ _ _ _ _ D.out) ((setRow_other (w.drew.alloc (.cells C.toArray 39)) _ g _ a9).trans a4.out)) ?_)
 go_wp2_with fail
 go_ret
 have a7:ax d w (((w.alloc (.cells C.toArray 39)).drew.setRow w.heap.size b.toArray).drew.setRow w.heap.size p.toArray):=by
  have h1:ax d w (w.alloc (.cells C.toArray 39)).drew:=((aj d w).alloc s _).drew
  exact below_setRow (below_setRow h1 s _).drew s _
 have b0:=a5.out (((w.alloc (.cells C.toArray 39)).drew.setRow w.heap.size b.toArray).drew.setRow w.heap.size p.toArray) (setRow_heap _ _ _ _ _ _ (setRow_heap (w.drew.alloc (.cells C.toArray 39)) _ _ _ _ _ D.out))
 exact ⟨_,_,rfl,a7,b0⟩
theorem By (A:Option Addr) (n b i:Nat) (l:List OpR) (o:OpR) (c a:Nat) (w:ai) (m:n<=400) (u:i<=n) (d:w.ownsRow a 39 3 (.slice A n b) n (aZ l)) (q:a<=w.heap.size) (t:∀g,A=some ⟨g,0,none⟩->c≠g) (p:w.heap[c]? = some (.cells #[aa o.name,ab ae o.typ,ab ae o.prec] 39 (0,0))) :
  aJ ah 26 #[.slice A n b,ab ae i,.slice (some ⟨c,0,none⟩) 1 1] w fun e w'=>∃A' f,e=aw (.slice A' (n+1) f)/\ax a w w'/\w'.ownsRow a 39 3 (.slice A' (n+1) f) (n+1) (aZ (l.take i++o::l.drop i)):=by
 have v:=kD d
 rcases cS i n with h | h
 ·obtain ⟨g,f,k⟩:=tH d (by omega)
  injection k with k _ _
  subst k
  rcases cS b (n+1) with j | j
  ·exact sy g n b i l o c a w m h j d q p
  ·exact (rB g n b i l o c a w m h j d (t g rfl) p).mono fun e w' ⟨he,hB,hO⟩=>⟨_,b,he,hB,hO⟩
 ·obtain rfl:i=n:=by omega
  have r:l.take i=l:=bA (by omega)
  have s:l.drop i=[]:=List.drop_eq_nil_of_le (by omega)
  rw [r,s]
  exact tJ A i b l o c a w m d q p
end Go.Proofs.YtlikcjbjibhjgaaGreatDoor
namespace Hb
open Go Go.RowKit
theorem KM (o:OpR) (l:List OpR):(kI o l).length<=l.length:=List.length_filter_le _ _
theorem yR {l:List OpR} {o:OpR} (h:(!bB l||decide (o.prec<0)||decide (1200<o.prec)||bX o.typ==0||decide (100<o.name.size))=true):nJ l o=([],1):=by
 unfold nJ;rw [if_pos h]
theorem yQ {l:List OpR} {o:OpR} (h:(!bB l||decide (o.prec<0)||decide (1200<o.prec)||bX o.typ==0||decide (100<o.name.size))=false) (a:kT l o=true):nJ l o=([],5):=by
 unfold nJ;rw [h,if_neg (by simp),if_pos a]
theorem vA {l:List OpR} {o:OpR} (h:(!bB l||decide (o.prec<0)||decide (1200<o.prec)||bX o.typ==0||decide (100<o.name.size))=false) (a:kT l o=false) (b:100<(oi l o).length):nJ l o=([],13):=by
 unfold nJ;rw [h,if_neg (by simp),a,if_neg (by simp),if_pos b]
theorem sH {l:List OpR} {o:OpR} (h:(!bB l||decide (o.prec<0)||decide (1200<o.prec)||bX o.typ==0||decide (100<o.name.size))=false) (a:kT l o=false) (b:¬100<(oi l o).length):nJ l o=(oi l o,0):=by
 unfold nJ;rw [h,if_neg (by simp),a,if_neg (by simp),if_neg b]
theorem Hw {w:ai} {d e n b:Nat} {A:Option Addr} {xs:List az} (h:w.ownsRow d e 3 (.slice A n b) n xs):n=0->(ev A n b=.slice none 0 0\/∃ad,A=some ad):=by
 intro _
 rcases h.2 with ⟨a,_⟩ | ⟨g,c,f,a,_⟩
 ·exact .inl a
 ·injection a with h1 _ _
  exact .inr ⟨_,h1⟩
theorem BoxAt.over {w0 w w':ai} {o:OpR} {B:Nat} (h:BoxAt w0 w o) (b:w0.heap.size<B) (a:ax B w w'):BoxAt w0 w' o where
 bel:=h.bel.trans (a.mono (fd b))
 lt:=aC h.lt a.size
 c0:=(a.cell (p:=⟨_,_,none⟩) b).trans h.c0
 c1:=(a.cell (p:=⟨_,_,none⟩) b).trans h.c1
 c2:=(a.cell (p:=⟨_,_,none⟩) b).trans h.c2
structure Tab (w:ai) (A:Option Addr) (n cap:Nat) (l:List OpR):Prop where
 len:n=l.length
 ops:OpsAt w A l
 nil:n=0->(ev A n cap=.slice none 0 0\/∃ad,A=some ad)
theorem Tab.none (w:ai):Tab w none 0 0 []:=⟨rfl,OpsAt.nil _ _,fun _=>.inl rfl⟩
theorem Tab.below {w w':ai} {A:Option Addr} {n a:Nat} {l:List OpR} (h:Tab w A n a l) (b:ax w.heap.size w w'):Tab w' A n a l:=⟨h.len,h.ops.below b,h.nil⟩
theorem Tab.own {w:ai} {b e n a:Nat} {A:Option Addr} {l:List OpR} (h:w.ownsRow b e 3 (.slice A n a) n (aZ l)):Tab w A n a l:=⟨(kD h).symm,xI h,Hw h⟩
end Hb
namespace Go.Proofs.YtlikcjbjibhjgaaGreatDoor
open Go.RowKit Hb
theorem Ko (A:Option Addr) (n x:Nat) (l:List OpR) (a f:Int) (j:ByteArray) (w:ai) (N:n<=400) (p:Tab w A n x l) :
  aJ ah 6 #[.slice A n x,ab ae a,ab ae f,aa j] w fun e w'=>∃A' n' cap',e=aw (.tuple #[.slice A' n' cap',ab ae (nJ l ⟨j,f,a⟩).2])/\ax w.heap.size w w'/\Tab w' A' n' cap' (nJ l ⟨j,f,a⟩).1:=by
 have r:=zq (mG A n x l w p.len N p.ops)
 cases hbad:(!bB l||decide (a<0)||decide (1200<a)||bX f==0||decide (100<j.size))
 ·have HG:=zq hbad
  simp at hbad
  obtain ⟨⟨⟨⟨s,b7⟩,b8⟩,b9⟩,d4⟩:=hbad
  have a6:=zq s
  rw [s] at r
  clear s
  obtain ⟨o,t⟩:=lz (α:=OpR) (⟨j,f,a⟩)
  have z:Hid (∀(W:ai),OpsAt W A l->aJ ah 20 #[.slice A n x,.agg #[aa j,ab ae f,ab ae a]] W fun e w'=>e=aw (am (kT l o))/\ax W.heap.size W w'):=zq fun W hW=>by
   rw [t.out];exact EQ A n x l ⟨j,f,a⟩ W p.len N hW
  have C:=zq p
  have d6:n<=100:=by have:=(ma l a6.out).1;have:=p.len;omega
  rw [<-t.out]
  have G:Hid ((!bB l||decide (o.prec<0)||decide (1200<o.prec)||bX o.typ==0||decide (100<o.name.size))=false):=by rw [t.out];exact HG
  clear p HG
  have b1:decide (a<0)=false:=by simpa using b7
  have b2:decide (1200<a)=false:=by simpa using b8
  have b3:(bX f==0)=false:=by simpa using b9
  have b4:decide ((100:Int)<(j.size:Int))=false:=by simp;omega
  clear b7 b8 b9 d4
  cases hfx:kT l o
  ·rw [hfx] at z
   have O:=zq hfx
   clear hfx
   go_enter Tryz.func6,Tryz.ntmps6
   go_wp2_with fail
   refine r.out.mono ?_;rintro e q ⟨rfl,k⟩
   go_wp2_with fail
   refine (og f q).mono ?_;rintro e w2 ⟨rfl,v⟩
   have m:ax w.heap.size w w2:=k.trans (v.mono k.size)
   have y:Hid (BoxAt w2 (w2.alloc (.cells #[aa j,ab ae f,ab ae a] 39)) o):=by rw [t.out];exact zq (BoxAt.start w2 ⟨j,f,a⟩ 39)
   go_wp2_with fail
   refine (z.out _ (C.out.ops.below (m.trans (y.out.bel.mono m.size)))).mono ?_;rintro e w3 ⟨rfl,J⟩
   have E:=zq (y.out.call J)
   have u:ax w.heap.size w w3:=m.trans (E.out.bel.mono m.size)
   have c6:w2.heap.size<w3.heap.size:=E.out.lt
   have a1:=zq (C.out.below u)
   clear y J
   go_wp2_with fail
   refine (ER A n x l w3 a1.out.len N a1.out.ops a1.out.nil).mono ?_;rintro e w4 ⟨F,I,rfl,X,b0⟩
   have L:=zq (E.out.call X)
   have HD:=zq (BB F n I l o w2.heap.size w3.heap.size w4 N b0 c6 X.size L.out.c0 L.out.c1 L.out.c2)
   clear b0
   go_wp2_with fail
   refine HD.out.mono ?_;rintro e w5 ⟨n5,rfl,a8,Y⟩
   have M:=zq (L.out.over c6 a8)
   have K:ax w3.heap.size w3 w5:=X.trans a8
   have d0:ax w.heap.size w w5:=u.trans (K.mono u.size)
   have B:=zq Y
   have d7:n5<=100:=by have T:=kD Y;have U:=KM o l;have V:=C.out.len;omega
   clear Y HD z r
   have H:=zq (kD B.out)
   by_cases hp:0<a
   ·have R:Hid (oi l o=qE o (kI o l)):=by
     refine zq ?_
     unfold oi
     rw [if_pos (by rw [t.out];exact hp)]
    have c5:=kW a6.out
    have S:=zq (Bw F n5 I (kI o l) o w5 H.out.symm (by omega) (xI B.out) ((c5.rest o).mono o))
    clear c5
    unfold kZ at S
    have c0:=M.out.c0
    have c1:=M.out.c1
    have c2:=M.out.c2
    go_wp2_with fail
    refine S.out.mono ?_;rintro e w6 ⟨i,b,rfl,a0,D⟩
    have a2:=zq (M.out.call D)
    have c9:=zq (uf o (kI o l) i (CZ o l) a0)
    have d5:i<=n5:=by have:=a0.hl;have:=H.out;omega
    have d1:ax w3.heap.size w5 w6:=D.mono K.size
    have P:=zq (By F n5 I i (kI o l) o w6.heap.size w3.heap.size (w6.alloc (.cells #[aa o.name,ab ae o.typ,ab ae o.prec] 39)) (by omega) d5 ((lH B.out D).alloc _) (by have:=K.size;have:=D.size;simp;omega) (fun g hg=>by
     have:=(B.out.lt g (by rw [hg];rfl)).2
     have:=D.size
     omega) (dA _ _))
    rw [c9.out] at P
    clear a0 S c0 c1 c2
    have c0:=a2.out.c0
    have c1:=a2.out.c1
    have c2:=a2.out.c2
    have a7:ax w3.heap.size w3 w6:=K.trans d1
    have d3:ax w3.heap.size w3 (w6.alloc (.cells #[aa o.name,ab ae o.typ,ab ae o.prec] 39)):=a7.alloc (by have:=a7.size;exact this) _
    go_wp2_with fail
    refine P.out.mono ?_;rintro e w7 ⟨A7,c7,rfl,d2,Z⟩
    have a5:=zq (Tab.own Z)
    have Q:=zq (kD Z)
    rw [<-R.out] at Q a5
    clear Z P
    have a9:ax w.heap.size w w7:=u.trans ((d3.trans d2).mono u.size)
    by_cases c3:100<n5+1
    ·have b5:decide ((100:Int)<(n5:Int)+1)=true:=by simp;omega
     have d:=zq (vA G.out O.out (by rw [Q.out];exact c3))
     go_wp2_with fail
     go_ret2
     exact ⟨none,0,0,by rw [d.out];rfl,a9,by rw [d.out];exact Tab.none _⟩
    ·have b5:decide ((100:Int)<(n5:Int)+1)=false:=by simp;omega
     have d:=zq (sH G.out O.out (by rw [Q.out];exact c3))
     go_wp2_with fail
     go_ret2
     exact ⟨A7,n5+1,c7,by rw [d.out];rfl,a9,by rw [d.out];exact a5.out⟩
   ·have b6:decide (0<a)=false:=by simpa using hp
    have R:Hid (oi l o=kI o l):=by
     refine zq ?_
     unfold oi
     rw [if_neg (by rw [t.out];exact hp)]
    have a4:=zq (Tab.own B.out)
    rw [<-R.out] at a4 H
    have d:=zq (sH G.out O.out (by rw [H.out];omega))
    have b5:decide ((100:Int)<(n5:Int))=false:=by simp;omega
    go_wp2_with fail
    go_ret2
    exact ⟨F,n5,I,by rw [d.out];rfl,d0,by rw [d.out];exact a4.out⟩
  ·rw [hfx] at z
   have d:=zq (yQ G.out hfx)
   clear hfx
   go_enter Tryz.func6,Tryz.ntmps6
   go_wp2_with fail
   refine r.out.mono ?_;rintro e q ⟨rfl,k⟩
   go_wp2_with fail
   refine (og f q).mono ?_;rintro e w2 ⟨rfl,v⟩
   have m:ax w.heap.size w w2:=k.trans (v.mono k.size)
   have y:Hid (BoxAt w2 (w2.alloc (.cells #[aa j,ab ae f,ab ae a] 39)) o):=by rw [t.out];exact zq (BoxAt.start w2 ⟨j,f,a⟩ 39)
   go_wp2_with fail
   refine (z.out _ (C.out.ops.below (m.trans (y.out.bel.mono m.size)))).mono ?_;rintro e w3 ⟨rfl,J⟩
   have E:=zq (y.out.call J)
   have u:ax w.heap.size w w3:=m.trans (E.out.bel.mono m.size)
   go_wp2_with fail
   go_ret2
   exact ⟨none,0,0,by rw [d.out];rfl,u,by rw [d.out];exact Tab.none _⟩
 ·have d:=zq (yR (l:=l) (o:=⟨j,f,a⟩) hbad)
  have C:=zq p
  cases s:bB l
  ·rw [s] at r
   clear s hbad p
   go_enter Tryz.func6,Tryz.ntmps6
   go_wp2_with fail
   refine r.out.mono ?_;rintro e q ⟨rfl,k⟩
   go_wp2_with fail
   go_ret2
   exact ⟨none,0,0,by rw [d.out];rfl,k,by rw [d.out];exact Tab.none _⟩
  ·rw [s] at r hbad
   have HC:=zq (og f)
   have c8:Hid (a<0\/1200<a\/bX f=0\/(100:Int)<j.size):=by
    simp at hbad
    refine zq ?_
    rcases hbad with ((h | h) | h) | h
    ·exact .inl h
    ·exact .inr (.inl h)
    ·exact .inr (.inr (.inl h))
    ·exact .inr (.inr (.inr (by omega)))
   clear s hbad p
   generalize bX f=c at *
   go_enter Tryz.func6,Tryz.ntmps6
   go_wp2_with fail
   refine r.out.mono ?_;rintro e q ⟨rfl,k⟩
   by_cases T:a<0
   ·go_wp2_with fail
    go_ret2
    exact ⟨none,0,0,by rw [d.out];rfl,k,by rw [d.out];exact Tab.none _⟩
   by_cases U:1200<a
   ·go_wp2_with fail
    go_ret2
    exact ⟨none,0,0,by rw [d.out];rfl,k,by rw [d.out];exact Tab.none _⟩
   have a3:∀w2,ax q.heap.size q w2->ax w.heap.size w w2:=fun w2 h=>k.trans (h.mono k.size)
   have b1:decide (a<0)=false:=by simpa using T
   have b2:decide (1200<a)=false:=by simpa using U
   by_cases V:c=0
   ·go_wp2_with fail
    refine (HC.out q).mono ?_;rintro e w2 ⟨rfl,v⟩
    go_wp2_with fail
    go_ret2
    exact ⟨none,0,0,by rw [d.out];rfl,a3 _ v,by rw [d.out];exact Tab.none _⟩
   ·have b3:(c==0)=false:=by simpa using V
    have b4:decide ((100:Int)<(j.size:Int))=true:=by
     rcases c8.out with h | h | h | h
     ·exact absurd h T
     ·exact absurd h U
     ·exact absurd h V
     ·simpa using h
    go_wp2_with fail
    refine (HC.out q).mono ?_;rintro e w2 ⟨rfl,v⟩
    go_wp2_with fail
    go_ret2
    exact ⟨none,0,0,by rw [d.out];rfl,a3 _ v,by rw [d.out];exact Tab.none _⟩
end Go.Proofs.YtlikcjbjibhjgaaGreatDoor
namespace Go.Proofs.YtlikcjbjibhjgaaGreatDoor
open Go.ChangeShapes Go.WideShapes Go.ChangeAt Go.RowKit
theorem NJ:ownKnob Tryz.prog.godebug=none:=by kernel_rfl
theorem LC:laidOutB ah=true:=by kernel_rfl
def LD : List (String × DataW Unit) := [("math/bits.deBruijn32tab", Rows.laid_math_bits_deBruijn32tab), ("math/bits.deBruijn64tab", Rows.laid_math_bits_deBruijn64tab), ("internal/strconv.uint64pow10", Rows.laid_internal_strconv_uint64pow10)]
theorem NC (a:Os) (args:Array az):laidMetH ah LD ((World.doorLaid ah 400 a).forCall (fun _ _=>0) ⟨#[],args,[]⟩).memory :=
 laidMetH_of_parts3 (fuel:=8) (laidMet_of_run' 8 (by kernel_rfl) (by kernel_rfl)) (by kernel_rfl) (by kernel_rfl)
def Nk:List Int:=[0,1,56,2,57,49,28,3,61,58,42,50,38,29,17,4,62,47,59,36,45,43,51,22,53,39,33,30,24,18,12,5,63,55,48,27,60,41,37,16,46,35,44,21,52,32,23,11,54,26,40,15,34,20,31,10,25,14,19,9,13,8,7,6]
theorem OQ : Tryz.prog.globalNamed "math/bits.deBruijn64tab" = some 3 := by kernel_rfl
theorem Oq:(Tryz.prog.globals[3]?).map (·.type)=some 242:=by kernel_rfl
theorem OR : Tryz.prog.globalNamed "internal/strconv.uint64pow10" = some 0 := by kernel_rfl
theorem Ot:(Tryz.prog.globals[0]?).map (·.type)=some 231:=by kernel_rfl
theorem c8:Tryz.prog.cellsOf 5=1:=by kernel_rfl
theorem Oy:Tryz.prog.cellsOf 242=64:=by kernel_rfl
theorem Ox:Tryz.prog.cellsOf 166=1:=by kernel_rfl
theorem Oz:Tryz.prog.cellsOf 231=20:=by kernel_rfl
structure DoorOk (W:ai):Prop where
 lt:3<W.heap.size
 c15:W.cell? ⟨3,15,none⟩=some (ab .u8 4)
 pow : Lib.TabIs ah W "internal/strconv.uint64pow10" .u64 Lib.pow10Tab
theorem NM {W:ai} (h:laidMetH ah LD W):DoorOk W:=by
 rw [MakeChecks.laidMetH_plain _ _ _ (by kernel_rfl)] at h
 have a:=laidMet.tail h
 have c:=laidMet.tail a
 have e:=Lib.tabIs_of_head (k:=.u8) (zs:=Nk) OQ Oq Tryz.underlying242 Tryz.underlying5 c8 Oy a
 have d:=Lib.tabIs_of_head (k:=.u64) (zs:=Lib.pow10Tab) OR Ot Tryz.underlying231 Tryz.underlying166 Ox Oz c
 have b:W.cell? ⟨3,15,none⟩=some (ab .u8 4):=e.cell OQ 15 (by decide)
 exact ⟨World.block_lt_of_cell? W ⟨_,15,none⟩ b,b,d⟩
theorem DoorOk.below {W W':ai} (h:DoorOk W) (a:ax W.heap.size W W'):DoorOk W' :=
 ⟨aC h.lt a.size,(a.cell (p:=⟨_,15,none⟩) h.lt).trans h.c15,Joins.tab_stays OR h.pow a (ag _)⟩
end Go.Proofs.YtlikcjbjibhjgaaGreatDoor
namespace Hb
open Go Go.RowKit
def OwnS (e:bD) (b:Nat) (w:ai) (v:az) (l:List ByteArray):Prop:=w.ownsRow b e 1 v l.length (l.map aQ)
theorem OwnS.below {e b:Nat} {w w':ai} {v:az} {l:List ByteArray} (h:OwnS e b w v l) (a:ax w.heap.size w w'):OwnS e b w' v l:=ls h a
theorem OwnS.mono {e b c:Nat} {w:ai} {v:az} {l:List ByteArray} (h:OwnS e b w v l) (i:c<=b):OwnS e c w v l:=by
 refine ⟨h.1,?_⟩
 rcases h.2 with j | ⟨g,a,d,k,f,rest⟩
 ·exact .inl j
 ·exact .inr ⟨g,a,d,k,aI i f,rest⟩
theorem OwnS.strs {e b:Nat} {w:ai} {v:az} {l:List ByteArray} (h:OwnS e b w v l):∃A cap,v=.slice A l.length cap/\StrsAt w A l/\uM A l.length cap:=by
 obtain ⟨A,cap,d,f⟩:=Gt h
 refine ⟨A,cap,d,f,fun j=>?_⟩
 rcases h.2 with ⟨a,_⟩ | ⟨g,c,i,a,_⟩
 ·rw [d] at a;injection a with h1 _ h3;exact .inl ⟨h1,h3⟩
 ·rw [d] at a;injection a with h1 _ _;exact .inr ⟨_,h1⟩
theorem OwnS.src {e b:Nat} {w:ai} {v:az} {l:List ByteArray} (h:OwnS e b w v l):∃A a,v=.slice A l.length a/\uL w A l.length a 1 (l.map aQ):=by
 obtain ⟨A,a,f,d,c⟩:=h.strs
 exact ⟨A,a,f,yC rfl d c⟩
theorem OwnS.one (e:bD) (w:ai) (s:ByteArray):OwnS e w.heap.size (w.alloc (.cells #[aa s] e)) (.slice (some ⟨w.heap.size,0,none⟩) 1 1) [s] :=
 ⟨by simp,.inr ⟨w.heap.size,1,#[aa s],rfl,ag _,by show (w.heap.push _)[w.heap.size]? = _;simp,ag _,by unfold be;omega,by simp,by simp⟩⟩
theorem gh (l:List ByteArray):∀u∈l.map aQ,u.oneCell'=true:=by
 intro u a;rw [List.mem_map] at a;obtain ⟨s,_,rfl⟩:=a;rfl
theorem pt {P:Program} {w:ai} {B:Array Oper} {rest:List Oper} {o:Oper} {a:Act} {Q:Exit->Act->ai->Prop} (k:o.guard=none) (s x:Operand) (t e:bD)
  (p:o.op=.call { callee:=.builtin .append,args:=#[s,x],argTypes:=#[t,t] }) (r:P.underlying t=some (.slice e)) (z:az) (size f:Nat)
  (J:(P.info? e).map (fun i=>(i.zero,i.size,i.bytes))=some (some z,size,f)) (T:z.cells.size=size) (N:0<size)
  (c:Nat) (v:az) (n:Nat) (xs:List az) (q:a.eval s=v) (j:w.ownsRow c e size v n xs) (A:Option Addr) (m g:Nat) (d:List az) (y:a.eval x=.slice A m g) (M:uL w A m g size d)
  (D:∀u∈d,u.oneCell'=true) (U:n+m<=4611686018427387904) (G:(n+m) * f<=140737488355328) (F:c<=w.heap.size)
  (h:∀b w',w'.ownsRow c e size b (n+m) (xs++d)->w.grownBy w' v.ownBlock->(b.ownBlock=v.ownBlock\/b.ownBlock=some w.heap.size)->cH P B Q rest (a.put o.dst b) w'):cH P B Q (o::rest) a w:=by
 obtain ⟨i,l,O,R,S⟩:=eh J
 rcases M with ⟨rfl,rfl,rfl,rfl⟩ | ⟨C,rfl,K,H⟩
 ·refine wpList_append_own_none k s x t p c e i size r l v n xs q j y ?_
  exact h v w (by rw [bv,List.append_nil];exact j) ⟨rfl,rfl,rfl,ag _,fun _ _ _=>rfl⟩ (.inl rfl)
 ·refine wpList_append_own_at _ k s x t p c e i z size f r l O R S T N v n xs q j C m g d y K H D (by unfold be;omega) G F ?_
  intro b w' L I _ E
  exact h b w' L I E
end Hb
namespace Go.Proofs.YtlikcjbjibhjgaaGreatDoor
open Go.RowKit Hb
theorem jF {b:Array Oper} {rest:List Oper} {a:Act} {Q:Exit->Act->ai->Prop} {w:ai} {d t p f x g} (h:cH ah b Q (⟨d,.call { callee:=.builtin .append,args:=x,argTypes:=#[65,65] },t,p,f,g⟩::rest) a w):cH ah b Q (⟨d,.call { callee:=.builtin .append,args:=x,argTypes:=#[65,65] },t,p,f,g⟩::rest) a w:=h
structure Env (T:List OpR) (TA:Option Addr) (TN TC:Nat) (w:ai):Prop where
 door:DoorOk w
 tab:Tab w TA TN TC T
 few:TN<=400
theorem Env.below {T:List OpR} {TA:Option Addr} {TN TC:Nat} {w w':ai} (h:Env T TA TN TC w) (a:ax w.heap.size w w'):Env T TA TN TC w':=⟨h.door.below a,h.tab.below a,h.few⟩
theorem DoorOk.tab15 {w:ai} (h:DoorOk w):Tab15 w:=⟨h.lt,h.c15⟩
def nN (o:WO) (TA:Option Addr) (TN TC:Nat):az:=.agg #[am o.q,am o.ig,am o.nu,.slice TA TN TC]
theorem LF (n:Int) (a:-9223372036854775808<=n) (b:n<=9223372036854775807) (w:ai) (c:DoorOk w) :
  aJ ah 106 #[ab ae n,ab ae 10] w fun e w'=>e=aw (aa (kj n))/\ax w.heap.size w w' :=
 (Tryz.strconv_FormatInt_10 n a b w c.pow).mono fun _ _ ⟨he,k,os,hw⟩=>⟨he,by rw [hw];exact La w k os⟩
theorem sW (o:WO) (TA:Option Addr) (TN TC:Nat) (s:ByteArray) (w:ai) (i:s.size<=1000000) (g:DoorOk w) :
  aJ ah 108 #[nN o TA TN TC,aa s] w fun e w'=>e=aw (aa (jB o s))/\ax w.heap.size w w':=by
 have a:=(aj w.heap.size w).alloc (ag _) (.cells #[am o.q,am o.ig,am o.nu,.slice TA TN TC] 103)
 have c:=zq (fun W (h:ax w.heap.size w W)=>JO s W i (g.tab15.below h))
 unfold nN
 cases hq:o.q
 ·have b:=zq (show jB o s=s by unfold jB;rw [hq];rfl)
  rw [hq] at a
  clear hq
  go_enter Tryz.func108,Tryz.ntmps108
  go_wp2_with fail
  go_ret
  exact ⟨oM b.out.symm,a⟩
 ·have b:=zq (show jB o s=⟨(gA s.data.toList).toArray⟩ by unfold jB;rw [hq];rfl)
  rw [hq] at a
  clear hq
  go_enter Tryz.func108,Tryz.ntmps108
  go_wp2_with fail
  refine (c.out _ a).mono ?_;rintro e j ⟨rfl,d⟩
  have f:=a.trans (d.mono a.size)
  go_wp2_with fail
  go_ret
  exact ⟨oM b.out.symm,f⟩
theorem lk (x y:ByteArray) (A:Option Addr) (n a:Nat) (l:List ByteArray) (w:ai) (c:n=l.length) (D:n<=100000) (g:StrsAt w A l) (f:uM A n a) :
  aJ ah 140 #[aa x,.slice A n a,aa y] w fun e w'=>∃v,e=aw v/\ax w.heap.size w w'/\OwnS 9 w.heap.size w' v (x::(l++[y])):=by
 have i:=zq (OwnS.one 9 w x)
 have b:=(aj w.heap.size w).alloc (ag _) (.cells #[aa x] 9)
 have t:=b.size
 have m:=zq (yC c (g.below b) f)
 have j:=zq c
 clear g f c
 go_enter Tryz.func140,Tryz.ntmps140
 go_wp2_with (first
  | ((with_reducible refine jF ?_);refine gO rfl _ _ 65 9 rfl bw _ 1 16 jf rfl (by decide) w.heap.size _ _ _ rfl i.out A n a _ rfl m.out (gh _) (by simp;omega) (by simp;omega) t w b ?_;intro E z h d B;have k:=zq h;have s:=d.size;clear h)
  | ((with_reducible refine jF ?_);refine dO rfl _ _ 65 9 rfl bw _ 1 16 jf rfl (by decide) w.heap.size _ _ _ rfl z k.out #[aa y] rfl (by simp [eO]) rfl rfl (by simp;omega) (by simp;omega) s ?_;intro u F r q C))
 go_ret
 refine ⟨u,rfl,d.trans q,?_⟩
 unfold OwnS
 have o:(x::(l++[y])).length=[x].length+n+1:=by rw [j.out];simp;omega
 have p:(x::(l++[y])).map aQ=[x].map aQ++l.map aQ ++ #[aQ y].toList:=by simp
 rw [o,p];exact r
theorem ms (b:Bool) (v:az) (a:Nat) (l:List ByteArray) (w:ai) (p:l.length<=100000) (c:OwnS 9 a w v l) (o:a<=w.heap.size) :
  aJ ah 107 #[v,am b] w fun e w'=>∃v',e=aw v'/\ax w.heap.size w w'/\OwnS 9 a w' v' (brk l b):=by
 obtain ⟨A,k,rfl,h,f⟩:=c.strs
 have i:=zq c
 have d:=zq (lk (s1 40) (s1 41) A l.length k l w rfl p h f)
 clear c h f
 unfold s1 at d
 generalize l.length=n at *
 cases b
 ·go_enter Tryz.func107,Tryz.ntmps107
  go_wp2_with fail
  go_ret
  exact ⟨_,rfl,aj _ _,i.out⟩
 ·go_enter Tryz.func107,Tryz.ntmps107
  go_wp2_with fail
  refine d.out.mono ?_;rintro e r ⟨q,rfl,m,g⟩
  have j:=zq g
  clear g
  go_wp2_with fail
  go_ret
  exact ⟨q,rfl,m,j.out.mono o⟩
theorem CB (s:ByteArray) (i:Nat) (w:ai) (_hs:s.size<=be) (_hi:i<=1) :
  aJ ah 180 #[aa s,ab ae i] w fun e w'=>e=aw (am (np s i))/\w=w':=by
 unfold be at _hs
 by_cases h:i<s.size
 ·have f:=kA s i h
  have b:=jR s.data.toList i
  have d:=kh s.data.toList i
  have a:=zq (show np s i=(decide (48<=iK s.data.toList i)&&decide (iK s.data.toList i<=57)) by unfold np;rw [decide_eq_true h,dl])
  generalize iK s.data.toList i=c at *
  go_enter Tryz.func180,Tryz.ntmps180
  go_wp2_with fail
  all_goals go_ret
  all_goals exact ⟨bN (by rw [a.out];grind),rfl⟩
 ·have a:=zq (show np s i=false by unfold np;rw [decide_eq_false h,Bool.false_and])
  go_enter Tryz.func180,Tryz.ntmps180
  go_wp2_with fail
  go_ret
  exact ⟨bN a.out.symm,rfl⟩
end Go.Proofs.YtlikcjbjibhjgaaGreatDoor
namespace Hb
open Go Go.RowKit
inductive Tm.All (P:Tm->Prop):Tm->Prop
 | mk (t:Tm) (h:P t) (ha:∀a∈t.args,Tm.All P a):Tm.All P t
theorem Tm.All.here {P:Tm->Prop} {t:Tm} (h:Tm.All P t):P t:=by cases h;assumption
theorem Tm.All.sub {P:Tm->Prop} {t:Tm} (h:Tm.All P t):∀a∈t.args,Tm.All P a:=by cases h;assumption
theorem Tm.All.imp {P Q:Tm->Prop} (c:∀t,P t->Q t):∀t:Tm,Tm.All P t->Tm.All Q t:=Tm.ind fun t d h=>.mk t (c t h.here) fun a b=>d a b (h.sub a b)
structure TBx (w:ai) (g:Nat) (t:Tm) (A:Option Addr) (cap:Nat):Prop where
 lt:g<w.heap.size
 c0:w.cell? ⟨g,0,none⟩=some (ab ae t.kind)
 c1:w.cell? ⟨g,1,none⟩=some (ab ae t.num)
 c2:w.cell? ⟨g,2,none⟩=some (aa t.name)
 c3:w.cell? ⟨g,3,none⟩=some (.slice A t.args.length cap)
theorem TBx.call {w w':ai} {g:Nat} {t:Tm} {A:Option Addr} {cap:Nat} (h:TBx w g t A cap) (a:ax w.heap.size w w'):TBx w' g t A cap :=
 ⟨aC h.lt a.size,(a.cell (p:=⟨_,_,none⟩) h.lt).trans h.c0,(a.cell (p:=⟨_,_,none⟩) h.lt).trans h.c1,(a.cell (p:=⟨_,_,none⟩) h.lt).trans h.c2,(a.cell (p:=⟨_,_,none⟩) h.lt).trans h.c3⟩
theorem TBx.start (w:ai) (t:Tm) (A:Option Addr) (cap a:Nat) (e:bD) (b:a=t.args.length):TBx (w.alloc (.cells #[ab ae t.kind,ab ae t.num,aa t.name,.slice A a cap] e)) w.heap.size t A cap :=
 ⟨by simp,aq _ _ _ 0,aq _ _ _ 1,aq _ _ _ 2,by rw [<-b];exact aq _ _ _ 3⟩
theorem tr (l:List UInt8):(⟨l.toArray⟩:ByteArray).size=l.length:=by simp [ByteArray.size]
def dP (t:Tm):Bool:=decide (-9223372036854775808<=t.num)&&decide (t.num<=9223372036854775807)
theorem eX (t:Tm):dP t=true ↔ -9223372036854775808<=t.num/\t.num<=9223372036854775807:=by unfold dP;rw [Bool.and_eq_true,decide_eq_true_iff,decide_eq_true_iff]
theorem sk {t:Tm} (h:dH t=true):t.kind=0\/t.kind=1\/t.kind=2\/t.kind=3:=by unfold dH at h;grind
theorem kN {t:Tm} (h:dH t=true):t.name.size<=100:=by
 unfold dH at h
 have a:t.name.toList=[]->t.name.size<=100:=fun e=>by
  rw [jb] at e
  have:=congrArg List.length e
  rw [size_data,List.length_nil] at this
  omega
 grind
theorem zG {t:Tm} (h:dH t=true):t.args.length<=8:=by unfold dH at h;grind
theorem qG (n:Int) (d:-9223372036854775808<=n) (f:n<=9223372036854775807):(kj n).size<=21:=by
 have a:∀u:Nat,u<18446744073709551616->(Lib.decDigits u).length<=20:=fun u c=>by
  rw [Lib.decDigits_length]
  rcases Nat.eq_zero_or_pos u with rfl | b
  ·rw [Lib.nDigits_small (by decide)];decide
  ·obtain ⟨e,h⟩:=Lib.numDigits_eq u b c
   rw [<-e];split <;> omega
 unfold kj Lib.itoa
 rw [tr]
 split
 ·have:=a n.natAbs (by omega);rw [bo];omega
 ·have:=a n.toNat (by omega);omega
structure WBox (w:ai) (g:Nat) (o:WO) (TA:Option Addr) (TN TC:Nat):Prop where
 lt:g<w.heap.size
 c0:w.cell? ⟨g,0,none⟩=some (am o.q)
 c1:w.cell? ⟨g,1,none⟩=some (am o.ig)
 c2:w.cell? ⟨g,2,none⟩=some (am o.nu)
 c3:w.cell? ⟨g,3,none⟩=some (.slice TA TN TC)
theorem WBox.call {w w':ai} {g:Nat} {o:WO} {TA:Option Addr} {TN TC:Nat} (h:WBox w g o TA TN TC) (a:ax w.heap.size w w'):WBox w' g o TA TN TC :=
 ⟨aC h.lt a.size,(a.cell (p:=⟨_,_,none⟩) h.lt).trans h.c0,(a.cell (p:=⟨_,_,none⟩) h.lt).trans h.c1,(a.cell (p:=⟨_,_,none⟩) h.lt).trans h.c2,(a.cell (p:=⟨_,_,none⟩) h.lt).trans h.c3⟩
structure Fr2 (w0 w:ai) (o:WO) (TA:Option Addr) (TN TC:Nat) (t:Tm) (A:Option Addr) (cap:Nat):Prop where
 bel:ax w0.heap.size w0 w
 wb:WBox w w0.heap.size o TA TN TC
 tb:TBx w (w0.heap.size+1) t A cap
theorem Fr2.call {w0 w w':ai} {o:WO} {TA:Option Addr} {TN TC:Nat} {t:Tm} {A:Option Addr} {cap:Nat} (h:Fr2 w0 w o TA TN TC t A cap) (a:ax w.heap.size w w'):Fr2 w0 w' o TA TN TC t A cap :=
 ⟨h.bel.trans (a.mono h.bel.size),h.wb.call a,h.tb.call a⟩
theorem Fr2.start (w:ai) (o:WO) (TA:Option Addr) (TN TC:Nat) (t:Tm) (A:Option Addr) (cap c:Nat) (f d:bD) (i:c=t.args.length) :
  Fr2 w ((w.alloc (.cells #[am o.q,am o.ig,am o.nu,.slice TA TN TC] f)).alloc (.cells #[ab ae t.kind,ab ae t.num,aa t.name,.slice A c cap] d)) o TA TN TC t A cap:=by
 obtain ⟨W1,e⟩:∃W1,W1=w.alloc (.cells #[am o.q,am o.ig,am o.nu,.slice TA TN TC] f):=⟨_,rfl⟩
 rw [<-e]
 have s1:W1.heap.size=w.heap.size+1:=by rw [e];simp
 have h:ax w.heap.size w W1:=by rw [e];exact (aj _ _).alloc (ag _) _
 have g:ax W1.heap.size W1 (W1.alloc (.cells #[ab ae t.kind,ab ae t.num,aa t.name,.slice A c cap] d)):=(aj _ _).alloc (ag _) _
 have a:∀j,W1.cell? ⟨w.heap.size,j,none⟩=(#[am o.q,am o.ig,am o.nu,.slice TA TN TC]:Array az)[j]?:=fun j=>by rw [e];exact aq _ _ _ j
 have b:∀j,(W1.alloc (.cells #[ab ae t.kind,ab ae t.num,aa t.name,.slice A c cap] d)).cell? ⟨w.heap.size+1,j,none⟩=(#[ab ae t.kind,ab ae t.num,aa t.name,.slice A c cap]:Array az)[j]?:=fun j=>by
  have:=aq W1 #[ab ae t.kind,ab ae t.num,aa t.name,.slice A c cap] d j
  rw [s1] at this;exact this
 exact ⟨h.trans (g.mono (by omega)),WBox.call ⟨by omega,a 0,a 1,a 2,a 3⟩ g,⟨by simp;omega,b 0,b 1,b 2,by rw [<-i];exact b 3⟩⟩
end Hb
namespace Go.Proofs.YtlikcjbjibhjgaaGreatDoor
open Go.RowKit Hb
section
variable (o:WO) (T:List OpR) (TA:Option Addr) (TN TC:Nat) (S:Tm->WR)
def SOK (t:Tm):Prop:=∀(A:Option Addr) (a:Nat) (w:ai),Env T TA TN TC w->TmsAt w.heap.size w A t.args ->
 aJ ah 110 #[nN o TA TN TC,er t A a] w fun e w'=>∃A' n' c',e=aw (.agg #[.slice A' n' c',aa (S t).2.name,ab ae (S t).2.typ,ab ae (S t).2.prec])/\ax w.heap.size w w'/\OwnS 9 w.heap.size w' (.slice A' n' c') (S t).1
def yo (t:Tm):Prop:=∀(max:Int) (a:Bool) (A:Option Addr) (b:Nat) (w:ai),Env T TA TN TC w->TmsAt w.heap.size w A t.args ->
 aJ ah 75 #[nN o TA TN TC,er t A b,ab ae max,am a] w fun e w'=>∃v,e=aw v/\ax w.heap.size w w'/\OwnS 9 w.heap.size w' v (bu o T S t max a)
end
theorem Jr (o:WO) (T:List OpR) (TA:Option Addr) (TN TC:Nat) (S:Tm->WR) (t:Tm) (I:dH t=true) (E:dP t=true) (P:t.kind=3->SOK o T TA TN TC S t) (V:(S t).1.length<=90000):yo o T TA TN TC S t:=by
 intro max k A N w n Q
 obtain ⟨LN,p⟩:=lz (t.args.length)
 have L:=zq (Fr2.start w o TA TN TC t A N LN 103 25 p.out)
 have c:=L.out.bel
 have u:=c.size
 have F:=zq (fun W (h:ax w.heap.size w W)=>LF t.num ((eX t).1 E).1 ((eX t).1 E).2 W (n.door.below h))
 have a6:=qG t.num ((eX t).1 E).1 ((eX t).1 E).2
 have y:=zq (fun W (h:ax w.heap.size w W)=>sW o TA TN TC t.name W (by have:=kN I;omega) (n.door.below h))
 have v:=zq (fun W (h:ax w.heap.size w W)=>Mf TA TN TC T t.name W n.tab.len n.few (n.tab.below h).ops)
 have r:=zq (fun (h3:t.kind=3) W (h:ax w.heap.size w W)=>P h3 A N W (n.below h) ((Q.keep h).mono h.size))
 have x:=zq (sk I)
 have g:=zq (show bu o T S t max k=if t.kind=0 then [s1 95++kj t.num] else if t.kind=1 then [kj t.num] else if t.kind=2 then brk [jB o t.name] (k&&lI T t.name) else brk (S t).1 (decide (max<(S t).2.prec)) from rfl)
 have HK:=zq V
 clear n Q I E P V
 unfold er nN at *
 rw [<-p.out] at r |-
 rcases x.out with a | a | a | a
 ·have i:=zq (show bu o T S t max k=[s1 95++kj t.num] by rw [g.out,if_pos a])
  have H:(t.kind==0)=true:=by simp [a]
  have q:=zq (fun W=>OwnS.one 9 W (s1 95++kj t.num))
  unfold s1 at q
  clear g x r v y a p
  go_enter Tryz.func75,Tryz.ntmps75
  go_wp2_with fail
  refine (F.out _ c).mono ?_;rintro e l ⟨rfl,d⟩
  have b:=c.trans (d.mono u)
  go_wp2_with fail
  go_ret
  exact ⟨_,rfl,b.alloc b.size _,by rw [i.out];exact (q.out _).mono b.size⟩
 ·have j:¬t.kind=0:=by omega
  have i:=zq (show bu o T S t max k=[kj t.num] by rw [g.out,if_neg j,if_pos a])
  have U:(t.kind==0)=false:=by simp [a]
  have H:(t.kind==1)=true:=by simp [a]
  have q:=zq (fun W=>OwnS.one 9 W (kj t.num))
  clear g x r v y a p j
  go_enter Tryz.func75,Tryz.ntmps75
  go_wp2_with fail
  refine (F.out _ c).mono ?_;rintro e l ⟨rfl,d⟩
  have b:=c.trans (d.mono u)
  go_wp2_with fail
  go_ret
  exact ⟨_,rfl,b.alloc b.size _,by rw [i.out];exact (q.out _).mono b.size⟩
 ·have j:¬t.kind=0:=by omega
  have z:¬t.kind=1:=by omega
  have i:=zq (show bu o T S t max k=brk [jB o t.name] (k&&lI T t.name) by rw [g.out,if_neg j,if_neg z,if_pos a])
  have U:(t.kind==0)=false:=by simp [a]
  have a5:(t.kind==1)=false:=by simp [a]
  have H:(t.kind==2)=true:=by simp [a]
  have q:=zq (fun W=>OwnS.one 9 W (jB o t.name))
  clear g x r F a p j z q
  cases k
  ·have G:=zq (show bu o T S t max false=[jB o t.name] by rw [i.out];rfl)
   go_enter Tryz.func75,Tryz.ntmps75
   go_wp2_with fail
   refine (y.out _ c).mono ?_;rintro e l ⟨rfl,d⟩
   have b:=c.trans (d.mono u)
   have C:=OwnS.one 9 l (jB o t.name)
   have B:=ms false _ l.heap.size [jB o t.name] _ (by simp) C (by simp)
   have f:=b.alloc b.size (.cells #[aa (jB o t.name)] 9)
   go_wp2_with fail
   refine B.mono ?_;rintro e Y ⟨J,rfl,m,D⟩
   have s:=f.trans (m.mono f.size)
   go_wp2_with fail
   go_ret
   exact ⟨J,rfl,s,by rw [G.out];exact D.mono b.size⟩
  ·have G:=zq (show bu o T S t max true=brk [jB o t.name] (lI T t.name) by rw [i.out,dl])
   have Z:Hid (lI T t.name=(bB T&&T.any (isNm t.name))):=zq rfl
   rw [<-Z.out] at v
   go_enter Tryz.func75,Tryz.ntmps75
   go_wp2_with fail
   refine (y.out _ c).mono ?_;rintro e l ⟨rfl,d⟩
   have b:=c.trans (d.mono u)
   have C:=OwnS.one 9 l (jB o t.name)
   have f:=b.alloc b.size (.cells #[aa (jB o t.name)] 9)
   have R:=(L.out.call d).call ((aj _ _).alloc (ag _) (.cells #[aa (jB o t.name)] 9))
   have x1:=R.wb.c3
   have x2:=R.tb.c2
   go_wp2_with fail
   refine (v.out _ f).mono ?_;rintro e Y ⟨rfl,m⟩
   have s:=f.trans (m.mono f.size)
   have D:=C.below m
   have B:=ms (lI T t.name) _ l.heap.size [jB o t.name] _ (by simp) D (by have:=m.size;simp at this;omega)
   go_wp2_with fail
   refine B.mono ?_;rintro e w3 ⟨v3,rfl,a1,a3⟩
   have a2:=s.trans (a1.mono s.size)
   go_wp2_with fail
   go_ret
   exact ⟨v3,rfl,a2,by rw [G.out];exact a3.mono b.size⟩
 ·have j:¬t.kind=0:=by omega
  have z:¬t.kind=1:=by omega
  have O:¬t.kind=2:=by omega
  have i:=zq (show bu o T S t max k=brk (S t).1 (decide (max<(S t).2.prec)) by rw [g.out,if_neg j,if_neg z,if_neg O])
  have U:(t.kind==0)=false:=by simp [a]
  have a5:(t.kind==1)=false:=by simp [a]
  have H:(t.kind==2)=false:=by simp [a]
  have a0:=zq (r.out a _ c)
  clear g x r F a p j z O y v
  go_enter Tryz.func75,Tryz.ntmps75
  go_wp2_with fail
  refine a0.out.mono ?_;rintro e l ⟨K,X,M,rfl,d,C⟩
  have b:=c.trans (d.mono u)
  have f:=b.alloc b.size (.cells #[.slice K X M,aa (S t).2.name,ab ae (S t).2.typ,ab ae (S t).2.prec] 173)
  have D:=C.below ((aj _ _).alloc (ag _) (.cells #[.slice K X M,aa (S t).2.name,ab ae (S t).2.typ,ab ae (S t).2.prec] 173))
  have B:=ms (decide (max<(S t).2.prec)) _ _ (S t).1 _ (by have:=HK.out;omega) D (aI d.size (by simp))
  go_wp2_with fail
  refine B.mono ?_;rintro e Y ⟨J,rfl,m,a4⟩
  have s:=f.trans (m.mono f.size)
  go_wp2_with fail
  go_ret
  exact ⟨J,rfl,s,by rw [i.out];exact a4.mono u⟩
end Go.Proofs.YtlikcjbjibhjgaaGreatDoor
namespace Hb
open Go Go.RowKit
theorem vE (P:Tm->List ByteArray) (l:List Tm) (k:Nat) (h:k<l.length):dh P (l.take (k+1))=dh P (l.take k)++((if k=0 then [] else [s1 44])++P l[k]):=by
 match l,k,h with
 | t::l,0,_=>simp [dh]
 | t::l,k+1,h=>
  have a:k<l.length:=by simpa using h
  rw [if_neg (by omega)]
  show P t++(l.take (k+1)).flatMap (fun u=>s1 44::P u)=(P t++(l.take k).flatMap fun u=>s1 44::P u)++([s1 44]++P l[k])
  rw [List.take_succ_eq_append_getElem a,List.flatMap_append]
  simp
theorem JV (P:Tm->List ByteArray) (l:List Tm):∀d k,(dh P (l.take k)).length<=(dh P (l.take (k+d))).length:=by
 intro d
 induction d with
 | zero=>intro k;exact ag _
 | succ d ih=>
  intro k
  refine aI (ih k) ?_
  rcases cS (k+d) l.length with h | h
  ·rw [show k+(d+1)=(k+d)+1 by omega,vE P l (k+d) h,aB];omega
  ·rw [bA h,bA (by omega)]
   exact ag _
theorem Ey (P:Tm->List ByteArray) (l:List Tm) (k:Nat):(dh P (l.take k)).length<=(dh P l).length:=by
 rcases cS k l.length with h | h
 ·have:=JV P l (l.length-k) k
  rw [show k+(l.length-k)=l.length by omega,cL] at this
  exact this
 ·rw [bA h];exact ag _
end Hb
namespace Go.Proofs.YtlikcjbjibhjgaaGreatDoor
open Go.RowKit Hb
variable {o:WO} {T:List OpR} {TA:Option Addr} {TN TC:Nat} {S:Tm->WR}
def Ld (o:WO) (TA:Option Addr) (TN TC:Nat):az:=.func (.func 156) #[nN o TA TN TC] #[]
theorem AO {t:Tm} (f:yo o T TA TN TC S t) (max:Int) (A:Option Addr) (b:Nat) (w:ai) (d:Env T TA TN TC w) (g:TmsAt w.heap.size w A t.args) :
  aJ ah 50 #[nN o TA TN TC,er t A b,ab ae max] w fun e w'=>∃v,e=aw v/\ax w.heap.size w w'/\OwnS 9 w.heap.size w' v (bu o T S t max false):=by
 have i:=zq (Fr2.start w o TA TN TC t A b t.args.length 103 25 rfl)
 have a:=i.out.bel
 have c:=a.size
 have h:=zq (f max false A b _ (d.below a) ((g.keep a).mono c))
 clear d g f
 unfold er nN at *
 generalize t.kind=a0 at *
 generalize t.num=n at *
 generalize t.name=p at *
 generalize t.args.length=q at *
 go_enter Tryz.func50,Tryz.ntmps50
 go_wp2_with fail
 refine h.out.mono ?_;rintro e r ⟨m,rfl,j,l⟩
 have k:=a.trans (j.mono c)
 go_wp2_with fail
 go_ret
 exact ⟨m,rfl,k,l.mono c⟩
theorem Lq {t:Tm} (f:yo o T TA TN TC S t) (A:Option Addr) (b:Nat) (w:ai) (d:Env T TA TN TC w) (g:TmsAt w.heap.size w A t.args) :
  aJ ah 156 #[nN o TA TN TC,er t A b] w fun e w'=>∃v,e=aw v/\ax w.heap.size w w'/\OwnS 9 w.heap.size w' v (cR o T S t):=by
 have i:=zq (Fr2.start w o TA TN TC t A b t.args.length 103 25 rfl)
 have a:=i.out.bel
 have c:=a.size
 have h:=zq (AO f 999 A b _ (d.below a) ((g.keep a).mono c))
 clear d g f
 unfold er nN at *
 generalize t.kind=a0 at *
 generalize t.num=n at *
 generalize t.name=p at *
 generalize t.args.length=q at *
 go_enter Tryz.func156,Tryz.ntmps156
 go_wp2_with fail
 refine h.out.mono ?_;rintro e r ⟨m,rfl,j,l⟩
 have k:=a.trans (j.mono c)
 go_wp2_with fail
 go_ret
 exact ⟨m,rfl,k,l.mono c⟩
theorem Lp (l:List Tm) (hP:∀x∈l,yo o T TA TN TC S x) (a7:(dh (cR o T S) l).length<=90000) (A:Option Addr) (n b8:Nat) (w:ai) (hn:n=l.length) (hm:n<=10000) (hE:Env T TA TN TC w) (hT:TmsAt w.heap.size w A l) :
  aJ ah 155 #[.slice A n b8,Ld o TA TN TC] w fun e w'=>∃v,e=aw v/\ax w.heap.size w w'/\OwnS 9 w.heap.size w' v (dh (cR o T S) l):=by
 have HN:=zq hn
 have HT:=zq hT
 have b7:=zq (fun k=>aI (Ey (cR o T S) l k) a7)
 have HA:=zq (fun (x:Tm) (M:x∈l) (c:Option Addr) (f:Nat) (W:ai) (h:ax w.heap.size w W) (h2:TmsAt w.heap.size w c x.args)=>Lq (hP x M) c f W (hE.below h) ((h2.keep h).mono h.size))
 clear hT hE hP hn a7
 unfold Ld nN at *
 go_enter Tryz.func155,Tryz.ntmps155
 go_wp2_with fail
 go_loopw [5,10] (fun v i wr=>∃k:Nat,k<=n/\i=ab ae k/\ax w.heap.size w wr/\Hid (OwnS 9 w.heap.size wr v (dh (cR o T S) (l.take k)))) (fun _ i _=>n-(intOf i).toNat)
 case atStart=>exact ⟨0,Nat.zero_le _,rfl,aj _ _,zq (World.ownsRow_nil _ _ _ _)⟩
 case round=>
  obtain ⟨k,hk,rfl,u,m⟩:=hrel
  have a6:=u.size
  by_cases a3:k<n
  ·have L:k<l.length:=by have:=HN.out;omega
   obtain ⟨b,b1,c,f,rfl,hb,c0,c1,c2,t,hs⟩:=(HT.out.keep u).get k L
   have b0:TmsAt w.heap.size w c l[k].args:=by
    obtain ⟨b',off',J,n2,a0,_,_,_,_,y3,d0⟩:=HT.out.get k L
    obtain ⟨rfl,rfl⟩:b=b'/\b1=off':=by injection a0 with a0;injection a0 with h1 h2 _;exact ⟨h1,h2⟩
    have e1:=(u.cell (p:=⟨b,b1+k * 4+3,none⟩) hb).trans y3
    rw [e1] at t
    injection t with t;injection t with h1 _ _
    rw [<-h1];exact d0
   have y:=zq (fun W h=>HA.out l[k] (List.getElem_mem L) c f W h b0)
   have g:=zq (vE (cR o T S) l k L)
   have X:=zq (b7.out (k+1))
   rw [g.out] at X
   have q:Hid ((dh (cR o T S) (l.take k)).length+((if k=0 then [] else [s1 44]):List ByteArray).length+(cR o T S l[k]).length<=90000):=zq (by
    have:=X.out
    rw [aB,aB] at this;omega)
   clear hs b0 X
   unfold er at y
   obtain ⟨a,O⟩:=lz (l[k])
   rw [<-O.out] at y g q c0 c1 c2 t
   obtain ⟨p,R⟩:=lz (cR o T S a)
   rw [<-R.out] at y g q
   obtain ⟨d,N⟩:=lz (dh (cR o T S) (l.take k))
   rw [<-N.out] at m g q
   have d3:(0:Int)<=(k:Int):=by omega
   have d4:(k:Int)<(n:Int):=by omega
   by_cases Z:k=0
   ·subst Z
    rw [Nat.zero_mul,bv] at c0 c1 c2 t
    have U:Hid (dh (cR o T S) (l.take (0+1))=d++p):=zq (by rw [g.out];rfl)
    have c8:d.length+p.length<=90000:=by have:=q.out;simp at this;omega
    clear g q O N R
    have r:=u.alloc a6 (.cells #[ab ae a.kind,ab ae a.num,aa a.name,.slice c a.args.length f] 25)
    have z:=zq (m.out.below ((aj _ _).alloc (ag _) (.cells #[ab ae a.kind,ab ae a.num,aa a.name,.slice c a.args.length f] 25)))
    go_wp2_with fail
    refine (y.out _ r).mono ?_;rintro e w2 ⟨v2,rfl,B,E⟩
    obtain ⟨J,Y,rfl,I⟩:=E.src
    have P:=zq (z.out.below B)
    have C:=r.trans (B.mono r.size)
    have a2:=C.size
    have V:=zq I
    clear I E z
    go_wp2_with ((with_reducible refine jF ?_);go_must (refine gO rfl _ _ 65 9 rfl bw _ 1 16 jf rfl (by decide) w.heap.size _ _ _ rfl P.out J _ Y _ rfl V.out (gh _) (by omega) (by omega) a2 w C ?_;intro v4 w4 H a1 c7))
    have Q:=zq H
    clear H
    go_roundw
    case rel=>exact ⟨0+1,by omega,by go_num,a1,by rw [U.out];refine zq ?_;unfold OwnS;rw [aB,bC];exact Q.out⟩
    case measure=>simp [intOf] <;> omega
   ·have U:Hid (dh (cR o T S) (l.take (k+1))=(d++[s1 44])++p):=zq (by rw [g.out,if_neg Z];simp)
    have c8:d.length+1+p.length<=90000:=by have:=q.out;rw [if_neg Z] at this;simp at this;omega
    clear g q O N R
    have d5:(0:Int)<(k:Int):=by omega
    have r:=u.alloc a6 (.cells #[ab ae a.kind,ab ae a.num,aa a.name,.slice c a.args.length f] 25)
    have c5:=r.size
    have z:=zq (m.out.below ((aj _ _).alloc (ag _) (.cells #[ab ae a.kind,ab ae a.num,aa a.name,.slice c a.args.length f] 25)))
    have a4:Hid (TBx (wr.alloc (.cells #[ab ae a.kind,ab ae a.num,aa a.name,.slice c a.args.length f] 25)) wr.heap.size a c f):=zq ⟨by simp,aq _ _ _ 0,aq _ _ _ 1,aq _ _ _ 2,aq _ _ _ 3⟩
    obtain ⟨W0,s⟩:=lz (wr.alloc (.cells #[ab ae a.kind,ab ae a.num,aa a.name,.slice c a.args.length f] 25))
    have b3:=zq m.out
    have b2:Hid (∀v' w',w'.ownsRow w.heap.size 9 1 v' (d.length+1) (d.map aQ ++ #[aQ ⟨#[44]⟩].toList)->(W0.alloc (.cells #[aa ⟨#[44]⟩] 9)).grownBy w' u5.ownBlock->ax w.heap.size w w'->TBx w' wr.heap.size a c f/\OwnS 9 w.heap.size w' v' (d++[s1 44])):=zq (fun v' w' ho hg d1=>by
     have c9:some wr.heap.size≠u5.ownBlock:=fun e=>by have:=(m.out.lt _ e.symm).2;omega
     have a3:wr.heap.size<(W0.alloc (.cells #[aa ⟨#[44]⟩] 9)).heap.size:=by rw [s.out];simp;omega
     have F:=a4.out.call ((aj _ _).alloc (ag _) (.cells #[aa ⟨#[44]⟩] 9))
     rw [<-s.out] at F
     have K:∀j,w'.cell? ⟨wr.heap.size,j,none⟩=(W0.alloc (.cells #[aa ⟨#[44]⟩] 9)).cell? ⟨wr.heap.size,j,none⟩:=fun j=>hg.cell_far ⟨_,j,none⟩ a3 c9
     refine ⟨⟨aC a3 hg.size,(K 0).trans F.c0,(K 1).trans F.c1,(K 2).trans F.c2,(K 3).trans F.c3⟩,?_⟩
     unfold OwnS
     rw [aB,bC];exact ho)
    have b4:Hid (W0.ownsRow w.heap.size 9 1 u5 d.length (d.map aQ)):=by rw [s.out];exact z
    have b6:Hid (W0.heap.size=wr.heap.size+1):=zq (by rw [s.out];simp)
    have a5:ax w.heap.size w W0:=by rw [s.out];exact r
    have c4:=a5.size
    clear z a4 b3 r c5
    go_wp2_with ((with_reducible refine jF ?_);rw [<-s.out];go_must (refine dO rfl _ _ 65 9 rfl bw _ 1 16 jf rfl (by decide) w.heap.size _ _ _ rfl W0 b4.out #[aa ⟨#[44]⟩] rfl (by simp [eO]) rfl (by rw [b6.out];rfl) (by omega) (by omega) c4 ?_;intro v1 w1 a8 b9 c6;have D:=a5.trans b9;obtain ⟨G,a9⟩:=b2.out v1 w1 a8 c6 D;have z0:=G.c0;have z1:=G.c1;have z2:=G.c2;have z3:=G.c3;have b5:=zq a9;have d6:=D.size;clear a8 a9))
    refine (y.out _ D).mono ?_;rintro e w2 ⟨v2,rfl,B,E⟩
    obtain ⟨J,Y,rfl,I⟩:=E.src
    have P:=zq (b5.out.below B)
    have C:=D.trans (B.mono D.size)
    have a2:=C.size
    have V:=zq I
    have d2:(d++[s1 44]).length=d.length+1:=by simp
    clear I E z0 z1 z2 z3 G
    go_wp2_with ((with_reducible refine jF ?_);go_must (refine gO rfl _ _ 65 9 rfl bw _ 1 16 jf rfl (by decide) w.heap.size _ _ _ rfl P.out J _ Y _ rfl V.out (gh _) (by omega) (by omega) a2 w C ?_;intro v4 w4 H a1 c7))
    have Q:=zq H
    clear H
    go_roundw
    case rel=>exact ⟨k+1,by omega,by go_num,a1,by rw [U.out];refine zq ?_;unfold OwnS;rw [aB,bC];exact Q.out⟩
    case measure=>simp [intOf] <;> omega
  ·have M:l.take k=l:=bA (by have:=HN.out;omega)
   rw [M] at m
   clear M
   go_wp2_with fail
   go_ret
   exact ⟨_,rfl,u,m.out⟩
end Go.Proofs.YtlikcjbjibhjgaaGreatDoor
