/- Parts of the proof. -/
import Derived.Test.YtgapnafkelokaaaGreatDoorR01
import Derived.Test.YtgapnafkelokaaaGreatDoorR05
import Derived.ProofKit
import Derived.Deep.Slices
import Derived.Deep.Strs
import Derived.ChangeMaps5
import Derived.Carry
import Derived.Test.YtgapnafkelokaaaGreatDoorR11
import Derived.Test.YtgapnafkelokaaaGreatDoorR22
set_option maxRecDepth 100000
open Go renaming TypeId -> bJ, Value -> aA, World -> aj
open Go.IntKind renaming i64 -> ae, i64 -> eN
open Go.Proofs.Tryz renaming prog -> ah, underlying3 -> dL, underlying4 -> fL, underlying9 -> ci
open Go.Value renaming bool -> an, bool -> fx, int -> ab, int -> fK, slice -> ex, string -> aM, string -> aa
open List renaming mem_map -> fe, mem_range -> dB, range -> aX, take -> eK
open Nat renaming add_zero -> bq
namespace Hb
open Go Go.RowKit
structure OpFit (o:OpR):Prop where
 typ:(Lit.int .i64 o.typ).wf=true
 prec:(Lit.int .i64 o.prec).wf=true
 name:o.name.size<=maxLen
theorem Di {n:Int} (h:(Lit.int .i64 n).wf=true):-9223372036854775808<=n/\n<=9223372036854775807:=by
 unfold Lit.wf at h;rw [Bool.and_eq_true,decide_eq_true_iff,decide_eq_true_iff] at h;exact h
end Hb
namespace Go.Proofs.YtgapnafkelokaaaGreatDoor
open Go.ChangeShapes Go.WideShapes Go.ChangeAt Go.RowKit Hb
theorem ue:Tryz.prog.cellsOf 80=3:=by kernel_rfl
theorem rD:Tryz.prog.cellsOf 9=1:=by kernel_rfl
theorem kO:Tryz.prog.cellsOf 3=1:=by kernel_rfl
theorem GZ {H:Type} {enc:bJ×aA->H} {W:aj} {fuel f:Nat} {held:Bool} {sp:Nat->Bool} {a:List aA} {x:DataW H×List MemPlace} (h:DataW.trod enc ah W f sp held fuel 80 a=some x):∃o:OpR,a=nH o/\OpFit o:=by
 obtain ⟨s,t,u,k,_,b,l,m,n⟩:=Go.Deep.trod_struct3 Tryz.underlying80 h
 rw [ue] at b
 match a,b with
 | [c0,c1,c2],_=>
  obtain ⟨e,g,_,p⟩:=DataW.trod_string ci l
  obtain ⟨c,i,_,q⟩:=DataW.trod_int dL m
  obtain ⟨d,j,_,r⟩:=DataW.trod_int dL n
  have u0:[c0]=[aM e]:=by rw [<-g];show _=eK (Tryz.prog.cellsOf 9) _;rw [rD];rfl
  have u1:[c1]=[fK eN c]:=by rw [<-i];show _=eK (Tryz.prog.cellsOf 3) _;rw [kO];rfl
  have u2:[c2]=[fK eN d]:=by rw [<-j];show _=eK (Tryz.prog.cellsOf 3) _;rw [kO];rfl
  injection u0 with u0 _
  injection u1 with u1 _
  injection u2 with u2 _
  subst u0 u1 u2
  exact ⟨⟨e,c,d⟩,rfl,q,r,p⟩
theorem KD {H:Type} {enc:bJ×aA->H} {W:aj} {r:Reach} {E:Nat} {v:aA} {d:DataW H} {T:List MemPlace} (Q:Value.okWide ah W r E 25 v)
  (h:DataW.Trod enc ah W 0 (fun _=>true) true 25 v d T):∃A n cap l,v=.slice A n cap/\n=l.length/\n<=maxLen/\OpsAt W A l/\(n=0->(ex A n cap=.slice none 0 0\/∃ad,A=some ad))/\∀o∈l,OpFit o:=by
 obtain ⟨A,n,cap,rfl⟩:=okWide_slice Tryz.underlying25 Q
 obtain ⟨fuel,K⟩:=h
 rcases Go.Deep.open_slice Tryz.underlying25 K with ⟨g,_⟩ | ⟨a,len,cap',m,k,D,Y,g,_,hl,hm,O,_,R⟩
 ·have:A=none/\n=0/\cap=0:=by simpa [Value.cells] using g
  obtain ⟨rfl,rfl,rfl⟩:=this
  exact ⟨none,0,0,[],rfl,rfl,by decide,OpsAt.nil _ _,fun _=>.inl rfl,fun o h=>absurd h (by simp)⟩
 ·have:A=some a/\n=len/\cap=cap':=by simpa [Value.cells] using g
  obtain ⟨rfl,rfl,rfl⟩:=this
  have a1:m=cap:=by simpa using O
  have S:∀i,i<n->∃x:OpR,(W.cell? (a.add (i * 3))=some (aa x.name)/\W.cell? ((a.add (i * 3)).add 1)=some (ab ae x.typ)/\W.cell? ((a.add (i * 3)).add 2)=some (ab ae x.prec))/\OpFit x:=fun i hi=>by
   obtain ⟨Z,w,J⟩:=R i (by omega)
   rw [ue] at w
   obtain ⟨_,a0,q⟩:=World.cells?_some w
   obtain ⟨o,rfl,L⟩:=GZ J
   have U:=q 0 (by omega)
   have V:=q 1 (by omega)
   have X:=q 2 (by omega)
   exact ⟨o,⟨by simpa [Addr.add,nH] using U,by simpa [nH] using V,by simpa [nH] using X⟩,L⟩
  obtain ⟨F,f⟩:=Go.Deep.choose_lt (α:=OpR) (p:=fun i x=>(W.cell? (a.add (i * 3))=some (aa x.name)/\W.cell? ((a.add (i * 3)).add 1)=some (ab ae x.typ)/\W.cell? ((a.add (i * 3)).add 2)=some (ab ae x.prec))/\OpFit x) S
  refine ⟨some a,n,cap,(aX n).map F,rfl,by simp,by omega,fun j s=>?_,fun _=>.inr ⟨a,rfl⟩,fun o C=>?_⟩
  ·have N:j<n:=by simpa using s
   have P:a.spot=none:=by
    have b:=(f 0 (by omega)).1.1
    have:a.add (0 * 3)=a:=by simp [Addr.add]
    rw [this] at b
    unfold World.cell? at b
    split at b
    ·split at b
     ·cases b
     ·rename_i M;simpa using M
    ·cases b
   have B:a=⟨a.block,a.off,none⟩:=by obtain ⟨x,y,z⟩:=a;exact congrArg (Addr.mk x y) P
   obtain ⟨⟨c,t,u⟩,_⟩:=f j N
   have e:a.add (j * 3)=⟨a.block,a.off+j * 3,none⟩:=by
    unfold Addr.add
    split
    ·rename_i b;rw [b,bq];exact B
    ·rfl
   have G:(a.add (j * 3)).add 1=⟨a.block,a.off+j * 3+1,none⟩:=by rw [e];rfl
   have I:(a.add (j * 3)).add 2=⟨a.block,a.off+j * 3+2,none⟩:=by rw [e];rfl
   rw [I] at u
   rw [G] at t
   rw [e] at c
   refine ⟨a.block,a.off,by rw [<-B],World.block_lt_of_cell? W ⟨a.block,a.off+j * 3,none⟩ c,?_,?_,?_⟩
   ·simpa using c
   ·simpa using t
   ·simpa using u
  ·rw [fe] at C
   obtain ⟨j,s,rfl⟩:=C
   exact (f j (dB.1 s)).2
theorem nk:Tryz.prog.cellsOf 24=4:=by kernel_rfl
theorem zM:Tryz.prog.cellsOf 2=1:=by kernel_rfl
theorem yJ:Tryz.prog.cellsOf 22=1:=by kernel_rfl
def DC (t:Tm) (A:Option Addr) (a:Nat):List aA:=[ab ae t.kind,ab ae t.num,aa t.name,.slice A t.args.length a]
theorem Bz {W:aj} {a:Addr} {v:aA} (h:W.cell? a=some v):a=⟨a.block,a.off,none⟩:=by
 have c:a.spot=none:=by
  unfold World.cell? at h
  split at h
  ·split at h
   ·cases h
   ·rename_i b;simpa using b
  ·cases h
 obtain ⟨x,y,z⟩:=a
 exact congrArg (Addr.mk x y) c
section
variable {H:Type} {enc:bJ×aA->H} {W:aj} {held:Bool} {sp:Nat->Bool}
theorem DA {w:Nat} (fuel:Nat) (N:∀m,m<fuel->∀(e:List aA) x,DataW.trod enc ah W w sp held m 24 e=some x->∃t A b,e=DC t A b/\TmsAt W.heap.size W A t.args/\Tm.All (fun x=>cV x=true) t)
  {e:List aA} {x:DataW H×List MemPlace} (h:DataW.trod enc ah W w sp held fuel 22 e=some x):∃A n b l,e=[.slice A n b]/\n=l.length/\n<=maxLen/\TmsAt W.heap.size W A l/\(n=0->(ex A n b=.slice none 0 0\/∃ad,A=some ad))/\∀t∈l,Tm.All (fun x=>cV x=true) t:=by
 rcases DataW.trod_slice Tryz.underlying22 h with ⟨u,_⟩ | ⟨a,len,b,T,rest,n,U,u,_,_,V,Z,X,K,_,_⟩
 ·exact ⟨none,0,0,[],u,rfl,by decide,TmsK.nil,fun _=>.inl rfl,fun t d=>by cases d⟩
 ·have O:∀i,i<len->∃r:Tm×Option Addr×Nat,(W.cell? (a.add (i * 4))=some (ab ae r.1.kind)/\W.cell? ((a.add (i * 4)).add 1)=some (ab ae r.1.num)/\W.cell? ((a.add (i * 4)).add 2)=some (aa r.1.name)/\W.cell? ((a.add (i * 4)).add 3)=some (.slice r.2.1 r.1.args.length r.2.2))/\TmsAt W.heap.size W r.2.1 r.1.args/\Tm.All (fun x=>cV x=true) r.1:=fun i M=>by
   have f:=K i M
   rw [List.getElem?_eq_getElem (by omega),Option.bind_eq_some_iff] at f
   obtain ⟨D,f,J⟩:=f
   rw [nk] at f
   obtain ⟨_,Y,q⟩:=World.cells?_some f
   obtain ⟨t,A,c,rfl,d,L⟩:=N n (by omega) D _ J
   have P:=q 0 (by omega)
   have Q:=q 1 (by omega)
   have R:=q 2 (by omega)
   have S:=q 3 (by omega)
   exact ⟨(t,A,c),⟨by simpa [Addr.add,DC] using P,by simpa [DC] using Q,by simpa [DC] using R,by simpa [DC] using S⟩,d,L⟩
  haveI:Inhabited (Tm×Option Addr×Nat):=⟨(tm0,none,0)⟩
  obtain ⟨F,p⟩:=Go.Deep.choose_lt O
  refine ⟨some a,len,b,(aX len).map fun i=>(F i).1,u,by simp,by omega,?_,fun _=>.inr ⟨a,rfl⟩,fun t d=>?_⟩
  ·refine .mk _ _ (fun j=>(F j).2.1) (fun j=>(F j).2.2) (by simp;omega) (fun j g=>?_) (fun j g=>?_)
   ·have v:j<len:=by simpa using g
    have C:a=⟨a.block,a.off,none⟩:=by
     have o:=(p 0 (by omega)).1.1
     have:a.add (0 * 4)=a:=by simp [Addr.add]
     rw [this] at o
     exact Bz o
    obtain ⟨⟨s,y,z,B⟩,_⟩:=p j v
    have k:a.add (j * 4)=⟨a.block,a.off+j * 4,none⟩:=by
     unfold Addr.add
     split
     ·rename_i o;rw [o,bq];exact C
     ·rfl
    have E:(a.add (j * 4)).add 1=⟨a.block,a.off+j * 4+1,none⟩:=by rw [k];rfl
    have G:(a.add (j * 4)).add 2=⟨a.block,a.off+j * 4+2,none⟩:=by rw [k];rfl
    have I:(a.add (j * 4)).add 3=⟨a.block,a.off+j * 4+3,none⟩:=by rw [k];rfl
    rw [I] at B
    rw [G] at z
    rw [E] at y
    rw [k] at s
    refine ⟨a.block,a.off,by rw [<-C],World.block_lt_of_cell? W ⟨a.block,a.off+j * 4,none⟩ s,?_,?_,?_,?_⟩
    ·simpa using s
    ·simpa using y
    ·simpa using z
    ·simpa using B
   ·have v:j<len:=by simpa using g
    have:=(p j v).2.1
    unfold TmsAt at this
    simpa using this
  ·rw [fe] at d
   obtain ⟨j,g,rfl⟩:=d
   exact (p j (dB.1 g)).2.2
theorem pH {i:Nat}:∀(fuel:Nat) (b:List aA) x,DataW.trod enc ah W i sp held fuel 24 b=some x->∃t A a,b=DC t A a/\TmsAt W.heap.size W A t.args/\Tm.All (fun x=>cV x=true) t:=by
 intro fuel
 induction fuel using Nat.strongRecOn with
 | ind fuel ih=>
  intro b x h
  obtain ⟨xs,n,C,_,d,y,c⟩:=DataW.trod_struct Tryz.underlying24 h
  rw [nk] at d
  match b,d,xs,y with
  | [c0,c1,c2,c3],_,[y0,y1,y2,y3],_=>
   have q:=c 0 _ rfl
   have r:=c 1 _ rfl
   have s:=c 2 _ rfl
   have u:=c 3 _ rfl
   obtain ⟨e,j,_,_⟩:=DataW.trod_int dL q
   obtain ⟨f,k,_,B⟩:=DataW.trod_int Tryz.underlying2 r
   obtain ⟨g,o,_,E⟩:=DataW.trod_string ci s
   obtain ⟨A,len,a,l,p,z,_,v,_,w⟩:=DA n (fun m D=>ih m (by omega)) u
   have u0:[c0]=[fK eN e]:=by rw [<-j];show _=eK (Tryz.prog.cellsOf 3) _;rw [kO];rfl
   have u1:[c1]=[fK eN f]:=by rw [<-k];show _=eK (Tryz.prog.cellsOf 2) _;rw [zM];rfl
   have u2:[c2]=[aM g]:=by rw [<-o];show _=eK (Tryz.prog.cellsOf 9) _;rw [rD];rfl
   have u3:[c3]=[ex A len a]:=by rw [<-p];show _=eK (Tryz.prog.cellsOf 22) _;rw [yJ];rfl
   injection u0 with u0 _
   injection u1 with u1 _
   injection u2 with u2 _
   injection u3 with u3 _
   subst u0 u1 u2 u3 z
   refine ⟨.mk e f g l,A,a,rfl,v,.mk _ ?_ w⟩
   exact (fh _).2 (Di B)
end
theorem Ka {H:Type} {enc:bJ×aA->H} {W:aj} {r:Reach} {b:Nat} {v:aA} {d:DataW H} {k:List MemPlace} (j:Value.okWide ah W r b 24 v)
  (h:DataW.Trod enc ah W 0 (fun _=>true) true 24 v d k):∃t A a,v=dR t A a/\TmsAt W.heap.size W A t.args/\Tm.All (fun x=>cV x=true) t:=by
 obtain ⟨c,rfl,_⟩:=okWide_struct Tryz.underlying24 j
 obtain ⟨fuel,f⟩:=h
 obtain ⟨t,A,a,i,e,g⟩:=pH _ _ _ f
 refine ⟨t,A,a,?_,e,g⟩
 have:c=(DC t A a).toArray:=by
  apply Array.ext'
  simpa [Value.cells] using i
 rw [this]
 rfl
theorem CQ:Tryz.prog.cellsOf 38=8:=by kernel_rfl
theorem ID {H:Type} {enc:bJ×aA->H} {W:aj} {r:Reach} {b:Nat} {v:aA} {d:DataW H} {y:List MemPlace} (w:Value.okWide ah W r b 38 v)
  (h:DataW.Trod enc ah W 0 (fun _=>true) true 38 v d y):∃t u A B c d,v=IJ t u A B c d/\TmsAt W.heap.size W A t.args/\TmsAt W.heap.size W B u.args/\Tm.All (fun x=>cV x=true) t/\Tm.All (fun x=>cV x=true) u:=by
 obtain ⟨a,rfl,_⟩:=okWide_struct Tryz.underlying38 w
 obtain ⟨fuel,o⟩:=h
 obtain ⟨z,C,n,_,s,g,i⟩:=Go.ChangeShapes.trod_struct2 Tryz.underlying38 o
 obtain ⟨t,A,c,j,l,p⟩:=pH _ _ _ g
 obtain ⟨u,B,d',k,m,q⟩:=pH _ _ _ i
 refine ⟨t,u,A,B,c,d',?_,l,m,p,q⟩
 rw [CQ] at s
 have e:((Value.agg a).cells.toList).take 4=DC t A c:=by
  rw [<-j];show _=eK (Tryz.prog.cellsOf 24) _;rw [nk];rfl
 have f:((Value.agg a).cells.toList).drop 4=DC u B d':=by
  rw [<-k];show _=eK (Tryz.prog.cellsOf 24) _;rw [nk]
  show _=eK 4 (List.drop 4 _)
  rw [List.take_of_length_le]
  rw [List.length_drop];omega
 have:a=(DC t A c++DC u B d').toArray:=by
  apply Array.ext'
  have:=List.take_append_drop 4 (Value.agg a).cells.toList
  rw [e,f] at this
  simpa [Value.cells] using this.symm
 rw [this]
 rfl
theorem xy:Tryz.prog.cellsOf 27=3:=by kernel_rfl
theorem kg:Tryz.prog.cellsOf 4=1:=by kernel_rfl
theorem Kb {H:Type} {enc:bJ×aA->H} {W:aj} {r:Reach} {a:Nat} {v:aA} {d:DataW H} {y:List MemPlace} (u:Value.okWide ah W r a 27 v)
  (h:DataW.Trod enc ah W 0 (fun _=>true) true 27 v d y):∃o:WO,v=o.v:=by
 obtain ⟨f,rfl,_⟩:=okWide_struct Tryz.underlying27 u
 obtain ⟨fuel,s⟩:=h
 have w:∀(l:List aA) x,DataW.trod enc ah W 0 (fun _=>true) true fuel 27 l=some x->∃o:WO,l=[.bool o.q,.bool o.ig,.bool o.nu]:=fun l x h=>by
  obtain ⟨z,A,B,k,_,e,m,n,p⟩:=Go.Deep.trod_struct3 Tryz.underlying27 h
  rw [xy] at e
  match l,e with
  | [c0,c1,c2],_=>
   obtain ⟨a,g,_⟩:=DataW.trod_bool fL m
   obtain ⟨b,i,_⟩:=DataW.trod_bool fL n
   obtain ⟨c,j,_⟩:=DataW.trod_bool fL p
   have u0:[c0]=[fx a]:=by rw [<-g];show _=eK (Tryz.prog.cellsOf 4) _;rw [kg];rfl
   have u1:[c1]=[fx b]:=by rw [<-i];show _=eK (Tryz.prog.cellsOf 4) _;rw [kg];rfl
   have u2:[c2]=[fx c]:=by rw [<-j];show _=eK (Tryz.prog.cellsOf 4) _;rw [kg];rfl
   injection u0 with u0 _
   injection u1 with u1 _
   injection u2 with u2 _
   subst u0 u1 u2
   exact ⟨⟨a,b,c⟩,rfl⟩
 obtain ⟨o,t⟩:=w _ _ s
 refine ⟨o,?_⟩
 have:f=#[an o.q,an o.ig,an o.nu]:=by
  apply Array.ext'
  simpa [Value.cells] using t
 rw [this]
 rfl
theorem CE:Tryz.prog.cellsOf 53=4:=by kernel_rfl
theorem Jn {H:Type} {enc:bJ×aA->H} {W:aj} {r:Reach} {k:Nat} {v:aA} {d:DataW H} {G:List MemPlace} (E:Value.okWide ah W r k 53 v)
  (h:DataW.Trod enc ah W 0 (fun _=>true) true 53 v d G):∃f:FlR,v=Ke f:=by
 obtain ⟨m,rfl,_⟩:=okWide_struct Tryz.underlying53 E
 obtain ⟨fuel,a⟩:=h
 have F:∀(l:List aA) x,DataW.trod enc ah W 0 (fun _=>true) true fuel 53 l=some x->∃f:FlR,l=[.int .i64 f.q,.int .i64 f.u,.bool f.c,.bool f.d]:=fun l x h=>by
  obtain ⟨xs,n,I,_,g,C,a⟩:=DataW.trod_struct Tryz.underlying53 h
  rw [CE] at g
  match l,g,xs,C with
  | [c0,c1,c2,c3],_,[y0,y1,y2,y3],_=>
   have y:=a 0 _ rfl
   have z:=a 1 _ rfl
   have A:=a 2 _ rfl
   have B:=a 3 _ rfl
   obtain ⟨i,p,_,_⟩:=DataW.trod_int dL y
   obtain ⟨j,s,_,_⟩:=DataW.trod_int dL z
   obtain ⟨b,t,_⟩:=DataW.trod_bool fL A
   obtain ⟨e,w,_⟩:=DataW.trod_bool fL B
   have u0:[c0]=[fK eN i]:=by rw [<-p];show _=eK (Tryz.prog.cellsOf 3) _;rw [kO];rfl
   have u1:[c1]=[fK eN j]:=by rw [<-s];show _=eK (Tryz.prog.cellsOf 3) _;rw [kO];rfl
   have u2:[c2]=[fx b]:=by rw [<-t];show _=eK (Tryz.prog.cellsOf 4) _;rw [kg];rfl
   have u3:[c3]=[fx e]:=by rw [<-w];show _=eK (Tryz.prog.cellsOf 4) _;rw [kg];rfl
   injection u0 with u0 _
   injection u1 with u1 _
   injection u2 with u2 _
   injection u3 with u3 _
   subst u0 u1 u2 u3
   exact ⟨⟨i,j,b,e⟩,rfl⟩
 obtain ⟨o,D⟩:=F _ _ a
 refine ⟨o,?_⟩
 have:m=#[ab ae o.q,ab ae o.u,an o.c,an o.d]:=by
  apply Array.ext'
  simpa [Value.cells] using D
 rw [this]
 rfl
end Go.Proofs.YtgapnafkelokaaaGreatDoor
