/- Parts of the proof. -/
import Derived.Test.YtlikcjbjibhjgaaGreatDoorR01
import Derived.Test.YtlikcjbjibhjgaaGreatDoorR05
import Derived.ProofKit
import Derived.Deep.Slices
import Derived.Deep.Strs
import Derived.ChangeMaps5
import Derived.Carry
import Derived.Test.YtlikcjbjibhjgaaGreatDoorR28
import Derived.Test.YtlikcjbjibhjgaaGreatDoorR16
set_option maxRecDepth 100000
open Go renaming TypeId -> bD, Value -> az, World -> ai
open Go.IntKind renaming i64 -> ae, i64 -> gg
open Go.Proofs.Tryz renaming prog -> ah, underlying22 -> cD, underlying3 -> dY, underlying4 -> it, underlying9 -> cE
open Go.Value renaming bool -> am, int -> ab, int -> fK, slice -> ev, string -> aQ, string -> aa
open List renaming mem_map -> eT, mem_range -> dx, range -> aY
open Nat renaming add_zero -> bv
namespace Hb
open Go Go.RowKit
structure OpFit (o:OpR):Prop where
 typ:(Lit.int .i64 o.typ).wf=true
 prec:(Lit.int .i64 o.prec).wf=true
 name:o.name.size<=maxLen
theorem FD {n:Int} (h:(Lit.int .i64 n).wf=true):-9223372036854775808<=n/\n<=9223372036854775807:=by
 unfold Lit.wf at h;rw [Bool.and_eq_true,decide_eq_true_iff,decide_eq_true_iff] at h;exact h
end Hb
namespace Go.Proofs.YtlikcjbjibhjgaaGreatDoor
open Go.ChangeShapes Go.WideShapes Go.ChangeAt Go.RowKit Hb
theorem vK:Tryz.prog.cellsOf 39=3:=by kernel_rfl
theorem tf:Tryz.prog.cellsOf 9=1:=by kernel_rfl
theorem pO:Tryz.prog.cellsOf 3=1:=by kernel_rfl
theorem Kx {H:Type} {enc:bD×az->H} {W:ai} {fuel f:Nat} {held:Bool} {sp:Nat->Bool} {a:List az} {x:DataW H×List MemPlace} (h:DataW.trod enc ah W f sp held fuel 39 a=some x):∃o:OpR,a=dj o/\OpFit o:=by
 obtain ⟨s,t,u,k,_,b,l,m,n⟩:=Go.Deep.trod_struct3 Tryz.underlying39 h
 rw [vK] at b
 match a,b with
 | [c0,c1,c2],_=>
  obtain ⟨e,g,_,p⟩:=DataW.trod_string cE l
  obtain ⟨c,i,_,q⟩:=DataW.trod_int dY m
  obtain ⟨d,j,_,r⟩:=DataW.trod_int dY n
  have u0:[c0]=[aQ e]:=by rw [<-g];show _=List.take (Tryz.prog.cellsOf 9) _;rw [tf];rfl
  have u1:[c1]=[fK gg c]:=by rw [<-i];show _=List.take (Tryz.prog.cellsOf 3) _;rw [pO];rfl
  have u2:[c2]=[fK gg d]:=by rw [<-j];show _=List.take (Tryz.prog.cellsOf 3) _;rw [pO];rfl
  injection u0 with u0 _
  injection u1 with u1 _
  injection u2 with u2 _
  subst u0 u1 u2
  exact ⟨⟨e,c,d⟩,rfl,q,r,p⟩
theorem Np {H:Type} {enc:bD×az->H} {W:ai} {r:Reach} {E:Nat} {v:az} {d:DataW H} {T:List MemPlace} (Q:Value.okWide ah W r E 22 v)
  (h:DataW.Trod enc ah W 0 (fun _=>true) true 22 v d T):∃A n cap l,v=.slice A n cap/\n=l.length/\n<=maxLen/\OpsAt W A l/\(n=0->(ev A n cap=.slice none 0 0\/∃ad,A=some ad))/\∀o∈l,OpFit o:=by
 obtain ⟨A,n,cap,rfl⟩:=okWide_slice cD Q
 obtain ⟨fuel,K⟩:=h
 rcases Go.Deep.open_slice cD K with ⟨g,_⟩ | ⟨a,len,cap',m,k,D,Y,g,_,hl,hm,O,_,R⟩
 ·have:A=none/\n=0/\cap=0:=by simpa [Value.cells] using g
  obtain ⟨rfl,rfl,rfl⟩:=this
  exact ⟨none,0,0,[],rfl,rfl,by decide,OpsAt.nil _ _,fun _=>.inl rfl,fun o h=>absurd h (by simp)⟩
 ·have:A=some a/\n=len/\cap=cap':=by simpa [Value.cells] using g
  obtain ⟨rfl,rfl,rfl⟩:=this
  have a1:m=cap:=by simpa using O
  have S:∀i,i<n->∃x:OpR,(W.cell? (a.add (i * 3))=some (aa x.name)/\W.cell? ((a.add (i * 3)).add 1)=some (ab ae x.typ)/\W.cell? ((a.add (i * 3)).add 2)=some (ab ae x.prec))/\OpFit x:=fun i hi=>by
   obtain ⟨Z,w,J⟩:=R i (by omega)
   rw [vK] at w
   obtain ⟨_,a0,q⟩:=World.cells?_some w
   obtain ⟨o,rfl,L⟩:=Kx J
   have U:=q 0 (by omega)
   have V:=q 1 (by omega)
   have X:=q 2 (by omega)
   exact ⟨o,⟨by simpa [Addr.add,dj] using U,by simpa [dj] using V,by simpa [dj] using X⟩,L⟩
  obtain ⟨F,f⟩:=Go.Deep.choose_lt (α:=OpR) (p:=fun i x=>(W.cell? (a.add (i * 3))=some (aa x.name)/\W.cell? ((a.add (i * 3)).add 1)=some (ab ae x.typ)/\W.cell? ((a.add (i * 3)).add 2)=some (ab ae x.prec))/\OpFit x) S
  refine ⟨some a,n,cap,(aY n).map F,rfl,by simp,by omega,fun j s=>?_,fun _=>.inr ⟨a,rfl⟩,fun o C=>?_⟩
  ·have N:j<n:=by simpa using s
   have P:a.spot=none:=by
    have b:=(f 0 (by omega)).1.1
    have:a.add (0 * 3)=a:=by simp [Addr.add]
    rw [this] at b
    unfold World.cell? at b
    split at b
    ·split at b
     ·cases b
     ·rename_i M;simpa using M
    ·cases b
   have B:a=⟨a.block,a.off,none⟩:=by obtain ⟨x,y,z⟩:=a;exact congrArg (Addr.mk x y) P
   obtain ⟨⟨c,t,u⟩,_⟩:=f j N
   have e:a.add (j * 3)=⟨a.block,a.off+j * 3,none⟩:=by
    unfold Addr.add
    split
    ·rename_i b;rw [b,bv];exact B
    ·rfl
   have G:(a.add (j * 3)).add 1=⟨a.block,a.off+j * 3+1,none⟩:=by rw [e];rfl
   have I:(a.add (j * 3)).add 2=⟨a.block,a.off+j * 3+2,none⟩:=by rw [e];rfl
   rw [I] at u
   rw [G] at t
   rw [e] at c
   refine ⟨a.block,a.off,by rw [<-B],World.block_lt_of_cell? W ⟨a.block,a.off+j * 3,none⟩ c,?_,?_,?_⟩
   ·simpa using c
   ·simpa using t
   ·simpa using u
  ·rw [eT] at C
   obtain ⟨j,s,rfl⟩:=C
   exact (f j (dx.1 s)).2
theorem vr:Tryz.prog.cellsOf 25=4:=by kernel_rfl
theorem Ca:Tryz.prog.cellsOf 2=1:=by kernel_rfl
theorem AQ:Tryz.prog.cellsOf 23=1:=by kernel_rfl
def LU (t:Tm) (A:Option Addr) (a:Nat):List az:=[ab ae t.kind,ab ae t.num,aa t.name,.slice A t.args.length a]
theorem Ee {W:ai} {a:Addr} {v:az} (h:W.cell? a=some v):a=⟨a.block,a.off,none⟩:=by
 have c:a.spot=none:=by
  unfold World.cell? at h
  split at h
  ·split at h
   ·cases h
   ·rename_i b;simpa using b
  ·cases h
 obtain ⟨x,y,z⟩:=a
 exact congrArg (Addr.mk x y) c
section
variable {H:Type} {enc:bD×az->H} {W:ai} {held:Bool} {sp:Nat->Bool}
theorem Gd {w:Nat} (fuel:Nat) (N:∀m,m<fuel->∀(e:List az) x,DataW.trod enc ah W w sp held m 25 e=some x->∃t A b,e=LU t A b/\TmsAt W.heap.size W A t.args/\Tm.All (fun x=>dP x=true) t)
  {e:List az} {x:DataW H×List MemPlace} (h:DataW.trod enc ah W w sp held fuel 23 e=some x):∃A n b l,e=[.slice A n b]/\n=l.length/\n<=maxLen/\TmsAt W.heap.size W A l/\(n=0->(ev A n b=.slice none 0 0\/∃ad,A=some ad))/\∀t∈l,Tm.All (fun x=>dP x=true) t:=by
 rcases DataW.trod_slice Tryz.underlying23 h with ⟨u,_⟩ | ⟨a,len,b,T,rest,n,U,u,_,_,V,Z,X,K,_,_⟩
 ·exact ⟨none,0,0,[],u,rfl,by decide,TmsK.nil,fun _=>.inl rfl,fun t d=>by cases d⟩
 ·have O:∀i,i<len->∃r:Tm×Option Addr×Nat,(W.cell? (a.add (i * 4))=some (ab ae r.1.kind)/\W.cell? ((a.add (i * 4)).add 1)=some (ab ae r.1.num)/\W.cell? ((a.add (i * 4)).add 2)=some (aa r.1.name)/\W.cell? ((a.add (i * 4)).add 3)=some (.slice r.2.1 r.1.args.length r.2.2))/\TmsAt W.heap.size W r.2.1 r.1.args/\Tm.All (fun x=>dP x=true) r.1:=fun i M=>by
   have f:=K i M
   rw [List.getElem?_eq_getElem (by omega),Option.bind_eq_some_iff] at f
   obtain ⟨D,f,J⟩:=f
   rw [vr] at f
   obtain ⟨_,Y,q⟩:=World.cells?_some f
   obtain ⟨t,A,c,rfl,d,L⟩:=N n (by omega) D _ J
   have P:=q 0 (by omega)
   have Q:=q 1 (by omega)
   have R:=q 2 (by omega)
   have S:=q 3 (by omega)
   exact ⟨(t,A,c),⟨by simpa [Addr.add,LU] using P,by simpa [LU] using Q,by simpa [LU] using R,by simpa [LU] using S⟩,d,L⟩
  haveI:Inhabited (Tm×Option Addr×Nat):=⟨(tm0,none,0)⟩
  obtain ⟨F,p⟩:=Go.Deep.choose_lt O
  refine ⟨some a,len,b,(aY len).map fun i=>(F i).1,u,by simp,by omega,?_,fun _=>.inr ⟨a,rfl⟩,fun t d=>?_⟩
  ·refine .mk _ _ (fun j=>(F j).2.1) (fun j=>(F j).2.2) (by simp;omega) (fun j g=>?_) (fun j g=>?_)
   ·have v:j<len:=by simpa using g
    have C:a=⟨a.block,a.off,none⟩:=by
     have o:=(p 0 (by omega)).1.1
     have:a.add (0 * 4)=a:=by simp [Addr.add]
     rw [this] at o
     exact Ee o
    obtain ⟨⟨s,y,z,B⟩,_⟩:=p j v
    have k:a.add (j * 4)=⟨a.block,a.off+j * 4,none⟩:=by
     unfold Addr.add
     split
     ·rename_i o;rw [o,bv];exact C
     ·rfl
    have E:(a.add (j * 4)).add 1=⟨a.block,a.off+j * 4+1,none⟩:=by rw [k];rfl
    have G:(a.add (j * 4)).add 2=⟨a.block,a.off+j * 4+2,none⟩:=by rw [k];rfl
    have I:(a.add (j * 4)).add 3=⟨a.block,a.off+j * 4+3,none⟩:=by rw [k];rfl
    rw [I] at B
    rw [G] at z
    rw [E] at y
    rw [k] at s
    refine ⟨a.block,a.off,by rw [<-C],World.block_lt_of_cell? W ⟨a.block,a.off+j * 4,none⟩ s,?_,?_,?_,?_⟩
    ·simpa using s
    ·simpa using y
    ·simpa using z
    ·simpa using B
   ·have v:j<len:=by simpa using g
    have:=(p j v).2.1
    unfold TmsAt at this
    simpa using this
  ·rw [eT] at d
   obtain ⟨j,g,rfl⟩:=d
   exact (p j (dx.1 g)).2.2
theorem DW {i:Nat}:∀(fuel:Nat) (b:List az) x,DataW.trod enc ah W i sp held fuel 25 b=some x->∃t A a,b=LU t A a/\TmsAt W.heap.size W A t.args/\Tm.All (fun x=>dP x=true) t:=by
 intro fuel
 induction fuel using Nat.strongRecOn with
 | ind fuel ih=>
  intro b x h
  obtain ⟨xs,n,C,_,d,y,c⟩:=DataW.trod_struct Tryz.underlying25 h
  rw [vr] at d
  match b,d,xs,y with
  | [c0,c1,c2,c3],_,[y0,y1,y2,y3],_=>
   have q:=c 0 _ rfl
   have r:=c 1 _ rfl
   have s:=c 2 _ rfl
   have u:=c 3 _ rfl
   obtain ⟨e,j,_,_⟩:=DataW.trod_int dY q
   obtain ⟨f,k,_,B⟩:=DataW.trod_int Tryz.underlying2 r
   obtain ⟨g,o,_,E⟩:=DataW.trod_string cE s
   obtain ⟨A,len,a,l,p,z,_,v,_,w⟩:=Gd n (fun m D=>ih m (by omega)) u
   have u0:[c0]=[fK gg e]:=by rw [<-j];show _=List.take (Tryz.prog.cellsOf 3) _;rw [pO];rfl
   have u1:[c1]=[fK gg f]:=by rw [<-k];show _=List.take (Tryz.prog.cellsOf 2) _;rw [Ca];rfl
   have u2:[c2]=[aQ g]:=by rw [<-o];show _=List.take (Tryz.prog.cellsOf 9) _;rw [tf];rfl
   have u3:[c3]=[ev A len a]:=by rw [<-p];show _=List.take (Tryz.prog.cellsOf 23) _;rw [AQ];rfl
   injection u0 with u0 _
   injection u1 with u1 _
   injection u2 with u2 _
   injection u3 with u3 _
   subst u0 u1 u2 u3 z
   refine ⟨.mk e f g l,A,a,rfl,v,.mk _ ?_ w⟩
   exact (eX _).2 (FD B)
end
theorem MZ {H:Type} {enc:bD×az->H} {W:ai} {r:Reach} {b:Nat} {v:az} {d:DataW H} {k:List MemPlace} (j:Value.okWide ah W r b 25 v)
  (h:DataW.Trod enc ah W 0 (fun _=>true) true 25 v d k):∃t A a,v=er t A a/\TmsAt W.heap.size W A t.args/\Tm.All (fun x=>dP x=true) t:=by
 obtain ⟨c,rfl,_⟩:=okWide_struct Tryz.underlying25 j
 obtain ⟨fuel,f⟩:=h
 obtain ⟨t,A,a,i,e,g⟩:=DW _ _ _ f
 refine ⟨t,A,a,?_,e,g⟩
 have:c=(LU t A a).toArray:=by
  apply Array.ext'
  simpa [Value.cells] using i
 rw [this]
 rfl
theorem zv:Tryz.prog.cellsOf 27=3:=by kernel_rfl
theorem oD:Tryz.prog.cellsOf 4=1:=by kernel_rfl
theorem Na {H:Type} {enc:bD×az->H} {W:ai} {r:Reach} {a:Nat} {v:az} {d:DataW H} {y:List MemPlace} (u:Value.okWide ah W r a 27 v)
  (h:DataW.Trod enc ah W 0 (fun _=>true) true 27 v d y):∃o:WO,v=o.v:=by
 obtain ⟨f,rfl,_⟩:=okWide_struct Tryz.underlying27 u
 obtain ⟨fuel,s⟩:=h
 have w:∀(l:List az) x,DataW.trod enc ah W 0 (fun _=>true) true fuel 27 l=some x->∃o:WO,l=[.bool o.q,.bool o.ig,.bool o.nu]:=fun l x h=>by
  obtain ⟨z,A,B,k,_,e,m,n,p⟩:=Go.Deep.trod_struct3 Tryz.underlying27 h
  rw [zv] at e
  match l,e with
  | [c0,c1,c2],_=>
   obtain ⟨a,g,_⟩:=DataW.trod_bool it m
   obtain ⟨b,i,_⟩:=DataW.trod_bool it n
   obtain ⟨c,j,_⟩:=DataW.trod_bool it p
   have u0:[c0]=[Value.bool a]:=by rw [<-g];show _=List.take (Tryz.prog.cellsOf 4) _;rw [oD];rfl
   have u1:[c1]=[Value.bool b]:=by rw [<-i];show _=List.take (Tryz.prog.cellsOf 4) _;rw [oD];rfl
   have u2:[c2]=[Value.bool c]:=by rw [<-j];show _=List.take (Tryz.prog.cellsOf 4) _;rw [oD];rfl
   injection u0 with u0 _
   injection u1 with u1 _
   injection u2 with u2 _
   subst u0 u1 u2
   exact ⟨⟨a,b,c⟩,rfl⟩
 obtain ⟨o,t⟩:=w _ _ s
 refine ⟨o,?_⟩
 have:f=#[am o.q,am o.ig,am o.nu]:=by
  apply Array.ext'
  simpa [Value.cells] using t
 rw [this]
 rfl
end Go.Proofs.YtlikcjbjibhjgaaGreatDoor
