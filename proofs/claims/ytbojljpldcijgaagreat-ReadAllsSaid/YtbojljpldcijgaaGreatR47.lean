/- Parts of the proof. -/
import Derived.Test.YtbojljpldcijgaaGreatR01
import Derived.Test.YtbojljpldcijgaaGreatR13
import Derived.ProofKit
import Derived.Deep.Slices
import Derived.Deep.Strs
import Derived.ChangeMaps5
import Derived.Carry
import Derived.Test.YtbojljpldcijgaaGreatR24
set_option maxRecDepth 100000
open Go renaming Value -> aC, maxLen -> bF
open Go.IntKind renaming i64 -> ab, i64 -> dN
open Go.Proofs.Tryz renaming prog -> am, underlying3 -> ez
open Go.Value renaming bool -> av, bool -> dh, int -> aa, int -> dA, slice -> dc
open List renaming getElem?_eq_getElem -> bi, range -> aM, take -> gJ
open Nat renaming add_zero -> bj
namespace Hb
open Go Go.RowKit
structure OpFit (o:OpR):Prop where
 typ:(Lit.int .i64 o.typ).wf=true
 prec:(Lit.int .i64 o.prec).wf=true
 name:o.name.size<=bF
end Hb
namespace Go.Proofs.YtbojljpldcijgaaGreat
open Go.ChangeShapes Go.WideShapes Go.ChangeAt Go.RowKit Hb
theorem qX:Tryz.prog.cellsOf 61=3:=by kernel_rfl
theorem uo:Tryz.prog.cellsOf 9=1:=by kernel_rfl
theorem jl:Tryz.prog.cellsOf 3=1:=by kernel_rfl
theorem Aj {H:Type} {enc:TypeId×aC->H} {W:World} {l f:Nat} {held:Bool} {sp:Nat->Bool} {a:List aC} {x:DataW H×List MemPlace} (h:DataW.trod enc am W f sp held l 61 a=some x):∃o:OpR,a=fd o/\OpFit o:=by
 obtain ⟨t,u,v,k,_,b,m,n,p⟩:=Go.Deep.trod_struct3 Tryz.underlying61 h
 rw [qX] at b
 match a,b with
 | [c0,c1,c2],_=>
  obtain ⟨e,g,_,q⟩:=DataW.trod_string Tryz.underlying9 m
  obtain ⟨c,i,_,r⟩:=DataW.trod_int ez n
  obtain ⟨d,j,_,s⟩:=DataW.trod_int ez p
  have u0:[c0]=[Value.string e]:=by rw [<-g];show _=gJ (Tryz.prog.cellsOf 9) _;rw [uo];rfl
  have u1:[c1]=[dA dN c]:=by rw [<-i];show _=gJ (Tryz.prog.cellsOf 3) _;rw [jl];rfl
  have u2:[c2]=[dA dN d]:=by rw [<-j];show _=gJ (Tryz.prog.cellsOf 3) _;rw [jl];rfl
  injection u0 with u0 _
  injection u1 with u1 _
  injection u2 with u2 _
  subst u0 u1 u2
  exact ⟨⟨e,c,d⟩,rfl,r,s,q⟩
theorem qH {W:World} {a:Addr} {v:aC} (h:W.cell? a=some v):a=⟨a.block,a.off,none⟩:=by
 have c:a.spot=none:=by
  unfold World.cell? at h
  split at h
  ·split at h
   ·cases h
   ·rename_i b;simpa using b
  ·cases h
 obtain ⟨x,y,z⟩:=a
 exact congrArg (Addr.mk x y) c
theorem rl:Tryz.prog.cellsOf 24=4:=by kernel_rfl
theorem oH:Tryz.prog.cellsOf 4=1:=by kernel_rfl
theorem ti:Tryz.prog.cellsOf 131=2:=by kernel_rfl
theorem wO:Tryz.prog.cellsOf 27=6:=by kernel_rfl
theorem uK:Tryz.prog.cellsOf 22=1:=by kernel_rfl
theorem uH:Tryz.prog.cellsOf 25=1:=by kernel_rfl
section
variable {H:Type} {enc:TypeId×aC->H} {W:World} {held:Bool} {sp:Nat->Bool}
theorem xe {y u:Nat} {r:List aC} {x:DataW H×List MemPlace} (h:DataW.trod enc am W u sp held y 22 r=some x):∃A n c l,r=[.slice A n c]/\n=l.length/\n<=bF/\OpsAt W A l/\(n=0->(dc A n c=.slice none 0 0\/∃ad,A=some ad)):=by
 rcases DataW.trod_slice Tryz.underlying22 h with ⟨g,_⟩ | ⟨a,len,c,M,S,n,N,g,_,_,O,R,P,B,_,_⟩
 ·exact ⟨none,0,0,[],g,rfl,by decide,OpsAt.nil _ _,fun _=>.inl rfl⟩
 ·have G:∀i,i<len->∃x:OpR,W.cell? (a.add (i * 3))=some (.string x.name)/\W.cell? ((a.add (i * 3)).add 1)=some (aa ab x.typ)/\W.cell? ((a.add (i * 3)).add 2)=some (aa ab x.prec):=fun i C=>by
   have b:=B i C
   rw [bi (by omega),Option.bind_eq_some_iff] at b
   obtain ⟨L,b,z⟩:=b
   rw [qX] at b
   obtain ⟨_,Q,k⟩:=World.cells?_some b
   obtain ⟨o,rfl,_⟩:=Aj z
   have I:=k 0 (by omega)
   have J:=k 1 (by omega)
   have K:=k 2 (by omega)
   exact ⟨o,by simpa [Addr.add,fd] using I,by simpa [fd] using J,by simpa [fd] using K⟩
  obtain ⟨F,s⟩:=Go.Deep.choose_lt (α:=OpR) (p:=fun i x=>W.cell? (a.add (i * 3))=some (.string x.name)/\W.cell? ((a.add (i * 3)).add 1)=some (aa ab x.typ)/\W.cell? ((a.add (i * 3)).add 2)=some (aa ab x.prec)) G
  refine ⟨some a,len,c,(aM len).map F,g,by simp,by omega,fun j D=>?_,fun _=>.inr ⟨a,rfl⟩⟩
  have E:j<len:=by simpa using D
  have t:a=⟨a.block,a.off,none⟩:=by
   have d:=(s 0 (by omega)).1
   have:a.add (0 * 3)=a:=by simp [Addr.add]
   rw [this] at d
   exact qH d
  obtain ⟨e,m,q⟩:=s j E
  have f:a.add (j * 3)=⟨a.block,a.off+j * 3,none⟩:=by
   unfold Addr.add
   split
   ·rename_i d;rw [d,bj];exact t
   ·rfl
  have v:(a.add (j * 3)).add 1=⟨a.block,a.off+j * 3+1,none⟩:=by rw [f];rfl
  have w:(a.add (j * 3)).add 2=⟨a.block,a.off+j * 3+2,none⟩:=by rw [f];rfl
  rw [w] at q
  rw [v] at m
  rw [f] at e
  refine ⟨a.block,a.off,by rw [<-t],World.block_lt_of_cell? W ⟨a.block,a.off+j * 3,none⟩ e,?_,?_,?_⟩
  ·simpa using e
  ·simpa using m
  ·simpa using q
theorem xd {y v:Nat} {o:List aC} {x:DataW H×List MemPlace} (h:DataW.trod enc am W v sp held y 25 o=some x):∃A n f l,o=[.slice A n f]/\n=l.length/\n<=bF/\Pairs W A l/\(n=0->(dc A n f=.slice none 0 0\/∃ad,A=some ad)):=by
 rcases DataW.trod_slice Tryz.underlying25 h with ⟨m,_⟩ | ⟨a,len,f,N,T,n,O,m,_,_,P,R,Q,D,_,_⟩
 ·exact ⟨none,0,0,[],m,rfl,by decide,Pairs.nil _ _,fun _=>.inl rfl⟩
 ·have K:∀i,i<len->∃x:Int×Int,W.cell? (a.add (i * 2))=some (aa ab x.1)/\W.cell? ((a.add (i * 2)).add 1)=some (aa ab x.2):=fun i E=>by
   have d:=D i E
   rw [bi (by omega),Option.bind_eq_some_iff] at d
   obtain ⟨w,d,C⟩:=d
   rw [ti] at d
   obtain ⟨_,J,s⟩:=World.cells?_some d
   obtain ⟨U,V,S,_,_,z,B⟩:=trod_struct2 Tryz.underlying131 C
   match w,J with
   | [b,e],_=>
    obtain ⟨t,c,_⟩:=DataW.trod_int ez z
    obtain ⟨u,g,_⟩:=DataW.trod_int ez B
    have u0:[b]=[dA dN t]:=by rw [<-c];show _=gJ (Tryz.prog.cellsOf 3) _;rw [jl];rfl
    have u1:[e]=[dA dN u]:=by rw [<-g];show _=gJ (Tryz.prog.cellsOf 3) _;rw [jl];rfl
    have L:=s 0 (by omega)
    have M:=s 1 (by omega)
    clear c g
    injection u0 with u0 _
    injection u1 with u1 _
    subst u0 u1
    exact ⟨(t,u),by simpa [Addr.add] using L,by simpa using M⟩
  obtain ⟨F,q⟩:=Go.Deep.choose_lt (α:=Int×Int) (p:=fun i x=>W.cell? (a.add (i * 2))=some (aa ab x.1)/\W.cell? ((a.add (i * 2)).add 1)=some (aa ab x.2)) K
  refine ⟨some a,len,f,(aM len).map F,m,by simp,by omega,fun j G=>?_,fun _=>.inr ⟨a,rfl⟩⟩
  have I:j<len:=by simpa using G
  have r:a=⟨a.block,a.off,none⟩:=by
   have k:=(q 0 (by omega)).1
   have:a.add (0 * 2)=a:=by simp [Addr.add]
   rw [this] at k
   exact qH k
  obtain ⟨b,e⟩:=q j I
  have c:a.add (j * 2)=⟨a.block,a.off+j * 2,none⟩:=by
   unfold Addr.add
   split
   ·rename_i k;rw [k,bj];exact r
   ·rfl
  have g:(a.add (j * 2)).add 1=⟨a.block,a.off+j * 2+1,none⟩:=by rw [c];rfl
  rw [g] at e
  rw [c] at b
  refine ⟨a.block,a.off,by rw [<-r],World.block_lt_of_cell? W ⟨a.block,a.off+j * 2,none⟩ b,?_,?_⟩
  ·simpa using b
  ·simpa using e
theorem yZ {s k:Nat} {l:List aC} {x:DataW H×List MemPlace} (h:DataW.trod enc am W k sp held s 24 l=some x):∃f:FlR,l=[.int .i64 f.q,.int .i64 f.u,.bool f.c,.bool f.d]:=by
 obtain ⟨A,n,B,_,g,z,a⟩:=DataW.trod_struct Tryz.underlying24 h
 rw [rl] at g
 match l,g,A,z with
 | [c0,c1,c2,c3],_,[y0,y1,y2,y3],_=>
  have t:=a 0 _ rfl
  have v:=a 1 _ rfl
  have w:=a 2 _ rfl
  have y:=a 3 _ rfl
  obtain ⟨i,m,_,_⟩:=DataW.trod_int ez t
  obtain ⟨j,o,_,_⟩:=DataW.trod_int ez v
  obtain ⟨b,p,_⟩:=DataW.trod_bool Tryz.underlying4 w
  obtain ⟨e,r,_⟩:=DataW.trod_bool Tryz.underlying4 y
  have u0:[c0]=[dA dN i]:=by rw [<-m];show _=gJ (Tryz.prog.cellsOf 3) _;rw [jl];rfl
  have u1:[c1]=[dA dN j]:=by rw [<-o];show _=gJ (Tryz.prog.cellsOf 3) _;rw [jl];rfl
  have u2:[c2]=[dh b]:=by rw [<-p];show _=gJ (Tryz.prog.cellsOf 4) _;rw [oH];rfl
  have u3:[c3]=[dh e]:=by rw [<-r];show _=gJ (Tryz.prog.cellsOf 4) _;rw [oH];rfl
  injection u0 with u0 _
  injection u1 with u1 _
  injection u2 with u2 _
  injection u3 with u3 _
  subst u0 u1 u2 u3
  exact ⟨⟨i,j,b,e⟩,rfl⟩
end
theorem AJ {H:Type} {enc:TypeId×aC->H} {W:World} {r:Reach} {p:Nat} {v:aC} {d:DataW H} {Q:List MemPlace} (O:Value.okWide am W r p 27 v)
  (h:DataW.Trod enc am W 0 (fun _=>true) true 27 v d Q):∃e on i,∃f:FlR,∃b a g l j,v=.agg #[.slice e on i,.int .i64 f.q,.int .i64 f.u,.bool f.c,.bool f.d,.slice b a g]/\Tab W e on i l/\on<=bF/\a=j.length/\a<=bF/\Pairs W b j/\(a=0->(dc b a g=.slice none 0 0\/∃ad,b=some ad)):=by
 obtain ⟨s,rfl,_⟩:=okWide_struct Tryz.underlying27 O
 obtain ⟨z,k⟩:=h
 have P:∀(m:List aC) x,DataW.trod enc am W 0 (fun _=>true) true z 27 m=some x->∃e on i,∃f:FlR,∃b a g l j,m=[.slice e on i,.int .i64 f.q,.int .i64 f.u,.bool f.c,.bool f.d,.slice b a g]/\Tab W e on i l/\on<=bF/\a=j.length/\a<=bF/\Pairs W b j/\(a=0->(dc b a g=.slice none 0 0\/∃ad,b=some ad)):=fun m x h=>by
  obtain ⟨S,n,T,_,o,J,k⟩:=DataW.trod_struct Tryz.underlying27 h
  rw [wO] at o
  match m,o,S,J with
  | [c0,c1,c2,c3,c4,c5],_,[y0,y1,y2],_=>
   have A:=k 0 _ rfl
   have B:=k 1 _ rfl
   have C:=k 2 _ rfl
   obtain ⟨e,on,i,l,t,L,M,E,N⟩:=xe A
   obtain ⟨f,w⟩:=yZ B
   obtain ⟨b,a,g,j,y,F,G,D,I⟩:=xd C
   have u0:[c0]=[dc e on i]:=by rw [<-t];show _=gJ (Tryz.prog.cellsOf 22) _;rw [uK];rfl
   have u1:[c1,c2,c3,c4]=[dA ab f.q,aa ab f.u,av f.c,av f.d]:=by rw [<-w];show _=gJ (Tryz.prog.cellsOf 24) (List.drop _ _);rw [rl];rfl
   have u2:[c5]=[dc b a g]:=by rw [<-y];show _=gJ (Tryz.prog.cellsOf 25) (List.drop _ _);rw [uH];rfl
   injection u0 with u0 _
   injection u1 with u1 v1
   injection v1 with v1 v2
   injection v2 with v2 v3
   injection v3 with v3 _
   injection u2 with u2 _
   subst u0 u1 v1 v2 v3 u2
   exact ⟨e,on,i,f,b,a,g,l,j,rfl,⟨L,E,N⟩,M,F,G,D,I⟩
 obtain ⟨e,on,i,f,b,a,g,l,j,K,R⟩:=P _ _ k
 refine ⟨e,on,i,f,b,a,g,l,j,?_,R⟩
 have:s=#[.slice e on i,aa ab f.q,aa ab f.u,av f.c,av f.d,.slice b a g]:=by
  apply Array.ext'
  simpa [Value.cells] using K
 rw [this]
end Go.Proofs.YtbojljpldcijgaaGreat
