/- Parts of the proof. -/
import Derived.Test.YtbojljpldcijgaaGreatH01
import Derived.Test.YtbojljpldcijgaaGreatH13
import Derived.ProofKit
import Derived.Deep.Slices
import Derived.Deep.Strs
import Derived.ChangeMaps5
import Derived.Carry
import Derived.Test.YtbojljpldcijgaaGreatH24
namespace Hb
open Go Go.RowKit
structure OpFit (o:OpR):Prop where
 typ:(Lit.int .i64 o.typ).wf=true
 prec:(Lit.int .i64 o.prec).wf=true
 name:o.name.size≤maxLen
end Hb
namespace Go.Proofs.YtbojljpldcijgaaGreat
set_option maxRecDepth 100000
open Go.ChangeShapes Go.WideShapes Go.ChangeAt Go.RowKit Hb
theorem op_cells3:Tryz.prog.cellsOf 61=3:=by kernel_rfl
theorem str_cells3:Tryz.prog.cellsOf 9=1:=by kernel_rfl
theorem int_cells3:Tryz.prog.cellsOf 3=1:=by kernel_rfl
set_option maxRecDepth 100000 in
theorem op_trod {H:Type} {enc:TypeId×Value→H} {W:World} {fuel base:Nat} {held:Bool} {sp:Nat→Bool} {cs:List Value} {x:DataW H×List MemPlace} (h:DataW.trod enc Tryz.prog W base sp held fuel 61 cs=some x):∃o:OpR,cs=opCells o∧OpFit o:=by
 obtain ⟨y0,y1,y2,k,_,hl,g0,g1,g2⟩:=Go.Deep.trod_struct3 Tryz.underlying61 h
 rw [op_cells3] at hl
 match cs,hl with
 | [c0,c1,c2],_=>
  obtain ⟨s0,e0,_,z0⟩:=DataW.trod_string Tryz.underlying9 g0
  obtain ⟨n1,e1,_,z1⟩:=DataW.trod_int Tryz.underlying3 g1
  obtain ⟨n2,e2,_,z2⟩:=DataW.trod_int Tryz.underlying3 g2
  have u0:[c0]=[Value.string s0]:=by rw [←e0];show _=List.take (Tryz.prog.cellsOf 9) _;rw [str_cells3];rfl
  have u1:[c1]=[Value.int IntKind.i64 n1]:=by rw [←e1];show _=List.take (Tryz.prog.cellsOf 3) _;rw [int_cells3];rfl
  have u2:[c2]=[Value.int IntKind.i64 n2]:=by rw [←e2];show _=List.take (Tryz.prog.cellsOf 3) _;rw [int_cells3];rfl
  injection u0 with u0 _
  injection u1 with u1 _
  injection u2 with u2 _
  subst u0 u1 u2
  exact ⟨⟨s0,n1,n2⟩,rfl,z1,z2,z0⟩
theorem spot_none {W:World} {a:Addr} {v:Value} (h:W.cell? a=some v):a=⟨a.block,a.off,none⟩:=by
 have hs:a.spot=none:=by
  unfold World.cell? at h
  split at h
  ·split at h
   ·cases h
   ·rename_i hh;simpa using hh
  ·cases h
 obtain ⟨x,y,z⟩:=a
 exact congrArg (Addr.mk x y) hs
theorem fl_cells4:Tryz.prog.cellsOf 24=4:=by kernel_rfl
theorem bool_cells4:Tryz.prog.cellsOf 4=1:=by kernel_rfl
theorem pair_cells4:Tryz.prog.cellsOf 131=2:=by kernel_rfl
theorem sy_cells4:Tryz.prog.cellsOf 27=6:=by kernel_rfl
theorem ops_cells4:Tryz.prog.cellsOf 22=1:=by kernel_rfl
theorem prs_cells4:Tryz.prog.cellsOf 25=1:=by kernel_rfl
section
variable {H:Type} {enc:TypeId×Value→H} {W:World} {held:Bool} {sp:Nat→Bool}
theorem ops_trodL {fuel base:Nat} {cs:List Value} {x:DataW H×List MemPlace} (h:DataW.trod enc Tryz.prog W base sp held fuel 22 cs=some x):∃A n cap l,cs=[.slice A n cap]∧n=l.length∧n≤maxLen∧OpsAt W A l∧(n=0→(Value.slice A n cap=.slice none 0 0∨∃ad,A=some ad)):=by
 rcases DataW.trod_slice Tryz.underlying22 h with ⟨hcs,_⟩ | ⟨a,len,cap,elems,rest,n,hfu,hcs,_,_,hl,hm,hlen,hel,_,_⟩
 ·exact ⟨none,0,0,[],hcs,rfl,by decide,OpsAt.nil _ _,fun _=>.inl rfl⟩
 ·have key:∀i,i<len→∃x:OpR,W.cell? (a.add (i * 3))=some (.string x.name)∧W.cell? ((a.add (i * 3)).add 1)=some (.int .i64 x.typ)∧W.cell? ((a.add (i * 3)).add 2)=some (.int .i64 x.prec):=fun i hi=>by
   have h1:=hel i hi
   rw [List.getElem?_eq_getElem (by omega),Option.bind_eq_some_iff] at h1
   obtain ⟨cs',h1,h2⟩:=h1
   rw [op_cells3] at h1
   obtain ⟨_,hlenc,hget⟩:=World.cells?_some h1
   obtain ⟨o,rfl,_⟩:=op_trod h2
   have q0:=hget 0 (by omega)
   have q1:=hget 1 (by omega)
   have q2:=hget 2 (by omega)
   exact ⟨o,by simpa [Addr.add,opCells] using q0,by simpa [opCells] using q1,by simpa [opCells] using q2⟩
  obtain ⟨F,hF⟩:=Go.Deep.choose_lt (α:=OpR) (p:=fun i x=>W.cell? (a.add (i * 3))=some (.string x.name)∧W.cell? ((a.add (i * 3)).add 1)=some (.int .i64 x.typ)∧W.cell? ((a.add (i * 3)).add 2)=some (.int .i64 x.prec)) key
  refine ⟨some a,len,cap,(List.range len).map F,hcs,by simp,by omega,fun j hj=>?_,fun _=>.inr ⟨a,rfl⟩⟩
  have hj':j<len:=by simpa using hj
  have ha:a=⟨a.block,a.off,none⟩:=by
   have h0:=(hF 0 (by omega)).1
   have:a.add (0 * 3)=a:=by simp [Addr.add]
   rw [this] at h0
   exact spot_none h0
  obtain ⟨c0,c1,c2⟩:=hF j hj'
  have e0:a.add (j * 3)=⟨a.block,a.off+j * 3,none⟩:=by
   unfold Addr.add
   split
   ·rename_i h0;rw [h0,Nat.add_zero];exact ha
   ·rfl
  have e1:(a.add (j * 3)).add 1=⟨a.block,a.off+j * 3+1,none⟩:=by rw [e0];rfl
  have e2:(a.add (j * 3)).add 2=⟨a.block,a.off+j * 3+2,none⟩:=by rw [e0];rfl
  rw [e2] at c2
  rw [e1] at c1
  rw [e0] at c0
  refine ⟨a.block,a.off,by rw [←ha],World.block_lt_of_cell? W ⟨a.block,a.off+j * 3,none⟩ c0,?_,?_,?_⟩
  ·simpa using c0
  ·simpa using c1
  ·simpa using c2
theorem prs_trodL {fuel base:Nat} {cs:List Value} {x:DataW H×List MemPlace} (h:DataW.trod enc Tryz.prog W base sp held fuel 25 cs=some x):∃A n cap l,cs=[.slice A n cap]∧n=l.length∧n≤maxLen∧Pairs W A l∧(n=0→(Value.slice A n cap=.slice none 0 0∨∃ad,A=some ad)):=by
 rcases DataW.trod_slice Tryz.underlying25 h with ⟨hcs,_⟩ | ⟨a,len,cap,elems,rest,n,hfu,hcs,_,_,hl,hm,hlen,hel,_,_⟩
 ·exact ⟨none,0,0,[],hcs,rfl,by decide,Pairs.nil _ _,fun _=>.inl rfl⟩
 ·have key:∀i,i<len→∃x:Int×Int,W.cell? (a.add (i * 2))=some (.int .i64 x.1)∧W.cell? ((a.add (i * 2)).add 1)=some (.int .i64 x.2):=fun i hi=>by
   have h1:=hel i hi
   rw [List.getElem?_eq_getElem (by omega),Option.bind_eq_some_iff] at h1
   obtain ⟨cs',h1,h2⟩:=h1
   rw [pair_cells4] at h1
   obtain ⟨_,hlenc,hget⟩:=World.cells?_some h1
   obtain ⟨y0,y1,k',_,_,g0,g1⟩:=trod_struct2 Tryz.underlying131 h2
   match cs',hlenc with
   | [c0,c1],_=>
    obtain ⟨n0,e0,_⟩:=DataW.trod_int Tryz.underlying3 g0
    obtain ⟨n1,e1,_⟩:=DataW.trod_int Tryz.underlying3 g1
    have u0:[c0]=[Value.int IntKind.i64 n0]:=by rw [←e0];show _=List.take (Tryz.prog.cellsOf 3) _;rw [int_cells3];rfl
    have u1:[c1]=[Value.int IntKind.i64 n1]:=by rw [←e1];show _=List.take (Tryz.prog.cellsOf 3) _;rw [int_cells3];rfl
    have q0:=hget 0 (by omega)
    have q1:=hget 1 (by omega)
    clear e0 e1
    injection u0 with u0 _
    injection u1 with u1 _
    subst u0 u1
    exact ⟨(n0,n1),by simpa [Addr.add] using q0,by simpa using q1⟩
  obtain ⟨F,hF⟩:=Go.Deep.choose_lt (α:=Int×Int) (p:=fun i x=>W.cell? (a.add (i * 2))=some (.int .i64 x.1)∧W.cell? ((a.add (i * 2)).add 1)=some (.int .i64 x.2)) key
  refine ⟨some a,len,cap,(List.range len).map F,hcs,by simp,by omega,fun j hj=>?_,fun _=>.inr ⟨a,rfl⟩⟩
  have hj':j<len:=by simpa using hj
  have ha:a=⟨a.block,a.off,none⟩:=by
   have h0:=(hF 0 (by omega)).1
   have:a.add (0 * 2)=a:=by simp [Addr.add]
   rw [this] at h0
   exact spot_none h0
  obtain ⟨c0,c1⟩:=hF j hj'
  have e0:a.add (j * 2)=⟨a.block,a.off+j * 2,none⟩:=by
   unfold Addr.add
   split
   ·rename_i h0;rw [h0,Nat.add_zero];exact ha
   ·rfl
  have e1:(a.add (j * 2)).add 1=⟨a.block,a.off+j * 2+1,none⟩:=by rw [e0];rfl
  rw [e1] at c1
  rw [e0] at c0
  refine ⟨a.block,a.off,by rw [←ha],World.block_lt_of_cell? W ⟨a.block,a.off+j * 2,none⟩ c0,?_,?_⟩
  ·simpa using c0
  ·simpa using c1
theorem fl_trodL {fuel base:Nat} {l:List Value} {x:DataW H×List MemPlace} (h:DataW.trod enc Tryz.prog W base sp held fuel 24 l=some x):∃f:FlR,l=[.int .i64 f.q,.int .i64 f.u,.bool f.c,.bool f.d]:=by
 obtain ⟨xs,n,hfu,_,hl,hlen,hf⟩:=DataW.trod_struct Tryz.underlying24 h
 rw [fl_cells4] at hl
 match l,hl,xs,hlen with
 | [c0,c1,c2,c3],_,[y0,y1,y2,y3],_=>
  have g0:=hf 0 _ rfl
  have g1:=hf 1 _ rfl
  have g2:=hf 2 _ rfl
  have g3:=hf 3 _ rfl
  obtain ⟨n0,e0,_,_⟩:=DataW.trod_int Tryz.underlying3 g0
  obtain ⟨n1,e1,_,_⟩:=DataW.trod_int Tryz.underlying3 g1
  obtain ⟨b2,e2,_⟩:=DataW.trod_bool Tryz.underlying4 g2
  obtain ⟨b3,e3,_⟩:=DataW.trod_bool Tryz.underlying4 g3
  have u0:[c0]=[Value.int IntKind.i64 n0]:=by rw [←e0];show _=List.take (Tryz.prog.cellsOf 3) _;rw [int_cells3];rfl
  have u1:[c1]=[Value.int IntKind.i64 n1]:=by rw [←e1];show _=List.take (Tryz.prog.cellsOf 3) _;rw [int_cells3];rfl
  have u2:[c2]=[Value.bool b2]:=by rw [←e2];show _=List.take (Tryz.prog.cellsOf 4) _;rw [bool_cells4];rfl
  have u3:[c3]=[Value.bool b3]:=by rw [←e3];show _=List.take (Tryz.prog.cellsOf 4) _;rw [bool_cells4];rfl
  injection u0 with u0 _
  injection u1 with u1 _
  injection u2 with u2 _
  injection u3 with u3 _
  subst u0 u1 u2 u3
  exact ⟨⟨n0,n1,b2,b3⟩,rfl⟩
end
theorem open_syntax {H:Type} {enc:TypeId×Value→H} {W:World} {r:Reach} {b0:Nat} {v:Value} {d:DataW H} {ps:List MemPlace} (hval:Value.okWide Tryz.prog W r b0 27 v)
  (h:DataW.Trod enc Tryz.prog W 0 (fun _=>true) true 27 v d ps):∃OA on oc,∃f:FlR,∃CA cn cc l cl,v=.agg #[.slice OA on oc,.int .i64 f.q,.int .i64 f.u,.bool f.c,.bool f.d,.slice CA cn cc]∧Tab W OA on oc l∧on≤maxLen∧cn=cl.length∧cn≤maxLen∧Pairs W CA cl∧(cn=0→(Value.slice CA cn cc=.slice none 0 0∨∃ad,CA=some ad)):=by
 obtain ⟨cs,rfl,_⟩:=okWide_struct Tryz.underlying27 hval
 obtain ⟨fuel,hf⟩:=h
 have key:∀(m:List Value) x,DataW.trod enc Tryz.prog W 0 (fun _=>true) true fuel 27 m=some x→∃OA on oc,∃f:FlR,∃CA cn cc l cl,m=[.slice OA on oc,.int .i64 f.q,.int .i64 f.u,.bool f.c,.bool f.d,.slice CA cn cc]∧Tab W OA on oc l∧on≤maxLen∧cn=cl.length∧cn≤maxLen∧Pairs W CA cl∧(cn=0→(Value.slice CA cn cc=.slice none 0 0∨∃ad,CA=some ad)):=fun m x h=>by
  obtain ⟨xs,n,hfu,_,hl,hlen,hf⟩:=DataW.trod_struct Tryz.underlying27 h
  rw [sy_cells4] at hl
  match m,hl,xs,hlen with
  | [c0,c1,c2,c3,c4,c5],_,[y0,y1,y2],_=>
   have g0:=hf 0 _ rfl
   have g1:=hf 1 _ rfl
   have g2:=hf 2 _ rfl
   obtain ⟨OA,on,oc,l,e0,hol,hom,hO,hon⟩:=ops_trodL g0
   obtain ⟨f,e1⟩:=fl_trodL g1
   obtain ⟨CA,cn,cc,cl,e2,hcl,hcm,hC,hcn⟩:=prs_trodL g2
   have u0:[c0]=[Value.slice OA on oc]:=by rw [←e0];show _=List.take (Tryz.prog.cellsOf 22) _;rw [ops_cells4];rfl
   have u1:[c1,c2,c3,c4]=[Value.int .i64 f.q,.int .i64 f.u,.bool f.c,.bool f.d]:=by rw [←e1];show _=List.take (Tryz.prog.cellsOf 24) (List.drop _ _);rw [fl_cells4];rfl
   have u2:[c5]=[Value.slice CA cn cc]:=by rw [←e2];show _=List.take (Tryz.prog.cellsOf 25) (List.drop _ _);rw [prs_cells4];rfl
   injection u0 with u0 _
   injection u1 with u1 v1
   injection v1 with v1 v2
   injection v2 with v2 v3
   injection v3 with v3 _
   injection u2 with u2 _
   subst u0 u1 v1 v2 v3 u2
   exact ⟨OA,on,oc,f,CA,cn,cc,l,cl,rfl,⟨hol,hO,hon⟩,hom,hcl,hcm,hC,hcn⟩
 obtain ⟨OA,on,oc,f,CA,cn,cc,l,cl,ho,rest⟩:=key _ _ hf
 refine ⟨OA,on,oc,f,CA,cn,cc,l,cl,?_,rest⟩
 have:cs=#[.slice OA on oc,.int .i64 f.q,.int .i64 f.u,.bool f.c,.bool f.d,.slice CA cn cc]:=by
  apply Array.ext'
  simpa [Value.cells] using ho
 rw [this]
end Go.Proofs.YtbojljpldcijgaaGreat
