/- Parts of the proof. -/
import Derived.Test.YtbojljpldcijgaaGreatR01
import Derived.Test.YtbojljpldcijgaaGreatR24
import Derived.Test.YtbojljpldcijgaaGreatR42
set_option maxHeartbeats 12800000
set_option maxRecDepth 100000
set_option linter.unusedSimpArgs false
open Go.IntKind renaming i64 -> ab
open Go.Proofs.Tryz renaming prog -> am
open Go.RowKit renaming Below -> aB
open Go.RowKit.Below renaming refl -> ap
open Go.Value renaming bool -> av, int -> aa, string -> ac
open Nat renaming le_refl -> ae, reduceAdd -> af, zero_add -> ah, zero_le -> bc
namespace Go.Proofs.YtbojljpldcijgaaGreat
open Go.RowKit Hb
attribute [local go_sem] Oper.semAt_some
theorem Bh (i:ByteArray) (G:Option Addr) (on I:Nat) (q u:Int) (c d:Bool) (E:Option Addr) (C K:Nat) (l:List OpR) (j:List (Int×Int)) (w:World) (hO:Tab w G on I l) (b3:C=j.length) (b4:C<=maxLen) (hC:Pairs w E j) (hs:i.size<=maxLen):Calls am 22 #[ac i,.agg #[.slice G on I,aa ab q,aa ab u,av c,av d,.slice E C K]] w fun e w'=>∃v rs,e=.returned (.tuple #[v,aa ab (qf i.data.toList ⟨l,q,u,c,d,j⟩).2.1,aa ab (qf i.data.toList ⟨l,q,u,c,d,j⟩).2.2])/\aB w.heap.size w w'/\OwnRd w.heap.size 33 w' v rs/\rs.map (·.r)=(qf i.data.toList ⟨l,q,u,c,d,j⟩).1:=by
 obtain ⟨R,HR⟩:=lz (qf i.data.toList ⟨l,q,u,c,d,j⟩)
 rw [<-HR.out]
 have c2:Hid (∀(a:Nat) X,aB w.heap.size w X->Calls am 12 #[ac i,aa ab (a:Int),.agg #[.slice G on I,aa ab q,aa ab u,av c,av d,.slice E C K]] X (ROk X (eD i.data.toList a ⟨l,q,u,c,d,j⟩))):=zq fun a X hX=>vE i a G on I q u c d E C K l j X (hO.below hX) b3 b4 (hC.below hX) hs
 have c0:=zq ((ap w.heap.size w).alloc (ae _) (.cells #[.slice G on I,aa ab q,aa ab u,av c,av d,.slice E C K] 27))
 have c6:=zq (Bk.new w [.slice G on I,aa ab q,aa ab u,av c,av d,.slice E C K] 27)
 have c3:Hid (R=mw i.data.toList ⟨l,q,u,c,d,j⟩ (i.size+1) ((0:Nat):Int) []):=zq (by rw [HR.out,<-ci];rfl)
 clear hO b3 b4 hC hs HR
 go_enter Tryz.func22,Tryz.ntmps22
 go_wp2_with fail
 go_loopw [7,8] (fun v4 v7 wr=>∃(rs:List RW) (a f:Nat),v7=aa ab (a:Int)/\a<=i.size/\rs.length<=a/\i.size+1<=f+a/\Hid (aB w.heap.size w wr)/\Hid (Bk wr w.heap.size [.slice G on I,aa ab q,aa ab u,av c,av d,.slice E C K])/\Hid (OwnRd (w.heap.size+1) 33 wr v4 rs)/\Hid (R=mw i.data.toList ⟨l,q,u,c,d,j⟩ f (a:Int) (rs.map (·.r)))) (fun _ v7 _=>i.size-(intOf v7).toNat)
 case atStart=>exact ⟨[],0,i.size+1,rfl,bc _,bc _,ae _,c0,c6,zq (OwnRd.nul _ _ _),c3⟩
 case round=>
  obtain ⟨rs,a,f,rfl,ha,b8,hf,P,U,HO,HE⟩:=hrel
  obtain ⟨f,rfl⟩:∃g,f=g+1:=⟨f-1,by omega⟩
  obtain ⟨r,a2⟩:=lz (eD i.data.toList a ⟨l,q,u,c,d,j⟩)
  have HC:=zq (c2.out a wr P.out)
  rw [<-a2.out] at HC
  have J:Hid (R=if r.err=14 then (rs.map (·.r),0,0) else if ¬r.err=0 then ([],r.where_,r.err) else mw i.data.toList ⟨l,q,u,c,d,j⟩ f r.end_ (rs.map (·.r)++[r])):=zq (by rw [HE.out,a2.out];rfl)
  have a5:=fun h=>nS (L:=i.data.toList) (a:=a) (s:=⟨l,q,u,c,d,j⟩) h
  rw [<-a2.out,ci] at a5
  have Y:=zq a5
  have a0:=zq (⟨ha,b8,hf⟩:_/\_/\_)
  have b6:=U.out.all0
  simp only [aP,ah,af,and_true] at b6
  clear a5 ha b8 hf HE
  go_wp2_with fail
  refine HC.out.mono ?_;rintro e B ⟨A,p,n,x,o,y,rfl,m,h1,h2,h3⟩
  have d1:=P.out.size
  have a6:=bz P m
  have a8:=zq (U.out.call m)
  have a1:=zq (HO.out.call m)
  have a9:Hid (RdK (fun b=>w.heap.size+1<=b/\b<B.heap.size/\u7.ownBlock≠some b) B ⟨r,A,p,n,x,o,y⟩):=zq (by
   have O:∀b,wr.heap.size<=b/\b<B.heap.size->w.heap.size+1<=b/\b<B.heap.size/\u7.ownBlock≠some b:=fun b z=>⟨by have:=U.out.lt;have:=z.1;omega,z.2,fun e=>by have:=(HO.out.own.lt b e).2;have:=z.1;omega⟩
   exact ⟨h1.keep (fun _ _=>rfl) O,h2.keep (fun _ _=>rfl) O,h3.keep (fun _ _=>rfl) O⟩)
  clear m h1 h2 h3 P U HC HO b6 d1
  obtain ⟨W,HW⟩:=lz (B.alloc (.cells #[aa ab r.t.kind,aa ab r.t.num,ac r.t.name,.slice A r.t.args.length p,.slice n r.names.length x,.slice o r.singles.length y,aa ab r.end_] 33))
  obtain ⟨g,S⟩:=lz (B.heap.size)
  have m:aB B.heap.size B W:=by rw [HW.out];exact (ap _ _).alloc (ae _) _
  have Z:Hid (Bk W g [aa ab r.t.kind,aa ab r.t.num,ac r.t.name,.slice A r.t.args.length p,.slice n r.names.length x,.slice o r.singles.length y,aa ab r.end_]):=zq (by rw [HW.out,S.out];exact Bk.new B [aa ab r.t.kind,aa ab r.t.num,ac r.t.name,.slice A r.t.args.length p,.slice n r.names.length x,.slice o r.singles.length y,aa ab r.end_] 33)
  have Q:=bz a6 m
  have V:=zq (a8.out.call m)
  have N:=zq (a1.out.call m)
  have b1:=zq (a9.out.keep (fun b z=>m.block b z.2.1) fun b z=>(⟨z.1,Nat.lt_of_lt_of_le z.2.1 m.size,z.2.2⟩:w.heap.size+1<=b/\b<W.heap.size/\u7.ownBlock≠some b))
  have a7:Hid (u7.ownBlock≠some g):=zq (fun e=>by have:=(a1.out.own.lt g e).2;rw [S.out] at this;omega)
  go_upto_region 4 with fail
  rw [<-HW.out,<-S.out]
  clear m a6 a8 a1 a9 HW S
  have hq:=Z.out.all0
  simp only [aP,ah,af,and_true] at hq
  by_cases D:r.err=14
  ·have c9:(r.err==14)=true:=by simpa using D
   have F:Hid (R=(rs.map (·.r),0,0)):=zq (by rw [J.out,if_pos D])
   clear D J Y
   go_wp2_with fail
   refine bodyPost_ret (v:=.tuple #[u7,aa ab 0,aa ab 0]) (by simp [results,Tryz.results22,go_sem]) rfl ?_
   exact ⟨u7,rs,by rw [F.out],Q.out,OwnRd.mono (Nat.le_succ _) N.out,by rw [F.out]⟩
  have c9:(r.err==14)=false:=by simpa using D
  by_cases H:r.err=0
  rotate_left
  ·have b0:(r.err != 0)=true:=by simpa using H
   have F:Hid (R=([],r.where_,r.err)):=zq (by rw [J.out,if_neg D,if_pos H])
   clear D H J Y
   go_wp2_with fail
   refine bodyPost_ret (v:=.tuple #[.slice none 0 0,aa ab r.where_,aa ab r.err]) (by simp [results,Tryz.results22,go_sem]) rfl ?_
   exact ⟨.slice none 0 0,[],by rw [F.out],Q.out,OwnRd.nul _ _ _,by rw [F.out];rfl⟩
  have b0:(r.err != 0)=false:=by simpa using H
  obtain ⟨e',a3,b2,b5,d0⟩:=Y.out H
  have F:Hid (R=mw i.data.toList ⟨l,q,u,c,d,j⟩ f (e':Int) ((rs++[(⟨r,A,p,n,x,o,y⟩:RW)]).map (·.r))):=zq (by rw [J.out,if_neg D,if_neg (fun h=>h H),a3,List.map_append];rfl)
  have c4:=zq a3
  have M:Hid (a<e'/\e'<=i.size/\rs.length<=100000):=zq ⟨b2,b5,by have:=a0.out;omega⟩
  clear D H J Y a3 b2 b5 d0
  go_upto_region 8 with fail
  have b9:w.heap.size+1<=W.heap.size:=V.out.lt
  go_wp2_with (at_builtin;go_must (refine my rfl _ _ rfl (w.heap.size+1) u7 rs rfl N.out b9 ⟨r,A,p,n,x,o,y⟩ b1.out _ rfl rfl rfl M.out.2.2 ?_;intro v5 w5 c7 T;have a4:aB w.heap.size w (W.alloc (.cells #[aa ab r.t.kind,aa ab r.t.num,ac r.t.name,.slice A r.t.args.length p,.slice n r.names.length x,.slice o r.singles.length y,aa ab r.end_] 33)):=Q.out.alloc (by omega) _;have c1:=zq (a4.grown T.out (by have:=a4.size;omega) (fun k O=>by have:=(N.out.own.lt k O).1;omega));have c5:=zq ((V.out.call ((ap _ _).alloc (ae _) (.cells #[aa ab r.t.kind,aa ab r.t.num,ac r.t.name,.slice A r.t.args.length p,.slice n r.names.length x,.slice o r.singles.length y,aa ab r.end_] 33))).keeps (T.out.block w.heap.size (by have:=V.out.lt;simp;omega) (fun e=>by have:=(N.out.own.lt _ e.symm).1;omega)));have c8:=zq ((Z.out.call ((ap _ _).alloc (ae _) (.cells #[aa ab r.t.kind,aa ab r.t.num,ac r.t.name,.slice A r.t.args.length p,.slice n r.names.length x,.slice o r.singles.length y,aa ab r.end_] 33))).keeps (T.out.block g (by have:=Z.out.lt;simp;omega) (fun e=>a7.out e.symm)));have b7:=c8.out.all0;simp only [aP,ah,af,and_true] at b7;rw [c4.out] at b7;clear a4 T))
  clear hq Z Q V N b1 a7 b9
  go_roundw
  case rel=>exact ⟨rs++[⟨r,A,p,n,x,o,y⟩],e',f,rfl,M.out.2.1,by rw [List.length_append];have:=M.out.1;have:=a0.out;simp;omega,by have:=M.out.1;have:=a0.out;omega,c1,c5,c7,F⟩
  case measure=>have:=M.out;simp [intOf];omega
end Go.Proofs.YtbojljpldcijgaaGreat
