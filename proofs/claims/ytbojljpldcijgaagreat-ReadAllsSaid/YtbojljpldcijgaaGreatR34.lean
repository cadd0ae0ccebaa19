/- Parts of the proof. -/
import Derived.Test.YtbojljpldcijgaaGreatR01
import Derived.Test.YtbojljpldcijgaaGreatR33
set_option maxHeartbeats 12800000
set_option maxRecDepth 100000
set_option linter.unusedSimpArgs false
open Go renaming bodyPost_ret -> aw
open Go.IntKind renaming i64 -> ab
open Go.IntWalk renaming wrap64_in -> cg
open Go.Proofs.Tryz renaming results66 -> ej
open Go.RowKit.Below renaming refl -> ap
open Go.Value renaming agg -> aV, bool -> av, int -> aa, string -> ac, tuple -> aJ
open List renaming append_nil -> aj, cons_append -> ag, mem_cons -> bh, mem_nil_iff -> be, mem_singleton -> aK, nil_append -> ai, set_cons_succ -> ao, set_cons_zero -> an
open Nat renaming add_zero -> bj, le_refl -> ae, le_succ -> bm, le_trans -> aQ, lt_of_lt_of_le -> aA, lt_succ_self -> bK, reduceAdd -> af, zero_add -> ah
namespace Go.Proofs.YtbojljpldcijgaaGreat
open Go.RowKit Hb
attribute [local go_sem] Oper.semAt_some
theorem _root_.Hb.QC.Ok.more {c:QC} (h:c.Ok) {i:Nat} (b:i<c.E.T.length) (a:¬(c.E.at i).r.kind=7):i+1<c.E.T.length:=by
 refine Nat.lt_of_not_le fun d=>a ?_
 rw [show i=c.E.T.length-1 by omega]
 exact h.endk
theorem iQ {t:NextR} {a b:List UInt8} (h:dp t a=true) (c:¬a=b):dp t b=false:=by
 have:=ke h
 unfold dp
 rw [this.2]
 simp [c]
theorem uq {c:QC} {S:PT} {k n:Nat} {U:VV} {w:World} (hF:TkF c.E) (hS:zw c S k) (C:k<=n+1) (p:PsQ c n false (bv c.E.T n) U w) (f2:Int) :
  Calls Tryz.prog 66 #[.pointer (some ⟨c.P,0,none⟩),aa ab f2] w (TQ c n U w (kQ c.E S f2 n)):=by
 obtain ⟨R,HR⟩:=lz (kQ c.E S f2 n)
 rw [<-HR.out]
 have g7:=zq ((Wq.start p).new [aa ab 0,aa ab 0,ac ⟨#[]⟩,.slice none 0 0] 30 rfl)
 have d7:=zq (fun nv' W (h:PsQ c (n+1) false (bv c.E.T (n+1)) nv' W)=>xY hS C h)
 have HS:=zq (fun (m:Int) nv' W i (hi:n+1<=i) (h:PsQ c i false (bv c.E.T i) nv' W)=>hS m i nv' W (aQ C hi) h)
 have d5:=zq (fun m wr v nv' W (h:PsQ c m wr v nv' W)=>jv h 0 (by omega))
 have c9:=zq (fun m wr v nv' W (h:PsQ c m wr v nv' W)=>jv h 1 (by omega))
 have e0:=zq (fun (i:Nat) (hi:n+1<=i) nv' W (h:PsQ c i false (bv c.E.T i) nv' W) (t:NextR) (s:ByteArray) (op:Bool) hsm=>BY hS (aQ C hi) (show n<i by omega) h t s op f2 hsm (hF.int i) (hF.stop i))
 have d4:=zq (fun W=>rK (c.E.at n) W)
 have J:=zq (fun (s:ByteArray) W=>gf (c.E.at n) s W)
 have c8:=zq (fun (s:ByteArray) W=>gf (c.E.at (n+1)) s W)
 have b1:=zq p.more
 have b0:Hid (n<c.E.T.length/\c.E.T.length<=20000):=zq ⟨p.n1,p.ok.len⟩
 have d8:Hid (∀{X:Prop},mB (c.E.at n)=false->(bv c.E.T (n+1)=bv c.E.T n->X)->X):=zq fun h f=>f (fU p.n1 h)
 have c0:Hid (∀i,i<c.E.T.length->¬(c.E.at i).r.kind=7->i+1<c.E.T.length):=zq fun i hi h=>p.ok.more hi h
 have e1:Hid ((bv c.E.T n).o.length<=n):=zq p.vn
 have m0:((c.E.at n).r.kind=4/\0<=(c.E.at n).r.n)\/(c.E.at n).r.kind=3\/(c.E.at n).r.kind=5\/dp (c.E.at n) [40]=true\/(dp (c.E.at n) [91]=true/\dp (c.E.at (n+1)) [93]=true)\/(dp (c.E.at n) [123]=true/\dp (c.E.at (n+1)) [125]=true)\/(dp (c.E.at n) [91]=true/\dp (c.E.at (n+1)) [93]=false)\/(dp (c.E.at n) [123]=true/\dp (c.E.at (n+1)) [125]=false)\/fa (c.E.at n)=true\/((¬((c.E.at n).r.kind=4/\0<=(c.E.at n).r.n))/\¬(c.E.at n).r.kind=3/\¬(c.E.at n).r.kind=5/\dp (c.E.at n) [40]=false/\dp (c.E.at n) [91]=false/\dp (c.E.at n) [123]=false/\fa (c.E.at n)=false):=by
  by_cases a1:(c.E.at n).r.kind=4/\0<=(c.E.at n).r.n
  ·exact .inl a1
  by_cases a2:(c.E.at n).r.kind=3
  ·exact .inr (.inl a2)
  by_cases a3:(c.E.at n).r.kind=5
  ·exact .inr (.inr (.inl a3))
  cases a4:dp (c.E.at n) [40] <;> cases a5:dp (c.E.at n) [91] <;> cases a6:dp (c.E.at n) [123] <;> cases a7:dp (c.E.at (n+1)) [93] <;> cases a8:dp (c.E.at (n+1)) [125] <;> cases a9:fa (c.E.at n) <;> simp [a1,a2,a3]
 clear p hS C hF
 unfold kk at *
 go_enter Tryz.func66,Tryz.ntmps66
 go_wp2_with fail
 refine (d5.out _ _ _ _ _ g7.out.p).mono ?_;rintro e w1 ⟨rfl,d⟩
 have j6:=zq (g7.out.call d)
 clear d g7
 simp only [bj]
 obtain ⟨t,K⟩:=lz (c.E.at n)
 have M:=zq (j6.out.new [aa ab t.r.kind,ac t.txt,aa ab t.r.n,aa ab t.r.at_,aa ab t.r.end_,av t.lay] 76 (g:=w1.heap.size) rfl)
 rw [<-K.out] at d4 J b1 d8 m0 |-
 go_upto_region 2 with fail
 obtain ⟨wa,l8⟩:=lz (w1.alloc (.cells #[aa ab t.r.kind,ac t.txt,aa ab t.r.n,aa ab t.r.at_,aa ab t.r.end_,av t.lay] 76))
 obtain ⟨g1,j5⟩:=lz (w1.heap.size)
 rw [<-l8.out] at M |-
 rw [<-j5.out] at M |-
 clear j6 l8 j5
 rcases m0 with h | h | h | h | h | h | h | h | h | h
 ·have Z:Hid (R=.ok (pQ t.r.n,0,n+1)):=zq (by rw [HR.out,Ag (by rw [<-K.out];exact h.1) (by rw [<-K.out];exact h.2),<-K.out])
  have b4:(t.r.kind==4)=true:=by simpa using h.1
  have bn:decide (0<=t.r.n)=true:=decide_eq_true h.2
  have c4:Hid (mB (c.E.at n)=false):=zq (by rw [<-K.out];exact kd h.1 (by decide))
  have b7:Hid (n+1<c.E.T.length):=zq (b1.out (by rw [h.1];decide))
  clear h HR d7 HS e0 d4 J c8 b1 d8 d5 c9 e1 c0
  have a:=M.out.b.all
  simp only [an,ao,QC.cells,ag,ai,aj,aH,aP,ah,af,and_true] at a
  have b2:wrap64 ((n:Int)+1)=(n:Int)+1:=cg _ (by have:=b0.out;omega)
  obtain ⟨w3,d9⟩:=lz (wa.setCell ⟨c.P,1,none⟩ (aa ab ((n:Int)+1)))
  have z:Hid (Wq c (n+1) false (bv c.E.T n) U w U w3 [(g1,[aa ab t.r.kind,ac t.txt,aa ab t.r.n,aa ab t.r.at_,aa ab t.r.end_,av t.lay]),(w.heap.size,[aa ab 0,aa ab 0,ac ⟨#[]⟩,.slice none 0 0])]):=zq (by rw [d9.out];exact M.out.next (n+1) (by omega) (by have:=b7.out;omega))
  rw [<-fU b0.out.1 c4.out] at z
  go_upto_region 4 with fail
  rw [<-d9.out]
  clear a
  clear b2 d9 M
  clear b4 bn
  have a:=z.out.b.all
  simp only [an,ao,QC.cells,ag,ai,aj,aH,aP,ah,af,and_true] at a
  go_wp2_with fail
  refine (mj t.r.n _).mono ?_;rintro e w4 ⟨rfl,d⟩
  have G:=zq (z.out.call d)
  clear a
  clear d z
  have a:=G.out.b.all
  simp only [an,ao,QC.cells,ag,ai,aj,aH,aP,ah,af,and_true] at a
  go_wp2_with fail
  have L:=G.out.put4 1 rfl (aa ab 1) (aa ab t.r.n) (ac ⟨#[]⟩) (.slice none 0 0) (ae _)
  refine aw (v:=aJ #[aV #[aa ab 1,aa ab t.r.n,ac ⟨#[]⟩,.slice none 0 0],aa ab 0]) (by simp [results,ej,go_sem,a]) rfl ?_
  exact ⟨pQ t.r.n,0,n+1,false,none,0,U,rfl,L.p,L.s,TmsK.nil,bm _,.inr ⟨rfl,bK _,Z.out⟩⟩
 ·have Z:Hid (R=.ok (AT ((bv c.E.T n).num t.r.text),0,n+1)):=zq (by rw [HR.out,Ac (by rw [<-K.out];exact h),<-K.out])
  have b4:(t.r.kind==4)=false:=by rw [h];rfl
  have b3:(t.r.kind==3)=true:=by rw [h];rfl
  have b7:Hid (n+1<c.E.T.length):=zq (b1.out (by rw [h];decide))
  have l6:Hid ((bv c.E.T n).step t.txt.data.toList=bv c.E.T (n+1)):=zq (by rw [vu b0.out.1 (by rw [<-K.out];unfold mB;rw [h];rfl),<-K.out];rfl)
  clear h HR d7 HS e0 d4 J c8 b1 d8 d5 c9 c0
  have a:=M.out.b.all
  simp only [an,ao,QC.cells,ag,ai,aj,aH,aP,ah,af,and_true] at a
  have b2:wrap64 ((n:Int)+1)=(n:Int)+1:=cg _ (by have:=b0.out;omega)
  obtain ⟨w3,d9⟩:=lz (wa.setCell ⟨c.P,1,none⟩ (aa ab ((n:Int)+1)))
  have z:Hid (Wq c (n+1) false (bv c.E.T n) U w U w3 [(g1,[aa ab t.r.kind,ac t.txt,aa ab t.r.n,aa ab t.r.at_,aa ab t.r.end_,av t.lay]),(w.heap.size,[aa ab 0,aa ab 0,ac ⟨#[]⟩,.slice none 0 0])]):=zq (by rw [d9.out];exact M.out.next (n+1) (by omega) (by have:=b7.out;omega))
  go_upto_region 7 with fail
  rw [<-d9.out]
  clear a
  clear b2 d9 M
  clear b4 b3
  have a:=z.out.b.all
  simp only [an,ao,QC.cells,ag,ai,aj,aH,aP,ah,af,and_true] at a
  go_wp2_with fail
  refine (sS z.out.p (wD _ _) t.txt (by have:=e1.out;omega)).mono ?_;rintro e w4 ⟨rfl,y1,y2,H,B⟩
  rw [l6.out] at H
  have G:=zq (z.out.step H B)
  obtain ⟨vn,i0⟩:=lz ((bv c.E.T n).num t.txt.data.toList)
  rw [<-i0.out]
  have h8:Hid (R=.ok (AT (vn:Nat),0,n+1)):=zq (by rw [Z.out,i0.out];rfl)
  clear Z i0 l6
  clear a
  clear H B z
  have a:=G.out.b.all
  simp only [an,ao,QC.cells,ag,ai,aj,aH,aP,ah,af,and_true] at a
  go_wp2_with fail
  have L:=G.out.put4 1 rfl (aa ab 0) (aa ab (vn:Nat)) (ac ⟨#[]⟩) (.slice none 0 0) (ae _)
  refine aw (v:=aJ #[aV #[aa ab 0,aa ab (vn:Nat),ac ⟨#[]⟩,.slice none 0 0],aa ab 0]) (by simp [results,ej,go_sem,a]) rfl ?_
  exact ⟨AT (vn:Nat),0,n+1,false,none,0,(y1,y2),rfl,L.p,L.s,TmsK.nil,bm _,.inr ⟨rfl,bK _,h8.out⟩⟩
 ·have Z:Hid (R=.ok (tY c.E.q t.r.text,0,n+1)):=zq (by rw [HR.out,Ad (by rw [<-K.out];exact h),<-K.out])
  have b4:(t.r.kind==4)=false:=by rw [h];rfl
  have b3:(t.r.kind==3)=false:=by rw [h];rfl
  have b5:(t.r.kind==5)=true:=by rw [h];rfl
  have b7:Hid (n+1<c.E.T.length):=zq (b1.out (by rw [h];decide))
  have c4:Hid (mB (c.E.at n)=false):=zq (by rw [<-K.out];exact kd h (by decide))
  have m1:Hid (t.txt.size<=20000):=zq (by rw [K.out];have:=(M.out.p.ok.txt _ (by rw [c.E.at_get b0.out.1];exact List.getElem_mem _:c.E.at n∈c.E.T)).1;simpa [NextR.txt,ByteArray.size] using this)
  clear h HR d7 HS e0 d4 J c8 b1 d8 d5 c9 e1 c0
  have a:=M.out.b.all
  simp only [an,ao,QC.cells,ag,ai,aj,aH,aP,ah,af,and_true] at a
  have b2:wrap64 ((n:Int)+1)=(n:Int)+1:=cg _ (by have:=b0.out;omega)
  obtain ⟨w3,d9⟩:=lz (wa.setCell ⟨c.P,1,none⟩ (aa ab ((n:Int)+1)))
  have z:Hid (Wq c (n+1) false (bv c.E.T n) U w U w3 [(g1,[aa ab t.r.kind,ac t.txt,aa ab t.r.n,aa ab t.r.at_,aa ab t.r.end_,av t.lay]),(w.heap.size,[aa ab 0,aa ab 0,ac ⟨#[]⟩,.slice none 0 0])]):=zq (by rw [d9.out];exact M.out.next (n+1) (by omega) (by have:=b7.out;omega))
  rw [<-fU b0.out.1 c4.out] at z
  go_upto_region 10 with fail
  rw [<-d9.out]
  clear a
  clear b2 d9 M
  clear b4 b3 b5
  have a:=z.out.b.all
  simp only [an,ao,QC.cells,ag,ai,aj,aH,aP,ah,af,and_true] at a
  go_wp2_with fail
  obtain ⟨u,HU⟩:=lz (tY c.E.q t.txt.data.toList)
  have HC:=zq (zR z.out.p t.txt m1.out)
  rw [<-HU.out] at HC
  refine HC.out.mono ?_;rintro e w4 ⟨A,I,rfl,d,D⟩
  have G:=zq (z.out.call d)
  have HT:Hid (Trq c U w w4 [w.heap.size] A u.args):=zq (D.keep (fun _ _=>rfl) fun b j=>⟨⟨aQ z.out.s.size j.1,j.2,fun hm=>by have:=z.out.p.lts hm;have:=j.1;omega⟩,fun e=>by
   rw [aK] at e
   have h1:w.heap.size<w3.heap.size:=z.out.b.lt 1 rfl
   have h2:=j.1
   omega⟩)
  have h8:Hid (R=.ok (u,0,n+1)):=zq (by rw [Z.out,HU.out];rfl)
  unfold fI
  clear a
  clear d D HC z Z HU
  have a:=G.out.b.all
  simp only [an,ao,QC.cells,ag,ai,aj,aH,aP,ah,af,and_true] at a
  go_wp2_with fail
  have L:=G.out.put4 1 rfl (aa ab u.kind) (aa ab u.num) (ac u.name) (.slice A u.args.length I) (ae _)
  have D:=HT.out.put (g:=w.heap.size) (by simp) (fun b j=>bH _ _ (aa ab u.kind) (aa ab u.num) (ac u.name) (.slice A u.args.length I) b j) (by simp)
  refine aw (v:=aJ #[aV #[aa ab u.kind,aa ab u.num,ac u.name,.slice A u.args.length I],aa ab 0]) (by simp [results,ej,go_sem,a]) rfl ?_
  exact ⟨u,0,n+1,false,A,I,U,rfl,L.p,L.s,D.out,bm _,.inr ⟨rfl,bK _,h8.out⟩⟩
 ·have C:=ke h
  have b4:(t.r.kind==4)=false:=by rw [C.1];rfl
  have b3:(t.r.kind==3)=false:=by rw [C.1];rfl
  have b5:(t.r.kind==5)=false:=by rw [C.1];rfl
  have d6:Hid (n+1<c.E.T.length):=zq (b1.out (by rw [C.1];decide))
  have c4:Hid (mB (c.E.at n)=false):=zq (by rw [<-K.out];exact dP h)
  have O:=zq h
  have f3:=zq C.1
  have Z:Hid (R=lF 0 (jb c.E [41] id (un S 1200 (n+1)))):=zq (by rw [HR.out,Ae (by rw [<-K.out];exact h)])
  have b7:=d6
  clear C
  clear h HR d7 e0 d4 c8 b1 d8 d5 c9 e1 c0
  have a:=M.out.b.all
  simp only [an,ao,QC.cells,ag,ai,aj,aH,aP,ah,af,and_true] at a
  go_wp2_with fail
  refine (J.out ⟨#[40]⟩ _).mono ?_;rintro e w3 ⟨rfl,d⟩
  have z:=zq (M.out.call d)
  clear a
  clear d M
  rw [show dp t (⟨#[40]⟩:ByteArray).data.toList=true from O.out]
  have a:=z.out.b.all
  simp only [an,ao,QC.cells,ag,ai,aj,aH,aP,ah,af,and_true] at a
  have b2:wrap64 ((n:Int)+1)=(n:Int)+1:=cg _ (by have:=b0.out;omega)
  obtain ⟨w4,i2⟩:=lz (w3.setCell ⟨c.P,1,none⟩ (aa ab ((n:Int)+1)))
  have G:Hid (Wq c (n+1) false (bv c.E.T n) U w U w4 [(g1,[aa ab t.r.kind,ac t.txt,aa ab t.r.n,aa ab t.r.at_,aa ab t.r.end_,av t.lay]),(w.heap.size,[aa ab 0,aa ab 0,ac ⟨#[]⟩,.slice none 0 0])]):=zq (by rw [i2.out];exact z.out.next (n+1) (by omega) (by have:=b7.out;omega))
  rw [<-fU b0.out.1 c4.out] at G
  go_upto_region 13 with fail
  rw [<-i2.out]
  clear a
  clear b2 i2 z
  clear b4 b3 b5 J
  have a:=G.out.b.all
  simp only [an,ao,QC.cells,ag,ai,aj,aH,aP,ah,af,and_true] at a
  go_wp2_with fail
  refine (HS.out 1200 _ _ (n+1) (ae _) G.out.p).mono ?_;rintro e w5 ⟨u,pu,m,wr,A,I,y,rfl,H,B,D,b9⟩
  have Y:=zq (G.out.step H B)
  have HT:=zq (Trq.sub (w0:=w) (F:=[w.heap.size]) D G.out.s.size (by intro b j;rw [aK] at j;subst j;exact G.out.b.lt 1 rfl))
  have c5:=zq b9
  clear a
  clear H B D b9 G
  unfold fI
  have Q:=zq (Y.out.new [aa ab u.kind,aa ab u.num,ac u.name,.slice A u.args.length I] 30 (g:=w5.heap.size) rfl)
  have h6:=zq (HT.out.call ((ap w5.heap.size w5).alloc (ae _) (.cells #[aa ab u.kind,aa ab u.num,ac u.name,.slice A u.args.length I] 30)))
  obtain ⟨w6,l7⟩:=lz (w5.alloc (.cells #[aa ab u.kind,aa ab u.num,ac u.name,.slice A u.args.length I] 30))
  obtain ⟨b6,j4⟩:=lz (w5.heap.size)
  go_upto_region 14 with fail
  rw [<-l7.out] at Q h6 |-
  rw [<-j4.out] at Q  |-
  clear l7 j4 Y HT
  have a:=Q.out.b.all
  simp only [an,ao,QC.cells,ag,ai,aj,aH,aP,ah,af,and_true] at a
  go_wp2_with fail
  refine (ml Q.out.p ⟨#[41]⟩).mono ?_;rintro e w7 ⟨rfl,m2,e6,H,B,d1⟩
  have e5:=zq d1
  have N:=zq (Q.out.step H B)
  clear a
  have m6:=zq (h6.out.step B)
  clear H B d1 Q h6
  have a:=N.out.b.all
  simp only [an,ao,QC.cells,ag,ai,aj,aH,aP,ah,af,and_true] at a
  go_wp2_with fail
  have L:=N.out.put4 2 rfl (aa ab u.kind) (aa ab u.num) (ac u.name) (.slice A u.args.length I) (ae _)
  have D:=m6.out.put (g:=w.heap.size) (by simp) (fun b j=>bH _ _ (aa ab u.kind) (aa ab u.num) (ac u.name) (.slice A u.args.length I) b j) (by simp)
  refine aw (v:=aJ #[aV #[aa ab u.kind,aa ab u.num,ac u.name,.slice A u.args.length I],aa ab 0]) (by simp [results,ej,go_sem,a]) rfl ?_
  exact ⟨u,0,m2,e6,A,I,y,rfl,L.p,L.s,D.out,by rw [Z.out];exact (jM 0 (kR id (vB c5.out) e5.out)).from (bm n)⟩
 ·have h2:=h.2
  replace h:=h.1
  have C:=ke h
  have b4:(t.r.kind==4)=false:=by rw [C.1];rfl
  have b3:(t.r.kind==3)=false:=by rw [C.1];rfl
  have b5:(t.r.kind==5)=false:=by rw [C.1];rfl
  have d6:Hid (n+1<c.E.T.length):=zq (b1.out (by rw [C.1];decide))
  have c4:Hid (mB (c.E.at n)=false):=zq (by rw [<-K.out];exact dP h)
  have O:=zq h
  have f3:=zq C.1
  have Z:Hid (R=vL c.E S t ⟨#[91,93]⟩ false f2 (n+2)):=zq (by rw [HR.out,Bo (by rw [<-K.out];exact h) h2,<-K.out])
  have e9:=zq h2
  have b7:Hid (n+2<c.E.T.length):=zq (c0.out (n+1) d6.out (by rw [(ke h2).1];decide))
  have h7:Hid (mB (c.E.at (n+1))=false):=zq (dP h2)
  clear C h2
  clear h HR d7 HS d4 b1 d8 d5 e1 c0
  have a:=M.out.b.all
  simp only [an,ao,QC.cells,ag,ai,aj,aH,aP,ah,af,and_true] at a
  go_wp2_with fail
  refine (J.out ⟨#[40]⟩ _).mono ?_;rintro e w3 ⟨rfl,d⟩
  have z:=zq (M.out.call d)
  clear a
  clear d M
  rw [show dp t (⟨#[40]⟩:ByteArray).data.toList=false from iQ O.out (by decide)]
  have a:=z.out.b.all
  simp only [an,ao,QC.cells,ag,ai,aj,aH,aP,ah,af,and_true] at a
  go_wp2_with fail
  refine (J.out ⟨#[91]⟩ _).mono ?_;rintro e w4 ⟨rfl,d⟩
  have G:=zq (z.out.call d)
  clear a
  clear d z
  rw [show dp t (⟨#[91]⟩:ByteArray).data.toList=true from O.out]
  go_wp2_with fail
  refine (c9.out _ _ _ _ _ G.out.p).mono ?_;rintro e w5 ⟨rfl,d⟩
  have Y:=zq (G.out.call d)
  clear d G
  go_wp2_with fail
  refine (c8.out ⟨#[93]⟩ _).mono ?_;rintro e w6 ⟨rfl,d⟩
  have Q:=zq (Y.out.call d)
  clear d Y
  rw [show dp (c.E.at (n+1)) (⟨#[93]⟩:ByteArray).data.toList=true from e9.out]
  have a:=Q.out.b.all
  simp only [an,ao,QC.cells,ag,ai,aj,aH,aP,ah,af,and_true] at a
  have b2:wrap64 ((n:Int)+2)=(n:Int)+2:=cg _ (by have:=b0.out;omega)
  obtain ⟨w7,i3⟩:=lz (w6.setCell ⟨c.P,1,none⟩ (aa ab ((n:Int)+2)))
  have N:Hid (Wq c (n+2) false (bv c.E.T n) U w U w7 [(g1,[aa ab t.r.kind,ac t.txt,aa ab t.r.n,aa ab t.r.at_,aa ab t.r.end_,av t.lay]),(w.heap.size,[aa ab 0,aa ab 0,ac ⟨#[]⟩,.slice none 0 0])]):=zq (by rw [i3.out];exact Q.out.next (n+2) (by omega) (by have:=b7.out;omega))
  rw [<-fU b0.out.1 c4.out] at N
  rw [<-fU d6.out h7.out] at N
  go_upto_region 18 with fail
  rw [<-i3.out]
  clear a
  clear b2 i3 Q
  clear b4 b3 b5 J c8 c9
  have a:=N.out.b.all
  simp only [an,ao,QC.cells,ag,ai,aj,aH,aP,ah,af,and_true] at a
  go_wp2_with fail
  refine (e0.out (n+2) (bm _) _ _ N.out.p t ⟨#[91,93]⟩ false (fun h=>by have:=f3.out;omega)).mono ?_;rintro e w8 ⟨u,pu,m,wr,A,I,y,rfl,H,B,D,b9⟩
  have V:=zq (N.out.step H B)
  have HT:=zq (Trq.sub (w0:=w) (F:=[w.heap.size]) D N.out.s.size (by intro b j;rw [aK] at j;subst j;exact N.out.b.lt 1 rfl))
  have c5:=zq b9
  clear a
  clear H B D b9 N
  unfold fI
  have a:=V.out.b.all
  simp only [an,ao,QC.cells,ag,ai,aj,aH,aP,ah,af,and_true] at a
  go_wp2_with fail
  have L:=V.out.put4 1 rfl (aa ab u.kind) (aa ab u.num) (ac u.name) (.slice A u.args.length I) (ae _)
  have D:=HT.out.put (g:=w.heap.size) (by simp) (fun b j=>bH _ _ (aa ab u.kind) (aa ab u.num) (ac u.name) (.slice A u.args.length I) b j) (by simp)
  refine aw (v:=aJ #[aV #[aa ab u.kind,aa ab u.num,ac u.name,.slice A u.args.length I],aa ab pu]) (by simp [results,ej,go_sem,a]) rfl ?_
  exact ⟨u,pu,m,wr,A,I,y,rfl,L.p,L.s,D.out,by rw [Z.out];exact c5.out⟩
 ·have h2:=h.2
  replace h:=h.1
  have C:=ke h
  have b4:(t.r.kind==4)=false:=by rw [C.1];rfl
  have b3:(t.r.kind==3)=false:=by rw [C.1];rfl
  have b5:(t.r.kind==5)=false:=by rw [C.1];rfl
  have d6:Hid (n+1<c.E.T.length):=zq (b1.out (by rw [C.1];decide))
  have c4:Hid (mB (c.E.at n)=false):=zq (by rw [<-K.out];exact dP h)
  have O:=zq h
  have f3:=zq C.1
  have Z:Hid (R=vL c.E S t ⟨#[123,125]⟩ false f2 (n+2)):=zq (by rw [HR.out,Bn (by rw [<-K.out];exact h) h2,<-K.out])
  have e9:=zq h2
  have b7:Hid (n+2<c.E.T.length):=zq (c0.out (n+1) d6.out (by rw [(ke h2).1];decide))
  have h7:Hid (mB (c.E.at (n+1))=false):=zq (dP h2)
  clear C h2
  clear h HR d7 HS d4 b1 d8 d5 e1 c0
  have a:=M.out.b.all
  simp only [an,ao,QC.cells,ag,ai,aj,aH,aP,ah,af,and_true] at a
  go_wp2_with fail
  refine (J.out ⟨#[40]⟩ _).mono ?_;rintro e w3 ⟨rfl,d⟩
  have z:=zq (M.out.call d)
  clear a
  clear d M
  rw [show dp t (⟨#[40]⟩:ByteArray).data.toList=false from iQ O.out (by decide)]
  have a:=z.out.b.all
  simp only [an,ao,QC.cells,ag,ai,aj,aH,aP,ah,af,and_true] at a
  go_wp2_with fail
  refine (J.out ⟨#[91]⟩ _).mono ?_;rintro e w4 ⟨rfl,d⟩
  have G:=zq (z.out.call d)
  clear a
  clear d z
  rw [show dp t (⟨#[91]⟩:ByteArray).data.toList=false from iQ O.out (by decide)]
  have a:=G.out.b.all
  simp only [an,ao,QC.cells,ag,ai,aj,aH,aP,ah,af,and_true] at a
  go_wp2_with fail
  refine (J.out ⟨#[123]⟩ _).mono ?_;rintro e w5 ⟨rfl,d⟩
  have Y:=zq (G.out.call d)
  clear a
  clear d G
  rw [show dp t (⟨#[123]⟩:ByteArray).data.toList=true from O.out]
  go_wp2_with fail
  refine (c9.out _ _ _ _ _ Y.out.p).mono ?_;rintro e w6 ⟨rfl,d⟩
  have Q:=zq (Y.out.call d)
  clear d Y
  go_wp2_with fail
  refine (c8.out ⟨#[125]⟩ _).mono ?_;rintro e w7 ⟨rfl,d⟩
  have N:=zq (Q.out.call d)
  clear d Q
  rw [show dp (c.E.at (n+1)) (⟨#[125]⟩:ByteArray).data.toList=true from e9.out]
  have a:=N.out.b.all
  simp only [an,ao,QC.cells,ag,ai,aj,aH,aP,ah,af,and_true] at a
  have b2:wrap64 ((n:Int)+2)=(n:Int)+2:=cg _ (by have:=b0.out;omega)
  obtain ⟨w8,i4⟩:=lz (w7.setCell ⟨c.P,1,none⟩ (aa ab ((n:Int)+2)))
  have V:Hid (Wq c (n+2) false (bv c.E.T n) U w U w8 [(g1,[aa ab t.r.kind,ac t.txt,aa ab t.r.n,aa ab t.r.at_,aa ab t.r.end_,av t.lay]),(w.heap.size,[aa ab 0,aa ab 0,ac ⟨#[]⟩,.slice none 0 0])]):=zq (by rw [i4.out];exact N.out.next (n+2) (by omega) (by have:=b7.out;omega))
  rw [<-fU b0.out.1 c4.out] at V
  rw [<-fU d6.out h7.out] at V
  go_upto_region 21 with fail
  rw [<-i4.out]
  clear a
  clear b2 i4 N
  clear b4 b3 b5 J c8 c9
  have a:=V.out.b.all
  simp only [an,ao,QC.cells,ag,ai,aj,aH,aP,ah,af,and_true] at a
  go_wp2_with fail
  refine (e0.out (n+2) (bm _) _ _ V.out.p t ⟨#[123,125]⟩ false (fun h=>by have:=f3.out;omega)).mono ?_;rintro e w9 ⟨u,pu,m,wr,A,I,y,rfl,H,B,D,b9⟩
  have a0:=zq (V.out.step H B)
  have HT:=zq (Trq.sub (w0:=w) (F:=[w.heap.size]) D V.out.s.size (by intro b j;rw [aK] at j;subst j;exact V.out.b.lt 1 rfl))
  have c5:=zq b9
  clear a
  clear H B D b9 V
  unfold fI
  have a:=a0.out.b.all
  simp only [an,ao,QC.cells,ag,ai,aj,aH,aP,ah,af,and_true] at a
  go_wp2_with fail
  have L:=a0.out.put4 1 rfl (aa ab u.kind) (aa ab u.num) (ac u.name) (.slice A u.args.length I) (ae _)
  have D:=HT.out.put (g:=w.heap.size) (by simp) (fun b j=>bH _ _ (aa ab u.kind) (aa ab u.num) (ac u.name) (.slice A u.args.length I) b j) (by simp)
  refine aw (v:=aJ #[aV #[aa ab u.kind,aa ab u.num,ac u.name,.slice A u.args.length I],aa ab pu]) (by simp [results,ej,go_sem,a]) rfl ?_
  exact ⟨u,pu,m,wr,A,I,y,rfl,L.p,L.s,D.out,by rw [Z.out];exact c5.out⟩
 ·have h2:=h.2
  replace h:=h.1
  have C:=ke h
  have b4:(t.r.kind==4)=false:=by rw [C.1];rfl
  have b3:(t.r.kind==3)=false:=by rw [C.1];rfl
  have b5:(t.r.kind==5)=false:=by rw [C.1];rfl
  have d6:Hid (n+1<c.E.T.length):=zq (b1.out (by rw [C.1];decide))
  have c4:Hid (mB (c.E.at n)=false):=zq (by rw [<-K.out];exact dP h)
  have O:=zq h
  have f3:=zq C.1
  have Z:Hid (R=lF 0 (jb c.E [93] (fun x=>la x.1 x.2) (zK c.E S (kN c.E S (n+1))))):=zq (by rw [HR.out,yy (by rw [<-K.out];exact h) h2])
  have e9:=zq h2
  have b7:=d6
  clear C h2
  clear h HR e0 d4 b1 d8 e1
  have a:=M.out.b.all
  simp only [an,ao,QC.cells,ag,ai,aj,aH,aP,ah,af,and_true] at a
  go_wp2_with fail
  refine (J.out ⟨#[40]⟩ _).mono ?_;rintro e w3 ⟨rfl,d⟩
  have z:=zq (M.out.call d)
  clear a
  clear d M
  rw [show dp t (⟨#[40]⟩:ByteArray).data.toList=false from iQ O.out (by decide)]
  have a:=z.out.b.all
  simp only [an,ao,QC.cells,ag,ai,aj,aH,aP,ah,af,and_true] at a
  go_wp2_with fail
  refine (J.out ⟨#[91]⟩ _).mono ?_;rintro e w4 ⟨rfl,d⟩
  have G:=zq (z.out.call d)
  clear a
  clear d z
  rw [show dp t (⟨#[91]⟩:ByteArray).data.toList=true from O.out]
  go_wp2_with fail
  refine (c9.out _ _ _ _ _ G.out.p).mono ?_;rintro e w5 ⟨rfl,d⟩
  have Y:=zq (G.out.call d)
  clear d G
  go_wp2_with fail
  refine (c8.out ⟨#[93]⟩ _).mono ?_;rintro e w6 ⟨rfl,d⟩
  have Q:=zq (Y.out.call d)
  clear d Y
  rw [show dp (c.E.at (n+1)) (⟨#[93]⟩:ByteArray).data.toList=false from e9.out]
  have a:=Q.out.b.all
  simp only [an,ao,QC.cells,ag,ai,aj,aH,aP,ah,af,and_true] at a
  go_wp2_with fail
  refine (J.out ⟨#[123]⟩ _).mono ?_;rintro e w7 ⟨rfl,d⟩
  have N:=zq (Q.out.call d)
  clear a
  clear d Q
  rw [show dp t (⟨#[123]⟩:ByteArray).data.toList=false from iQ O.out (by decide)]
  have a:=N.out.b.all
  simp only [an,ao,QC.cells,ag,ai,aj,aH,aP,ah,af,and_true] at a
  go_wp2_with fail
  refine (J.out ⟨#[91]⟩ _).mono ?_;rintro e w8 ⟨rfl,d⟩
  have V:=zq (N.out.call d)
  clear a
  clear d N
  rw [show dp t (⟨#[91]⟩:ByteArray).data.toList=true from O.out]
  have a:=V.out.b.all
  simp only [an,ao,QC.cells,ag,ai,aj,aH,aP,ah,af,and_true] at a
  have b2:wrap64 ((n:Int)+1)=(n:Int)+1:=cg _ (by have:=b0.out;omega)
  obtain ⟨w9,f1⟩:=lz (w8.setCell ⟨c.P,1,none⟩ (aa ab ((n:Int)+1)))
  have a0:Hid (Wq c (n+1) false (bv c.E.T n) U w U w9 [(g1,[aa ab t.r.kind,ac t.txt,aa ab t.r.n,aa ab t.r.at_,aa ab t.r.end_,av t.lay]),(w.heap.size,[aa ab 0,aa ab 0,ac ⟨#[]⟩,.slice none 0 0])]):=zq (by rw [f1.out];exact V.out.next (n+1) (by omega) (by have:=b7.out;omega))
  rw [<-fU b0.out.1 c4.out] at a0
  go_upto_region 24 with fail
  rw [<-f1.out]
  clear a
  clear b2 f1 V
  clear b4 b3 b5 J c8 c9
  have a:=a0.out.b.all
  simp only [an,ao,QC.cells,ag,ai,aj,aH,aP,ah,af,and_true] at a
  go_wp2_with fail
  refine (d7.out _ _ a0.out.p).mono ?_;rintro e j0 ⟨l,m,wr,A,I,y,rfl,H,B,D,b9⟩
  have d2:=zq (a0.out.step H B)
  have HT:=zq (Trq.sub (w0:=w) (F:=[w.heap.size]) D a0.out.s.size (by intro b j;rw [aK] at j;subst j;exact a0.out.b.lt 1 rfl))
  have c5:=zq b9
  clear a
  clear H B D b9 d7 a0
  go_wp2_with fail
  refine (ne ⟨#[91,93]⟩ _).mono ?_;rintro e e3 ⟨rfl,d⟩
  have f8:=zq (d2.out.call d)
  have k0:=zq (HT.out.call d)
  clear d d2 HT
  have b8:=zq (f8.out.new [aa ab 2,aa ab 0,ac ⟨#[91,93]⟩,.slice none 0 0] 30 (g:=e3.heap.size) rfl)
  have f4:=zq (k0.out.new (.cells #[aa ab 2,aa ab 0,ac ⟨#[91,93]⟩,.slice none 0 0] 30) (g:=e3.heap.size) rfl)
  obtain ⟨m7,g0⟩:=lz (e3.alloc (.cells #[aa ab 2,aa ab 0,ac ⟨#[91,93]⟩,.slice none 0 0] 30))
  obtain ⟨d0,f7⟩:=lz (e3.heap.size)
  go_upto_region 26 with fail
  rw [<-g0.out] at b8 f4 |-
  rw [<-f7.out] at b8 f4 |-
  clear g0 f7 f8 k0
  cases wr
  ·have a:=b8.out.b.all
   simp only [an,ao,QC.cells,ag,ai,aj,aH,aP,ah,af,and_true] at a
   go_wp2_with fail
   refine (d5.out _ _ _ _ _ b8.out.p).mono ?_;rintro e e4 ⟨rfl,d⟩
   have c1:=zq (b8.out.call d)
   clear a
   have k1:=zq (f4.out.call d)
   clear d b8 f4
   simp only [bj]
   go_wp2_with fail
   refine (gf (c.E.at m) ⟨#[124]⟩ _).mono ?_;rintro e g6 ⟨rfl,d⟩
   have c2:=zq (c1.out.call d)
   have g4:=zq (k1.out.call d)
   clear d c1 k1
   rw [show (⟨#[124]⟩:ByteArray).data.toList=[124] from rfl]
   cases hc:dp (c.E.at m) [124]
   ·have k2:=zq (g4.out.fewer (F':=[w.heap.size]) (by intro b j;rw [aK] at j;subst j;simp))
    clear g4
    have f6:=zq (zJ (S:=S) c5.out hc)
    clear hc HS c0
    have a:=c2.out.b.all
    simp only [an,ao,QC.cells,ag,ai,aj,aH,aP,ah,af,and_true] at a
    go_wp2_with fail
    refine (ml c2.out.p ⟨#[93]⟩).mono ?_;rintro e f5 ⟨rfl,m2,e6,H,B,d1⟩
    have e5:=zq d1
    have d3:=zq (c2.out.step H B)
    clear a
    have k3:=zq (k2.out.step B)
    clear H B d1 c2 k2
    have a:=d3.out.b.all
    simp only [an,ao,QC.cells,ag,ai,aj,aH,aP,ah,af,and_true] at a
    go_wp2_with fail
    obtain ⟨q,e7⟩:=lz (la l kn)
    have c7:=zq (oU (fun b=>c.new y w f5 b/\b ∉ [w.heap.size]) l A l.length I kn none 0 f5 rfl (fun b j=>j.1.2.1) k3.out TmsK.nil)
    rw [<-e7.out] at c7
    unfold fI at c7
    refine c7.out.mono ?_;rintro e j1 ⟨A6,c6,rfl,d,e8⟩
    have f0:=zq (d3.out.call d)
    have m4:Hid (Trq c y w j1 [w.heap.size] A6 q.args):=zq (e8.keep (fun _ _=>rfl) fun b j=>by
     have h0:w.heap.size<f5.heap.size:=d3.out.b.lt 2 rfl
     have h9:=d.size
     rcases j with j | j
     ·exact ⟨⟨j.1.1,aA j.1.2.1 h9,j.1.2.2⟩,j.2⟩
     ·refine ⟨⟨by omega,j.2,fun hm=>?_⟩,fun e=>?_⟩
      ·have:=d3.out.p.lts hm;omega
      ·rw [aK] at e;omega)
    clear a
    clear d e8 c7 d3 k3
    have a:=f0.out.b.all
    simp only [an,ao,QC.cells,ag,ai,aj,aH,aP,ah,af,and_true] at a
    go_wp2_with fail
    have L:=f0.out.put4 2 rfl (aa ab q.kind) (aa ab q.num) (ac q.name) (.slice A6 q.args.length c6) (ae _)
    have D:=m4.out.put (g:=w.heap.size) (by simp) (fun b j=>bH _ _ (aa ab q.kind) (aa ab q.num) (ac q.name) (.slice A6 q.args.length c6) b j) (by simp)
    refine aw (v:=aJ #[aV #[aa ab q.kind,aa ab q.num,ac q.name,.slice A6 q.args.length c6],aa ab 0]) (by simp [results,ej,go_sem,a]) rfl ?_
    exact ⟨q,0,m2,e6,A6,c6,y,rfl,L.p,L.s,D.out,by rw [Z.out,e7.out];exact (jM 0 (kR (fun x=>la x.1 x.2) f6.out e5.out)).from (bm n)⟩
   ·have HC:=zq hc
    have hm:=c0.out m c2.out.p.n1 (jA hc)
    have hv:=fU c2.out.p.n1 (dP hc)
    have a:=c2.out.b.all
    simp only [an,ao,QC.cells,ag,ai,aj,aH,aP,ah,af,and_true] at a
    have b2:wrap64 ((m:Int)+1)=(m:Int)+1:=cg _ (by have:=b0.out;omega)
    obtain ⟨f5,g5⟩:=lz (g6.setCell ⟨c.P,1,none⟩ (aa ab ((m:Int)+1)))
    have d3:Hid (Wq c (m+1) false (bv c.E.T m) U w y f5 [(d0,[aa ab 2,aa ab 0,ac ⟨#[91,93]⟩,.slice none 0 0]),(g1,[aa ab t.r.kind,ac t.txt,aa ab t.r.n,aa ab t.r.at_,aa ab t.r.end_,av t.lay]),(w.heap.size,[aa ab 0,aa ab 0,ac ⟨#[]⟩,.slice none 0 0])]):=zq (by rw [g5.out];exact c2.out.inc hm)
    rw [<-hv] at d3
    have l1:Hid (Trq c y w f5 [d0,w.heap.size] A l):=zq (by rw [g5.out];exact g4.out.step ((StQ.refl c y _).put 1 _))
    go_upto_region 28 with fail
    rw [<-g5.out]
    clear a
    clear b2 g5 hm hv hc c0 c2 g4
    go_wp2_with fail
    refine (HS.out 999 _ _ (m+1) (by have:=c5.out.1;omega) d3.out.p).mono ?_;rintro e j1 ⟨u,pu,m3,m9,A3,c3,y3,rfl,H,B,D,l9⟩
    have f0:=zq (d3.out.step H B)
    have k7:=zq (l1.out.step B)
    have l2:=zq (Trq.sub (w0:=w) (F:=[d0,w.heap.size]) D d3.out.s.size (by intro b j;simp only [bh,be,or_false] at j;rcases j with rfl|rfl;exact d3.out.b.lt 0 rfl;exact d3.out.b.lt 2 rfl))
    have f6:=zq (zI c5.out HC.out l9)
    clear H B D l9 HS l1 d3
    unfold fI
    have a:=f0.out.b.all
    simp only [an,ao,QC.cells,ag,ai,aj,aH,aP,ah,af,and_true] at a
    obtain ⟨j2,g2⟩:=lz ((((j1.setCell ⟨d0,0,none⟩ (aa ab u.kind)).setCell ⟨d0,1,none⟩ (aa ab u.num)).setCell ⟨d0,2,none⟩ (ac u.name)).setCell ⟨d0,3,none⟩ (.slice A3 u.args.length c3))
    have HG:Hid (w.heap.size<=d0):=zq (Nat.le_of_lt (by have:=f0.out.b.ord;simp only [ag,ai,List.map_cons,List.map_nil,List.pairwise_cons,bh,be,or_false,forall_eq_or_imp,forall_eq] at this;exact this.1.2.1))
    have g3:Hid (Wq c m3 m9 (bv c.E.T m3) U w y3 j2 [(d0,[aa ab u.kind,aa ab u.num,ac u.name,.slice A3 u.args.length c3]),(g1,[aa ab t.r.kind,ac t.txt,aa ab t.r.n,aa ab t.r.at_,aa ab t.r.end_,av t.lay]),(w.heap.size,[aa ab 0,aa ab 0,ac ⟨#[]⟩,.slice none 0 0])]):=zq (by rw [g2.out];exact f0.out.put4 0 rfl (aa ab u.kind) (aa ab u.num) (ac u.name) (.slice A3 u.args.length c3) HG.out)
    have k8:Hid (Trq c y3 w j2 [d0,w.heap.size] A l):=zq (by rw [g2.out];exact k7.out.put (g:=d0) (by simp) (fun b j=>bH _ _ _ _ _ _ b j) (by simp))
    have l3:Hid (Trq c y3 w j2 [d0,w.heap.size] A3 u.args):=zq (by rw [g2.out];exact l2.out.put (g:=d0) (by simp) (fun b j=>bH _ _ _ _ _ _ b j) (by simp))
    go_upto_region 29 with fail
    rw [<-g2.out]
    clear a
    clear g2 HG k7 l2 f0
    have k9:=zq (k8.out.fewer (F':=[w.heap.size]) (by intro b j;rw [aK] at j;subst j;simp))
    clear k8
    have l4:=zq (l3.out.fewer (F':=[w.heap.size]) (by intro b j;rw [aK] at j;subst j;simp))
    clear l3
    have a:=g3.out.b.all
    simp only [an,ao,QC.cells,ag,ai,aj,aH,aP,ah,af,and_true] at a
    go_wp2_with fail
    refine (ml g3.out.p ⟨#[93]⟩).mono ?_;rintro e j3 ⟨rfl,m2,e6,H,B,d1⟩
    have e5:=zq d1
    have f9:=zq (g3.out.step H B)
    clear a
    have l0:=zq (k9.out.step B)
    have l5:=zq (l4.out.step B)
    clear H B d1 g3 k9 l4
    have a:=f9.out.b.all
    simp only [an,ao,QC.cells,ag,ai,aj,aH,aP,ah,af,and_true] at a
    go_wp2_with fail
    obtain ⟨q,e7⟩:=lz (la l u)
    have c7:=zq (oU (fun b=>c.new y3 w j3 b/\b ∉ [w.heap.size]) l A l.length I u A3 c3 j3 rfl (fun b j=>j.1.2.1) l0.out l5.out)
    rw [<-e7.out] at c7
    unfold fI at c7
    refine c7.out.mono ?_;rintro e m8 ⟨A6,c6,rfl,d,e8⟩
    have j7:=zq (f9.out.call d)
    have m5:Hid (Trq c y3 w m8 [w.heap.size] A6 q.args):=zq (e8.keep (fun _ _=>rfl) fun b j=>by
     have h0:w.heap.size<j3.heap.size:=f9.out.b.lt 2 rfl
     have h9:=d.size
     rcases j with j | j
     ·exact ⟨⟨j.1.1,aA j.1.2.1 h9,j.1.2.2⟩,j.2⟩
     ·refine ⟨⟨by omega,j.2,fun hm=>?_⟩,fun e=>?_⟩
      ·have:=f9.out.p.lts hm;omega
      ·rw [aK] at e;omega)
    clear a
    clear d e8 c7 f9 l0 l5
    have a:=j7.out.b.all
    simp only [an,ao,QC.cells,ag,ai,aj,aH,aP,ah,af,and_true] at a
    go_wp2_with fail
    have L:=j7.out.put4 2 rfl (aa ab q.kind) (aa ab q.num) (ac q.name) (.slice A6 q.args.length c6) (ae _)
    have D:=m5.out.put (g:=w.heap.size) (by simp) (fun b j=>bH _ _ (aa ab q.kind) (aa ab q.num) (ac q.name) (.slice A6 q.args.length c6) b j) (by simp)
    refine aw (v:=aJ #[aV #[aa ab q.kind,aa ab q.num,ac q.name,.slice A6 q.args.length c6],aa ab 0]) (by simp [results,ej,go_sem,a]) rfl ?_
    exact ⟨q,0,m2,e6,A6,c6,y3,rfl,L.p,L.s,D.out,by rw [Z.out,e7.out];exact (jM 0 (kR (fun x=>la x.1 x.2) f6.out e5.out)).from (bm n)⟩
  ·have k4:=zq (f4.out.fewer (F':=[w.heap.size]) (by intro b j;rw [aK] at j;subst j;simp))
   clear f4
   have f6:=zq (AZ (S:=S) (E:=c.E) c5.out)
   clear HS d5 c0
   have a:=b8.out.b.all
   simp only [an,ao,QC.cells,ag,ai,aj,aH,aP,ah,af,and_true] at a
   go_wp2_with fail
   refine (ml b8.out.p ⟨#[93]⟩).mono ?_;rintro e e4 ⟨rfl,m2,e6,H,B,d1⟩
   have e5:=zq d1
   have c1:=zq (b8.out.step H B)
   clear a
   have k5:=zq (k4.out.step B)
   clear H B d1 b8 k4
   have a:=c1.out.b.all
   simp only [an,ao,QC.cells,ag,ai,aj,aH,aP,ah,af,and_true] at a
   go_wp2_with fail
   obtain ⟨q,e7⟩:=lz (la l kn)
   have c7:=zq (oU (fun b=>c.new y w e4 b/\b ∉ [w.heap.size]) l A l.length I kn none 0 e4 rfl (fun b j=>j.1.2.1) k5.out TmsK.nil)
   rw [<-e7.out] at c7
   unfold fI at c7
   refine c7.out.mono ?_;rintro e g6 ⟨A6,c6,rfl,d,e8⟩
   have c2:=zq (c1.out.call d)
   have g8:Hid (Trq c y w g6 [w.heap.size] A6 q.args):=zq (e8.keep (fun _ _=>rfl) fun b j=>by
    have h0:w.heap.size<e4.heap.size:=c1.out.b.lt 2 rfl
    have h9:=d.size
    rcases j with j | j
    ·exact ⟨⟨j.1.1,aA j.1.2.1 h9,j.1.2.2⟩,j.2⟩
    ·refine ⟨⟨by omega,j.2,fun hm=>?_⟩,fun e=>?_⟩
     ·have:=c1.out.p.lts hm;omega
     ·rw [aK] at e;omega)
   clear a
   clear d e8 c7 c1 k5
   have a:=c2.out.b.all
   simp only [an,ao,QC.cells,ag,ai,aj,aH,aP,ah,af,and_true] at a
   go_wp2_with fail
   have L:=c2.out.put4 2 rfl (aa ab q.kind) (aa ab q.num) (ac q.name) (.slice A6 q.args.length c6) (ae _)
   have D:=g8.out.put (g:=w.heap.size) (by simp) (fun b j=>bH _ _ (aa ab q.kind) (aa ab q.num) (ac q.name) (.slice A6 q.args.length c6) b j) (by simp)
   refine aw (v:=aJ #[aV #[aa ab q.kind,aa ab q.num,ac q.name,.slice A6 q.args.length c6],aa ab 0]) (by simp [results,ej,go_sem,a]) rfl ?_
   exact ⟨q,0,m2,e6,A6,c6,y,rfl,L.p,L.s,D.out,by rw [Z.out,e7.out];exact (jM 0 (kR (fun x=>la x.1 x.2) f6.out e5.out)).from (bm n)⟩
 ·have h2:=h.2
  replace h:=h.1
  have C:=ke h
  have b4:(t.r.kind==4)=false:=by rw [C.1];rfl
  have b3:(t.r.kind==3)=false:=by rw [C.1];rfl
  have b5:(t.r.kind==5)=false:=by rw [C.1];rfl
  have d6:Hid (n+1<c.E.T.length):=zq (b1.out (by rw [C.1];decide))
  have c4:Hid (mB (c.E.at n)=false):=zq (by rw [<-K.out];exact dP h)
  have O:=zq h
  have f3:=zq C.1
  have Z:Hid (R=lF 0 (jb c.E [125] (fun t=>ju ⟨#[123,125]⟩ [t]) (un S 1200 (n+1)))):=zq (by rw [HR.out,Ah (by rw [<-K.out];exact h) h2])
  have e9:=zq h2
  have b7:=d6
  clear C h2
  clear h HR d7 e0 d4 b1 d8 d5 e1 c0
  have a:=M.out.b.all
  simp only [an,ao,QC.cells,ag,ai,aj,aH,aP,ah,af,and_true] at a
  go_wp2_with fail
  refine (J.out ⟨#[40]⟩ _).mono ?_;rintro e w3 ⟨rfl,d⟩
  have z:=zq (M.out.call d)
  clear a
  clear d M
  rw [show dp t (⟨#[40]⟩:ByteArray).data.toList=false from iQ O.out (by decide)]
  have a:=z.out.b.all
  simp only [an,ao,QC.cells,ag,ai,aj,aH,aP,ah,af,and_true] at a
  go_wp2_with fail
  refine (J.out ⟨#[91]⟩ _).mono ?_;rintro e w4 ⟨rfl,d⟩
  have G:=zq (z.out.call d)
  clear a
  clear d z
  rw [show dp t (⟨#[91]⟩:ByteArray).data.toList=false from iQ O.out (by decide)]
  have a:=G.out.b.all
  simp only [an,ao,QC.cells,ag,ai,aj,aH,aP,ah,af,and_true] at a
  go_wp2_with fail
  refine (J.out ⟨#[123]⟩ _).mono ?_;rintro e w5 ⟨rfl,d⟩
  have Y:=zq (G.out.call d)
  clear a
  clear d G
  rw [show dp t (⟨#[123]⟩:ByteArray).data.toList=true from O.out]
  go_wp2_with fail
  refine (c9.out _ _ _ _ _ Y.out.p).mono ?_;rintro e w6 ⟨rfl,d⟩
  have Q:=zq (Y.out.call d)
  clear d Y
  go_wp2_with fail
  refine (c8.out ⟨#[125]⟩ _).mono ?_;rintro e w7 ⟨rfl,d⟩
  have N:=zq (Q.out.call d)
  clear d Q
  rw [show dp (c.E.at (n+1)) (⟨#[125]⟩:ByteArray).data.toList=false from e9.out]
  have a:=N.out.b.all
  simp only [an,ao,QC.cells,ag,ai,aj,aH,aP,ah,af,and_true] at a
  go_wp2_with fail
  refine (J.out ⟨#[91]⟩ _).mono ?_;rintro e w8 ⟨rfl,d⟩
  have V:=zq (N.out.call d)
  clear a
  clear d N
  rw [show dp t (⟨#[91]⟩:ByteArray).data.toList=false from iQ O.out (by decide)]
  have a:=V.out.b.all
  simp only [an,ao,QC.cells,ag,ai,aj,aH,aP,ah,af,and_true] at a
  go_wp2_with fail
  refine (J.out ⟨#[123]⟩ _).mono ?_;rintro e w9 ⟨rfl,d⟩
  have a0:=zq (V.out.call d)
  clear a
  clear d V
  rw [show dp t (⟨#[123]⟩:ByteArray).data.toList=true from O.out]
  have a:=a0.out.b.all
  simp only [an,ao,QC.cells,ag,ai,aj,aH,aP,ah,af,and_true] at a
  have b2:wrap64 ((n:Int)+1)=(n:Int)+1:=cg _ (by have:=b0.out;omega)
  obtain ⟨j0,i1⟩:=lz (w9.setCell ⟨c.P,1,none⟩ (aa ab ((n:Int)+1)))
  have d2:Hid (Wq c (n+1) false (bv c.E.T n) U w U j0 [(g1,[aa ab t.r.kind,ac t.txt,aa ab t.r.n,aa ab t.r.at_,aa ab t.r.end_,av t.lay]),(w.heap.size,[aa ab 0,aa ab 0,ac ⟨#[]⟩,.slice none 0 0])]):=zq (by rw [i1.out];exact a0.out.next (n+1) (by omega) (by have:=b7.out;omega))
  rw [<-fU b0.out.1 c4.out] at d2
  go_upto_region 33 with fail
  rw [<-i1.out]
  clear a
  clear b2 i1 a0
  clear b4 b3 b5 J c8 c9
  have a:=d2.out.b.all
  simp only [an,ao,QC.cells,ag,ai,aj,aH,aP,ah,af,and_true] at a
  go_wp2_with fail
  refine (HS.out 1200 _ _ (n+1) (ae _) d2.out.p).mono ?_;rintro e e3 ⟨u,pu,m,wr,A,I,y,rfl,H,B,D,b9⟩
  have f8:=zq (d2.out.step H B)
  have HT:=zq (Trq.sub (w0:=w) (F:=[w.heap.size]) D d2.out.s.size (by intro b j;rw [aK] at j;subst j;exact d2.out.b.lt 1 rfl))
  have c5:=zq b9
  clear a
  clear H B D b9 d2
  unfold fI
  have b8:=zq (f8.out.new [aa ab u.kind,aa ab u.num,ac u.name,.slice A u.args.length I] 30 (g:=e3.heap.size) rfl)
  have g9:=zq (HT.out.call ((ap e3.heap.size e3).alloc (ae _) (.cells #[aa ab u.kind,aa ab u.num,ac u.name,.slice A u.args.length I] 30)))
  obtain ⟨m7,g0⟩:=lz (e3.alloc (.cells #[aa ab u.kind,aa ab u.num,ac u.name,.slice A u.args.length I] 30))
  obtain ⟨d0,f7⟩:=lz (e3.heap.size)
  go_upto_region 34 with fail
  rw [<-g0.out] at b8 g9 |-
  rw [<-f7.out] at b8  |-
  clear g0 f7 f8 HT
  have a:=b8.out.b.all
  simp only [an,ao,QC.cells,ag,ai,aj,aH,aP,ah,af,and_true] at a
  go_wp2_with fail
  refine (ml b8.out.p ⟨#[125]⟩).mono ?_;rintro e e4 ⟨rfl,m2,e6,H,B,d1⟩
  have e5:=zq d1
  have c1:=zq (b8.out.step H B)
  clear a
  have k6:=zq (g9.out.step B)
  clear H B d1 b8 g9
  have a:=c1.out.b.all
  simp only [an,ao,QC.cells,ag,ai,aj,aH,aP,ah,af,and_true] at a
  go_wp2_with fail
  have j9:=zq (Trq.row c1.out.p c1.out.s.size (F:=[w.heap.size]) (by intro b j;rw [aK] at j;subst j;exact c1.out.b.lt 2 rfl) 30 [(u,A,I)] (by simp [maxLen]) (by intro q hq;rw [aK] at hq;subst hq;exact k6.out))
  refine (iU ⟨#[123,125]⟩ _ _ _ _).mono ?_;rintro e g6 ⟨rfl,d⟩
  have c2:=zq (c1.out.call (((ap e4.heap.size e4).alloc (ae _) (.cells #[aa ab u.kind,aa ab u.num,ac u.name,.slice A u.args.length I] 30)).trans (d.mono (by simp))))
  have g8:=zq (j9.out.call d)
  clear a
  clear d j9 c1 k6
  have a:=c2.out.b.all
  simp only [an,ao,QC.cells,ag,ai,aj,aH,aP,ah,af,and_true] at a
  go_wp2_with fail
  have L:=c2.out.put4 2 rfl (aa ab 3) (aa ab 0) (ac ⟨#[123,125]⟩) (.slice (some ⟨e4.heap.size,0,none⟩) 1 1) (ae _)
  have D:=g8.out.put (g:=w.heap.size) (by simp) (fun b j=>bH _ _ (aa ab 3) (aa ab 0) (ac ⟨#[123,125]⟩) (.slice (some ⟨e4.heap.size,0,none⟩) 1 1) b j) (by simp)
  refine aw (v:=aJ #[aV #[aa ab 3,aa ab 0,ac ⟨#[123,125]⟩,.slice (some ⟨e4.heap.size,0,none⟩) 1 1],aa ab 0]) (by simp [results,ej,go_sem,a]) rfl ?_
  exact ⟨ju ⟨#[123,125]⟩ [u],0,m2,e6,_,_,y,rfl,L.p,L.s,D.out,by rw [Z.out];exact (jM 0 (kR (fun t=>ju ⟨#[123,125]⟩ [t]) (vB c5.out) e5.out)).from (bm n)⟩
 ·have C:=vO h
  have b4:(t.r.kind==4)=false:=by rcases C with e | e <;> rw [e] <;> rfl
  have b3:(t.r.kind==3)=false:=by rcases C with e | e <;> rw [e] <;> rfl
  have b5:(t.r.kind==5)=false:=by rcases C with e | e <;> rw [e] <;> rfl
  have b7:Hid (n+1<c.E.T.length):=zq (b1.out (by omega))
  have c4:Hid (mB (c.E.at n)=false):=zq (by rw [<-K.out];exact ss h)
  have O:=zq h
  have HK:=zq (show ¬t.r.kind=6 by omega)
  have Z:Hid (R=vL c.E S t t.txt true f2 (n+1)):=zq (by rw [HR.out,Af (by rw [<-K.out];exact h),<-K.out])
  clear C
  clear h HR d7 HS c8 b1 d8 d5 c9 e1 c0
  have a:=M.out.b.all
  simp only [an,ao,QC.cells,ag,ai,aj,aH,aP,ah,af,and_true] at a
  go_wp2_with fail
  refine (J.out ⟨#[40]⟩ _).mono ?_;rintro e w3 ⟨rfl,d⟩
  have z:=zq (M.out.call d)
  clear a
  clear d M
  rw [show dp t (⟨#[40]⟩:ByteArray).data.toList=false from iR HK.out _]
  have a:=z.out.b.all
  simp only [an,ao,QC.cells,ag,ai,aj,aH,aP,ah,af,and_true] at a
  go_wp2_with fail
  refine (J.out ⟨#[91]⟩ _).mono ?_;rintro e w4 ⟨rfl,d⟩
  have G:=zq (z.out.call d)
  clear a
  clear d z
  rw [show dp t (⟨#[91]⟩:ByteArray).data.toList=false from iR HK.out _]
  have a:=G.out.b.all
  simp only [an,ao,QC.cells,ag,ai,aj,aH,aP,ah,af,and_true] at a
  go_wp2_with fail
  refine (J.out ⟨#[123]⟩ _).mono ?_;rintro e w5 ⟨rfl,d⟩
  have Y:=zq (G.out.call d)
  clear a
  clear d G
  rw [show dp t (⟨#[123]⟩:ByteArray).data.toList=false from iR HK.out _]
  have a:=Y.out.b.all
  simp only [an,ao,QC.cells,ag,ai,aj,aH,aP,ah,af,and_true] at a
  go_wp2_with fail
  refine (J.out ⟨#[91]⟩ _).mono ?_;rintro e w6 ⟨rfl,d⟩
  have Q:=zq (Y.out.call d)
  clear a
  clear d Y
  rw [show dp t (⟨#[91]⟩:ByteArray).data.toList=false from iR HK.out _]
  have a:=Q.out.b.all
  simp only [an,ao,QC.cells,ag,ai,aj,aH,aP,ah,af,and_true] at a
  go_wp2_with fail
  refine (J.out ⟨#[123]⟩ _).mono ?_;rintro e w7 ⟨rfl,d⟩
  have N:=zq (Q.out.call d)
  clear a
  clear d Q
  rw [show dp t (⟨#[123]⟩:ByteArray).data.toList=false from iR HK.out _]
  have a:=N.out.b.all
  simp only [an,ao,QC.cells,ag,ai,aj,aH,aP,ah,af,and_true] at a
  go_wp2_with fail
  refine (d4.out _).mono ?_;rintro e w8 ⟨rfl,d⟩
  have V:=zq (N.out.call d)
  clear a
  clear d N
  rw [O.out]
  have a:=V.out.b.all
  simp only [an,ao,QC.cells,ag,ai,aj,aH,aP,ah,af,and_true] at a
  have b2:wrap64 ((n:Int)+1)=(n:Int)+1:=cg _ (by have:=b0.out;omega)
  obtain ⟨w9,f1⟩:=lz (w8.setCell ⟨c.P,1,none⟩ (aa ab ((n:Int)+1)))
  have a0:Hid (Wq c (n+1) false (bv c.E.T n) U w U w9 [(g1,[aa ab t.r.kind,ac t.txt,aa ab t.r.n,aa ab t.r.at_,aa ab t.r.end_,av t.lay]),(w.heap.size,[aa ab 0,aa ab 0,ac ⟨#[]⟩,.slice none 0 0])]):=zq (by rw [f1.out];exact V.out.next (n+1) (by omega) (by have:=b7.out;omega))
  rw [<-fU b0.out.1 c4.out] at a0
  go_upto_region 38 with fail
  rw [<-f1.out]
  clear a
  clear b2 f1 V
  clear b4 b3 b5 J d4
  have a:=a0.out.b.all
  simp only [an,ao,QC.cells,ag,ai,aj,aH,aP,ah,af,and_true] at a
  go_wp2_with fail
  refine (e0.out (n+1) (ae _) _ _ a0.out.p t t.txt true (fun h=>by rw [eM];rfl)).mono ?_;rintro e j0 ⟨u,pu,m,wr,A,I,y,rfl,H,B,D,b9⟩
  have d2:=zq (a0.out.step H B)
  have HT:=zq (Trq.sub (w0:=w) (F:=[w.heap.size]) D a0.out.s.size (by intro b j;rw [aK] at j;subst j;exact a0.out.b.lt 1 rfl))
  have c5:=zq b9
  clear a
  clear H B D b9 a0
  unfold fI
  have a:=d2.out.b.all
  simp only [an,ao,QC.cells,ag,ai,aj,aH,aP,ah,af,and_true] at a
  go_wp2_with fail
  have L:=d2.out.put4 1 rfl (aa ab u.kind) (aa ab u.num) (ac u.name) (.slice A u.args.length I) (ae _)
  have D:=HT.out.put (g:=w.heap.size) (by simp) (fun b j=>bH _ _ (aa ab u.kind) (aa ab u.num) (ac u.name) (.slice A u.args.length I) b j) (by simp)
  refine aw (v:=aJ #[aV #[aa ab u.kind,aa ab u.num,ac u.name,.slice A u.args.length I],aa ab pu]) (by simp [results,ej,go_sem,a]) rfl ?_
  exact ⟨u,pu,m,wr,A,I,y,rfl,L.p,L.s,D.out,by rw [Z.out];exact c5.out⟩
 ·obtain ⟨h4,h3,h5,i7,i8,i6,i9⟩:=h
  have Z:Hid (R=.error n):=zq (by rw [HR.out,Ai (by rw [<-K.out];exact h4) (by rw [<-K.out];exact h3) (by rw [<-K.out];exact h5) (by rw [<-K.out];exact i7) (by rw [<-K.out];exact i8) (by rw [<-K.out];exact i6) (by rw [<-K.out];exact i9)])
  have b3:(t.r.kind==3)=false:=by simpa using h3
  have b5:(t.r.kind==5)=false:=by simpa using h5
  have O:=zq (⟨i7,i8,i6,i9⟩:_/\_/\_/\_)
  have j:((t.r.kind==4)=true/\decide (0<=t.r.n)=false)\/(t.r.kind==4)=false:=by
   by_cases e:t.r.kind=4
   ·exact .inl ⟨by simpa using e,decide_eq_false fun e2=>h4 ⟨e,e2⟩⟩
   ·exact .inr (by simpa using e)
  clear h3 h4 h5 i7 i8 i6 i9 HR d7 HS e0 c8 b1 d8 d5 c9 e1 c0
  rcases j with ⟨b4,bn⟩ | b4
  all_goals
   have a:=M.out.b.all
   simp only [an,ao,QC.cells,ag,ai,aj,aH,aP,ah,af,and_true] at a
   go_wp2_with fail
   refine (J.out ⟨#[40]⟩ _).mono ?_;rintro e w3 ⟨rfl,d⟩
   have z:=zq (M.out.call d)
   clear a
   clear d M
   rw [show dp t (⟨#[40]⟩:ByteArray).data.toList=false from O.out.1]
   have a:=z.out.b.all
   simp only [an,ao,QC.cells,ag,ai,aj,aH,aP,ah,af,and_true] at a
   go_wp2_with fail
   refine (J.out ⟨#[91]⟩ _).mono ?_;rintro e w4 ⟨rfl,d⟩
   have G:=zq (z.out.call d)
   clear a
   clear d z
   rw [show dp t (⟨#[91]⟩:ByteArray).data.toList=false from O.out.2.1]
   have a:=G.out.b.all
   simp only [an,ao,QC.cells,ag,ai,aj,aH,aP,ah,af,and_true] at a
   go_wp2_with fail
   refine (J.out ⟨#[123]⟩ _).mono ?_;rintro e w5 ⟨rfl,d⟩
   have Y:=zq (G.out.call d)
   clear a
   clear d G
   rw [show dp t (⟨#[123]⟩:ByteArray).data.toList=false from O.out.2.2.1]
   have a:=Y.out.b.all
   simp only [an,ao,QC.cells,ag,ai,aj,aH,aP,ah,af,and_true] at a
   go_wp2_with fail
   refine (J.out ⟨#[91]⟩ _).mono ?_;rintro e w6 ⟨rfl,d⟩
   have Q:=zq (Y.out.call d)
   clear a
   clear d Y
   rw [show dp t (⟨#[91]⟩:ByteArray).data.toList=false from O.out.2.1]
   have a:=Q.out.b.all
   simp only [an,ao,QC.cells,ag,ai,aj,aH,aP,ah,af,and_true] at a
   go_wp2_with fail
   refine (J.out ⟨#[123]⟩ _).mono ?_;rintro e w7 ⟨rfl,d⟩
   have N:=zq (Q.out.call d)
   clear a
   clear d Q
   rw [show dp t (⟨#[123]⟩:ByteArray).data.toList=false from O.out.2.2.1]
   have a:=N.out.b.all
   simp only [an,ao,QC.cells,ag,ai,aj,aH,aP,ah,af,and_true] at a
   go_wp2_with fail
   refine (d4.out _).mono ?_;rintro e w8 ⟨rfl,d⟩
   have V:=zq (N.out.call d)
   clear a
   clear d N
   rw [O.out.2.2.2]
   have a:=V.out.b.all
   simp only [an,ao,QC.cells,ag,ai,aj,aH,aP,ah,af,and_true] at a
   obtain ⟨wz,i5⟩:=lz (w8.setCell ⟨c.P,2,none⟩ (av true))
   have j8:Hid (Wq c n true (bv c.E.T n) U w U wz [(g1,[aa ab t.r.kind,ac t.txt,aa ab t.r.n,aa ab t.r.at_,aa ab t.r.end_,av t.lay]),(w.heap.size,[aa ab 0,aa ab 0,ac ⟨#[]⟩,.slice none 0 0])]):=zq (by rw [i5.out];exact V.out.bad)
   go_upto_region 40 with fail
   rw [<-i5.out]
   clear i5 a V
   have a:=j8.out.b.all
   simp only [an,ao,QC.cells,ag,ai,aj,aH,aP,ah,af,and_true] at a
   go_wp2_with fail
   have L:=j8.out.put4 1 rfl (aa ab 0) (aa ab 0) (ac ⟨#[]⟩) (.slice none 0 0) (ae _)
   refine aw (v:=aJ #[aV #[aa ab 0,aa ab 0,ac ⟨#[]⟩,.slice none 0 0],aa ab 0]) (by simp [results,ej,go_sem,a]) rfl ?_
   exact ⟨AT 0,0,n,true,none,0,U,rfl,L.p,L.s,TmsK.nil,ae _,.inl ⟨rfl,Z.out⟩⟩
end Go.Proofs.YtbojljpldcijgaaGreat
