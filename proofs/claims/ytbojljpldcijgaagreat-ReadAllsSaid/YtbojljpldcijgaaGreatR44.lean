/- Parts of the proof. -/
import Derived.Test.YtbojljpldcijgaaGreatR01
import Derived.Test.YtbojljpldcijgaaGreatR42
import Derived.Test.YtbojljpldcijgaaGreatR28
set_option maxHeartbeats 12800000
set_option maxRecDepth 100000
set_option linter.unusedSimpArgs false
open Go.IntKind renaming i64 -> ab
open Go.Proofs.Tryz renaming prog -> am
open Go.RowKit renaming Below -> aB
open Go.RowKit.Below renaming refl -> ap
open Go.Value renaming bool -> av, int -> aa, string -> ac
open Nat renaming le_refl -> ae, reduceAdd -> af, zero_add -> ah
namespace Hb
open Go Go.RowKit
theorem pw (L:List UInt8) (a:Int) (s:Sy):dZ (eD L a s).t=true:=by
 unfold eD
 repeat' split
 all_goals first | exact iq | skip
 unfold ka
 repeat' split
 all_goals first | exact iq | skip
 unfold kC
 split
 ·assumption
 ·exact iq
theorem vC {r:RdR} (h:dZ r.t=true):kB r r=true:=by
 unfold kB;rw [mh h,decide_eq_true rfl,decide_eq_true rfl];simp
end Hb
namespace Go.Proofs.YtbojljpldcijgaaGreat
open Go.RowKit Hb
attribute [local go_sem] Oper.semAt_some
theorem BR (j:ByteArray) (k:Int) (g:Option Addr) (on h:Nat) (q u:Int) (c d:Bool) (f:Option Addr) (b i:Nat) (v:List OpR) (l:List (Int×Int)) (w:World) (T:Tab w g on h v) (U:b=l.length) (V:b<=maxLen) (S:Pairs w f l) (Y:j.size<=maxLen):Calls am 3 #[ac j,aa ab k,.agg #[.slice g on h,aa ab q,aa ab u,av c,av d,.slice f b i]] w fun e w'=>e=.returned (av true)/\aB w.heap.size w w':=by
 have b9:=zq (fun W=>vS W)
 have O:=zq ((ap w.heap.size w).alloc (ae _) (.cells #[.slice g on h,aa ab q,aa ab u,av c,av d,.slice f b i] 27))
 obtain ⟨r,m⟩:=lz (eD j.data.toList k ⟨v,q,u,c,d,l⟩)
 have a3:Hid (∀X,aB w.heap.size w X->Calls am 11 #[ac j,aa ab k,.agg #[.slice g on h,aa ab q,aa ab u,av c,av d,.slice f b i]] X (ROk X r)):=zq fun X s=>by
  rw [m.out];exact rV j k g on h q u c d f b i v l X (T.below s) U V (S.below s) Y
 have a4:Hid (∀X,aB w.heap.size w X->Calls am 12 #[ac j,aa ab k,.agg #[.slice g on h,aa ab q,aa ab u,av c,av d,.slice f b i]] X (ROk X r)):=zq fun X s=>by
  rw [m.out];exact vE j k g on h q u c d f b i v l X (T.below s) U V (S.below s) Y
 have z:=zq (px j.data.toList k ⟨v,q,u,c,d,l⟩)
 rw [<-m.out] at z
 have b7:Hid (kB r r=true):=zq (vC (by rw [m.out];exact pw _ _ _))
 have a5:=zq (Bk.new w [.slice g on h,aa ab q,aa ab u,av c,av d,.slice f b i] 27)
 clear T U V S Y m
 go_enter Tryz.func3,Tryz.ntmps3
 go_wp2_with fail
 refine (a3.out _ O.out).mono ?_;rintro e x ⟨A,J,E,L,G,N,rfl,a,n,o,p⟩
 have Z:=bz O a
 have a6:=zq (a5.out.call a)
 have b4:=zq (ROk.at (w0:=w.alloc (.cells #[.slice g on h,aa ab q,aa ab u,av c,av d,.slice f b i] 27)) a n o p)
 clear a n o p O a5 a3
 obtain ⟨x2,C⟩:=lz (x.alloc (.cells #[aa ab r.t.kind,aa ab r.t.num,ac r.t.name,.slice A r.t.args.length J,.slice E r.names.length L,.slice G r.singles.length N,aa ab r.end_] 33))
 obtain ⟨g2,Q⟩:=lz (x.heap.size)
 have a:aB x.heap.size x x2:=by rw [C.out];exact (ap _ _).alloc (ae _) _
 have a8:Hid (Bk x2 g2 [aa ab r.t.kind,aa ab r.t.num,ac r.t.name,.slice A r.t.args.length J,.slice E r.names.length L,.slice G r.singles.length N,aa ab r.end_]):=zq (by rw [C.out,Q.out];exact Bk.new x [aa ab r.t.kind,aa ab r.t.num,ac r.t.name,.slice A r.t.args.length J,.slice E r.names.length L,.slice G r.singles.length N,aa ab r.end_] 33)
 have P:=bz Z a
 have a7:=zq (a6.out.call a)
 have b0:=zq (b4.out.below a)
 go_upto_region 2 with fail
 rw [<-C.out,<-Q.out]
 clear a Z a6 b4 C Q
 have b8:=a7.out.all0
 simp only [aP,ah,af,and_true] at b8
 go_wp2_with fail
 refine (a4.out _ P.out).mono ?_;rintro e y ⟨B,I,F,K,H,M,rfl,a,n,o,p⟩
 have a0:=bz P a
 have a9:=zq (a8.out.call a)
 have b3:=zq (b0.out.below a)
 have b5:=zq (ROk.at (w0:=x2) a n o p)
 clear a n o p P a7 a4 b8 a8 b0
 obtain ⟨x4,D⟩:=lz (y.alloc (.cells #[aa ab r.t.kind,aa ab r.t.num,ac r.t.name,.slice B r.t.args.length I,.slice F r.names.length K,.slice H r.singles.length M,aa ab r.end_] 33))
 obtain ⟨g4,R⟩:=lz (y.heap.size)
 have a:aB y.heap.size y x4:=by rw [D.out];exact (ap _ _).alloc (ae _) _
 have c1:Hid (Bk x4 g4 [aa ab r.t.kind,aa ab r.t.num,ac r.t.name,.slice B r.t.args.length I,.slice F r.names.length K,.slice H r.singles.length M,aa ab r.end_]):=zq (by rw [D.out,R.out];exact Bk.new y [aa ab r.t.kind,aa ab r.t.num,ac r.t.name,.slice B r.t.args.length I,.slice F r.names.length K,.slice H r.singles.length M,aa ab r.end_] 33)
 have a1:=bz a0 a
 have c2:=zq (a9.out.call a)
 have b6:=zq (pB r r A E G B F H J L N I K M x4 (b3.out.below a) (b5.out.below a) z.out.1 z.out.2)
 rw [b7.out] at b6
 go_upto_region 3 with fail
 rw [<-D.out,<-R.out]
 clear a a0 a9 b3 b5 D R z b7
 have c3:=c1.out.all0
 simp only [aP,ah,af,and_true] at c3
 have c4:=c2.out.all0
 simp only [aP,ah,af,and_true] at c4
 have b1:(r.err==r.err)=true:=by simp
 have b2:(r.where_==r.where_)=true:=by simp
 go_wp2_with fail
 refine b6.out.mono ?_;rintro e wy ⟨rfl,a⟩
 have a2:=bz a1 a
 clear a a1
 go_wp2_with fail
 refine (b9.out _).mono ?_;rintro e wz ⟨rfl,a⟩
 have c0:=bz a2 a
 clear a a2
 go_wp2_with fail
 go_ret
 exact ⟨rfl,c0.out⟩
end Go.Proofs.YtbojljpldcijgaaGreat
