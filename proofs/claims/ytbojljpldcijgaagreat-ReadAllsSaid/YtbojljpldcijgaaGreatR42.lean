/- Parts of the proof. -/
import Derived.Test.YtbojljpldcijgaaGreatR01
import Derived.Test.YtbojljpldcijgaaGreatR36
import Derived.Test.YtbojljpldcijgaaGreatR40
import Derived.Test.YtbojljpldcijgaaGreatR41
set_option maxHeartbeats 12800000
set_option maxRecDepth 100000
set_option linter.unusedSimpArgs false
open Array renaming getElem?_eq_some_iff -> aS
open Go renaming bodyPost_ret -> aw, execOp -> aL, heap_setCell_other -> aW, maxLen -> bF
open Go.Act renaming put -> bu
open Go.IntKind renaming i64 -> ab, i64 -> dN
open Go.Proofs.Tryz renaming prog -> am
open Go.RowKit renaming Below -> aB
open Go.RowKit.Below renaming refl -> ap
open Go.Value renaming agg -> aV, bool -> av, int -> aa, int -> dA, pointer -> ar, slice -> dc, string -> ac, tuple -> aJ
open Go.World renaming cell?_of_block -> bd
open List renaming filter_append -> ic, range -> aM, setIfInBounds_toArray -> ay, set_cons_succ -> ao, set_cons_zero -> an
open Nat renaming le_refl -> ae, le_succ -> bm, le_trans -> aQ, lt_of_lt_of_le -> aA, reduceAdd -> af, zero_add -> ah, zero_le -> bc
namespace Go.Proofs.YtbojljpldcijgaaGreat
open Go.RowKit Hb
attribute [local go_sem] Oper.semAt_some
def Cs:List Value->Prop | [v]=>∃g,v=.slice (some ⟨g,0,none⟩) 1 1 | _=>False
def Ct (p:List UInt8×Nat):List Value->(Nat->Prop)->World->Prop | [v],N,X=>∃g,v=.slice (some ⟨g,0,none⟩) 1 1/\N g/\Bk X g [ac ⟨p.1.toArray⟩,aa ab (p.2:Int)] | _,_,_=>False
@[reducible] def CN (A:List Nat) (j:Nat) (p:List UInt8×Nat):ROp:=yl A [j] Cs (Ct p) fun vs _ _ _ _ h b a _=>match vs,h with | [_],⟨g,e,hg,hb⟩=>⟨g,e,a g hg,hb.keeps (b g hg)⟩
theorem vE (M:ByteArray) (O:Int) (OA:Option Addr) (on oc:Nat) (q u:Int) (c d:Bool) (CA:Option Addr) (cn F:Nat) (ol:List OpR) (cl:List (Int×Int)) (w:World) (hO:Tab w OA on oc ol) (m6:cn=cl.length) (m7:cn<=bF) (hC:Pairs w CA cl) (hs:M.size<=bF) :
  Calls am 12 #[ac M,aa ab O,aV #[.slice OA on oc,aa ab q,aa ab u,av c,av d,.slice CA cn F]] w (ROk w (eD M.data.toList O ⟨ol,q,u,c,d,cl⟩)):=by
 obtain ⟨s,HS⟩:=lz (α:=Sy) (⟨ol,q,u,c,d,cl⟩)
 obtain ⟨R,HR⟩:=lz (eD M.data.toList O s)
 rw [<-HS.out,<-HR.out]
 obtain ⟨b6,a7⟩:=lz (gA M.data.toList O s)
 have HE:Hid (R=if b6=true then gx 0 1 else if ¬(cT M.data.toList O s).err=0 then gx (cT M.data.toList O s).where_ (cT M.data.toList O s).err else ka ⟨(cT M.data.toList O s).l,s.P,s.q⟩):=zq (by rw [HR.out,a7.out];rfl)
 have k5:Hid (b6=(decide ((16384:Int)<(M.size:Int))||(decide (O<0)||(decide ((M.size:Int)<O) || !s.ok)))):=zq (by
  rw [a7.out];unfold gA;rw [ci]
  congr 1
  by_cases h:16384<M.size
  ·rw [decide_eq_true h,decide_eq_true (by omega)]
  ·rw [decide_eq_false h,decide_eq_false (by omega)])
 have a6:Hid (aB w.heap.size w ((w.alloc (.cells #[.slice OA on oc,aa ab q,aa ab u,av c,av d,.slice CA cn F] 27)).alloc (.cells #[aa ab 0,aa ab 0,ac ⟨#[]⟩,.slice none 0 0,.slice none 0 0,.slice none 0 0,aa ab 0] 33))):=zq (((ap _ _).alloc (ae _) _).alloc (by simp) _)
 have a9:Hid (Bks ((w.alloc (.cells #[.slice OA on oc,aa ab q,aa ab u,av c,av d,.slice CA cn F] 27)).alloc (.cells #[aa ab 0,aa ab 0,ac ⟨#[]⟩,.slice none 0 0,.slice none 0 0,.slice none 0 0,aa ab 0] 33)) [(w.heap.size+1,[aa ab 0,aa ab 0,ac ⟨#[]⟩,.slice none 0 0,.slice none 0 0,.slice none 0 0,aa ab 0]),(w.heap.size,[.slice OA on oc,aa ab q,aa ab u,av c,av d,.slice CA cn F])]):=zq (((Bks.nil w).new [.slice OA on oc,aa ab q,aa ab u,av c,av d,.slice CA cn F] 27 rfl).new [aa ab 0,aa ab 0,ac ⟨#[]⟩,.slice none 0 0,.slice none 0 0,.slice none 0 0,aa ab 0] 33 (g:=w.heap.size+1) (by simp))
 have q5:Hid (∀X,aB w.heap.size w X->Calls am 36 #[aV #[.slice OA on oc,aa ab q,aa ab u,av c,av d,.slice CA cn F]] X fun e w'=>e=.returned (av s.ok)/\aB X.heap.size X w'):=zq fun X hX=>by
  rw [HS.out];exact pA OA on oc q u c d CA cn F ol cl X (hO.below hX) m6 m7 (hC.below hX)
 have d8:=zq hO
 have l5:=zq hs
 have d0:Hid (s.P=ol/\s.q=q/\s.c=c):=zq (by rw [HS.out];exact ⟨rfl,rfl,rfl⟩)
 obtain ⟨CV,vn,vc,a8⟩:∃CV vn vc,Hid ((c=true->CV=CA/\vn=cn/\vc=F)/\(c=false->CV=none/\vn=0/\vc=0)/\vn=s.conv.length/\vn<=bF/\∀W,aB w.heap.size w W->Pairs W CV s.conv):=by
  rw [HS.out]
  cases c
  ·exact ⟨none,0,0,zq ⟨fun h=>(by cases h),fun _=>⟨rfl,rfl,rfl⟩,rfl,bc _,fun W _=>Pairs.nil _ _⟩⟩
  ·exact ⟨CA,cn,F,zq ⟨fun _=>⟨rfl,rfl,rfl⟩,fun h=>(by cases h),m6,m7,fun W h=>hC.below h⟩⟩
 clear hO m6 m7 hC hs HR HS
 go_enter Tryz.func12,Tryz.ntmps12
 go_upto_region 1 with fail
 obtain ⟨w1,d1⟩:=lz (((w.alloc (.cells #[.slice OA on oc,aa ab q,aa ab u,av c,av d,.slice CA cn F] 27)).alloc (.cells #[aa ab 0,aa ab 0,ac ⟨#[]⟩,.slice none 0 0,.slice none 0 0,.slice none 0 0,aa ab 0] 33)))
 rw [<-d1.out] at a6 a9 |-
 clear d1
 go_cut [34] from 17 to 34 (fun x wc=>x=av b6/\Hid (aB w.heap.size w wc)/\Hid (Bks wc [(w.heap.size+1,[aa ab 0,aa ab 0,ac ⟨#[]⟩,.slice none 0 0,.slice none 0 0,.slice none 0 0,aa ab 0]),(w.heap.size,[.slice OA on oc,aa ab q,aa ab u,av c,av d,.slice CA cn F])]))
 case first=>
  have a0:=k5.out
  clear HE a7 a8 d0 l5 d8 k5
  have r0:=a9.out.all
  simp only [aH,aP,ah,af,and_true] at r0
  by_cases I:(16384:Int)<(M.size:Int)
  ·have l8:=decide_eq_true I
   rw [l8] at a0
   clear I
   have hm:b6=true:=a0
   clear a0
   subst hm
   go_wp2_with fail
   go_meet
   exact ⟨rfl,a6,a9⟩
  have l8:=decide_eq_false I
  rw [l8] at a0
  clear I
  by_cases K:O<0
  ·have l9:=decide_eq_true K
   rw [l9] at a0
   clear K
   have hm:b6=true:=a0
   clear a0
   subst hm
   go_wp2_with fail
   go_meet
   exact ⟨rfl,a6,a9⟩
  have l9:=decide_eq_false K
  rw [l9] at a0
  clear K
  by_cases Z:(M.size:Int)<O
  ·have m0:=decide_eq_true Z
   rw [m0] at a0
   clear Z
   have hm:b6=true:=a0
   clear a0
   subst hm
   go_wp2_with fail
   go_meet
   exact ⟨rfl,a6,a9⟩
  have m0:=decide_eq_false Z
  rw [m0] at a0
  clear Z
  have hm:b6=!s.ok:=a0
  clear a0
  subst hm
  go_wp2_with fail
  refine (q5.out _ a6.out).mono ?_;rintro e S ⟨rfl,d2⟩
  have b7:=bz a6 d2
  have c4:=zq (a9.out.call d2)
  clear d2 a6 a9 r0
  go_wp2_with fail
  go_meet
  exact ⟨rfl,b7,c4⟩
 case rest=>
  obtain ⟨rfl,j8,i0⟩:=hcut
  clear a6 a9 k5 q5
  cases b6
  rotate_left
  ·skip
   have HV:Hid (R=gx 0 1):=HE
   clear HE a7 a8 d0 l5 d8
   have f9:=i0.out.all
   simp only [aH,aP,ah,af,and_true] at f9
   go_wp2_with fail
   refine aw (v:=aJ #[aV #[aa ab 0,aa ab 0,ac ⟨#[]⟩,.slice none 0 0,.slice none 0 0,.slice none 0 0,aa ab 0],aa ab 0,aa ab 1]) (by simp [results,Tryz.results12,go_sem,f9]) rfl ?_
   rw [HV.out]
   exact ⟨none,0,none,0,none,0,rfl,fv j8.out (w.heap.size+1) (bm _) _ _ _ _ _ _ _,TmsK.nil,NmAt.nil,NmAt.nil⟩
  have r3:=oh a7.out.symm
  have d5:=zq r3
  have f7:=zq (rv (s:=s) a7.out.symm)
  have i8:=zq (fun h=>rC (s:=s) a7.out.symm h)
  have e2:Hid (R=if ¬(cT M.data.toList O s).err=0 then gx (cT M.data.toList O s).where_ (cT M.data.toList O s).err else ka ⟨(cT M.data.toList O s).l,s.P,s.q⟩):=HE
  clear HE a7 r3
  have f9:=i0.out.all
  simp only [aH,aP,ah,af,and_true] at f9
  have n9:Hid ((if c then dc CA cn F else .slice none 0 0)=.slice CV vn vc):=zq (by
   cases c
   ·obtain ⟨rfl,rfl,rfl⟩:=a8.out.2.1 rfl;rfl
   ·obtain ⟨rfl,rfl,rfl⟩:=a8.out.1 rfl;rfl)
  go_wp2_with fail
  refine (zS OA on oc q u c d CA cn F _).mono ?_;rintro e wd ⟨rfl,m3⟩
  rw [n9.out]
  have g5:=bz j8 m3
  have k9:=zq (i0.out.call m3)
  clear m3 j8 i0 f9 n9
  have HA:=zq (zW M O CV vn vc s.conv wd a8.out.2.2.1 a8.out.2.2.2.1 (a8.out.2.2.2.2 _ g5.out))
  rw [f7.out] at HA
  have i7:Hid ((cT M.data.toList O s).err=0->∀t∈(cT M.data.toList O s).l,TkOne t.r):=zq fun h=>xO _ _ (bL _ _) _ (by have:=d5.out;omega) h
  obtain ⟨ra,p8⟩:=lz (cT M.data.toList O s)
  rw [<-p8.out] at HA i8 e2 i7
  clear a8 f7 l5 p8
  go_wp2_with fail
  refine HA.out.mono ?_;rintro e S ⟨va,rfl,d2,j5⟩
  obtain ⟨Av,cv,rfl⟩:=fp j5
  have i2:=zq (nh j5 g5.out.size)
  have o2:=zq (fun k (H:(dc Av ra.l.length cv).ownBlock=some k)=>aA (k9.out.lt 0 rfl) (j5.lt k H).1)
  have b7:=bz g5 d2
  have c4:=zq (k9.out.call d2)
  clear d2 g5 k9 HA j5
  by_cases he:ra.err=0
  rotate_left
  ·have b0:(ra.err != 0)=true:=by simpa using he
   have HV:Hid (R=gx ra.where_ ra.err):=zq (by rw [e2.out,if_pos he])
   clear he e2 i8 d0 d8 d5 i2 i7
   have g0:=c4.out.all
   simp only [aH,aP,ah,af,and_true] at g0
   go_wp2_with fail
   refine aw (v:=aJ #[aV #[aa ab 0,aa ab 0,ac ⟨#[]⟩,.slice none 0 0,.slice none 0 0,.slice none 0 0,aa ab 0],aa ab ra.where_,aa ab ra.err]) (by simp [results,Tryz.results12,go_sem,g0]) rfl ?_
   rw [HV.out]
   exact ⟨none,0,none,0,none,0,rfl,fv b7.out (w.heap.size+1) (bm _) _ _ _ _ _ _ _,TmsK.nil,NmAt.nil,NmAt.nil⟩
  have b0:(ra.err != 0)=false:=by simpa using he
  have b4:=zq (i8.out he)
  have q3:=zq (i7.out he)
  have g6:Hid (R=ka ⟨ra.l,s.P,s.q⟩):=zq (by rw [e2.out,if_neg (fun h=>h he)])
  clear he i8 e2 i7
  have g0:=c4.out.all
  simp only [aH,aP,ah,af,and_true] at g0
  have hg:∃g,Av=some ⟨g,0,none⟩:=by
   rcases i2.out.2 with ⟨G,h0⟩ | ⟨g,w6,w7,G,_⟩
   ·exact absurd h0 (by have:=b4.out.pos;omega)
   ·injection G with G _ _;exact ⟨g,G⟩
  obtain ⟨g,rfl⟩:=hg
  have e3:=zq (o2.out g rfl)
  clear o2
  go_upto_region 7 with fail
  clear b0
  obtain ⟨z,HZ⟩:=lz (α:=QC) (⟨w.heap.size,S.heap.size,S.heap.size+1,S.heap.size,g,cv,OA,on,oc,⟨ra.l,s.P,s.q⟩⟩)
  obtain ⟨wp,j0⟩:=lz (S.alloc (.cells #[.slice (some ⟨g,0,none⟩) ra.l.length cv,aa ab 0,av false,.slice OA on oc,aa ab q,aa ab 0,.slice none 0 0,.slice none 0 0] 82))
  have r8:ea ol=true:=by
   have:=d5.out.2.2.2
   unfold Sy.ok at this
   rw [Bool.and_eq_true] at this
   rw [<-d0.out.1];exact this.1
  have j6:=PsQ.begin ⟨ra.l,s.P,s.q⟩ g cv OA on oc (w:=w) (X:=S) ⟨by have:=b4.out.len;have:=d5.out.1;simp only;omega,b4.out.pos,b4.out.last,fun t ht=>⟨by have:=(b4.out.fits t ht).txt;have:=d5.out.1;omega,(b4.out.fits t ht).num,(b4.out.fits t ht).nam⟩⟩ (by simp only;rw [d0.out.1];exact d8.out.below b7.out) (by rw [d8.out.len];exact (lU ol r8).1) b7.out.size i2.out
  simp only at j6
  rw [<-HZ.out,d0.out.2.1,<-j0.out] at j6
  have j2:aB S.heap.size S wp:=by rw [j0.out];exact (ap _ _).alloc (ae _) _
  have b8:=bz b7 j2
  have o4:=zq (c4.out.call j2)
  have a5:Hid (z.P=S.heap.size/\z.B1=S.heap.size/\z.E=⟨ra.l,s.P,s.q⟩/\z.g=g/\z.E.T.length=ra.l.length/\z.tc=cv):=zq (by rw [HZ.out];exact ⟨rfl,rfl,rfl,rfl,rfl,rfl⟩)
  have s8:=zq j2.size
  have o3:Hid (w.heap.size+1<S.heap.size):=zq (c4.out.lt 0 rfl)
  have i3:Hid (PsQ z 0 false (bv z.E.T 0) (.slice none 0 0,.slice none 0 0) wp):=zq (by
   have e:bv z.E.T 0=bv ra.l 0:=by rw [a5.out.2.2.1]
   rw [e];exact j6)
  have U:Hid (TkF z.E):=zq (TkF.of i3.out.ok.pos (by rw [a5.out.2.2.1];exact q3.out))
  have HX:=zq (Bg z U.out z.E.T.length 1200 0 (.slice none 0 0,.slice none 0 0) wp (by omega) i3.out)
  rw [<-a5.out.2.2.1] at g6
  rw [<-j0.out,<-a5.out.1]
  clear j6 j2 b7 c4 j0 d0 d8 i2 b4 q3 d5 r8 g0 HZ U
  go_wp2_with fail
  refine HX.out.mono ?_;rintro e w9 ⟨t,pr,m,wr,At,ct,⟨y1,y2⟩,rfl,hp,hs,ht,r2⟩
  have x0:=o3.out
  have j3:=hs.low i3.out
  rw [a5.out.2.1] at j3
  have p6:=zq hp
  have i9:=zq (xE r2)
  have n7:=zq (b8.out.trans (j3.mono (by omega)))
  have o5:=zq (o4.out.keepB j3 (by intro x hx;simp only [List.mem_cons,List.mem_nil_iff,or_false] at hx;rcases hx with rfl|rfl <;> simp only <;> omega))
  have q2:=zq (ht.keep (fun _ _=>rfl) fun b y=>(⟨aQ s8.out y.1,y.2.1⟩:S.heap.size<=b/\b<w9.heap.size))
  clear j3 hp hs ht r2 HX b8 o4 i3
  unfold fI
  obtain ⟨wt,j1⟩:=lz (w9.alloc (.cells #[aa ab t.kind,aa ab t.num,ac t.name,.slice At t.args.length ct] 30))
  obtain ⟨gt,k8⟩:=lz (w9.heap.size)
  have g2:aB w9.heap.size w9 wt:=by rw [j1.out];exact (ap _ _).alloc (ae _) _
  have e4:Hid (Bks wt [(gt,[aa ab t.kind,aa ab t.num,ac t.name,.slice At t.args.length ct]),(w.heap.size+1,[aa ab 0,aa ab 0,ac ⟨#[]⟩,.slice none 0 0,.slice none 0 0,.slice none 0 0,aa ab 0]),(w.heap.size,[.slice OA on oc,aa ab q,aa ab u,av c,av d,.slice CA cn F])]):=zq (by rw [j1.out,k8.out];exact o5.out.new [aa ab t.kind,aa ab t.num,ac t.name,.slice At t.args.length ct] 30 rfl)
  have e7:=zq (p6.out.call g2)
  have g4:=bz n7 g2
  have l4:=zq (q2.out.keep (fun b y=>g2.block b y.2) (fun b y=>(⟨y.1,aA y.2 g2.size⟩:S.heap.size<=b/\b<wt.heap.size)))
  clear p6 n7 o5 q2 g2
  go_upto_region 8 with fail
  rw [<-j1.out,<-k8.out]
  clear j1 k8
  obtain ⟨D,i4⟩:=lz (z.E.at m)
  have b2:=zq (fun X (hX:aB wt.heap.size wt X)=>jv (e7.out.call hX) 0 (by decide))
  rw [Nat.add_zero,<-i4.out] at b2
  rw [<-i4.out] at i9
  have e0:Hid (wr=true\/¬D.r.kind=7->R=gx D.r.at_ 7):=zq fun h=>by
   rw [g6.out];unfold ka;rw [i9.out,if_pos h,i4.out]
  have g8:Hid (wr=false->D.r.kind=7->R=kC z.E t m):=zq fun I K=>by
   rw [g6.out];unfold ka;rw [i9.out,if_neg (by rw [I];simp [K])]
  have v3:∀W,(Instr.field 76 (aV #[aa ab D.r.kind,ac D.txt,aa ab D.r.n,aa ab D.r.at_,aa ab D.r.end_,av D.lay]) 0).run am W=.ok (aa ab D.r.kind) W:=fun W=>by kernel_rfl
  have v4:∀W,(Instr.field 76 (aV #[aa ab D.r.kind,ac D.txt,aa ab D.r.n,aa ab D.r.at_,aa ab D.r.end_,av D.lay]) 3).run am W=.ok (aa ab D.r.at_) W:=fun W=>by kernel_rfl
  unfold kk at b2
  clear g6 i9
  have cp:=e7.out.bk.all0
  simp only [QC.cells,aP,ah,af,and_true] at cp
  have F:=e4.out.all
  simp only [aH,aP,ah,af,and_true] at F
  cases wr
  rotate_left
  ·have HV:=zq (e0.out (.inl rfl))
   clear e0 g8 e7 l4
   go_wp2_with fail
   refine (b2.out _ (ap _ _)).mono ?_;rintro e n6 ⟨rfl,C⟩
   have d3:=bz g4 C
   have c2:=zq (e4.out.call C)
   clear C e4 g4 F cp
   have F:=c2.out.all
   simp only [aH,aP,ah,af,and_true] at F
   go_wp2_with fail
   refine aw (v:=aJ #[aV #[aa ab 0,aa ab 0,ac ⟨#[]⟩,.slice none 0 0,.slice none 0 0,.slice none 0 0,aa ab 0],aa ab D.r.at_,aa ab 7]) (by simp [results,Tryz.results12,go_sem,F]) rfl ?_
   rw [HV.out]
   exact ⟨none,0,none,0,none,0,rfl,fv d3.out (w.heap.size+1) (bm _) _ _ _ _ _ _ _,TmsK.nil,NmAt.nil,NmAt.nil⟩
  go_wp2_with fail
  refine (b2.out _ (ap _ _)).mono ?_;rintro e n6 ⟨rfl,C⟩
  have d3:=bz g4 C
  have c2:=zq (e4.out.call C)
  have l2:=zq (e7.out.call C)
  have i6:=zq (l4.out.keep (fun b y=>C.block b y.2) (fun b y=>(⟨y.1,aA y.2 C.size⟩:S.heap.size<=b/\b<n6.heap.size)))
  have j9:=zq C
  clear C e4 g4 e7 l4 F cp
  have F:=c2.out.all
  simp only [aH,aP,ah,af,and_true] at F
  by_cases h7:D.r.kind=7
  rotate_left
  ·have d7:(D.r.kind != 7)=true:=by simpa using h7
   have HV:Hid (R=gx D.r.at_ 7):=zq (e0.out (by first | exact .inr h7 | simp [h7]))
   clear h7 e0 g8 l2 i6
   go_wp2_with fail
   refine (b2.out _ j9.out).mono ?_;rintro e a2 ⟨rfl,C⟩
   have d4:=bz d3 C
   have c3:=zq (c2.out.call C)
   clear C c2 d3 F
   have F:=c3.out.all
   simp only [aH,aP,ah,af,and_true] at F
   go_wp2_with fail
   refine aw (v:=aJ #[aV #[aa ab 0,aa ab 0,ac ⟨#[]⟩,.slice none 0 0,.slice none 0 0,.slice none 0 0,aa ab 0],aa ab D.r.at_,aa ab 7]) (by simp [results,Tryz.results12,go_sem,F]) rfl ?_
   rw [HV.out]
   exact ⟨none,0,none,0,none,0,rfl,fv d4.out (w.heap.size+1) (bm _) _ _ _ _ _ _ _,TmsK.nil,NmAt.nil,NmAt.nil⟩
  have d7:(D.r.kind != 7)=false:=by simpa using h7
  have b9:Hid (R=kC z.E t m):=zq (g8.out (by first | rfl | trivial) h7)
  clear h7 e0 g8
  have l6:=zq (mJ t At ct n6 (i6.out.keep (fun _ _=>rfl) fun b y=>y.2))
  unfold fI at l6
  go_wp2_with fail
  refine l6.out.mono ?_;rintro e a2 ⟨rfl,C⟩
  have a1:=zq (l2.out.call C)
  have d4:=bz d3 C
  have c3:=zq (c2.out.call C)
  have q0:=zq (i6.out.keep (fun b y=>C.block b y.2) (fun b y=>(⟨y.1,aA y.2 C.size⟩:S.heap.size<=b/\b<a2.heap.size)))
  have k4:=bz j9 C
  clear l2 d3 c2 i6 C l6 F j9 d7 v3 v4
  unfold kC at b9
  cases hvt:dZ t
  ·rw [hvt] at b9
   have HV:Hid (R=gx (z.E.at 0).r.at_ 2):=b9
   clear b9 hvt
   have v8:=a1.out.tk 0 a1.out.ok.pos 3 _ rfl
   rw [<-z.E.at_get a1.out.ok.pos,a5.out.2.2.2.1,Nat.zero_mul,ah] at v8
   have v5:=e3.out
   have x1:¬g=w.heap.size+1:=by omega
   have x2:¬w.heap.size+1=g:=by omega
   clear v5
   have x4:(0:Int)<(ra.l.length:Int):=by have:=a1.out.ok.pos;rw [a5.out.2.2.2.2.1] at this;omega
   have F:=c3.out.all
   simp only [aH,aP,ah,af,and_true] at F
   go_wp2_with fail
   go_region
   all_goals
    go_wp2_with fail
    refine aw (v:=aJ #[aV #[aa ab 0,aa ab 0,ac ⟨#[]⟩,.slice none 0 0,.slice none 0 0,.slice none 0 0,aa ab 0],aa ab (z.E.at 0).r.at_,aa ab 2]) (by simp [results,Tryz.results12,go_sem,F]) rfl ?_
    rw [HV.out]
    exact ⟨none,0,none,0,none,0,rfl,(fv d4.out (w.heap.size+1) (bm _) _ _ _ _ _ _ _).drew,TmsK.nil,NmAt.nil,NmAt.nil⟩
  ·rw [hvt] at b9
   have HV:Hid (R=⟨t,(bv z.E.T m).m,qm (bv z.E.T m),(z.E.at m).r.end_,0,0⟩):=b9
   clear b9 hvt
   obtain ⟨NA,nc,n4⟩:=fp a1.out.nm
   have n4:y1=.slice NA (bv z.E.T m).m.length nc:=n4
   obtain ⟨f8,oc2,n5⟩:=fp a1.out.om
   have n5:y2=.slice f8 (bv z.E.T m).m.length oc2:=n5
   subst n4 n5
   obtain ⟨nn,c6⟩:=lz ((bv z.E.T m).m.length)
   rw [<-c6.out] at a1
   obtain ⟨en,o0⟩:=lz (D.r.end_)
   rw [<-i4.out,<-o0.out] at HV
   have o1:Hid (∀W,(Instr.field 76 (aV #[aa ab D.r.kind,ac D.txt,aa ab D.r.n,aa ab D.r.at_,aa ab en,av D.lay]) 4).run am W=.ok (aa ab en) W):=zq fun W=>by kernel_rfl
   rw [<-o0.out] at b2
   go_wp2_with fail
   rename_i K7 r1
   refine fu (w0:=a2) [eT [] [0] (fun|[v]=>v=aV #[aa ab t.kind,aa ab t.num,ac t.name,.slice At t.args.length ct]|_=>False),
    bB [] [1] (fun|[v]=>v=ar (some ⟨z.P,0,none⟩)|_=>False),
    bB [1] [2] (fun|[v]=>v=ar (some ⟨z.P,0,none⟩)|_=>False),
    bB [1,2] [3] (fun|[v]=>v=ar (some ⟨z.P,6,none⟩)|_=>False),
    eT [1,2,3] [4] (fun|[v]=>v=.slice NA nn nc|_=>False),
    bB [] [5] (fun|[v]=>v=ar (some ⟨z.P,0,none⟩)|_=>False),
    eT [5] [6] (fun|[v]=>v=aV #[aa ab D.r.kind,ac D.txt,aa ab D.r.n,aa ab D.r.at_,aa ab en,av D.lay]|_=>False),
    bB [5,6] [7] (fun|[v]=>v=aa ab en|_=>False),
    bB (aM 8) [8] (fun|[v]=>v=aV #[aa ab t.kind,aa ab t.num,ac t.name,.slice At t.args.length ct,.slice NA nn nc,.slice none 0 0,aa ab en]|_=>False),
    qr [] [aa ab 0,aa ab 0,ac ⟨#[]⟩,.slice none 0 0,.slice none 0 0,.slice none 0 0,aa ab 0] 10,
    kD (aM 10) [] 9 (fun _=>[aa ab t.kind,aa ab t.num,ac t.name,.slice At t.args.length ct,.slice NA nn nc,.slice none 0 0,aa ab en])]
    [some 85,some 86,some 87,some 88,some 89,some 90,some 91,some 92,some 93,some 15,none] (fun _=>True) (a2.heap.size) (by kernel_rfl) (ae _) (by kernel_rfl) (by kernel_rfl) (by kernel_rfl) (fun j o J=>?srv8) (fun val Y N G U=>?fin8)
   case srv8=>
    have v9:j<11:=(aS.1 J).1
    rcases (show j=0\/j=1\/j=2\/j=3\/j=4\/j=5\/j=6\/j=7\/j=8\/j=9\/j=10 by omega) with rfl|rfl|rfl|rfl|rfl|rfl|rfl|rfl|rfl|rfl|rfl
    ·cases J
     refine dU rfl rfl (fun _ _ _=>trivial) (fun val E X A C B=>?_)
     have u0:=A.t 13 (ar (some ⟨gt,0,none⟩)) rfl
     have H:=((c3.out.call C).at 0 _ _ rfl).all0
     simp only [aP,ah,af,and_true] at H
     exact ⟨_,by simp [aL,go_sem,u0,H],rfl⟩
    ·cases J
     refine aY rfl rfl (fun val E A B=>?_)
     have g1:=A.t 12 (ar (some ⟨z.P,0,none⟩)) rfl
     exact ⟨_,fun X=>by simp [aL,go_sem,g1],rfl⟩
    ·cases J
     refine aY rfl rfl (fun val E A B=>?_)
     have u3:=A.t 86 (val 1) rfl
     have I:val 1=_:=B 1 (oz rfl)
     exact ⟨_,fun X=>by simp [aL,go_sem,u3,I],rfl⟩
    ·cases J
     refine aY rfl rfl (fun val E A B=>?_)
     have u4:=A.t 87 (val 2) rfl
     have K:val 2=_:=B 2 (oz rfl)
     exact ⟨_,fun X=>by simp [aL,go_sem,u4,K],rfl⟩
    ·cases J
     refine dU rfl rfl (fun _ _ _=>trivial) (fun val E X A C B=>?_)
     have u5:=A.t 88 (val 3) rfl
     have Z:val 3=_:=B 3 (oz rfl)
     have H:=(a1.out.call C).bk.c 6 _ rfl
     exact ⟨_,by simp [aL,go_sem,u5,Z,H],rfl⟩
    ·cases J
     refine aY rfl rfl (fun val E A B=>?_)
     have g1:=A.t 12 (ar (some ⟨z.P,0,none⟩)) rfl
     exact ⟨_,fun X=>by simp [aL,go_sem,g1],rfl⟩
    ·cases J
     refine ge rfl rfl (fun _ _ _=>trivial) (fun val E X A C B=>?_)
     have u7:=A.t 90 (val 5) rfl
     have h5:val 5=_:=B 5 (oz rfl)
     exact ⟨_,_,_,by simp [aL,go_sem,A.c,A.f,u7,h5] <;> rfl,b2.out X (k4.out.trans (C.mono k4.out.size)),rfl⟩
    ·cases J
     refine aY rfl rfl (fun val E A B=>?_)
     have u8:=A.t 91 (val 6) rfl
     have h6:val 6=_:=B 6 (oz rfl)
     have hf:=o1.out
     exact ⟨_,fun X=>by simp [aL,go_sem,u8,h6,hf],rfl⟩
    ·cases J
     refine aY rfl rfl (fun val E A B=>?_)
     have u2:=A.t 85 (val 0) rfl
     have h0:val 0=_:=B 0 (oz rfl)
     have u6:=A.t 89 (val 4) rfl
     have h4:val 4=_:=B 4 (oz rfl)
     have u9:=A.t 92 (val 7) rfl
     have h7:val 7=_:=B 7 (oz rfl)
     exact ⟨_,fun X=>by simp [aL,go_sem,u2,h0,u6,h4,u9,h7],rfl⟩
    ·cases J
     exact jq rfl (fun _=>trivial) (trivial) 33 fun E X=>by simp [aL,go_sem]
    ·cases J
     refine im rfl rfl (fun _=>trivial) fun val E X b A B y H=>?_
     have m1:=A.t 15 (val 9) rfl
     have v0:=A.t 93 (val 8) rfl
     have h8:val 8=_:=B 8 (oz rfl)
     have z0:=H.c 0 (aa ab 0) rfl
     have f0:=H.f 0
     have z1:=H.c 1 (aa ab 0) rfl
     have f1:=H.f 1
     have z2:=H.c 2 (ac ⟨#[]⟩) rfl
     have f2:=H.f 2
     have z3:=H.c 3 (.slice none 0 0) rfl
     have f3:=H.f 3
     have z4:=H.c 4 (.slice none 0 0) rfl
     have f4:=H.f 4
     have z5:=H.c 5 (.slice none 0 0) rfl
     have f5:=H.f 5
     have z6:=H.c 6 (aa ab 0) rfl
     have f6:=H.f 6
     exact ⟨(((((((X.setCell ⟨b,0,none⟩ (aa ab t.kind)).setCell ⟨b,1,none⟩ (aa ab t.num)).setCell ⟨b,2,none⟩ (ac t.name)).setCell ⟨b,3,none⟩ (.slice At t.args.length ct)).setCell ⟨b,4,none⟩ (.slice NA nn nc)).setCell ⟨b,5,none⟩ (.slice none 0 0)).setCell ⟨b,6,none⟩ (aa ab en)),[aa ab t.kind,aa ab t.num,ac t.name,.slice At t.args.length ct,.slice NA nn nc,.slice none 0 0,aa ab en],by simp [aL,go_sem,y,m1,v0,h8,z0,f0,z1,f1,z2,f2,z3,f3,z4,f4,z5,f5,z6,f6],((((((((PutTo.start H).more 0 (aa ab t.kind)).more 1 (aa ab t.num)).more 2 (ac t.name)).more 3 (.slice At t.args.length ct)).more 4 (.slice NA nn nc)).more 5 (.slice none 0 0)).more 6 (aa ab en)),rfl,trivial⟩
   case fin8=>
    have h0:val 0=_:=G 0 (by decide)
    have I:val 1=_:=G 1 (by decide)
    have K:val 2=_:=G 2 (by decide)
    have Z:val 3=_:=G 3 (by decide)
    have h4:val 4=_:=G 4 (by decide)
    have h5:val 5=_:=G 5 (by decide)
    have h6:val 6=_:=G 6 (by decide)
    have h7:val 7=_:=G 7 (by decide)
    have h8:val 8=_:=G 8 (by decide)
    obtain ⟨V,y,hl,H,_⟩:=U.at_box 9 (by decide) rfl
    have n0:Bk Y V [aa ab t.kind,aa ab t.num,ac t.name,.slice At t.args.length ct,.slice NA nn nc,.slice none 0 0,aa ab en]:=H
    have d9:=zq (a1.out.call U.bel)
    have s2:=zq (d4.out.trans (U.bel.mono d4.out.size))
    have s4:=zq (c3.out.call U.bel)
    have q1:=zq (q0.out.keep (fun b y=>U.bel.block b y.2) (fun b y=>(⟨y.1,y.2⟩:S.heap.size<=b/\b<a2.heap.size)))
    have a3:Hid (a2.heap.size<=V/\V<Y.heap.size/\a2.heap.size<=Y.heap.size):=zq ⟨hl,n0.lt,U.bel.size⟩
    have s5:=zq n0
    clear G U H hl n0
    refine r1 _ _ ?_
    simp only [gD,an,ao,af,ah,y,h0,I,K,Z,h4,h5,h6,h7,h8]
    clear r1 h0 I K Z h4 h5 h6 h7 h8 y b2 o1
    have o9:Hid (∀b,z.mine (.slice NA nn nc,.slice f8 nn oc2) b->b<a2.heap.size):=zq fun b y=>a1.out.lts y
    have d6:Hid (z.B1<=a2.heap.size/\w.heap.size+1<a2.heap.size/\S.heap.size<=a2.heap.size):=zq (by
     have I:=a1.out.low
     have K:=a1.out.ok.p1
     have Z:=a5.out.2.1
     have h4:=c3.out.lt 1 rfl
     exact ⟨by omega,h4,by omega⟩)
    obtain ⟨NN,c7⟩:=lz (Y.heap.size)
    have s7:Hid (∀X,Bx V NN Y X->PsQ z m false (bv z.E.T m) (.slice NA nn nc,.slice f8 nn oc2) X):=zq fun X h=>d9.out.keep h.size (fun b y=>h.block b (by rw [c7.out];have:=o9.out b y;have:=a3.out;omega) (by have:=o9.out b y;have:=a3.out;omega)) (fun b y=>h.block b (by rw [c7.out];have:=d6.out;have:=a3.out;omega) (by have:=d6.out;have:=a3.out;omega))
    have t0:Hid (∀X,Bx V NN Y X->TmsK (fun b=>S.heap.size<=b/\b<a2.heap.size) X At t.args):=zq fun X h=>q1.out.keep (fun b y=>h.block b (by rw [c7.out];have:=y.2;have:=a3.out;omega) (by have:=y.2;have:=a3.out;omega)) fun _ y=>y
    have q4:Hid ((bv z.E.T m).o.length<=20000/\(bv z.E.T m).m.length<=20000/\∀p∈(bv z.E.T m).m,p.2<=20000):=zq (by
     have I:=d9.out.vn
     have K:=d9.out.n1
     have Z:=d9.out.ok.len
     have h4:=d9.out.vc
     exact ⟨by omega,by have:=h4.mo;omega,fun p hp=>by have:=h4.lt p hp;have:=h4.co;omega⟩)
    have t1:Hid (Bx V NN Y Y):=zq ⟨rfl,rfl,rfl,ae _,fun _ _ _=>rfl⟩
    have s3:Hid (z.B1=S.heap.size):=zq a5.out.2.1
    clear a1 d9 c3 q0 q1 d4 a5 k4
    go_wp2_with fail
    go_loopw [16] (fun i wr=>∃j:Nat,i=aa ab j/\j<=nn/\∃v,Hid (Bx V NN Y wr)/\Hid (aB w.heap.size w wr)/\Hid (Bk wr V [aa ab t.kind,aa ab t.num,ac t.name,.slice At t.args.length ct,.slice NA nn nc,v,aa ab en])/\Hid (wr.ownsRow NN 44 2 v (((bv z.E.T m).m.take j).filter (fun p:List UInt8×Nat=>(bv z.E.T m).o.count p.2==1)).length (eE (((bv z.E.T m).m.take j).filter (fun p:List UInt8×Nat=>(bv z.E.T m).o.count p.2==1))))) (fun i _=>nn-(intOf i).toNat)
    case atStart=>exact ⟨0,rfl,bc _,.slice none 0 0,t1,s2,s5,zq (World.ownsRow_nil _ _ _ _)⟩
    case round=>
     obtain ⟨j,rfl,hj,v,b5,e5,e8,c8⟩:=hrel
     obtain ⟨SA,sc,G⟩:=fp c8.out
     obtain ⟨Q,e6⟩:=lz ((((bv z.E.T m).m.take j).filter (fun p:List UInt8×Nat=>(bv z.E.T m).o.count p.2==1)).length)
     rw [<-e6.out] at G c8
     subst G
     have b3:=zq (s7.out wr b5.out)
     have kp:=b3.out.bk.all0
     simp only [QC.cells,aP,ah,af,and_true] at kp
     have kr:=e8.out.all0
     simp only [aP,ah,af,and_true] at kr
     by_cases a4:j<nn
     ·have j4:j<(bv z.E.T m).m.length:=by rw [<-c6.out];exact a4
      have y:=zb a4
      obtain ⟨k0,k1⟩:=qY a4
      obtain ⟨k2,k3⟩:=qY j4
      obtain ⟨b,j7,rfl,m4,c0,c1⟩:=((NmAt.own (m:=(bv z.E.T m).m) (by have h:=b3.out.nm;rw [c6.out] at h;exact h)).2).2 j j4
      obtain ⟨L,l3⟩:=lz ((bv z.E.T m).m[j])
      have f7:Hid ((bv z.E.T m).m.take (j+1)=(bv z.E.T m).m.take j++[L]):=zq (by rw [l3.out];exact List.take_succ_eq_append_getElem j4)
      have d1:=zq (qE a4 (by rw [c6.out];exact q4.out.2.1))
      obtain ⟨A9,c9,e9,m2⟩:=sa b3.out.om
      obtain ⟨g9,m9⟩:=m2 (by omega)
      have e9:f8=some ⟨g9,0,none⟩:=by
       have e9:dc f8 nn oc2=.slice A9 _ c9:=e9
       injection e9 with e1 _ _
       rw [e1,m9]
      subst e9
      obtain ⟨l7,k7⟩:=lz ((bv z.E.T m).o.count L.2)
      have w3:wr.cell? ⟨g9,j,none⟩=some (aa ab (l7:Int)):=by
       have:=b3.out.om.cells (g:=g9) rfl j (aa ab (l7:Int)) (by unfold ec;rw [List.getElem?_map,List.getElem?_eq_getElem j4,k7.out,l3.out];rfl)
       rw [eO,ah] at this
       exact this
      rw [<-l3.out] at c0 c1
      by_cases I:l7=1
      ·have b1:=Cc I
       have g7:Hid ((((bv z.E.T m).m.take (j+1)).filter (fun p:List UInt8×Nat=>(bv z.E.T m).o.count p.2==1))=(((bv z.E.T m).m.take j).filter (fun p:List UInt8×Nat=>(bv z.E.T m).o.count p.2==1))++[L]):=zq (by
        rw [f7.out,ic]
        congr 1
        rw [List.filter_cons_of_pos (by rw [<-k7.out,I];rfl)];rfl)
       have r7:(((bv z.E.T m).m.take (j+1)).filter (fun p:List UInt8×Nat=>(bv z.E.T m).o.count p.2==1)).length=Q+1:=by rw [g7.out,List.length_append,<-e6.out];rfl
       have r5:eE (((bv z.E.T m).m.take (j+1)).filter (fun p:List UInt8×Nat=>(bv z.E.T m).o.count p.2==1))=eE (((bv z.E.T m).m.take j).filter (fun p:List UInt8×Nat=>(bv z.E.T m).o.count p.2==1))++[ac ⟨L.1.toArray⟩,aa ab (L.2:Int)]:=by rw [g7.out];unfold eE;rw [List.flatMap_append];rfl
       have l0:=zq (⟨r7,r5⟩:_/\_)
       have p2:Hid (Q<=100000):=zq (tG (fun p:List UInt8×Nat=>(bv z.E.T m).o.count p.2==1) _ _ _ e6.out q4.out.2.1)
       have n8:Hid (b<wr.heap.size):=zq m4.2
       have p4:Hid (NN<=wr.heap.size):=zq (aQ (by rw [c7.out];exact ae _) b5.out.size)
       have e3:Hid (V<NN):=zq (by rw [c7.out];exact a3.out.2.1)
       have o8:Hid (w.heap.size<=V):=zq (by have:=d6.out;have:=a3.out;omega)
       clear I r7 r5 m4 m9 m2
       go_upto_region 17 with fail
       rename_i w5 v1
       refine uu (m:=10) (w0:=wr) [bB [] [0] (fun|[v]=>v=ar (some ⟨V,5,none⟩)|_=>False),
         eT [0] [1] (fun|[v]=>v=.slice SA Q sc|_=>False),
         bB [] [2] (fun|[v]=>v=ar (some ⟨z.P,0,none⟩)|_=>False),
         bB [2] [3] (fun|[v]=>v=ar (some ⟨z.P,0,none⟩)|_=>False),
         bB [2,3] [4] (fun|[v]=>v=ar (some ⟨z.P,6,none⟩)|_=>False),
         eT [2,3,4] [5] (fun|[v]=>v=.slice (some ⟨b,j7,none⟩) nn nc|_=>False),
         bB [] [6] (fun|[v]=>v=aa ab (j:Int)|_=>False),
         bB [2,3,4,5,6] [7] (fun|[v]=>v=ar (some ⟨b,j7+j * 2,none⟩)|_=>False),
         eT [2,3,4,5,6,7] [8] (fun|[v]=>v=aV #[ac ⟨L.1.toArray⟩,aa ab (L.2:Int)]|_=>False),
         CN [2,3,4,5,6,7,8] 9 L]
         [some 111,some 112,some 113,some 114,some 115,some 116,some 117,some 118,some 119,some 120] (fun _=>True) (wr.heap.size) (by kernel_rfl) (by kernel_rfl) (ae _) (by kernel_rfl) (by kernel_rfl) (by kernel_rfl) (fun j o J=>?srv17) (fun val Y N G U=>?fin17)
       case srv17=>
         have v9:j<10:=(aS.1 J).1
         rcases (show j=0\/j=1\/j=2\/j=3\/j=4\/j=5\/j=6\/j=7\/j=8\/j=9 by omega) with rfl|rfl|rfl|rfl|rfl|rfl|rfl|rfl|rfl|rfl
         ·cases J
          refine aY rfl rfl (fun val E A B=>?_)
          have m1:=A.t 15 (ar (some ⟨V,0,none⟩)) rfl
          exact ⟨_,fun X=>by simp [aL,go_sem,m1],rfl⟩
         ·cases J
          refine dU rfl rfl (fun _ _ _=>trivial) (fun val E X A C B=>?_)
          have t2:=A.t 111 (val 0) rfl
          have h0:val 0=_:=B 0 (oz rfl)
          have hx:=(e8.out.call C).c 5 _ rfl
          exact ⟨_,by simp [aL,go_sem,t2,h0,hx],rfl⟩
         ·cases J
          refine aY rfl rfl (fun val E A B=>?_)
          have g1:=A.t 12 (ar (some ⟨z.P,0,none⟩)) rfl
          exact ⟨_,fun X=>by simp [aL,go_sem,g1],rfl⟩
         ·cases J
          refine aY rfl rfl (fun val E A B=>?_)
          have t3:=A.t 113 (val 2) rfl
          have K:val 2=_:=B 2 (oz rfl)
          exact ⟨_,fun X=>by simp [aL,go_sem,t3,K],rfl⟩
         ·cases J
          refine aY rfl rfl (fun val E A B=>?_)
          have t4:=A.t 114 (val 3) rfl
          have Z:val 3=_:=B 3 (oz rfl)
          exact ⟨_,fun X=>by simp [aL,go_sem,t4,Z],rfl⟩
         ·cases J
          refine dU rfl rfl (fun _ _ _=>trivial) (fun val E X A C B=>?_)
          have t5:=A.t 115 (val 4) rfl
          have h4:val 4=_:=B 4 (oz rfl)
          have hx:=(b3.out.call C).bk.c 6 _ rfl
          exact ⟨_,by simp [aL,go_sem,t5,h4,hx],rfl⟩
         ·cases J
          refine aY rfl rfl (fun val E A B=>?_)
          have u1:=A.t 16 (aa ab (j:Int)) rfl
          exact ⟨_,fun X=>by simp [aL,go_sem,u1],rfl⟩
         ·cases J
          refine aY rfl rfl (fun val E A B=>?_)
          have t6:=A.t 116 (val 5) rfl
          have h5:val 5=_:=B 5 (oz rfl)
          have t7:=A.t 117 (val 6) rfl
          have h6:val 6=_:=B 6 (oz rfl)
          have n2:=k0
          have n3:=k1
          exact ⟨_,fun X=>by simp [aL,go_sem,t6,h5,t7,h6,n2,n3,eO],rfl⟩
         ·cases J
          refine dU rfl rfl (fun _ _ _=>trivial) (fun val E X A C B=>?_)
          have t8:=A.t 118 (val 7) rfl
          have h7:val 7=_:=B 7 (oz rfl)
          have n2:X.cell? ⟨b,j7+j * 2,none⟩=_:=(bd (C.block b n8.out)).trans c0
          have n3:X.cell? ⟨b,j7+j * 2+1,none⟩=_:=(bd (C.block b n8.out)).trans c1
          exact ⟨_,by simp [aL,go_sem,t8,h7,n2,n3],rfl⟩
         ·cases J
          refine Bd rfl rfl fun val E X N A hC B hc=>?_
          have t9:=A.t 119 (val 8) rfl
          have h8:val 8=_:=B 8 (oz rfl)
          have v2:=(ap X.heap.size X).alloc (ae _) (.cells #[ac ⟨L.1.toArray⟩,aa ab (L.2:Int)] 44)
          exact ⟨.slice (some ⟨X.heap.size,0,none⟩) 1 1,X.alloc (.cells #[ac ⟨L.1.toArray⟩,aa ab (L.2:Int)] 44),by simp [aL,go_sem,t9,h8],v2,⟨_,rfl⟩,fun N' _ K=>⟨_,rfl,K _ (ae _) (by simp),Bk.new X [ac ⟨L.1.toArray⟩,aa ab (L.2:Int)] 44⟩⟩
       case fin17=>
        have h0:val 0=_:=G 0 (by decide)
        have I:val 1=_:=G 1 (by decide)
        have K:val 2=_:=G 2 (by decide)
        have Z:val 3=_:=G 3 (by decide)
        have h4:val 4=_:=G 4 (by decide)
        have h5:val 5=_:=G 5 (by decide)
        have h6:val 6=_:=G 6 (by decide)
        have h7:val 7=_:=G 7 (by decide)
        have h8:val 8=_:=G 8 (by decide)
        obtain ⟨gz,h9,v6,r4⟩:∃g,val 9=.slice (some ⟨g,0,none⟩) 1 1/\N g/\Bk Y g [ac ⟨L.1.toArray⟩,aa ab (L.2:Int)]:=U.vcs 9 (by decide) rfl
        have q7:=zq (b5.out.trans (Bx.of (U.bel.mono p4.out)))
        have o6:=zq (e5.out.trans (U.bel.mono e5.out.size))
        have p7:=zq (e8.out.call U.bel)
        have l1:=zq (dJ c8.out fun k H=>U.bel.block k (c8.out.lt k H).2)
        have q9:Hid (Bk Y gz [ac ⟨L.1.toArray⟩,aa ab (L.2:Int)]):=zq r4
        have p0:Hid (NN<=Y.heap.size):=zq (aQ p4.out U.bel.size)
        simp only [gD,an,ao,af,ah,h0,I,K,Z,h4,h5,h6,h7,h8,h9]
        clear G h0 I K Z h4 h5 h6 h7 h8 h9 U r4 v6 b5 e5 e8 c8 kp kr c0 c1 w3 b3
        change wpAny _ _ _ _ 3 _ _ _
        obtain ⟨i,hi,r9,s0,s1⟩:=info_parts sw
        refine nL (k:=2) (i:=10) (by kernel_rfl) rfl rfl (RunsTo.wp (R:=fun v' w'=>∃A5 c5,v'=.slice A5 (Q+1) c5/\w'.ownsRow NN 44 2 v' (Q+1) (eE (((bv z.E.T m).m.take j).filter (fun p:List UInt8×Nat=>(bv z.E.T m).o.count p.2==1))++[ac ⟨L.1.toArray⟩,aa ab (L.2:Int)])/\aB NN Y w')
         (zo (.tmp 112) (.tmp 120) 31 rfl NN 44 i _ 2 24 Tryz.underlying31 hi r9 s0 s1 rfl (by decide) (.slice SA Q sc) Q (eE (((bv z.E.T m).m.take j).filter (fun p:List UInt8×Nat=>(bv z.E.T m).o.count p.2==1))) rfl l1.out ⟨gz,0,none⟩ 1 1 [ac ⟨L.1.toArray⟩,aa ab (L.2:Int)] rfl rfl (fun q u hu=>by rw [eO,ah];exact q9.out.c q u hu) (by simp [Value.oneCell']) (by have:=p2.out;unfold bF;omega) (by have:=p2.out;omega) p0.out (fun v' w' I K Z=>by
          obtain ⟨A5,c5,w4⟩:=fp I
          exact ⟨A5,c5,w4,I,tR (ap _ _) p0.out l1.out K⟩)) ?_)
        rintro _ w8 ⟨A5,c5,rfl,p5,b8⟩
        simp only [bu,ay]
        clear hi r9 s0 s1
        have i5:=zq (p7.out.keeps (b8.block _ e3.out))
        have b0:=i5.out.c 5 _ rfl
        have bf:=i5.out.f 5
        refine nL (k:=1) (i:=11) (by kernel_rfl) rfl rfl (RunsTo.wp (R:=fun v w'=>v=ar (some ⟨V,5,none⟩)/\w'=w8) (.inl ⟨_,_,by simp [aL,go_sem] <;> rfl,rfl,rfl⟩) ?_)
        rintro _ w9 ⟨rfl,g3⟩
        rw [g3]
        clear g3
        simp only [bu,ay]
        refine nL (k:=0) (i:=12) (by kernel_rfl) rfl rfl (RunsTo.wp (R:=fun v w'=>v=undef/\w'=w8.setCell ⟨V,5,none⟩ (.slice A5 (Q+1) c5)) (.inr (.inl ⟨w8.setCell ⟨V,5,none⟩ (.slice A5 (Q+1) c5),by simp [aL,go_sem,b0,bf],rfl,rfl⟩)) ?_)
        rintro _ w9 ⟨rfl,g3⟩
        rw [g3]
        clear g3
        simp only [bu]
        refine wo (by kernel_rfl) (v1 _ _ ?_)
        have p9:=zq (i5.out.set 5 (.slice A5 (Q+1) c5))
        have q8:=zq ((q7.out.trans (Bx.of b8)).trans (Bx.one _ _ _ 5 (.slice A5 (Q+1) c5)))
        have o7:=zq ((o6.out.trans (b8.mono (Nat.le_of_lt (Nat.lt_of_le_of_lt o8.out e3.out)))).setCell (p:=⟨V,5,none⟩) o8.out (.slice A5 (Q+1) c5))
        have i1:=zq (ownsRow_setCell_below (a:=⟨V,5,none⟩) p5 e3.out (.slice A5 (Q+1) c5))
        obtain ⟨wf,q6⟩:=lz (w8.setCell ⟨V,5,none⟩ (.slice A5 (Q+1) c5))
        rw [<-q6.out] at p9 q8 o7 i1 |-
        rw [<-l0.out.1,<-l0.out.2] at i1
        clear q6 p5 b8 i5 b0 bf p7 l1 q9 o6 q7
        go_wp2_with fail
        go_roundw
        case rel=>exact ⟨j+1,congrArg (dA dN) d1.out,a4,.slice A5 (Q+1) c5,q8,o7,p9,by rw [l0.out.1] at i1 |-;exact i1⟩
        case measure=>exact oB d1.out a4
      ·have b1:=Cd I
       have g7:Hid ((((bv z.E.T m).m.take (j+1)).filter (fun p:List UInt8×Nat=>(bv z.E.T m).o.count p.2==1))=(((bv z.E.T m).m.take j).filter (fun p:List UInt8×Nat=>(bv z.E.T m).o.count p.2==1))):=zq (by
        rw [f7.out,ic,List.filter_cons_of_neg (by rw [<-k7.out];simpa using I)];simp)
       clear I m4 m9 m2
       go_wp2_with fail
       go_roundw
       case rel=>exact ⟨j+1,congrArg (dA dN) d1.out,a4,.slice SA Q sc,b5,e5,e8,zq (by rw [g7.out,<-e6.out];exact c8.out)⟩
       case measure=>exact oB d1.out a4
     ·have y:=zc a4
      have v7:=vJ a4 hj
      subst v7
      have m8:(bv z.E.T m).m.take j=(bv z.E.T m).m:=List.take_of_length_le (by rw [<-c6.out];exact ae _)
      have p3:Hid (Q=(qm (bv z.E.T m)).length):=zq (by rw [e6.out,m8];rfl)
      have s9:=zq ((NmAt.own (m:=qm (bv z.E.T m)) (by have h:=c8.out;rw [m8] at h;rw [p3.out] at h;exact h)).2)
      have s6:=zq ((NmAt.own (m:=(bv z.E.T m).m) (by have h:=b3.out.nm;rw [c6.out] at h;exact h)).2)
      have r6:Bk wr (w.heap.size+1) [aa ab 0,aa ab 0,ac ⟨#[]⟩,.slice none 0 0,.slice none 0 0,.slice none 0 0,aa ab 0]:=(s4.out.at 1 _ _ rfl).keeps (b5.out.block _ (by rw [c7.out];have:=d6.out;have:=a3.out;omega) (by have:=d6.out;have:=a3.out;omega))
      have k6:=r6.all0
      simp only [aP,ah,af,and_true] at k6
      clear m8 hj a4 r6
      go_wp2_with fail
      refine aw (v:=aJ #[aV #[aa ab t.kind,aa ab t.num,ac t.name,.slice At t.args.length ct,.slice NA j nc,.slice SA Q sc,aa ab en],aa ab 0,aa ab 0]) (by simp [results,Tryz.results12,go_sem,k6]) rfl ?_
      rw [HV.out]
      have m5:∀b,b≠w.heap.size+1->(((((((wr.setCell ⟨w.heap.size+1,0,none⟩ (aa ab t.kind)).setCell ⟨w.heap.size+1,1,none⟩ (aa ab t.num)).setCell ⟨w.heap.size+1,2,none⟩ (ac t.name)).setCell ⟨w.heap.size+1,3,none⟩ (.slice At t.args.length ct)).setCell ⟨w.heap.size+1,4,none⟩ (.slice NA j nc)).setCell ⟨w.heap.size+1,5,none⟩ (.slice SA Q sc)).setCell ⟨w.heap.size+1,6,none⟩ (aa ab en)).heap[b]? = wr.heap[b]?:=fun b y=>by
       rw [aW _ _ _ _ y,aW _ _ _ _ y,aW _ _ _ _ y,aW _ _ _ _ y,aW _ _ _ _ y,aW _ _ _ _ y,aW _ _ _ _ y]
      have hW:=b5.out.size
      have hL:=d6.out
      have hG:=a3.out
      have hQ:=c7.out
      have x3:=b3.out.ok.p1
      have x5:=o3.out
      have x6:=s3.out
      refine ⟨At,ct,NA,nc,SA,sc,by simp only;rw [c6.out,p3.out],fv e5.out _ (bm _) _ _ _ _ _ _ _,(t0.out _ b5.out).keep (fun b y=>m5 b (by omega)) fun b y=>⟨by omega,by simp;omega⟩,s6.out.keep (fun b y=>m5 b (by omega)) fun b y=>⟨by omega,by simp;omega⟩,s9.out.keep (fun b y=>m5 b (by omega)) fun b y=>⟨by omega,by simp;omega⟩⟩
end Go.Proofs.YtbojljpldcijgaaGreat
