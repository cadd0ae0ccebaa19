/- Parts of the proof. -/
import Derived.Test.YtpokpgkjaifccaaGreatDoorRRH01
import Derived.Test.YtpokpgkjaifccaaGreatDoorRRH27
import Derived.Test.YtpokpgkjaifccaaGreatDoorRRH15
namespace Hb
open Go Go.RowKit
noncomputable def sameK (l m:List Tm) (k:Nat):Bool:=((l.zip m).take k).all fun x=>sameT x.1 x.2
noncomputable def sameL (l m:List Tm):Bool:=l.length==m.length&&(l.zip m).all fun x=>sameT x.1 x.2
theorem sameK_succ (l m:List Tm) (k:Nat) (h1:k<l.length) (h2:k<m.length):sameK l m (k+1)=(sameK l m k&&sameT l[k] m[k]):=by
 unfold sameK
 have hz:k<(l.zip m).length:=by rw [List.length_zip];omega
 rw [List.take_succ_eq_append_getElem hz,List.all_append,List.getElem_zip]
 simp
theorem sameL_no {l m:List Tm} (h:¬l.length=m.length):sameL l m=false:=by unfold sameL;simp [h]
theorem sameL_K {l m:List Tm} (h:l.length=m.length):sameL l m=sameK l m l.length:=by
 unfold sameL sameK
 rw [List.take_of_length_le (by rw [List.length_zip];omega)]
 simp [h]
theorem sameK_false {l m:List Tm} (k n:Nat) (hk:k≤n) (h:sameK l m k=false):sameK l m n=false:=by
 unfold sameK at *
 rw [List.all_eq_false] at h ⊢
 obtain ⟨x,hx,hf⟩:=h
 refine ⟨x,?_,hf⟩
 obtain ⟨d,rfl⟩:=Nat.exists_eq_add_of_le hk
 rw [List.take_add]
 exact List.mem_append_left _ hx
end Hb
namespace Go.Proofs.YtpokpgkjaifccaaGreatDoorRR
open Go.RowKit Hb Go.Shelf
set_option maxRecDepth 100000
set_option linter.unusedSimpArgs false
set_option maxHeartbeats 1600000 in
theorem r3_sameAll (l m:List Tm) (A B:Option Addr) (n n2 c d:Nat) (w:World) (hn:n=l.length) (hn2:n2=m.length) (hm:n≤100000) (hT:TmsAt w.heap.size w A l) (hU:TmsAt w.heap.size w B m) :
  Calls Tryz.prog 29 #[.slice A n c,.slice B n2 d] w fun e w'=>e=.returned (.bool (sameL l m))∧Below w.heap.size w w':=by
 have HT:=zq hT
 have HU:=zq hU
 have HNL:=zq hn
 have HML:=zq hn2
 have HNB:=zq hm
 obtain ⟨R,HR⟩:=lz (sameL l m)
 rw [←HR.out]
 have HSM:=zq (fun (x y:Tm) a b e f W (h1:TmsAt W.heap.size W a x.args) (h2:TmsAt W.heap.size W b y.args)=>r3_same x y a b e f W h1 h2)
 clear hT hU hn hn2 hm
 unfold tmV at HSM
 go_enter Tryz.func29,Tryz.ntmps29
 by_cases hne:n=n2
 ·have HRK:Hid (R=sameK l m n):=zq (by rw [HR.out,sameL_K (by rw [←HNL.out,←HML.out,hne]),HNL.out])
  subst hne
  clear HR
  go_wp2_with fail
  go_loopw [5] (fun i wr=>∃k:Nat,k≤n∧i=.int .i64 k∧Hid (sameK l m k=true)∧Hid (Below w.heap.size w wr)) (fun i _=>n-(intOf i).toNat)
  case atStart=>exact ⟨0,Nat.zero_le _,rfl,zq rfl,zq (Below.refl _ _)⟩
  case round=>
   obtain ⟨k,hk,rfl,HSK,HBR⟩:=hrel
   by_cases hlt:k<n
   ·have hkl:k<l.length:=by rw [←HNL.out];exact hlt
    have hkm:k<m.length:=by rw [←HML.out];exact hlt
    obtain ⟨b,off,xa,xc,hA',hb,q0,q1,q2,q3,hsx⟩:=((HT.out.keep HBR.out).mono HBR.out.size).get k hkl
    obtain ⟨b2,off2,ya,yc,hB',hb2,r0,r1,r2,r3,hsy⟩:=((HU.out.keep HBR.out).mono HBR.out.size).get k hkm
    obtain ⟨x,HX⟩:=lz (l[k])
    obtain ⟨y,HY⟩:=lz (m[k])
    rw [←HX.out] at q0 q1 q2 q3 hsx
    rw [←HY.out] at r0 r1 r2 r3 hsy
    cases hA'
    cases hB'
    have k0:(0:Int)≤(k:Int):=by omega
    have k1:(k:Int)<(n:Int):=by omega
    have hw2:wrap64 ((k:Int)+1)=(k:Int)+1:=IntWalk.wrap64_in _ (by have:=HNB.out;omega)
    have HSS:Hid (sameK l m (k+1)=sameT x y):=zq (by rw [sameK_succ _ _ k hkl hkm,HSK.out,HX.out,HY.out];rfl)
    have HCS:Hid (∀X,Below wr.heap.size wr X→Calls Tryz.prog 37 #[.agg #[.int .i64 x.kind,.int .i64 x.num,.string x.name,.slice xa x.args.length xc],.agg #[.int .i64 y.kind,.int .i64 y.num,.string y.name,.slice ya y.args.length yc]] X fun e w'=>e=.returned (.bool (sameT x y))∧Below X.heap.size X w'):=zq fun X hX=>HSM.out x y xa ya xc yc X ((hsx.keep hX).mono hX.size) ((hsy.keep hX).mono hX.size)
    obtain ⟨sv,HSV⟩:=lz (sameT x y)
    rw [←HSV.out] at HCS HSS
    clear hsx hsy HSV HX HY
    go_wp2_with fail
    rename_i K9 hK9
    refine region_own (w0:=wr) [rPure [] [0] (fun | [v]=>v=.slice (some ⟨b,off,none⟩) n c | _=>False),
      rPure [] [1] (fun | [v]=>v=.int .i64 (k:Int) | _=>False),
      rPure [0,1] [2] (fun | [v]=>v=.pointer (some ⟨b,off+k * 4,none⟩) | _=>False),
      rVal (List.range 3) [3] (fun | [v]=>v=.agg #[.int .i64 x.kind,.int .i64 x.num,.string x.name,.slice xa x.args.length xc] | _=>False),
      rPure [] [4] (fun | [v]=>v=.slice (some ⟨b2,off2,none⟩) n d | _=>False),
      rPure [] [5] (fun | [v]=>v=.int .i64 (k:Int) | _=>False),
      rPure [4,5] [6] (fun | [v]=>v=.pointer (some ⟨b2,off2+k * 4,none⟩) | _=>False),
      rVal [4,5,6] [7] (fun | [v]=>v=.agg #[.int .i64 y.kind,.int .i64 y.num,.string y.name,.slice ya y.args.length yc] | _=>False),
      rVal (List.range 8) [8] (fun | [v]=>v=.bool sv | _=>False),
      rPure (List.range 9) [9] (fun | [v]=>v=.bool (!sv) | _=>False)]
      [some 17,some 18,some 19,some 20,some 21,some 22,some 23,some 24,some 25,some 26] (fun _=>True) (wr.heap.size) (by kernel_rfl) (Nat.le_refl _) (by kernel_rfl) (by kernel_rfl) (by kernel_rfl) (fun j o ho=>?srv9) (fun val Y N hv HF=>?fin9)
    case srv9=>
      have hlt:j<10:=(Array.getElem?_eq_some_iff.1 ho).1
      rcases (show j=0∨j=1∨j=2∨j=3∨j=4∨j=5∨j=6∨j=7∨j=8∨j=9 by omega) with rfl | rfl | rfl | rfl | rfl | rfl | rfl | rfl | rfl | rfl
      ·cases ho
       refine srv_pure rfl rfl (fun val E hE hA=>?_)
       have e0:=hE.t 0 (.slice (some ⟨b,off,none⟩) n c) rfl
       exact ⟨.slice (some ⟨b,off,none⟩) n c,fun X=>by simp [execOp,go_sem,e0],rfl⟩
      ·cases ho
       refine srv_pure rfl rfl (fun val E hE hA=>?_)
       have e5:=hE.t 5 (.int .i64 (k:Int)) rfl
       exact ⟨.int .i64 (k:Int),fun X=>by simp [execOp,go_sem,e5],rfl⟩
      ·cases ho
       refine srv_pure rfl rfl (fun val E hE hA=>?_)
       have e17:=hE.t 17 (val 0) rfl
       have h0:val 0=.slice (some ⟨b,off,none⟩) n c:=hA 0 (oz rfl)
       have e18:=hE.t 18 (val 1) rfl
       have h1:val 1=.int .i64 (k:Int):=hA 1 (oz rfl)
       exact ⟨.pointer (some ⟨b,off+k * 4,none⟩),fun X=>by simp [execOp,go_sem,e17,h0,e18,h1,k0,k1],rfl⟩
      ·cases ho
       refine srv_val rfl rfl (fun _ _ _=>trivial) (fun val E X hE hB hA=>?_)
       have e19:=hE.t 19 (val 2) rfl
       have h2:val 2=.pointer (some ⟨b,off+k * 4,none⟩):=hA 2 (oz rfl)
       have z0:=(hB.cell (p:=⟨b,off+k * 4,none⟩) hb).trans q0
       have z1:=(hB.cell (p:=⟨b,off+k * 4+1,none⟩) hb).trans q1
       have z2:=(hB.cell (p:=⟨b,off+k * 4+2,none⟩) hb).trans q2
       have z3:=(hB.cell (p:=⟨b,off+k * 4+3,none⟩) hb).trans q3
       exact ⟨.agg #[.int .i64 x.kind,.int .i64 x.num,.string x.name,.slice xa x.args.length xc],by simp [execOp,go_sem,e19,h2,z0,z1,z2,z3],rfl⟩
      ·cases ho
       refine srv_pure rfl rfl (fun val E hE hA=>?_)
       have e1:=hE.t 1 (.slice (some ⟨b2,off2,none⟩) n d) rfl
       exact ⟨.slice (some ⟨b2,off2,none⟩) n d,fun X=>by simp [execOp,go_sem,e1],rfl⟩
      ·cases ho
       refine srv_pure rfl rfl (fun val E hE hA=>?_)
       have e5:=hE.t 5 (.int .i64 (k:Int)) rfl
       exact ⟨.int .i64 (k:Int),fun X=>by simp [execOp,go_sem,e5],rfl⟩
      ·cases ho
       refine srv_pure rfl rfl (fun val E hE hA=>?_)
       have e21:=hE.t 21 (val 4) rfl
       have h4:val 4=.slice (some ⟨b2,off2,none⟩) n d:=hA 4 (oz rfl)
       have e22:=hE.t 22 (val 5) rfl
       have h5:val 5=.int .i64 (k:Int):=hA 5 (oz rfl)
       exact ⟨.pointer (some ⟨b2,off2+k * 4,none⟩),fun X=>by simp [execOp,go_sem,e21,h4,e22,h5,k0,k1],rfl⟩
      ·cases ho
       refine srv_val rfl rfl (fun _ _ _=>trivial) (fun val E X hE hB hA=>?_)
       have e23:=hE.t 23 (val 6) rfl
       have h6:val 6=.pointer (some ⟨b2,off2+k * 4,none⟩):=hA 6 (oz rfl)
       have z0:=(hB.cell (p:=⟨b2,off2+k * 4,none⟩) hb2).trans r0
       have z1:=(hB.cell (p:=⟨b2,off2+k * 4+1,none⟩) hb2).trans r1
       have z2:=(hB.cell (p:=⟨b2,off2+k * 4+2,none⟩) hb2).trans r2
       have z3:=(hB.cell (p:=⟨b2,off2+k * 4+3,none⟩) hb2).trans r3
       exact ⟨.agg #[.int .i64 y.kind,.int .i64 y.num,.string y.name,.slice ya y.args.length yc],by simp [execOp,go_sem,e23,h6,z0,z1,z2,z3],rfl⟩
      ·cases ho
       refine srv_calV rfl rfl (fun _ _ _=>trivial) (fun val E X hE hB hA=>?_)
       have e20:=hE.t 20 (val 3) rfl
       have h3:val 3=.agg #[.int .i64 x.kind,.int .i64 x.num,.string x.name,.slice xa x.args.length xc]:=hA 3 (oz rfl)
       have e24:=hE.t 24 (val 7) rfl
       have h7:val 7=.agg #[.int .i64 y.kind,.int .i64 y.num,.string y.name,.slice ya y.args.length yc]:=hA 7 (oz rfl)
       exact ⟨_,_,_,by simp [execOp,go_sem,hE.f,e20,h3,e24,h7] <;> rfl,HCS.out X hB,rfl⟩
      ·cases ho
       refine srv_pure rfl rfl (fun val E hE hA=>?_)
       have e25:=hE.t 25 (val 8) rfl
       have h8:val 8=.bool sv:=hA 8 (oz rfl)
       exact ⟨.bool (!sv),fun X=>by simp [execOp,go_sem,e25,h8],rfl⟩
    case fin9=>
     have h0:val 0=.slice (some ⟨b,off,none⟩) n c:=hv 0 (by decide)
     have h1:val 1=.int .i64 (k:Int):=hv 1 (by decide)
     have h2:val 2=.pointer (some ⟨b,off+k * 4,none⟩):=hv 2 (by decide)
     have h3:val 3=.agg #[.int .i64 x.kind,.int .i64 x.num,.string x.name,.slice xa x.args.length xc]:=hv 3 (by decide)
     have h4:val 4=.slice (some ⟨b2,off2,none⟩) n d:=hv 4 (by decide)
     have h5:val 5=.int .i64 (k:Int):=hv 5 (by decide)
     have h6:val 6=.pointer (some ⟨b2,off2+k * 4,none⟩):=hv 6 (by decide)
     have h7:val 7=.agg #[.int .i64 y.kind,.int .i64 y.num,.string y.name,.slice ya y.args.length yc]:=hv 7 (by decide)
     have h8:val 8=.bool sv:=hv 8 (by decide)
     have h9:val 9=.bool (!sv):=hv 9 (by decide)
     refine hK9 _ _ ?_
     simp only [fillD,List.set_cons_zero,List.set_cons_succ,Nat.reduceAdd,Nat.zero_add,h0,h1,h2,h3,h4,h5,h6,h7,h8,h9]
     have HB9:=zq (HBR.out.trans (HF.bel.mono HBR.out.size))
     clear hv hK9 h0 h1 h2 h3 h4 h5 h6 h7 h8 h9 HF HBR HCS q0 q1 q2 q3 r0 r1 r2 r3 hb hb2
     cases sv
     ·have HRF:Hid (R=false):=zq (by rw [HRK.out];exact sameK_false (k+1) n hlt HSS.out)
      clear HRK HSS HSK
      go_wp2_with fail
      go_ret
      exact ⟨by rw [HRF.out];rfl,HB9.out⟩
     ·go_wp2_with fail
      go_roundw
      case rel=>exact ⟨k+1,Nat.succ_le_of_lt hlt,by go_num,HSS,HB9⟩
      case measure=>exact spM k _ _ hw2 hlt
   ·have hkn:k=n:=Nat.le_antisymm hk (Nat.le_of_not_lt hlt)
    subst hkn
    have HRF:Hid (R=true):=zq (by rw [HRK.out];exact HSK.out)
    clear HRK HSK
    go_wp2_with fail
    go_ret
    exact ⟨by rw [HRF.out];rfl,HBR.out⟩
 ·have HRF:Hid (R=false):=zq (by rw [HR.out];exact sameL_no (by rw [←HNL.out,←HML.out];exact hne))
  have hne2:¬(n:Int)=(n2:Int):=by omega
  clear HR
  go_wp2_with fail
  go_ret
  exact ⟨by rw [HRF.out];rfl,Below.refl _ _⟩
theorem callA_is (g:Tm):(∀l,callA g=.ok l→l.length≤1000)∧(∀k,callA g=.err k→k=1∨k=2∨k=4):=by
 unfold callA
 split
 ·exact ⟨fun l h=>(by cases h),fun k h=>(by cases h;exact .inl rfl)⟩
 split
 ·exact ⟨fun l h=>(by cases h),fun k h=>(by cases h;exact .inr (.inr rfl))⟩
 unfold ansA
 split
 ·exact ⟨fun l h=>(by cases h),fun k h=>(by cases h;exact .inr (.inr rfl))⟩
 ·exact ⟨fun l h=>(by cases h),fun k h=>(by cases h)⟩
 ·unfold finA
  split
  ·exact ⟨fun l h=>(by cases h),fun k h=>(by cases h;exact .inr (.inl rfl))⟩
  split
  ·exact ⟨fun l h=>(by cases h;rw [List.length_map];omega),fun k h=>(by cases h)⟩
  ·exact ⟨fun l h=>(by cases h),fun k h=>(by cases h;exact .inr (.inl rfl))⟩
noncomputable def givesB (g:Tm) (want:List Tm):Bool:=match callA g with
 | .ok l=>sameL l want
 | _=>false
def nError:ByteArray:=⟨#[101,114,114,111,114]⟩
noncomputable def raisesB (g fm:Tm):Bool:=match callA g with
 | .ball b=>sameT b (.mk 3 0 nError [fm,nilA])
 | _=>false
theorem same_zero:sameT tm0 tm0=true:=by
 have h:validT tm0=true:=leafOk.valid ⟨rfl,by kernel_rfl⟩
 unfold sameT
 rw [h,eqT_yes rfl]
 rfl
set_option maxHeartbeats 1600000 in
theorem l_gives (g:Tm) (A:Option Addr) (c:Nat) (want:List Tm) (B:Option Addr) (n2 d:Nat) (w:World) (hD:DoorOk w) (hI:∀x∈g.args,I64 x.num) (hc:g.args.length≤c) (hT:TmsAt w.heap.size w A g.args) (hn2:n2=want.length) (hU:TmsAt w.heap.size w B want) :
  Calls Tryz.prog 15 #[tmV g A c,.slice B n2 d] w fun e w'=>e=.returned (.bool (givesB g want))∧Below w.heap.size w w':=by
 have HCA:=zq (fun W (h:Below w.heap.size w W)=>a_call A c g W (hD.below h) hI hc ((hT.keep h).mono h.size))
 have HUU:=zq hU
 have HN2:=zq hn2
 have HSZ:Hid (∀W,Calls Tryz.prog 24 #[.agg #[.int .i64 0,.int .i64 0,.string ⟨#[]⟩,.slice none 0 0],.agg #[.int .i64 0,.int .i64 0,.string ⟨#[]⟩,.slice none 0 0]] W fun e w'=>e=.returned (.bool true)∧Below W.heap.size W w'):=zq fun W=>by
  have:=l_same tm0 tm0 none none 0 0 W TmsK.nil TmsK.nil
  rw [same_zero] at this
  exact this
 obtain ⟨R,HR⟩:=lz (givesB g want)
 rw [←HR.out]
 have HIS:=zq (callA_is g)
 have HB1:=zq ((Below.refl w.heap.size w).alloc (Nat.le_refl _) (.cells #[.int .i64 g.kind,.int .i64 g.num,.string g.name,.slice A g.args.length c] 32))
 have HR2:Hid (R=match callA g with | .ok l=>sameL l want | _=>false):=zq HR.out
 clear hD hI hc hT hn2 hU HR
 obtain ⟨CA,HCE⟩:=lz (callA g)
 rw [←HCE.out] at HCA HIS HR2
 clear HCE
 unfold tmV at *
 generalize g.kind=k0 at *
 generalize g.num=n0 at *
 generalize g.name=s0 at *
 generalize g.args.length=na at *
 go_enter Tryz.func15,Tryz.ntmps15
 cases CA with
 | ok l=>
  have HRE:Hid (R=sameL l want):=zq HR2.out
  have HLB:=zq (HIS.out.1 l rfl)
  clear HR2 HIS
  go_wp2_with fail
  refine (HCA.out _ HB1.out).mono ?_;rintro e w2 ⟨hB,hr⟩
  obtain ⟨LA,lc,rfl,ht⟩:=hr
  have HB2:=bz HB1 hB
  have HTL:=zq ht
  obtain ⟨nl,HNL⟩:=lz (l.length)
  rw [←HNL.out] at HLB ⊢
  have hz:=(Below.refl w2.heap.size w2).alloc (Nat.le_refl _) (.cells #[.int .i64 0,.int .i64 0,.string ⟨#[]⟩,.slice none 0 0] 32)
  obtain ⟨y1,HY1⟩:=lz (w2.alloc (.cells #[.int .i64 0,.int .i64 0,.string ⟨#[]⟩,.slice none 0 0] 32))
  have HZ3:Hid (Below w2.heap.size w2 y1):=zq (by rw [HY1.out];exact hz)
  have HB3:=zq (HB2.out.trans (HZ3.out.mono HB2.out.size))
  have HK3:Hid (Bk y1 w2.heap.size [.int .i64 0,.int .i64 0,.string ⟨#[]⟩,.slice none 0 0]):=zq (by rw [HY1.out];exact Bk.new w2 [.int .i64 0,.int .i64 0,.string ⟨#[]⟩,.slice none 0 0] 32)
  have HSA:Hid (Calls Tryz.prog 29 #[.slice LA nl lc,.slice B n2 d] y1 fun e w'=>e=.returned (.bool (sameL l want))∧Below y1.heap.size y1 w'):=zq (r3_sameAll l want LA B nl n2 lc d y1 HNL.out HN2.out (Nat.le_trans HLB.out (by decide)) ((HTL.out.keep HZ3.out).mono HZ3.out.size) ((HUU.out.keep HB3.out).mono HB3.out.size))
  rw [←HRE.out] at HSA
  clear ht hB hz HCA HB1 HRE
  go_wp2_with fail
  rw [←HY1.out]
  clear HY1
  refine HSA.out.mono ?_;rintro e w4 ⟨rfl,hB⟩
  have HB4:=bz HB3 hB
  have HK4:=zq (HK3.out.call hB)
  clear hB HSA HB3 HK3
  have z0:=HK4.out.c 0 _ rfl
  have z1:=HK4.out.c 1 _ rfl
  have z2:=HK4.out.c 2 _ rfl
  have z3:=HK4.out.c 3 _ rfl
  cases R
  ·go_wp2_with fail
   go_ret
   exact ⟨rfl,HB4.out⟩
  ·go_wp2_with fail
   refine (HSZ.out _).mono ?_;rintro e w5 ⟨rfl,hB⟩
   have HB5:=bz HB4 hB
   clear hB z0 z1 z2 z3
   go_wp2_with fail
   go_ret
   exact ⟨rfl,HB5.out⟩
 | ball b=>
  have HRE:Hid (R=false):=zq HR2.out
  clear HR2 HIS
  go_wp2_with fail
  refine (HCA.out _ HB1.out).mono ?_;rintro e w2 ⟨hB,hr⟩
  obtain ⟨BA,bc,rfl,_⟩:=hr
  unfold tmV
  have HB2:=bz HB1 hB
  have HB3:Hid (Below w.heap.size w (w2.alloc (.cells #[.int .i64 b.kind,.int .i64 b.num,.string b.name,.slice BA b.args.length bc] 32))):=zq (HB2.out.alloc HB2.out.size _)
  clear hB HCA HB1
  go_wp2_with fail
  go_ret
  exact ⟨by rw [HRE.out];rfl,HB3.out⟩
 | err k=>
  have HRE:Hid (R=false):=zq HR2.out
  have hk:¬k=0:=by rcases HIS.out.2 k rfl with h | h | h <;> omega
  clear HR2 HIS
  go_wp2_with fail
  refine (HCA.out _ HB1.out).mono ?_;rintro e w2 ⟨hB,hr⟩
  obtain rfl:=hr
  have HB2:=bz HB1 hB
  have HB3:Hid (Below w.heap.size w (w2.alloc (.cells #[.int .i64 0,.int .i64 0,.string ⟨#[]⟩,.slice none 0 0] 32))):=zq (HB2.out.alloc HB2.out.size _)
  clear hB HCA HB1
  go_wp2_with fail
  go_ret
  exact ⟨by rw [HRE.out];rfl,HB3.out⟩
end Go.Proofs.YtpokpgkjaifccaaGreatDoorRR
namespace Hb
open Go Go.RowKit
theorem srv_mkG {P:Program} {ops:Array Oper} {sp:List ROp} {BP:List Value→Prop} {B:Nat} {w0:World} {a0:Act} {T:List Value→World→Prop} {j:Nat} {o:Oper} {g:Nat} {b:Bool} (hc:(opAt sp j).cl=.call) (hg:o.guard=some (g,b)) (hv:∀val,VPs sp j val→val g=.bool b) (h:∀val E X N,EOf ops val a0 o E→AtC BP B w0 X N→VPs sp j val→VCs sp j val N X→∃v X',(execOp E o).run P X=.ok (.value v) X'∧Below X.heap.size X X'∧(opAt sp j).vp (vals sp j (updV val j v))∧∀N':Nat→Prop,(∀b,N b→N' b)→(∀b,X.heap.size≤b→b<X'.heap.size→N' b)→(opAt sp j).vc (vals sp j (updV val j v)) N' X'):SrvAt P ops sp BP B w0 a0 T j o:=by
 unfold SrvAt;rw [hc]
 refine fun val X N h1 h2 h3 h4 hA hC=>⟨fun _=>?_,fun hf=>by rw [want_some hg (hv val hA)] at hf;simp at hf⟩
 obtain ⟨v,X',h5,h6⟩:=h val _ X N (EOf.at _ _ _ _) ⟨h1,h2,h3,h4⟩ hA hC
 exact .inl ⟨v,X',h5,h6⟩
end Hb
namespace Go.Proofs.YtpokpgkjaifccaaGreatDoorRR
open Go.RowKit Hb Go.Shelf
set_option maxRecDepth 100000
set_option linter.unusedSimpArgs false
set_option maxHeartbeats 1600000 in
theorem l_raises (g fm:Tm) (A:Option Addr) (c:Nat) (F:Option Addr) (e9:Nat) (w:World) (hD:DoorOk w) (hI:∀x∈g.args,I64 x.num) (hc:g.args.length≤c) (hT:TmsAt w.heap.size w A g.args) (hF:TmsAt w.heap.size w F fm.args) (hN:∀b,callA g=.ball b→NoV b.args) :
  Calls Tryz.prog 25 #[tmV g A c,tmV fm F e9] w fun e w'=>e=.returned (.bool (raisesB g fm))∧Below w.heap.size w w':=by
 have HCA:=zq (fun W (h:Below w.heap.size w W)=>a_call A c g W (hD.below h) hI hc ((hT.keep h).mono h.size))
 have HFF:=zq hF
 have HNV:=zq hN
 have HAN:=zq (fun W=>l_a ⟨#[91,93]⟩ W)
 have HLF:=zq (fun A n c W=>l_f ⟨#[101,114,114,111,114]⟩ A n c W)
 obtain ⟨R,HR⟩:=lz (raisesB g fm)
 rw [←HR.out]
 have HIS:=zq (callA_is g)
 have HB1:=zq (((Below.refl w.heap.size w).alloc (Nat.le_refl _) (.cells #[.int .i64 g.kind,.int .i64 g.num,.string g.name,.slice A g.args.length c] 32)).alloc (by simp) (.cells #[.int .i64 fm.kind,.int .i64 fm.num,.string fm.name,.slice F fm.args.length e9] 32))
 have HK1:=zq (Bk.new (w.alloc (.cells #[.int .i64 g.kind,.int .i64 g.num,.string g.name,.slice A g.args.length c] 32)) [.int .i64 fm.kind,.int .i64 fm.num,.string fm.name,.slice F fm.args.length e9] 32)
 rw [World.size_alloc] at HK1
 have HR2:Hid (R=match callA g with | .ball b=>sameT b (.mk 3 0 nError [fm,nilA]) | _=>false):=zq HR.out
 clear hD hI hc hT hF hN HR
 obtain ⟨CA,HCE⟩:=lz (callA g)
 rw [←HCE.out] at HCA HIS HR2 HNV
 clear HCE
 unfold tmV at *
 obtain ⟨f0,HF0⟩:=lz (fm.kind)
 obtain ⟨f1,HF1⟩:=lz (fm.num)
 obtain ⟨f2,HF2⟩:=lz (fm.name)
 obtain ⟨f3,HF3⟩:=lz (fm.args.length)
 rw [←HF0.out,←HF1.out,←HF2.out,←HF3.out] at HB1 HK1 ⊢
 generalize g.kind=k0 at *
 generalize g.num=n0 at *
 generalize g.name=s0 at *
 generalize g.args.length=na at *
 go_enter Tryz.func25,Tryz.ntmps25
 cases CA with
 | ok l=>
  have HRE:Hid (R=false):=zq HR2.out
  clear HR2 HIS
  go_wp2_with fail
  refine (HCA.out _ HB1.out).mono ?_;rintro e w2 ⟨hB,hr⟩
  obtain ⟨LA,lc,rfl,_⟩:=hr
  have HB2:=bz HB1 hB
  have HK2:=zq (HK1.out.call hB)
  have hz:=(Below.refl w2.heap.size w2).alloc (Nat.le_refl _) (.cells #[.int .i64 0,.int .i64 0,.string ⟨#[]⟩,.slice none 0 0] 32)
  obtain ⟨y1,HY1⟩:=lz (w2.alloc (.cells #[.int .i64 0,.int .i64 0,.string ⟨#[]⟩,.slice none 0 0] 32))
  have HZ3:Hid (Below w2.heap.size w2 y1):=zq (by rw [HY1.out];exact hz)
  have HB3:=zq (HB2.out.trans (HZ3.out.mono HB2.out.size))
  have HK3:=zq (HK2.out.call HZ3.out)
  have H63:Hid (Bk y1 w2.heap.size [.int .i64 0,.int .i64 0,.string ⟨#[]⟩,.slice none 0 0]):=zq (by rw [HY1.out];exact Bk.new w2 [.int .i64 0,.int .i64 0,.string ⟨#[]⟩,.slice none 0 0] 32)
  clear H63 HK3
  generalize l.length=nl at *
  clear hB hz HCA HB1 HK1 HB2 HK2
  go_wp2_with fail
  rw [←HY1.out]
  clear HY1
  refine region_own (w0:=y1) [rPure [] [0] (fun | [v]=>v=.int .i64 0 | _=>False),
    rPure [0] [1] (fun | [v]=>v=.bool false | _=>False),
    rPure [0,1] [2] (fun | [v]=>v=.bool false | _=>False),
    rPure (List.range 3) [3] (fun | [v]=>v=undef | _=>False),
    rPure (List.range 4) [4] (fun | [v]=>v=undef | _=>False),
    rPure (List.range 5) [5] (fun | [v]=>v=undef | _=>False),
    rPure (List.range 6) [6] (fun | [v]=>v=.bool false | _=>False),
    rPure (List.range 7) [7] (fun | [v]=>v=.bool false | _=>False),
    rVal (List.range 8) [8] (fun | [v]=>v=undef | _=>False),
    rVal (List.range 8) [9] (fun | [v]=>v=undef | _=>False),
    rVal (List.range 8) [10] (fun | [v]=>v=undef | _=>False),
    rPure [0,1,2,3,4,5,6,7,9,10] [11] (fun | [v]=>v=undef | _=>False),
    rVal [0,1,2,3,4,5,6,7,9,10,11] [12] (fun | [v]=>v=undef | _=>False),
    rVal (List.range 13) [13] (fun | [v]=>v=undef | _=>False),
    rPure (List.range 14) [14] (fun | [v]=>v=.bool false | _=>False),
    rPure (List.range 15) [15] (fun | [v]=>v=.bool false | _=>False)]
    [some 14,some 15,some 16,some 17,some 18,some 19,some 20,some 21,some 22,some 23,some 24,some 25,some 26,some 27,some 28,some 4] (fun _=>True) (y1.heap.size) (by kernel_rfl) (Nat.le_refl _) (by kernel_rfl) (by kernel_rfl) (by kernel_rfl) (fun j o ho=>?srv9) (fun val Y N hv HF=>?fin9)
  case srv9=>
    have hlt:j<16:=(Array.getElem?_eq_some_iff.1 ho).1
    rcases (show j=0∨j=1∨j=2∨j=3∨j=4∨j=5∨j=6∨j=7∨j=8∨j=9∨j=10∨j=11∨j=12∨j=13∨j=14∨j=15 by omega) with rfl | rfl | rfl | rfl | rfl | rfl | rfl | rfl | rfl | rfl | rfl | rfl | rfl | rfl | rfl | rfl
    ·cases ho
     refine srv_pure rfl rfl (fun val E hE hA=>?_)
     have e7:=hE.t 7 (.int .i64 0) rfl
     exact ⟨.int .i64 0,fun X=>by simp [execOp,go_sem,e7],rfl⟩
    ·cases ho
     refine srv_pure rfl rfl (fun val E hE hA=>?_)
     have e14:=hE.t 14 (val 0) rfl
     have h0:val 0=.int .i64 0:=hA 0 (oz rfl)
     exact ⟨.bool false,fun X=>by simp [execOp,go_sem,hE.c,e14,h0],rfl⟩
    ·cases ho
     refine srv_pure rfl rfl (fun val E hE hA=>?_)
     have e15:=hE.t 15 (val 1) rfl
     have h1:val 1=.bool false:=hA 1 (oz rfl)
     exact ⟨.bool false,fun X=>by simp [execOp,go_sem,e15,h1],rfl⟩
    ·cases ho
     exact srv_pureG false rfl rfl (fun val hA=>hA 2 (oz rfl)) (fun h=>by cases h) fun _ val hA=>rfl
    ·cases ho
     exact srv_pureG false rfl rfl (fun val hA=>hA 2 (oz rfl)) (fun h=>by cases h) fun _ val hA=>rfl
    ·cases ho
     exact srv_pureG false rfl rfl (fun val hA=>hA 2 (oz rfl)) (fun h=>by cases h) fun _ val hA=>rfl
    ·cases ho
     refine srv_pure rfl rfl (fun val E hE hA=>?_)
     have e16:=hE.t 16 (val 2) rfl
     have h2:val 2=.bool false:=hA 2 (oz rfl)
     have e19:=hE.t 19 (val 5) rfl
     have h5:val 5=undef:=hA 5 (oz rfl)
     exact ⟨.bool false,fun X=>by simp [execOp,go_sem,hE.c,e16,h2,e19,h5],rfl⟩
    ·cases ho
     refine srv_pure rfl rfl (fun val E hE hA=>?_)
     have e20:=hE.t 20 (val 6) rfl
     have h6:val 6=.bool false:=hA 6 (oz rfl)
     exact ⟨.bool false,fun X=>by simp [execOp,go_sem,e20,h6],rfl⟩
    ·cases ho
     exact srv_valG false rfl rfl (fun _ _ _=>trivial) (fun val hA=>hA 7 (oz rfl)) (fun h=>by cases h) fun _ val hA=>rfl
    ·cases ho
     exact srv_valG false rfl rfl (fun _ _ _=>trivial) (fun val hA=>hA 7 (oz rfl)) (fun h=>by cases h) fun _ val hA=>rfl
    ·cases ho
     exact srv_calVG false rfl rfl (fun _ _ _=>trivial) (fun val hA=>hA 7 (oz rfl)) (fun h=>by cases h) fun _ val hA=>rfl
    ·cases ho
     exact srv_pureG false rfl rfl (fun val hA=>hA 7 (oz rfl)) (fun h=>by cases h) fun _ val hA=>rfl
    ·cases ho
     exact srv_calVG false rfl rfl (fun _ _ _=>trivial) (fun val hA=>hA 7 (oz rfl)) (fun h=>by cases h) fun _ val hA=>rfl
    ·cases ho
     exact srv_calVG false rfl rfl (fun _ _ _=>trivial) (fun val hA=>hA 7 (oz rfl)) (fun h=>by cases h) fun _ val hA=>rfl
    ·cases ho
     refine srv_pure rfl rfl (fun val E hE hA=>?_)
     have e21:=hE.t 21 (val 7) rfl
     have h7:val 7=.bool false:=hA 7 (oz rfl)
     have e27:=hE.t 27 (val 13) rfl
     have h13:val 13=undef:=hA 13 (oz rfl)
     exact ⟨.bool false,fun X=>by simp [execOp,go_sem,hE.c,e21,h7,e27,h13],rfl⟩
    ·cases ho
     refine srv_pure rfl rfl (fun val E hE hA=>?_)
     have e28:=hE.t 28 (val 14) rfl
     have h14:val 14=.bool false:=hA 14 (oz rfl)
     exact ⟨.bool false,fun X=>by simp [execOp,go_sem,e28,h14],rfl⟩
  case fin9=>
   have h0:val 0=.int .i64 0:=hv 0 (by decide)
   have h1:val 1=.bool false:=hv 1 (by decide)
   have h2:val 2=.bool false:=hv 2 (by decide)
   have h3:val 3=undef:=hv 3 (by decide)
   have h4:val 4=undef:=hv 4 (by decide)
   have h5:val 5=undef:=hv 5 (by decide)
   have h6:val 6=.bool false:=hv 6 (by decide)
   have h7:val 7=.bool false:=hv 7 (by decide)
   have h8:val 8=undef:=hv 8 (by decide)
   have h9:val 9=undef:=hv 9 (by decide)
   have h10:val 10=undef:=hv 10 (by decide)
   have h11:val 11=undef:=hv 11 (by decide)
   have h12:val 12=undef:=hv 12 (by decide)
   have h13:val 13=undef:=hv 13 (by decide)
   have h14:val 14=.bool false:=hv 14 (by decide)
   have h15:val 15=.bool false:=hv 15 (by decide)
   simp only [fillD,List.set_cons_zero,List.set_cons_succ,Nat.reduceAdd,Nat.zero_add,h0,h1,h2,h3,h4,h5,h6,h7,h8,h9,h10,h11,h12,h13,h14,h15]
   have HB4:=zq (HB3.out.trans (HF.bel.mono HB3.out.size))
   clear hv h0 h1 h2 h3 h4 h5 h6 h7 h8 h9 h10 h11 h12 h13 h14 h15 HF
   go_wp2_with fail
   go_ret
   exact ⟨by rw [HRE.out];rfl,HB4.out⟩
 | err k=>
  have HRE:Hid (R=false):=zq HR2.out
  have hk:¬k=8:=by rcases HIS.out.2 k rfl with h | h | h <;> omega
  clear HR2 HIS
  go_wp2_with fail
  refine (HCA.out _ HB1.out).mono ?_;rintro e w2 ⟨hB,hr⟩
  obtain rfl:=hr
  have HB2:=bz HB1 hB
  have HK2:=zq (HK1.out.call hB)
  have hz:=(Below.refl w2.heap.size w2).alloc (Nat.le_refl _) (.cells #[.int .i64 0,.int .i64 0,.string ⟨#[]⟩,.slice none 0 0] 32)
  obtain ⟨y1,HY1⟩:=lz (w2.alloc (.cells #[.int .i64 0,.int .i64 0,.string ⟨#[]⟩,.slice none 0 0] 32))
  have HZ3:Hid (Below w2.heap.size w2 y1):=zq (by rw [HY1.out];exact hz)
  have HB3:=zq (HB2.out.trans (HZ3.out.mono HB2.out.size))
  have HK3:=zq (HK2.out.call HZ3.out)
  have H63:Hid (Bk y1 w2.heap.size [.int .i64 0,.int .i64 0,.string ⟨#[]⟩,.slice none 0 0]):=zq (by rw [HY1.out];exact Bk.new w2 [.int .i64 0,.int .i64 0,.string ⟨#[]⟩,.slice none 0 0] 32)
  clear H63 HK3
  clear hB hz HCA HB1 HK1 HB2 HK2
  go_wp2_with fail
  rw [←HY1.out]
  clear HY1
  refine region_own (w0:=y1) [rPure [] [0] (fun | [v]=>v=.int .i64 k | _=>False),
    rPure [0] [1] (fun | [v]=>v=.bool false | _=>False),
    rPure [0,1] [2] (fun | [v]=>v=.bool false | _=>False),
    rPure (List.range 3) [3] (fun | [v]=>v=undef | _=>False),
    rPure (List.range 4) [4] (fun | [v]=>v=undef | _=>False),
    rPure (List.range 5) [5] (fun | [v]=>v=undef | _=>False),
    rPure (List.range 6) [6] (fun | [v]=>v=.bool false | _=>False),
    rPure (List.range 7) [7] (fun | [v]=>v=.bool false | _=>False),
    rVal (List.range 8) [8] (fun | [v]=>v=undef | _=>False),
    rVal (List.range 8) [9] (fun | [v]=>v=undef | _=>False),
    rVal (List.range 8) [10] (fun | [v]=>v=undef | _=>False),
    rPure [0,1,2,3,4,5,6,7,9,10] [11] (fun | [v]=>v=undef | _=>False),
    rVal [0,1,2,3,4,5,6,7,9,10,11] [12] (fun | [v]=>v=undef | _=>False),
    rVal (List.range 13) [13] (fun | [v]=>v=undef | _=>False),
    rPure (List.range 14) [14] (fun | [v]=>v=.bool false | _=>False),
    rPure (List.range 15) [15] (fun | [v]=>v=.bool false | _=>False)]
    [some 14,some 15,some 16,some 17,some 18,some 19,some 20,some 21,some 22,some 23,some 24,some 25,some 26,some 27,some 28,some 4] (fun _=>True) (y1.heap.size) (by kernel_rfl) (Nat.le_refl _) (by kernel_rfl) (by kernel_rfl) (by kernel_rfl) (fun j o ho=>?srv9) (fun val Y N hv HF=>?fin9)
  case srv9=>
    have hlt:j<16:=(Array.getElem?_eq_some_iff.1 ho).1
    rcases (show j=0∨j=1∨j=2∨j=3∨j=4∨j=5∨j=6∨j=7∨j=8∨j=9∨j=10∨j=11∨j=12∨j=13∨j=14∨j=15 by omega) with rfl | rfl | rfl | rfl | rfl | rfl | rfl | rfl | rfl | rfl | rfl | rfl | rfl | rfl | rfl | rfl
    ·cases ho
     refine srv_pure rfl rfl (fun val E hE hA=>?_)
     have e7:=hE.t 7 (.int .i64 k) rfl
     exact ⟨.int .i64 k,fun X=>by simp [execOp,go_sem,e7],rfl⟩
    ·cases ho
     refine srv_pure rfl rfl (fun val E hE hA=>?_)
     have e14:=hE.t 14 (val 0) rfl
     have h0:val 0=.int .i64 k:=hA 0 (oz rfl)
     exact ⟨.bool false,fun X=>by simp [execOp,go_sem,hE.c,e14,h0,hk],rfl⟩
    ·cases ho
     refine srv_pure rfl rfl (fun val E hE hA=>?_)
     have e15:=hE.t 15 (val 1) rfl
     have h1:val 1=.bool false:=hA 1 (oz rfl)
     exact ⟨.bool false,fun X=>by simp [execOp,go_sem,e15,h1],rfl⟩
    ·cases ho
     exact srv_pureG false rfl rfl (fun val hA=>hA 2 (oz rfl)) (fun h=>by cases h) fun _ val hA=>rfl
    ·cases ho
     exact srv_pureG false rfl rfl (fun val hA=>hA 2 (oz rfl)) (fun h=>by cases h) fun _ val hA=>rfl
    ·cases ho
     exact srv_pureG false rfl rfl (fun val hA=>hA 2 (oz rfl)) (fun h=>by cases h) fun _ val hA=>rfl
    ·cases ho
     refine srv_pure rfl rfl (fun val E hE hA=>?_)
     have e16:=hE.t 16 (val 2) rfl
     have h2:val 2=.bool false:=hA 2 (oz rfl)
     have e19:=hE.t 19 (val 5) rfl
     have h5:val 5=undef:=hA 5 (oz rfl)
     exact ⟨.bool false,fun X=>by simp [execOp,go_sem,hE.c,e16,h2,e19,h5],rfl⟩
    ·cases ho
     refine srv_pure rfl rfl (fun val E hE hA=>?_)
     have e20:=hE.t 20 (val 6) rfl
     have h6:val 6=.bool false:=hA 6 (oz rfl)
     exact ⟨.bool false,fun X=>by simp [execOp,go_sem,e20,h6],rfl⟩
    ·cases ho
     exact srv_valG false rfl rfl (fun _ _ _=>trivial) (fun val hA=>hA 7 (oz rfl)) (fun h=>by cases h) fun _ val hA=>rfl
    ·cases ho
     exact srv_valG false rfl rfl (fun _ _ _=>trivial) (fun val hA=>hA 7 (oz rfl)) (fun h=>by cases h) fun _ val hA=>rfl
    ·cases ho
     exact srv_calVG false rfl rfl (fun _ _ _=>trivial) (fun val hA=>hA 7 (oz rfl)) (fun h=>by cases h) fun _ val hA=>rfl
    ·cases ho
     exact srv_pureG false rfl rfl (fun val hA=>hA 7 (oz rfl)) (fun h=>by cases h) fun _ val hA=>rfl
    ·cases ho
     exact srv_calVG false rfl rfl (fun _ _ _=>trivial) (fun val hA=>hA 7 (oz rfl)) (fun h=>by cases h) fun _ val hA=>rfl
    ·cases ho
     exact srv_calVG false rfl rfl (fun _ _ _=>trivial) (fun val hA=>hA 7 (oz rfl)) (fun h=>by cases h) fun _ val hA=>rfl
    ·cases ho
     refine srv_pure rfl rfl (fun val E hE hA=>?_)
     have e21:=hE.t 21 (val 7) rfl
     have h7:val 7=.bool false:=hA 7 (oz rfl)
     have e27:=hE.t 27 (val 13) rfl
     have h13:val 13=undef:=hA 13 (oz rfl)
     exact ⟨.bool false,fun X=>by simp [execOp,go_sem,hE.c,e21,h7,e27,h13],rfl⟩
    ·cases ho
     refine srv_pure rfl rfl (fun val E hE hA=>?_)
     have e28:=hE.t 28 (val 14) rfl
     have h14:val 14=.bool false:=hA 14 (oz rfl)
     exact ⟨.bool false,fun X=>by simp [execOp,go_sem,e28,h14],rfl⟩
  case fin9=>
   have h0:val 0=.int .i64 k:=hv 0 (by decide)
   have h1:val 1=.bool false:=hv 1 (by decide)
   have h2:val 2=.bool false:=hv 2 (by decide)
   have h3:val 3=undef:=hv 3 (by decide)
   have h4:val 4=undef:=hv 4 (by decide)
   have h5:val 5=undef:=hv 5 (by decide)
   have h6:val 6=.bool false:=hv 6 (by decide)
   have h7:val 7=.bool false:=hv 7 (by decide)
   have h8:val 8=undef:=hv 8 (by decide)
   have h9:val 9=undef:=hv 9 (by decide)
   have h10:val 10=undef:=hv 10 (by decide)
   have h11:val 11=undef:=hv 11 (by decide)
   have h12:val 12=undef:=hv 12 (by decide)
   have h13:val 13=undef:=hv 13 (by decide)
   have h14:val 14=.bool false:=hv 14 (by decide)
   have h15:val 15=.bool false:=hv 15 (by decide)
   simp only [fillD,List.set_cons_zero,List.set_cons_succ,Nat.reduceAdd,Nat.zero_add,h0,h1,h2,h3,h4,h5,h6,h7,h8,h9,h10,h11,h12,h13,h14,h15]
   have HB4:=zq (HB3.out.trans (HF.bel.mono HB3.out.size))
   clear hv h0 h1 h2 h3 h4 h5 h6 h7 h8 h9 h10 h11 h12 h13 h14 h15 HF
   go_wp2_with fail
   go_ret
   exact ⟨by rw [HRE.out];rfl,HB4.out⟩
 | ball b=>
  have HRE:Hid (R=sameT b (.mk 3 0 nError [fm,nilA])):=zq HR2.out
  clear HR2 HIS
  go_wp2_with fail
  refine (HCA.out _ HB1.out).mono ?_;rintro e w2 ⟨hB,hr⟩
  obtain ⟨BA,bc,rfl,hbt⟩:=hr
  have HB2:=bz HB1 hB
  have HK2:=zq (HK1.out.call hB)
  have hz:=(Below.refl w2.heap.size w2).alloc (Nat.le_refl _) (.cells #[.int .i64 b.kind,.int .i64 b.num,.string b.name,.slice BA b.args.length bc] 32)
  obtain ⟨y1,HY1⟩:=lz (w2.alloc (.cells #[.int .i64 b.kind,.int .i64 b.num,.string b.name,.slice BA b.args.length bc] 32))
  have HZ3:Hid (Below w2.heap.size w2 y1):=zq (by rw [HY1.out];exact hz)
  have HB3:=zq (HB2.out.trans (HZ3.out.mono HB2.out.size))
  have HK3:=zq (HK2.out.call HZ3.out)
  have H63:Hid (Bk y1 w2.heap.size [.int .i64 b.kind,.int .i64 b.num,.string b.name,.slice BA b.args.length bc]):=zq (by rw [HY1.out];exact Bk.new w2 [.int .i64 b.kind,.int .i64 b.num,.string b.name,.slice BA b.args.length bc] 32)
  have HTB:=zq (((hbt (HNV.out b rfl)).keep HZ3.out).mono HZ3.out.size)
  have HTF:=zq ((HFF.out.keep HB3.out).mono HB3.out.size)
  clear hbt
  clear hB hz HCA HB1 HK1 HB2 HK2
  unfold tmV
  go_wp2_with fail
  rw [←HY1.out]
  clear HY1
  have HSA:Hid (∀W A c,Below y1.heap.size y1 W→TmsAt W.heap.size W A [fm,nilA]→Calls Tryz.prog 24 #[.agg #[.int .i64 b.kind,.int .i64 b.num,.string b.name,.slice BA b.args.length bc],.agg #[.int .i64 3,.int .i64 0,.string ⟨#[101,114,114,111,114]⟩,.slice A 2 c]] W fun e w'=>e=.returned (.bool R)∧Below W.heap.size W w'):=zq fun W A c hW h2=>by
   rw [HRE.out]
   exact l_same b (.mk 3 0 nError [fm,nilA]) BA A bc c W ((HTB.out.keep hW).mono hW.size) h2
  refine region_own (w0:=y1) [rPure [] [0] (fun | [v]=>v=.int .i64 8 | _=>False),
    rPure [0] [1] (fun | [v]=>v=.bool true | _=>False),
    rPure [0,1] [2] (fun | [v]=>v=.bool true | _=>False),
    rPure (List.range 3) [3] (fun | [v]=>v=.slice none 0 0 | _=>False),
    rPure (List.range 4) [4] (fun | [v]=>v=.int .i64 0 | _=>False),
    rPure (List.range 5) [5] (fun | [v]=>v=.bool true | _=>False),
    rPure (List.range 6) [6] (fun | [v]=>v=.bool true | _=>False),
    rPure (List.range 7) [7] (fun | [v]=>v=.bool true | _=>False),
    rVal (List.range 8) [8] (fun | [v]=>v=.agg #[.int .i64 b.kind,.int .i64 b.num,.string b.name,.slice BA b.args.length bc] | _=>False),
    rVal (List.range 8) [9] (fun | [v]=>v=.agg #[.int .i64 f0,.int .i64 f1,.string f2,.slice F f3 e9] | _=>False),
    rVal (List.range 8) [10] (fun | [v]=>v=.agg #[.int .i64 2,.int .i64 0,.string ⟨#[91,93]⟩,.slice none 0 0] | _=>False),
    rRow [0,1,2,3,4,5,6,7,9,10] 11 2 [fm,nilA],
    rGoal [0,1,2,3,4,5,6,7,9,10,11] 12 ⟨#[101,114,114,111,114]⟩ 2 [fm,nilA],
    rVal (List.range 13) [13] (fun | [v]=>v=.bool R | _=>False),
    rPure (List.range 14) [14] (fun | [v]=>v=.bool R | _=>False),
    rPure (List.range 15) [15] (fun | [v]=>v=.bool R | _=>False)]
    [some 14,some 15,some 16,some 17,some 18,some 19,some 20,some 21,some 22,some 23,some 24,some 25,some 26,some 27,some 28,some 4] (fun _=>True) (y1.heap.size) (by kernel_rfl) (Nat.le_refl _) (by kernel_rfl) (by kernel_rfl) (by kernel_rfl) (fun j o ho=>?srv9) (fun val Y N hv HF=>?fin9)
  case srv9=>
    have hlt:j<16:=(Array.getElem?_eq_some_iff.1 ho).1
    rcases (show j=0∨j=1∨j=2∨j=3∨j=4∨j=5∨j=6∨j=7∨j=8∨j=9∨j=10∨j=11∨j=12∨j=13∨j=14∨j=15 by omega) with rfl | rfl | rfl | rfl | rfl | rfl | rfl | rfl | rfl | rfl | rfl | rfl | rfl | rfl | rfl | rfl
    ·cases ho
     refine srv_pure rfl rfl (fun val E hE hA=>?_)
     have e7:=hE.t 7 (.int .i64 8) rfl
     exact ⟨.int .i64 8,fun X=>by simp [execOp,go_sem,e7],rfl⟩
    ·cases ho
     refine srv_pure rfl rfl (fun val E hE hA=>?_)
     have e14:=hE.t 14 (val 0) rfl
     have h0:val 0=.int .i64 8:=hA 0 (oz rfl)
     exact ⟨.bool true,fun X=>by simp [execOp,go_sem,hE.c,e14,h0],rfl⟩
    ·cases ho
     refine srv_pure rfl rfl (fun val E hE hA=>?_)
     have e15:=hE.t 15 (val 1) rfl
     have h1:val 1=.bool true:=hA 1 (oz rfl)
     exact ⟨.bool true,fun X=>by simp [execOp,go_sem,e15,h1],rfl⟩
    ·cases ho
     refine srv_pureG (true) rfl rfl (fun val hA=>hA 2 (oz rfl)) (fun _ val E hE hA=>?_) (fun h=>absurd rfl h)
     have e5:=hE.t 5 (.slice none 0 0) rfl
     exact ⟨.slice none 0 0,fun X=>by simp [execOp,go_sem,e5],rfl⟩
    ·cases ho
     refine srv_pureG (true) rfl rfl (fun val hA=>hA 2 (oz rfl)) (fun _ val E hE hA=>?_) (fun h=>absurd rfl h)
     have e17:=hE.t 17 (val 3) rfl
     have h3:val 3=.slice none 0 0:=hA 3 (oz rfl)
     exact ⟨.int .i64 0,fun X=>by simp [execOp,go_sem,e17,h3],rfl⟩
    ·cases ho
     refine srv_pureG (true) rfl rfl (fun val hA=>hA 2 (oz rfl)) (fun _ val E hE hA=>?_) (fun h=>absurd rfl h)
     have e18:=hE.t 18 (val 4) rfl
     have h4:val 4=.int .i64 0:=hA 4 (oz rfl)
     exact ⟨.bool true,fun X=>by simp [execOp,go_sem,hE.c,e18,h4],rfl⟩
    ·cases ho
     refine srv_pure rfl rfl (fun val E hE hA=>?_)
     have e16:=hE.t 16 (val 2) rfl
     have h2:val 2=.bool true:=hA 2 (oz rfl)
     have e19:=hE.t 19 (val 5) rfl
     have h5:val 5=.bool true:=hA 5 (oz rfl)
     exact ⟨.bool true,fun X=>by simp [execOp,go_sem,hE.c,e16,h2,e19,h5],rfl⟩
    ·cases ho
     refine srv_pure rfl rfl (fun val E hE hA=>?_)
     have e20:=hE.t 20 (val 6) rfl
     have h6:val 6=.bool true:=hA 6 (oz rfl)
     exact ⟨.bool true,fun X=>by simp [execOp,go_sem,e20,h6],rfl⟩
    ·cases ho
     refine srv_valG (true) rfl rfl (fun _ _ _=>trivial) (fun val hA=>hA 7 (oz rfl)) (fun _ val E X hE hB hA=>?_) (fun h=>absurd rfl h)
     have e6:=hE.t 6 (.pointer (some ⟨w2.heap.size,0,none⟩)) rfl
     have hx0:=(H63.out.call hB).c 0 _ rfl
     have hx1:=(H63.out.call hB).c 1 _ rfl
     have hx2:=(H63.out.call hB).c 2 _ rfl
     have hx3:=(H63.out.call hB).c 3 _ rfl
     exact ⟨.agg #[.int .i64 b.kind,.int .i64 b.num,.string b.name,.slice BA b.args.length bc],by simp [execOp,go_sem,e6,hx0,hx1,hx2,hx3],rfl⟩
    ·cases ho
     refine srv_valG (true) rfl rfl (fun _ _ _=>trivial) (fun val hA=>hA 7 (oz rfl)) (fun _ val E X hE hB hA=>?_) (fun h=>absurd rfl h)
     have e3:=hE.t 3 (.pointer (some ⟨(w.heap.size+1),0,none⟩)) rfl
     have hy0:=(HK3.out.call hB).c 0 _ rfl
     have hy1:=(HK3.out.call hB).c 1 _ rfl
     have hy2:=(HK3.out.call hB).c 2 _ rfl
     have hy3:=(HK3.out.call hB).c 3 _ rfl
     exact ⟨.agg #[.int .i64 f0,.int .i64 f1,.string f2,.slice F f3 e9],by simp [execOp,go_sem,e3,hy0,hy1,hy2,hy3],rfl⟩
    ·cases ho
     refine srv_calVG (true) rfl rfl (fun _ _ _=>trivial) (fun val hA=>hA 7 (oz rfl)) (fun _ val E X hE hB hA=>?_) (fun h=>absurd rfl h)
     exact ⟨_,_,_,by simp [execOp,go_sem,hE.c,hE.f] <;> rfl,HAN.out X,rfl⟩
    ·cases ho
     refine srv_mkG rfl rfl (fun val hA=>hA 7 (oz rfl)) fun val E X N hE hC hA hc=>?_
     have e23:=hE.t 23 (val 9) rfl
     have e24:=hE.t 24 (val 10) rfl
     have h9:val 9=.agg #[.int .i64 f0,.int .i64 f1,.string f2,.slice F f3 e9]:=hA 9 (oz rfl)
     have h10:val 10=.agg #[.int .i64 2,.int .i64 0,.string ⟨#[91,93]⟩,.slice none 0 0]:=hA 10 (oz rfl)
     have hrow:∀N':Nat→Prop,(∀b,N b→N' b)→N' X.heap.size→TmsK N' (X.alloc (.cells #[.int .i64 f0,.int .i64 f1,.string f2,.slice F f3 e9,.int .i64 2,.int .i64 0,.string ⟨#[91,93]⟩,.slice none 0 0] 32)) (some ⟨X.heap.size,0,none⟩) [fm,nilA]:=fun N' h1 h2=>by
      have:=TmsK.rows (K:=N') (w:=X) (rs:=[(fm,F,e9),(nilA,none,0)]) (e:=32) h2 (by simp [maxLen]) (fun r hr=>by
       simp only [List.mem_cons,List.mem_nil_iff,or_false] at hr
       rcases hr with rfl | rfl
       ·exact TmsK.keep HTF.out (fun b hb=>((hC.bel.trans ((Below.refl _ X).alloc hC.bel.size _)).block b hb)) (fun b hb=>h1 b (hC.old b hb))
       ·exact TmsK.nil)
      have e0:rowsC [(fm,F,e9),(nilA,none,0)]=[.int .i64 f0,.int .i64 f1,.string f2,.slice F f3 e9,.int .i64 2,.int .i64 0,.string ⟨#[91,93]⟩,.slice none 0 0]:=by
       rw [HF0.out,HF1.out,HF2.out,HF3.out];rfl
      rw [e0] at this
      exact this
     exact ⟨.slice (some ⟨X.heap.size,0,none⟩) 2 2,X.alloc (.cells #[.int .i64 f0,.int .i64 f1,.string f2,.slice F f3 e9,.int .i64 2,.int .i64 0,.string ⟨#[91,93]⟩,.slice none 0 0] 32),by simp [execOp,go_sem,e23,e24,h9,h10],(Below.refl _ _).alloc (Nat.le_refl _) _,⟨_,rfl⟩,fun N' h1 h2=>⟨_,rfl,hrow N' h1 (h2 _ (Nat.le_refl _) (by simp))⟩⟩
    ·cases ho
     refine srv_calG rfl rfl (fun val hA=>hA 7 (oz rfl)) fun val E X N hE hC hA hc=>?_
     have e25:=hE.t 25 (val 11) rfl
     obtain ⟨g,h11,ht⟩:∃g,val 11=.slice (some ⟨g,0,none⟩) 2 2∧TmsK N X (some ⟨g,0,none⟩) [fm,nilA]:=hc 11 (oz rfl) rfl
     exact ⟨_,_,by simp [execOp,go_sem,hE.c,hE.f,e25,h11] <;> rfl,(HLF.out _ _ _ X).mono fun e w' h=>⟨_,h.1,h.2,⟨g,rfl⟩,fun N' h1 _=>⟨g,rfl,ht.keep (fun b hb=>h.2.block b (hC.lt b hb)) h1⟩⟩⟩
    ·cases ho
     refine srv_calG rfl rfl (fun val hA=>hA 7 (oz rfl)) fun val E X N hE hC hA hc=>?_
     have e22:=hE.t 22 (val 8) rfl
     have h8:val 8=.agg #[.int .i64 b.kind,.int .i64 b.num,.string b.name,.slice BA b.args.length bc]:=hA 8 (oz rfl)
     have e26:=hE.t 26 (val 12) rfl
     obtain ⟨g,h12,ht⟩:∃g,val 12=.agg #[.int .i64 3,.int .i64 0,.string ⟨#[101,114,114,111,114]⟩,.slice (some ⟨g,0,none⟩) 2 2]∧TmsK N X (some ⟨g,0,none⟩) [fm,nilA]:=hc 12 (oz rfl) rfl
     exact ⟨_,_,by simp [execOp,go_sem,hE.f,e22,h8,e26,h12] <;> rfl,(HSA.out X _ _ hC.bel (ht.keep (fun _ _=>rfl) hC.lt)).mono fun e w' h=>⟨_,h.1,h.2,rfl,fun _ _ _=>trivial⟩⟩
    ·cases ho
     refine srv_pure rfl rfl (fun val E hE hA=>?_)
     have e21:=hE.t 21 (val 7) rfl
     have h7:val 7=.bool true:=hA 7 (oz rfl)
     have e27:=hE.t 27 (val 13) rfl
     have h13:val 13=.bool R:=hA 13 (oz rfl)
     exact ⟨.bool R,fun X=>by simp [execOp,go_sem,hE.c,e21,h7,e27,h13],rfl⟩
    ·cases ho
     refine srv_pure rfl rfl (fun val E hE hA=>?_)
     have e28:=hE.t 28 (val 14) rfl
     have h14:val 14=.bool R:=hA 14 (oz rfl)
     exact ⟨.bool R,fun X=>by simp [execOp,go_sem,e28,h14],rfl⟩
  case fin9=>
   have h0:val 0=.int .i64 8:=hv 0 (by decide)
   have h1:val 1=.bool true:=hv 1 (by decide)
   have h2:val 2=.bool true:=hv 2 (by decide)
   have h3:val 3=.slice none 0 0:=hv 3 (by decide)
   have h4:val 4=.int .i64 0:=hv 4 (by decide)
   have h5:val 5=.bool true:=hv 5 (by decide)
   have h6:val 6=.bool true:=hv 6 (by decide)
   have h7:val 7=.bool true:=hv 7 (by decide)
   have h8:val 8=.agg #[.int .i64 b.kind,.int .i64 b.num,.string b.name,.slice BA b.args.length bc]:=hv 8 (by decide)
   have h9:val 9=.agg #[.int .i64 f0,.int .i64 f1,.string f2,.slice F f3 e9]:=hv 9 (by decide)
   have h10:val 10=.agg #[.int .i64 2,.int .i64 0,.string ⟨#[91,93]⟩,.slice none 0 0]:=hv 10 (by decide)
   obtain ⟨_,h11⟩:∃g,val 11=.slice (some ⟨g,0,none⟩) 2 2:=hv 11 (by decide)
   obtain ⟨_,h12⟩:∃g,val 12=.agg #[.int .i64 3,.int .i64 0,.string ⟨#[101,114,114,111,114]⟩,.slice (some ⟨g,0,none⟩) 2 2]:=hv 12 (by decide)
   have h13:val 13=.bool R:=hv 13 (by decide)
   have h14:val 14=.bool R:=hv 14 (by decide)
   have h15:val 15=.bool R:=hv 15 (by decide)
   simp only [fillD,List.set_cons_zero,List.set_cons_succ,Nat.reduceAdd,Nat.zero_add,h0,h1,h2,h3,h4,h5,h6,h7,h8,h9,h10,h11,h12,h13,h14,h15]
   have HB4:=zq (HB3.out.trans (HF.bel.mono HB3.out.size))
   clear hv h0 h1 h2 h3 h4 h5 h6 h7 h8 h9 h10 h11 h12 h13 h14 h15 HF HSA
   go_wp2_with fail
   go_ret
   exact ⟨rfl,HB4.out⟩
end Go.Proofs.YtpokpgkjaifccaaGreatDoorRR
namespace Hb
open Go Go.RowKit
theorem NoV.get {l:List Tm} (h:NoV l):∀x∈l,¬x.kind=0∧NoV x.args:=fun x hx=>by
 cases h with
 | mk _ h1 h2=>
  obtain ⟨j,hj,rfl⟩:=List.getElem_of_mem hx
  exact ⟨h1 j hj,h2 j hj⟩
theorem NoV.of {l:List Tm} (h:∀x∈l,¬x.kind=0∧NoV x.args):NoV l:=.mk l (fun _ hj=>(h _ (List.getElem_mem hj)).1) (fun _ hj=>(h _ (List.getElem_mem hj)).2)
theorem NoV.leaf {l:List Tm} (h:∀x∈l,¬x.kind=0∧x.args=[]):NoV l:=NoV.of fun x hx=>⟨(h x hx).1,by rw [(h x hx).2];exact NoV.nil⟩
theorem vars_gnd:∀t:Tm,¬t.kind=0→NoV t.args→∀acc,varsT t acc=acc:=Tm.ind fun t ih h hn acc=>by
 rw [varsT_eq]
 have h0:varH t acc=acc:=by unfold varH;rw [if_neg (fun c=>h c.1)]
 rw [h0]
 have key:∀l:List Tm,(∀a∈l,a∈t.args)→l.foldl (fun acc a=>varsT a acc) acc=acc:=by
  intro l
  induction l with
  | nil=>intro _;rfl
  | cons a l ih2=>
   intro hl
   have ha:=hl a (List.mem_cons_self ..)
   rw [List.foldl_cons,ih a ha (hn.get a ha).1 (hn.get a ha).2 acc]
   exact ih2 fun x hx=>hl x (List.mem_cons_of_mem _ hx)
 exact key t.args fun _ h=>h
theorem ren_gnd (f:Int→Int):∀t:Tm,¬t.kind=0→NoV t.args→ren f t=t:=Tm.ind fun t ih h hn=>by
 rw [ren_eq,if_neg h]
 have:t.args.map (ren f)=t.args:=by
  have:=List.map_congr_left (f:=ren f) (g:=id) (l:=t.args) fun x hx=>ih x hx (hn.get x hx).1 (hn.get x hx).2
  rw [this,List.map_id]
 rw [this]
 cases t;rfl
def rngI (n:Nat):List Int:=(List.range n).map Int.ofNat
theorem rngI_snoc (n:Nat):rngI (n+1)=rngI n++[(n:Int)]:=by unfold rngI;rw [List.range_succ,List.map_append];rfl
theorem rngI_mem {n:Nat} {i:Nat}:(i:Int)∈rngI n↔i<n:=by
 unfold rngI
 rw [List.mem_map]
 constructor
 ·rintro ⟨k,hk,e⟩
  have:=List.mem_range.1 hk
  have e':(k:Int)=i:=e
  omega
 ·intro h
  exact ⟨i,List.mem_range.2 h,rfl⟩
theorem posI_rng (n i:Nat) (h:i<n):posI (rngI n) (i:Int)=i:=by
 induction n with
 | zero=>omega
 | succ n ih=>
  rw [rngI_snoc]
  by_cases c:i<n
  ·rw [posI_pre (rngI_mem.2 c)]
   exact ih c
  ·have e:i=n:=by omega
   subst e
   rw [posI_new (fun h=>by have:=rngI_mem.1 h;omega)]
   simp [rngI]
inductive GArgs:Nat→Nat→List Tm→Prop
 | nil (i:Nat):GArgs i i []
 | var (i j:Nat) (l:List Tm) (h:GArgs (i+1) j l):GArgs i j (varT i::l)
 | gnd (i j:Nat) (t:Tm) (l:List Tm) (h0:¬t.kind=0) (hn:NoV t.args) (h:GArgs i j l):GArgs i j (t::l)
theorem GArgs.le {i j:Nat} {l:List Tm} (h:GArgs i j l):i≤j:=by
 induction h with
 | nil=>exact Nat.le_refl _
 | var i j l _ ih=>omega
 | gnd=>assumption
theorem GArgs.vars {i j:Nat} {l:List Tm} (h:GArgs i j l):l.foldl (fun acc a=>varsT a acc) (rngI i)=rngI j:=by
 induction h with
 | nil=>rfl
 | var i j l _ ih=>
  rw [List.foldl_cons]
  have:varsT (varT i) (rngI i)=rngI (i+1):=by
   rw [varsT_eq]
   show varH (varT i) (rngI i)=_
   unfold varH
   rw [if_pos ⟨rfl,fun h=>by have:=rngI_mem.1 h;omega⟩,rngI_snoc]
   rfl
  rw [this];exact ih
 | gnd i j t l h0 hn _ ih=>
  rw [List.foldl_cons,vars_gnd t h0 hn]
  exact ih
theorem GArgs.ren {i j m:Nat} {l:List Tm} (h:GArgs i j l) (hm:j≤m):l.map (ren (posI (rngI m)))=l:=by
 induction h with
 | nil=>rfl
 | var i j l h ih=>
  rw [List.map_cons,ih hm,ren_eq]
  have hl:=h.le
  have:posI (rngI m) (i:Int)=i:=posI_rng m i (by omega)
  show Tm.mk 0 (if (0:Int)=0 then posI (rngI m) (i:Int) else (i:Int)) _ []::l=_
  rw [if_pos rfl,this]
  rfl
 | gnd i j t l h0 hn _ ih=>rw [List.map_cons,ih hm,ren_gnd _ t h0 hn]
theorem canon_goal {s:ByteArray} {l:List Tm} {j:Nat} (hv:validT (strT s l)=true) (hg:GArgs 0 j l):canonA (strT s l)=true:=by
 have e1:varsT (strT s l) []=rngI j:=by
  rw [varsT_eq]
  have h0:varH (strT s l) []=[]:=by unfold varH;rw [if_neg (fun c=>absurd (show (3:Int)=0 from c.1) (by decide))]
  rw [h0]
  exact hg.vars
 have e2:canT (strT s l)=strT s l:=by
  unfold canT
  rw [if_pos hv,e1,ren_eq]
  show Tm.mk 3 (if (3:Int)=0 then _ else 0) s (l.map (Hb.ren (posI (rngI j))))=_
  rw [hg.ren (Nat.le_refl _),if_neg (by decide)]
  rfl
 unfold canonA
 rw [e2,hv]
 unfold sameT
 rw [hv,eqT_yes rfl]
 rfl
theorem valid_str {s:ByteArray} {l:List Tm} (hs:s.size≤100) (h0:0<l.length) (h8:l.length≤8) (ha:∀x∈l,x.allOk=true) (hn:(l.map Tm.nodes).sum≤1999):validT (strT s l)=true:=by
 rw [validT_iff]
 constructor
 ·rw [Tm.nodes_eq]
  show 1+(l.map Tm.nodes).sum≤2000
  omega
 ·rw [Tm.allOk_eq,Bool.and_eq_true]
  refine ⟨?_,List.all_eq_true.2 ha⟩
  have e:nodeOk (strT s l)=(((0:Int)==0)&&decide (s.size≤100)&&decide (0<l.length)&&decide (l.length≤8)):=rfl
  rw [e,decide_eq_true hs,decide_eq_true h0,decide_eq_true h8]
  rfl
theorem leaf_var {n:Int} (h0:0≤n) (h1:n≤1099511627776):leafOk (varT n):=by
 refine ⟨rfl,?_⟩
 have e:nodeOk (varT n)=(decide (0≤n)&&decide (n≤1099511627776)&&((⟨#[]⟩:ByteArray).toList==[])&&(([]:List Tm).length==0)):=rfl
 have hz:(⟨#[]⟩:ByteArray).toList=[]:=by kernel_rfl
 rw [e,hz,decide_eq_true h0,decide_eq_true h1]
 rfl
theorem leaf_int (n:Int):leafOk (intT n):=by
 refine ⟨rfl,?_⟩
 have e:nodeOk (intT n)=(((⟨#[]⟩:ByteArray).toList==[])&&(([]:List Tm).length==0)):=rfl
 have hz:(⟨#[]⟩:ByteArray).toList=[]:=by kernel_rfl
 rw [e,hz]
 rfl
theorem leaf_atom {s:ByteArray} (h:s.size≤100):leafOk (atomT s):=by
 refine ⟨rfl,?_⟩
 have e:nodeOk (atomT s)=(((0:Int)==0)&&decide (s.size≤100)&&(([]:List Tm).length==0)):=rfl
 rw [e,decide_eq_true h]
 rfl
theorem lis_ok:∀l:List Tm,(∀x∈l,leafOk x)→(lisA l).allOk=true∧(lisA l).nodes=1+2 * l.length
 | [],_=>⟨(leaf_atom (by decide)).all,(leaf_atom (s:=⟨#[91,93]⟩) (by decide)).nodes⟩
 | x::l,h=>by
  obtain ⟨h1,h2⟩:=lis_ok l fun y hy=>h y (List.mem_cons_of_mem _ hy)
  have hx:=h x (List.mem_cons_self ..)
  constructor
  ·show (consA x (lisA l)).allOk=true
   rw [Tm.allOk_eq,Bool.and_eq_true]
   refine ⟨rfl,?_⟩
   show ([x,lisA l].all Tm.allOk)=true
   rw [List.all_cons,List.all_cons,hx.all,h1]
   rfl
  ·show (consA x (lisA l)).nodes=_
   rw [Tm.nodes_eq]
   show 1+([x,lisA l].map Tm.nodes).sum=_
   simp only [List.map_cons,List.map_nil,List.sum_cons,List.sum_nil,List.length_cons]
   rw [hx.nodes,h2];omega
theorem lis_nov:∀l:List Tm,(∀x∈l,¬x.kind=0∧x.args=[])→¬(lisA l).kind=0∧NoV (lisA l).args
 | [],_=>⟨(by decide:¬(2:Int)=0),NoV.nil⟩
 | x::l,h=>by
  obtain ⟨h1,h2⟩:=lis_nov l fun y hy=>h y (List.mem_cons_of_mem _ hy)
  have hx:=h x (List.mem_cons_self ..)
  exact ⟨(by decide:¬(3:Int)=0),NoV.cons hx.1 (by rw [hx.2];exact NoV.nil) (NoV.cons h1 h2 NoV.nil)⟩
theorem lis_elems:∀l:List Tm,elemsT (lisA l)=l∧tailT (lisA l)=nilA
 | []=>⟨elemsT_end (by kernel_rfl),tailT_end (by kernel_rfl)⟩
 | x::l=>by
  obtain ⟨h1,h2⟩:=lis_elems l
  have hc:(consA x (lisA l)).cons=true:=by
   have hz:(⟨#[46]⟩:ByteArray).toList=[46]:=by kernel_rfl
   show ((3:Int)==3&&((⟨#[46]⟩:ByteArray).toList==[46]&&([x,lisA l].length==2)))=true
   rw [hz]
   rfl
  constructor
  ·show elemsT (consA x (lisA l))=_
   rw [elemsT_cons hc]
   show x::elemsT (lisA l)=_
   rw [h1]
  ·show tailT (consA x (lisA l))=_
   rw [tailT_cons hc]
   exact h2
theorem text_ok (codes:Bool) (l:List UInt8):(textT codes l).allOk=true∧(textT codes l).nodes=1+2 * l.length:=by
 have h:=lis_ok (l.map (chT codes)) fun x hx=>by
  obtain ⟨b,_,rfl⟩:=List.mem_map.1 hx
  exact chT_leaf codes b
 rw [List.length_map] at h
 exact h
theorem text_nov (codes:Bool) (l:List UInt8):¬(textT codes l).kind=0∧NoV (textT codes l).args:=lis_nov _ fun x hx=>by
 obtain ⟨b,_,rfl⟩:=List.mem_map.1 hx
 refine ⟨?_,chT_args codes b⟩
 cases codes
 ·exact (by decide:¬(2:Int)=0)
 ·exact (by decide:¬(1:Int)=0)
theorem same_self {t:Tm} (h:validT t=true):sameT t t=true:=by
 unfold sameT
 rw [h,eqT_yes rfl]
 rfl
theorem sameL_self:∀l:List Tm,(∀x∈l,validT x=true)→sameL l l=true:=by
 intro l h
 unfold sameL
 rw [Bool.and_eq_true]
 refine ⟨by simp,List.all_eq_true.2 fun x hx=>?_⟩
 have hz:∀l:List Tm,∀x∈l.zip l,x.1=x.2∧x.1∈l:=by
  intro l
  induction l with
  | nil=>intro x hx;cases hx
  | cons a l ih=>
   intro x hx
   rw [List.zip_cons_cons] at hx
   rcases List.mem_cons.1 hx with rfl | hx
   ·exact ⟨rfl,List.mem_cons_self ..⟩
   ·exact ⟨(ih x hx).1,List.mem_cons_of_mem _ (ih x hx).2⟩
 obtain ⟨h1,h2⟩:=hz l x hx
 rw [←h1]
 exact same_self (h _ h2)
end Hb
namespace Go.Proofs.YtpokpgkjaifccaaGreatDoorRR
open Go.RowKit Hb Go.Shelf
set_option maxRecDepth 100000
theorem call_ok {s:ByteArray} {l:List Tm} {rows:List (List Tm)} (hc:canonA (strT s l)=true) (hp:predA s l=some (.ok rows)) (hl:rows.length≤1000) (hv:∀r∈rows,validT (strT s r)=true):callA (strT s l)=.ok (rows.map (strT s)):=by
 unfold callA
 rw [hc,if_neg (by simp),if_neg (by simp [strT,Tm.kind])]
 show ansA s (predA s l)=_
 rw [hp]
 show finA s rows=_
 unfold finA
 have hv':∀r∈rows,validT (.mk 3 0 s r)=true:=hv
 rw [if_neg (by omega),if_pos (List.all_eq_true.2 hv')]
 rfl
theorem call_ball {s:ByteArray} {l:List Tm} {b:Tm} (hc:canonA (strT s l)=true) (hp:predA s l=some (.ball b)):callA (strT s l)=.ball b:=by
 unfold callA
 rw [hc,if_neg (by simp),if_neg (by simp [strT,Tm.kind])]
 show ansA s (predA s l)=_
 rw [hp]
 rfl
theorem gives_of {s:ByteArray} {l:List Tm} {rows:List (List Tm)} (hc:canonA (strT s l)=true) (hp:predA s l=some (.ok rows)) (hl:rows.length≤1000) (hv:∀r∈rows,validT (strT s r)=true):givesB (strT s l) (rows.map (strT s))=true:=by
 unfold givesB
 rw [call_ok hc hp hl hv]
 exact sameL_self _ fun x hx=>by
  obtain ⟨r,hr,rfl⟩:=List.mem_map.1 hx
  exact hv r hr
end Go.Proofs.YtpokpgkjaifccaaGreatDoorRR
namespace Hb
open Go Go.RowKit
def smallT (t:Tm):Prop:=t.allOk=true∧t.nodes≤240
def smallL:List Tm→Prop
 | []=>True
 | t::l=>smallT t∧smallL l
theorem smallL.all:∀{l:List Tm},smallL l→∀x∈l,smallT x
 | [],_,x,hx=>(by cases hx)
 | t::l,h,x,hx=>by
  rcases List.mem_cons.1 hx with rfl | hx
  ·exact h.1
  ·exact smallL.all h.2 x hx
theorem leafOk.small {t:Tm} (h:leafOk t):smallT t:=⟨h.all,by rw [h.nodes];decide⟩
theorem small_var (n:Int) (h0:0≤n) (h1:n≤1099511627776):smallT (varT n):=(leaf_var h0 h1).small
theorem small_int (n:Int):smallT (intT n):=(leaf_int n).small
theorem small_atom {s:ByteArray} (h:s.size≤100):smallT (atomT s):=(leaf_atom h).small
theorem small_text (codes:Bool) {l:List UInt8} (h:l.length≤119):smallT (textT codes l):=⟨(text_ok codes l).1,by rw [(text_ok codes l).2];omega⟩
theorem valid_sm {s:ByteArray} {l:List Tm} (hs:s.size≤100) (h0:0<l.length) (h8:l.length≤8) (h:smallL l):validT (strT s l)=true:=by
 refine valid_str hs h0 h8 (fun x hx=>(h.all x hx).1) ?_
 have key:∀l:List Tm,(∀x∈l,smallT x)→(l.map Tm.nodes).sum≤l.length * 240:=by
  intro l
  induction l with
  | nil=>intro _;simp
  | cons a l ih=>
   intro h
   rw [List.map_cons,List.sum_cons,List.length_cons]
   have h1:=(h a (List.mem_cons_self ..)).2
   have h2:=ih fun x hx=>h x (List.mem_cons_of_mem _ hx)
   omega
 have:=key l h.all
 omega
theorem g_var {i j:Nat} {l:List Tm} (h:GArgs (i+1) j l):GArgs i j (varT i::l):=.var i j l h
theorem g_int {i j:Nat} {l:List Tm} (n:Int) (h:GArgs i j l):GArgs i j (intT n::l):=.gnd i j _ l (by decide:¬(1:Int)=0) NoV.nil h
theorem g_atom {i j:Nat} {l:List Tm} (s:ByteArray) (h:GArgs i j l):GArgs i j (atomT s::l):=.gnd i j _ l (by decide:¬(2:Int)=0) NoV.nil h
theorem g_text {i j:Nat} {l:List Tm} (c:Bool) (b:List UInt8) (h:GArgs i j l):GArgs i j (textT c b::l):=.gnd i j _ l (text_nov c b).1 (text_nov c b).2 h
theorem same_int (a b:Int):sameT (intT a) (intT b)=decide (a=b):=by
 unfold sameT
 rw [(leaf_int a).valid,(leaf_int b).valid]
 by_cases h:a=b
 ·subst h;rw [eqT_yes rfl];simp
 ·rw [eqT_no (fun e=>h (by injection e)),decide_eq_false h];rfl
theorem same_atom {a b:ByteArray} (ha:a.size≤100) (hb:b.size≤100):sameT (atomT a) (atomT b)=decide (a=b):=by
 unfold sameT
 rw [(leaf_atom ha).valid,(leaf_atom hb).valid]
 by_cases h:a=b
 ·subst h;rw [eqT_yes rfl];simp
 ·rw [eqT_no (fun e=>h (by injection e)),decide_eq_false h];rfl
theorem subL_eq (t:Tm) (al:List Tm) (l:List (Nat×Nat)):subL t al l=(l.filter fun x=>fitsA al (subRow t.name x)).map fun x=>t::subRow t.name x:=by
 unfold subL
 rw [List.filter_map,List.map_map]
 rfl
theorem fits4 (p q r s:Tm) (n:ByteArray) (x:Nat×Nat):fitsA [p,q,r,s] (subRow n x)=((p.kind==0||sameT p (intT x.1))&&((q.kind==0||sameT q (intT (x.2-x.1:Nat)))&&((r.kind==0||sameT r (intT (n.size-x.2:Nat)))&&(s.kind==0||sameT s (atomT (n.extract x.1 x.2)))))):=by
 unfold fitsA subRow
 simp
theorem tail_var (n:Int):elemsT (varT n)=[]∧tailT (varT n)=varT n:=by
 have h:(varT n).cons=false:=rfl
 exact ⟨elemsT_end h,tailT_end h⟩
theorem text_elems (c:Bool) (l:List UInt8):elemsT (textT c l)=l.map (chT c)∧tailT (textT c l)=nilA:=lis_elems _
theorem badL_nil:badL nilA=false:=by
 have hz:(⟨#[91,93]⟩:ByteArray).toList=[91,93]:=by kernel_rfl
 show (!((2:Int)==0) && !((2:Int)==2&&((⟨#[91,93]⟩:ByteArray).toList==[91,93])))=false
 rw [hz];rfl
theorem elE_ch (c:Bool) (b:UInt8):elE c (chT c b)=none:=by
 cases c
 ·rfl
 ·show cdE (intT (b.toNat:Int))=none
  have:=b.toNat_lt
  unfold cdE
  have h0:¬(intT (b.toNat:Int)).kind=0:=(by decide:¬(1:Int)=0)
  have h1:¬¬(intT (b.toNat:Int)).kind=1:=(by decide:¬¬(1:Int)=1)
  have h2:¬((intT (b.toNat:Int)).num<0∨255<(intT (b.toNat:Int)).num):=by
   show ¬((b.toNat:Int)<0∨255<(b.toNat:Int))
   omega
  rw [if_neg h0,if_neg h1,if_neg h2]
theorem elV_ch (c:Bool) (b:UInt8):(elV c (chT c b)).toNat.toUInt8=b:=by
 cases c
 ·show ((b.toNat:Int)).toNat.toUInt8=b
  simp
 ·show ((b.toNat:Int)).toNat.toUInt8=b
  simp
theorem kind_ch (c:Bool) (b:UInt8):¬(chT c b).kind=0:=by
 cases c
 ·exact (by decide:¬(2:Int)=0)
 ·exact (by decide:¬(1:Int)=0)
theorem els_text (c:Bool) (l:List UInt8):elsV c (l.map (chT c))=l:=by
 unfold elsV
 rw [List.map_map]
 have:=List.map_congr_left (f:=(fun x=>(elV c x).toNat.toUInt8) ∘ chT c) (g:=id) (l:=l) fun b _=>elV_ch c b
 rw [this,List.map_id]
theorem elE_text (c:Bool) (l:List UInt8):(l.map (chT c)).findSome? (elE c)=none:=by
 rw [List.findSome?_eq_none_iff]
 intro x hx
 obtain ⟨b,_,rfl⟩:=List.mem_map.1 hx
 exact elE_ch c b
theorem ball_struct {s:ByteArray} {l:List Tm} (h:l≠[]) (hv:validT (strT s l)=true) (hb:validT (strT ⟨#[101,114,114,111,114]⟩ [strT s l,nilA])=true):ballT s l=strT ⟨#[101,114,114,111,114]⟩ [strT s l,nilA]:=by
 unfold ballT
 rw [structT_cons h]
 have e1:cloneT (.mk 3 0 s l)=strT s l:=if_pos hv
 rw [e1,structT_cons (by simp)]
 exact if_pos hb
end Hb
namespace Go.Proofs.YtpokpgkjaifccaaGreatDoorRR
open Go.RowKit Hb Go.Shelf
set_option maxRecDepth 100000
def sAbc:ByteArray:=⟨#[97,98,99]⟩
def sAb:ByteArray:=⟨#[97,98]⟩
def sA:ByteArray:=⟨#[97]⟩
def sB:ByteArray:=⟨#[98]⟩
def sTypeE:ByteArray:=⟨#[116,121,112,101,95,101,114,114,111,114]⟩
def sSynE:ByteArray:=⟨#[115,121,110,116,97,120,95,101,114,114,111,114]⟩
def s12:ByteArray:=⟨#[32,49,50]⟩
theorem ex1:givesB (strT nLen [atomT sAbc,varT 0]) [strT nLen [atomT sAbc,intT 3]]=true :=
 gives_of (rows:=[[atomT sAbc,intT 3]]) (canon_goal (valid_sm (by decide) (by decide) (by decide) ⟨small_atom (by decide),small_var 0 (by decide) (by decide),trivial⟩) (g_atom _ (g_var (GArgs.nil _)))) (by rfl) (by decide)
  (fun r hr=>by rw [List.mem_singleton] at hr;subst hr;exact valid_sm (by decide) (by decide) (by decide) ⟨small_atom (by decide),small_int 3,trivial⟩)
theorem ex3 : givesB (strT nCat [varT 0, varT 1, atomT sAb]) [strT nCat [atomT ⟨#[]⟩, atomT sAb, atomT sAb], strT nCat [atomT sA, atomT sB, atomT sAb], strT nCat [atomT sAb, atomT ⟨#[]⟩, atomT sAb]] = true :=
 gives_of (rows := [[atomT ⟨#[]⟩, atomT sAb, atomT sAb], [atomT sA, atomT sB, atomT sAb], [atomT sAb, atomT ⟨#[]⟩, atomT sAb]]) (canon_goal (valid_sm (by decide) (by decide) (by decide) ⟨small_var 0 (by decide) (by decide), small_var 1 (by decide) (by decide), small_atom (by decide), trivial⟩) (g_var (g_var (g_atom _ (GArgs.nil _))))) (by kernel_rfl) (by decide)
  (fun r hr => by
   simp only [List.mem_cons, List.mem_nil_iff, or_false] at hr
   rcases hr with rfl | rfl | rfl <;> exact valid_sm (by decide) (by decide) (by decide) ⟨small_atom (by decide), small_atom (by decide), small_atom (by decide), trivial⟩)
theorem p_spellA (c:Bool) (s:ByteArray):spelledA c (atomT s) (varT 0)=.ok [[atomT s,textT c s.data.toList]]:=by
 unfold spelledA
 rw [atomB_no (.inr rfl),(tail_var 0).2]
 rfl
theorem p_spell1 (c:Bool) (s:ByteArray):predA (if c then nCodes else nChars) [atomT s,varT 0]=some (.ok [[atomT s,textT c s.data.toList]]):=by
 cases c
 ·rw [←p_spellA];rfl
 ·rw [←p_spellA];rfl
theorem p_spellB (c:Bool) (l:List UInt8):spelledA c (varT 0) (textT c l)=.ok [[atomT ⟨l.toArray⟩,textT c l]]:=by
 unfold spelledA
 have h1:¬((varT 0).kind==2)=true:=(by decide:¬((0:Int)==2)=true)
 have h2:¬(nilA.kind==0)=true:=(by decide:¬((2:Int)==0)=true)
 rw [atomB_no (.inl rfl),(text_elems c l).2,(text_elems c l).1,badL_nil,if_neg h1,if_neg h2,elE_text,els_text]
 rfl
theorem p_spell2 (c:Bool) (l:List UInt8):predA (if c then nCodes else nChars) [varT 0,textT c l]=some (.ok [[atomT ⟨l.toArray⟩,textT c l]]):=by
 cases c
 ·rw [←p_spellB];rfl
 ·rw [←p_spellB];rfl
theorem elN_text (c:Bool) (l:List UInt8):(l.map (chT c)).findSome? (elN c)=none:=by
 rw [List.findSome?_eq_none_iff]
 intro x hx
 obtain ⟨b,_,rfl⟩:=List.mem_map.1 hx
 unfold elN
 rw [if_neg (kind_ch c b)]
 exact elE_ch c b
theorem any_text (c:Bool) (l:List UInt8):anyVar (l.map (chT c))=false:=by
 unfold anyVar
 rw [List.any_eq_false]
 intro x hx
 obtain ⟨b,_,rfl⟩:=List.mem_map.1 hx
 simpa using kind_ch c b
def intR (u:Tm):Sum Tm Int→RA
 | .inl b=>.ball b
 | .inr k=>.ok [[intT k,u]]
theorem p_numA (c:Bool) (l:List UInt8):numA c (varT 0) (textT c l)=intR (textT c l) (integerA ⟨l.toArray⟩):=by
 unfold numA
 have h2:¬(nilA.kind==0||false)=true:=(by decide:¬((2:Int)==0||false)=true)
 have h3:badN (varT 0)=false:=rfl
 rw [(text_elems c l).2,(text_elems c l).1,badL_nil,elN_text,any_text,els_text,if_neg h2,h3]
 show (match integerA ⟨l.toArray⟩ with | .inl b=>RA.ball b | .inr k=>RA.ok [[intT k,textT c l]])=_
 cases integerA ⟨l.toArray⟩ <;> rfl
theorem p_num (c:Bool) (l:List UInt8):predA (if c then nNumCo else nNumCh) [varT 0,textT c l]=some (intR (textT c l) (integerA ⟨l.toArray⟩)):=by
 cases c
 ·rw [←p_numA];rfl
 ·rw [←p_numA];rfl
theorem p_numB (c:Bool) (m:Int):numA c (intT m) (varT 0)=.ok [[intT m,textT c (fmA m).data.toList]]:=by
 unfold numA
 rw [(tail_var 0).2,(tail_var 0).1]
 rfl
theorem p_num2 (c:Bool) (m:Int):predA (if c then nNumCo else nNumCh) [intT m,varT 0]=some (.ok [[intT m,textT c (fmA m).data.toList]]):=by
 cases c
 ·rw [←p_numB];rfl
 ·rw [←p_numB];rfl
theorem ex5:givesB (strT nCodes [atomT sAb,varT 0]) [strT nCodes [atomT sAb,textT true sAb.data.toList]]=true :=
 gives_of (rows:=[[atomT sAb,textT true sAb.data.toList]]) (canon_goal (valid_sm (by decide) (by decide) (by decide) ⟨small_atom (by decide),small_var 0 (by decide) (by decide),trivial⟩) (g_atom _ (g_var (GArgs.nil _)))) (p_spell1 true sAb) (by decide)
  (fun r hr=>by rw [List.mem_singleton] at hr;subst hr;exact valid_sm (by decide) (by decide) (by decide) ⟨small_atom (by decide),small_text true (by decide),trivial⟩)
theorem ex6:givesB (strT nCode [varT 0,intT 97]) [strT nCode [atomT sA,intT 97]]=true :=
 gives_of (rows:=[[atomT sA,intT 97]]) (canon_goal (valid_sm (by decide) (by decide) (by decide) ⟨small_var 0 (by decide) (by decide),small_int 97,trivial⟩) (g_var (g_int _ (GArgs.nil _)))) (by kernel_rfl) (by decide)
  (fun r hr=>by rw [List.mem_singleton] at hr;subst hr;exact valid_sm (by decide) (by decide) (by decide) ⟨small_atom (by decide),small_int 97,trivial⟩)
theorem ex7:givesB (strT nNumCo [varT 0,textT true s12.data.toList]) [strT nNumCo [intT 12,textT true s12.data.toList]]=true :=
 gives_of (rows:=[[intT 12,textT true s12.data.toList]]) (canon_goal (valid_sm (by decide) (by decide) (by decide) ⟨small_var 0 (by decide) (by decide),small_text true (by decide),trivial⟩) (g_var (g_text _ _ (GArgs.nil _)))) (by rw [show predA nNumCo [varT 0,textT true s12.data.toList]=_ from p_num true s12.data.toList];kernel_rfl) (by decide)
  (fun r hr=>by rw [List.mem_singleton] at hr;subst hr;exact valid_sm (by decide) (by decide) (by decide) ⟨small_int 12,small_text true (by decide),trivial⟩)
theorem ex4 : givesB (strT nSub [atomT sAb, varT 0, intT 1, varT 1, varT 2]) [strT nSub [atomT sAb, intT 0, intT 1, intT 1, atomT sA], strT nSub [atomT sAb, intT 1, intT 1, intT 0, atomT sB]] = true :=
 gives_of (rows := [[atomT sAb, intT 0, intT 1, intT 1, atomT sA], [atomT sAb, intT 1, intT 1, intT 0, atomT sB]]) (canon_goal (valid_sm (by decide) (by decide) (by decide) ⟨small_atom (by decide), small_var 0 (by decide) (by decide), small_int 1, small_var 1 (by decide) (by decide), small_var 2 (by decide) (by decide), trivial⟩) (g_atom _ (g_var (g_int _ (g_var (g_var (GArgs.nil _)))))))
  (by
   have h : predA nSub [atomT sAb, varT 0, intT 1, varT 1, varT 2] = some (.ok (subL (atomT sAb) [varT 0, intT 1, varT 1, varT 2] (spansL 2))) := by kernel_rfl
   rw [h, subL_eq]
   have e : spansL 2 = [(0, 0), (0, 1), (0, 2), (1, 1), (1, 2), (2, 2)] := by decide
   rw [e]
   simp only [List.filter_cons, List.filter_nil, fits4, same_int]
   rfl) (by decide)
  (fun r hr => by
   simp only [List.mem_cons, List.mem_nil_iff, or_false] at hr
   rcases hr with rfl | rfl <;> exact valid_sm (by decide) (by decide) (by decide) ⟨small_atom (by decide), small_int _, small_int _, small_int _, small_atom (by decide), trivial⟩)
theorem ex2v:validT (strT sTypeE [atomT sAtom,intT 3])=true:=valid_sm (by decide) (by decide) (by decide) ⟨small_atom (by decide),small_int 3,trivial⟩
theorem ex2b:btT sAtom (intT 3)=strT nError [strT sTypeE [atomT sAtom,intT 3],nilA]∧validT (strT nError [strT sTypeE [atomT sAtom,intT 3],nilA])=true:=by
 have h2:validT (strT nError [strT sTypeE [atomT sAtom,intT 3],nilA])=true:=by
  refine valid_sm (by decide) (by decide) (by decide) ⟨⟨((validT_iff _).1 ex2v).2,?_⟩,small_atom (by decide),trivial⟩
  rw [Tm.nodes_eq]
  show 1+([atomT sAtom,intT 3].map Tm.nodes).sum≤240
  simp only [List.map_cons,List.map_nil,List.sum_cons,List.sum_nil,(leaf_int 3).nodes,(leaf_atom (s:=sAtom) (by decide)).nodes]
  decide
 refine ⟨?_,h2⟩
 unfold btT aboutT
 rw [if_pos (leaf_int 3).valid,(leaf_int 3).nodes]
 exact ball_struct (by simp) ex2v h2
theorem ex2c:callA (strT nLen [intT 3,varT 0])=.ball (btT sAtom (intT 3)) :=
 call_ball (canon_goal (valid_sm (by decide) (by decide) (by decide) ⟨small_int 3,small_var 0 (by decide) (by decide),trivial⟩) (g_int _ (g_var (GArgs.nil _)))) (by
  show (some (lengthA (intT 3) (varT 0)):Option RA)=_
  unfold lengthA
  have h1:¬(intT 3).kind=0:=(by decide:¬(1:Int)=0)
  have h2:¬((intT 3).kind=0∨(intT 3).kind=2):=(by decide:¬((1:Int)=0∨(1:Int)=2))
  rw [if_neg h1,atomB_yes h2]
  rfl)
theorem raises_call {s:ByteArray} {l:List Tm} {b fm:Tm} (h:callA (strT s l)=.ball b) (hb:b=strT nError [fm,nilA]) (hv:validT b=true):raisesB (strT s l) fm=true:=by
 unfold raisesB
 rw [h]
 show sameT b (strT nError [fm,nilA])=true
 rw [←hb]
 exact same_self hv
theorem call_nov {g b:Tm} (h:callA g=.ball b) (hn:NoV b.args):∀b',callA g=.ball b'→NoV b'.args:=fun b' h'=>by
 rw [h] at h'
 cases h'
 exact hn
theorem nov_ball {s:ByteArray} {l:List Tm} (h:NoV l):NoV (strT nError [strT s l,nilA]).args:=NoV.cons (by decide:¬(3:Int)=0) h (NoV.cons (by decide:¬(2:Int)=0) NoV.nil NoV.nil)
theorem ex2:raisesB (strT nLen [intT 3,varT 0]) (strT sTypeE [atomT sAtom,intT 3])=true:=raises_call ex2c ex2b.1 (by rw [ex2b.1];exact ex2b.2)
theorem ex2n:∀b,callA (strT nLen [intT 3,varT 0])=.ball b→NoV b.args:=call_nov ex2c (by rw [ex2b.1];exact nov_ball (NoV.cons (by decide:¬(2:Int)=0) NoV.nil (NoV.cons (by decide:¬(1:Int)=0) NoV.nil NoV.nil)))
theorem syn_ball (n:Int):bsT n=strT nError [strT sSynE [intT n],nilA]∧validT (strT nError [strT sSynE [intT n],nilA])=true∧NoV (strT nError [strT sSynE [intT n],nilA]).args:=by
 have h1:validT (strT sSynE [intT n])=true:=valid_sm (by decide) (by simp) (by simp) ⟨small_int n,trivial⟩
 have h2:validT (strT nError [strT sSynE [intT n],nilA])=true:=by
  refine valid_sm (by decide) (by simp) (by simp) ⟨⟨((validT_iff _).1 h1).2,?_⟩,small_atom (by decide),trivial⟩
  rw [Tm.nodes_eq]
  show 1+([intT n].map Tm.nodes).sum≤240
  simp only [List.map_cons,List.map_nil,List.sum_cons,List.sum_nil,(leaf_int n).nodes]
  decide
 exact ⟨ball_struct (by simp) h1 h2,h2,nov_ball (NoV.cons (by decide:¬(1:Int)=0) NoV.nil NoV.nil)⟩
theorem num_raise (c:Bool) (l:List UInt8) (n:Int) (hl:l.length≤119) (h:integerA ⟨l.toArray⟩=.inl (bsT n)) :
  raisesB (strT (if c then nNumCo else nNumCh) [varT 0,textT c l]) (strT sSynE [intT n])=true∧∀b,callA (strT (if c then nNumCo else nNumCh) [varT 0,textT c l])=.ball b→NoV b.args:=by
 obtain ⟨e,hv,hn⟩:=syn_ball n
 have hs:(if c then nNumCo else nNumCh).size≤100:=by cases c <;> decide
 have hcall:callA (strT (if c then nNumCo else nNumCh) [varT 0,textT c l])=.ball (bsT n) :=
  call_ball (canon_goal (valid_sm hs (by simp) (by simp) ⟨small_var 0 (by decide) (by decide),small_text c hl,trivial⟩) (g_var (g_text _ _ (GArgs.nil _)))) (by rw [p_num,h];rfl)
 exact ⟨raises_call hcall e (by rw [e];exact hv),call_nov hcall (by rw [e];exact hn)⟩
theorem ex8:raisesB (strT nNumCh [varT 0,textT false sA.data.toList]) (strT sSynE [intT 0])=true∧∀b,callA (strT nNumCh [varT 0,textT false sA.data.toList])=.ball b→NoV b.args :=
 num_raise false sA.data.toList 0 (by decide) (by kernel_rfl)
end Go.Proofs.YtpokpgkjaifccaaGreatDoorRR
