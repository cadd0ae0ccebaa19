/- Parts of the proof. -/
import Derived.Test.YtbojljpldcijgaaGreatH07
import Derived.Test.YtbojljpldcijgaaGreatH06
import Derived.Carry
import Derived.DeepKeys4
import Derived.Maps.OwnSet
import Derived.RegionTactic
import Derived.OwnWalk
import Derived.Test.YtbojljpldcijgaaGreatH01
import Derived.RangeFuncNested
import Derived.RangeFuncBound
import Derived.RangeFuncCalls
import Derived.RangeFuncLeaves
namespace Hb
open Go Go.RowKit
structure Bx (mb B:Nat) (w w':World):Prop where
 os:w'.os=w.os
 tape:w'.tape=w.tape
 output:w'.output=w.output
 size:w.heap.size≤w'.heap.size
 block:∀k,k<B→k≠mb→w'.heap[k]? = w.heap[k]?
section
variable {mb B B':Nat} {a w w':World}
theorem Bx.of (h:Below B w w'):Bx mb B w w':=⟨h.os,h.tape,h.output,h.size,fun k hk _=>h.block k hk⟩
theorem Bx.trans (h:Bx mb B a w) (k:Bx mb B w w'):Bx mb B a w':=⟨k.os.trans h.os,k.tape.trans h.tape,k.output.trans h.output,Nat.le_trans h.size k.size,fun i hi hne=>(k.block i hi hne).trans (h.block i hi hne)⟩
end
noncomputable def eqT (t u:Tm):Bool:=@decide (t=u) (Classical.propDecidable _)
theorem eqT_yes {t u:Tm} (h:t=u):eqT t u=true:=by unfold eqT;simp [h]
theorem eqT_no {t u:Tm} (h:¬t=u):eqT t u=false:=by unfold eqT;simp [h]
theorem eqT_iff {t u:Tm}:eqT t u=true↔t=u:=by unfold eqT;simp
theorem tm_ext {t u:Tm} (h0:t.kind=u.kind) (h1:t.num=u.num) (h2:t.name=u.name) (h3:t.args=u.args):t=u:=by
 cases t;cases u
 simp only [Tm.kind,Tm.num,Tm.name,Tm.args] at h0 h1 h2 h3
 subst h0 h1 h2 h3
 rfl
theorem ba_ext {a b:ByteArray} (h:a.toList=b.toList):a=b:=by
 rw [tl_data,tl_data] at h
 exact ByteArray.ext (Array.ext' h)
theorem args_ext {l m:List Tm} (h:l.length=m.length) (hk:∀j (h1:j<l.length) (h2:j<m.length),l[j]=m[j]):l=m:=List.ext_getElem h hk
structure TT (w0 w:World) (t u:Tm) (A B:Option Addr) (c d:Nat):Prop where
 bel:Below w0.heap.size w0 w
 lt:w0.heap.size+1<w.heap.size
 a0:w.cell? ⟨w0.heap.size,0,none⟩=some (.int .i64 t.kind)
 a1:w.cell? ⟨w0.heap.size,1,none⟩=some (.int .i64 t.num)
 a2:w.cell? ⟨w0.heap.size,2,none⟩=some (.string t.name)
 a3:w.cell? ⟨w0.heap.size,3,none⟩=some (.slice A t.args.length c)
 b0:w.cell? ⟨w0.heap.size+1,0,none⟩=some (.int .i64 u.kind)
 b1:w.cell? ⟨w0.heap.size+1,1,none⟩=some (.int .i64 u.num)
 b2:w.cell? ⟨w0.heap.size+1,2,none⟩=some (.string u.name)
 b3:w.cell? ⟨w0.heap.size+1,3,none⟩=some (.slice B u.args.length d)
theorem TT.call {w0 w w':World} {t u:Tm} {A B:Option Addr} {c d:Nat} (h:TT w0 w t u A B c d) (hB:Below w.heap.size w w'):TT w0 w' t u A B c d:=by
 have hlt:=h.lt
 have hc:∀j,w'.cell? ⟨w0.heap.size,j,none⟩=w.cell? ⟨w0.heap.size,j,none⟩:=fun j=>hB.cell (p:=⟨w0.heap.size,j,none⟩) (by show w0.heap.size<_;omega)
 have hd:∀j,w'.cell? ⟨w0.heap.size+1,j,none⟩=w.cell? ⟨w0.heap.size+1,j,none⟩:=fun j=>hB.cell (p:=⟨w0.heap.size+1,j,none⟩) hlt
 exact ⟨h.bel.trans (hB.mono h.bel.size),Nat.lt_of_lt_of_le hlt hB.size,(hc 0).trans h.a0,(hc 1).trans h.a1,(hc 2).trans h.a2,(hc 3).trans h.a3,(hd 0).trans h.b0,(hd 1).trans h.b1,(hd 2).trans h.b2,(hd 3).trans h.b3⟩
theorem TT.start (w:World) (t u:Tm) (A B:Option Addr) (c d:Nat) (e:TypeId) :
  TT w ((w.alloc (.cells #[.int .i64 t.kind,.int .i64 t.num,.string t.name,.slice A t.args.length c] e)).alloc (.cells #[.int .i64 u.kind,.int .i64 u.num,.string u.name,.slice B u.args.length d] e)) t u A B c d:=by
 obtain ⟨W1,hW1⟩:∃W1,W1=w.alloc (.cells #[.int .i64 t.kind,.int .i64 t.num,.string t.name,.slice A t.args.length c] e):=⟨_,rfl⟩
 rw [←hW1]
 have s1:W1.heap.size=w.heap.size+1:=by rw [hW1];simp
 have hB1:Below w.heap.size w W1:=by rw [hW1];exact (Below.refl _ _).alloc (Nat.le_refl _) _
 have hB2:Below W1.heap.size W1 (W1.alloc (.cells #[.int .i64 u.kind,.int .i64 u.num,.string u.name,.slice B u.args.length d] e)):=(Below.refl _ _).alloc (Nat.le_refl _) _
 have a:∀j,(W1.alloc (.cells #[.int .i64 u.kind,.int .i64 u.num,.string u.name,.slice B u.args.length d] e)).cell? ⟨w.heap.size,j,none⟩=(#[.int .i64 t.kind,.int .i64 t.num,.string t.name,.slice A t.args.length c]:Array Value)[j]?:=fun j=>by
  rw [hB2.cell (p:=⟨w.heap.size,j,none⟩) (by show w.heap.size<_;omega),hW1];exact World.cell?_alloc_new _ _ _ j
 have b:∀j,(W1.alloc (.cells #[.int .i64 u.kind,.int .i64 u.num,.string u.name,.slice B u.args.length d] e)).cell? ⟨w.heap.size+1,j,none⟩=(#[.int .i64 u.kind,.int .i64 u.num,.string u.name,.slice B u.args.length d]:Array Value)[j]?:=fun j=>by
  have:=World.cell?_alloc_new W1 #[.int .i64 u.kind,.int .i64 u.num,.string u.name,.slice B u.args.length d] e j
  rw [s1] at this;exact this
 exact ⟨hB1.trans (hB2.mono (by omega)),by simp;omega,a 0,a 1,a 2,a 3,b 0,b 1,b 2,b 3⟩
end Hb
namespace Go.Proofs.YtbojljpldcijgaaGreat
open Go.RowKit Hb
set_option maxRecDepth 100000
set_option maxHeartbeats 6400000 in
theorem r3_identical:∀(t u:Tm) (A B:Option Addr) (c d:Nat) (w:World),TmsAt w.heap.size w A t.args→TmsAt w.heap.size w B u.args →
  Calls Tryz.prog 42 #[tmV t A c,tmV u B d] w fun e w'=>e=.returned (.bool (eqT t u))∧Below w.heap.size w w':=by
 refine Tm.ind fun t ih=>?_
 intro u A B c d w hT hU
 have HX:=zq (TT.start w t u A B c d 30)
 have HT:=zq hT
 have HU:=zq hU
 have HIH:=zq ih
 have HEX:=zq (tm_ext (t:=t) (u:=u))
 have hm:=hT.len
 unfold maxLen at hm
 have HN0:=zq (fun (h:¬t.kind=u.kind)=>eqT_no (t:=t) (u:=u) fun e=>h (by rw [e]))
 have HN1:=zq (fun (h:¬t.num=u.num)=>eqT_no (t:=t) (u:=u) fun e=>h (by rw [e]))
 have HN2:=zq (fun (h:¬t.name=u.name)=>eqT_no (t:=t) (u:=u) fun e=>h (by rw [e]))
 have HN3:=zq (fun (h:¬t.args.length=u.args.length)=>eqT_no (t:=t) (u:=u) fun e=>h (by rw [e]))
 have HN4:=zq (fun (j:Nat) (h1:j<t.args.length) (h2:j<u.args.length) (h:¬t.args[j]=u.args[j])=>eqT_no (t:=t) (u:=u) fun e=>h (by simp only [e]))
 have HY:=zq (eqT_yes (t:=t) (u:=u))
 have hb0:=HX.out.bel
 clear hT hU ih
 unfold tmV at *
 generalize hq:eqT t u=q at *
 clear hq
 obtain ⟨L,HL⟩:∃L,Hid (t.args.length=L):=⟨_,zq rfl⟩
 obtain ⟨M,HM⟩:∃M,Hid (u.args.length=M):=⟨_,zq rfl⟩
 rw [HL.out] at HX hm hb0 HN3 ⊢
 rw [HM.out] at HX hb0 HN3 ⊢
 generalize t.kind=a0 at *
 generalize t.num=a1 at *
 generalize t.name=a2 at *
 generalize u.kind=b0 at *
 generalize u.num=b1 at *
 generalize u.name=b2 at *
 by_cases e0:a0=b0
 ·subst e0
  by_cases e1:a1=b1
  ·subst e1
   by_cases e2:a2=b2
   ·subst e2
    by_cases e3:L=M
    ·subst e3
     have HEQ:=zq (HEX.out rfl rfl rfl)
     clear HEX HN0 HN1 HN2 HN3
     go_enter Tryz.func42,Tryz.ntmps42
     go_wp2_with fail
     go_loopw [5] (fun i wr=>∃k:Nat,k≤L∧i=.int .i64 k∧Hid (TT w wr t u A B c d)∧Hid (∀j (h1:j<t.args.length) (h2:j<u.args.length),j<k→t.args[j]=u.args[j])) (fun i _=>L-(intOf i).toNat)
     case atStart=>exact ⟨0,Nat.zero_le _,rfl,HX,zq fun j _ _ h=>absurd h (by omega)⟩
     case round=>
      obtain ⟨k,hk,rfl,HB,HE⟩:=hrel
      have b3:=HB.out.a3
      have b4:=HB.out.b3
      rw [HL.out] at b3
      rw [HM.out] at b4
      have hbel:=HB.out.bel
      by_cases hlt:k<L
      ·have hkl:k<t.args.length:=by have:=HL.out;omega
       have hkm:k<u.args.length:=by have:=HM.out;omega
       obtain ⟨b,off,A',ca,rfl,hb,c0,c1,c2,c3,hs⟩:=(HT.out.keep hbel).get k hkl
       obtain ⟨b',off',B',cb,rfl,hb',d0,d1,d2,d3,hs'⟩:=(HU.out.keep hbel).get k hkm
       have hbs:=hbel.size
       have HN5:=zq (HN4.out k hkl hkm)
       have HE2:Hid (t.args[k]=u.args[k]→∀j (h1:j<t.args.length) (h2:j<u.args.length),j<k+1→t.args[j]=u.args[j]):=zq (fun he j h1 h2 hj=>by
        by_cases hjk:j=k
        ·subst hjk;exact he
        ·exact HE.out j h1 h2 (by omega))
       have HC:=zq (fun W (h:TT w W t u (some ⟨b,off,none⟩) (some ⟨b',off',none⟩) c d) (hT:TmsAt W.heap.size W A' t.args[k].args) (hU:TmsAt W.heap.size W B' u.args[k].args)=>HIH.out t.args[k] (List.getElem_mem hkl) u.args[k] A' B' ca cb W hT hU)
       have hd1:=(hs.keep (Below.refl _ wr).drew).mono hbs
       have hd2:=(hs'.keep (Below.refl _ wr).drew).mono hbs
       have HC2:=zq (HC.out wr.drew (HB.out.call (Below.refl _ _).drew) hd1 hd2)
       have HEE:=zq (eqT_iff (t:=t.args[k]) (u:=u.args[k]))
       have hk0:(0:Int)≤(k:Int):=by omega
       have hk1:(k:Int)<(L:Int):=by omega
       have HD:=zq (HB.out.call (Below.refl _ wr).drew)
       clear hs hs' hd1 hd2 HC
       unfold tmV at HC2
       obtain ⟨x,hx⟩:∃x,x=t.args[k]:=⟨_,rfl⟩
       obtain ⟨y,hy⟩:∃y,y=u.args[k]:=⟨_,rfl⟩
       rw [←hx] at HC2 HN5 HE2 HEE c0 c1 c2 c3
       rw [←hy] at HC2 HN5 HE2 HEE d0 d1 d2 d3
       clear hx hy
       go_wp2_with fail
       go_region_law (first
        | (go_simp;go_at_call 42;(with_reducible refine HC2.out.mono ?_);rintro e w2 ⟨rfl,hB2⟩)
        | fail)
       all_goals
        have hX2:=HD.out.call hB2
        have hb2:=hX2.bel
        cases hq2:eqT x y
        ·have hne:¬x=y:=fun e=>by rw [HEE.out.2 e] at hq2;cases hq2
         have hr:=HN5.out hne
         subst hr
         go_wp2_with fail
         go_ret
         exact ⟨rfl,hb2⟩
        ·have he:=HEE.out.1 hq2
         go_wp2_with fail
         go_roundw
         case rel=>exact ⟨k+1,by omega,by go_num,zq hX2,zq (HE2.out he)⟩
         case measure=>simp [intOf] <;> omega
      ·have hr:=HY.out (HEQ.out (args_ext (by rw [HL.out,HM.out]) fun j h1 h2=>HE.out j h1 h2 (by have:=HL.out;omega)))
       subst hr
       go_wp2_with fail
       go_ret
       exact ⟨rfl,hbel⟩
    ·have hr:=HN3.out e3
     subst hr
     have f1:((L:Int)==(M:Int))=false:=by simp;omega
     have f2:¬(L:Int)=(M:Int):=by omega
     go_enter Tryz.func42,Tryz.ntmps42
     go_wp2_with fail
     go_ret
     exact ⟨rfl,hb0⟩
   ·have hr:=HN2.out e2
    subst hr
    have f1:¬a2.toList=b2.toList:=fun h=>e2 (ba_ext h)
    have f2:(a2.toList==b2.toList)=false:=by simpa using f1
    go_enter Tryz.func42,Tryz.ntmps42
    go_wp2_with fail
    go_ret
    exact ⟨rfl,hb0⟩
  ·have hr:=HN1.out e1
   subst hr
   have f1:(a1==b1)=false:=by simpa using e1
   go_enter Tryz.func42,Tryz.ntmps42
   go_wp2_with fail
   go_ret
   exact ⟨rfl,hb0⟩
 ·have hr:=HN0.out e0
  subst hr
  have f1:(a0==b0)=false:=by simpa using e0
  go_enter Tryz.func42,Tryz.ntmps42
  go_wp2_with fail
  go_ret
  exact ⟨rfl,hb0⟩
end Go.Proofs.YtbojljpldcijgaaGreat
namespace Hb
open Go Go.RowKit
noncomputable def sameT (t u:Tm):Bool:=validT t&&validT u&&eqT t u
end Hb
namespace Go.Proofs.YtbojljpldcijgaaGreat
open Go.RowKit Hb
set_option maxRecDepth 100000
set_option maxHeartbeats 1600000 in
theorem r3_same (t u:Tm) (A B:Option Addr) (c d:Nat) (w:World) (hT:TmsAt w.heap.size w A t.args) (hU:TmsAt w.heap.size w B u.args) :
  Calls Tryz.prog 18 #[tmV t A c,tmV u B d] w fun e w'=>e=.returned (.bool (sameT t u))∧Below w.heap.size w w':=by
 have HX:=zq (TT.start w t u A B c d 30)
 have HV1:=zq (fun W (h:TT w W t u A B c d)=>ref_tvalid t A c W ((hT.keep h.bel).mono h.bel.size))
 have HV2:=zq (fun W (h:TT w W t u A B c d)=>ref_tvalid u B d W ((hU.keep h.bel).mono h.bel.size))
 have HID:=zq (fun W (h:TT w W t u A B c d)=>r3_identical t u A B c d W ((hT.keep h.bel).mono h.bel.size) ((hU.keep h.bel).mono h.bel.size))
 have HCE:=zq (fun W (h:TT w W t u A B c d)=>(⟨h.a0,h.a1,h.a2,h.a3,h.b0,h.b1,h.b2,h.b3⟩:_∧_∧_∧_∧_∧_∧_∧_))
 have HS:Hid (sameT t u=(validT t&&validT u&&eqT t u)):=zq rfl
 clear hT hU
 unfold tmV at *
 generalize sameT t u=r at *
 generalize validT t=v1 at *
 generalize validT u=v2 at *
 generalize eqT t u=v3 at *
 generalize t.kind=a0 at *
 generalize t.num=a1 at *
 generalize t.name=a2 at *
 generalize t.args.length=a3 at *
 generalize u.kind=b0 at *
 generalize u.num=b1 at *
 generalize u.name=b2 at *
 generalize u.args.length=b3 at *
 go_enter Tryz.func18,Tryz.ntmps18
 go_wp2_with fail
 refine (HV1.out _ HX.out).mono ?_;rintro e w1 ⟨rfl,hB1⟩
 have HX1:=zq (HX.out.call hB1)
 obtain ⟨p0,p1,p2,p3,q0,q1,q2,q3⟩:=HCE.out _ HX1.out
 clear HX hB1 HV1
 cases v1
 ·have hb:=HX1.out.bel
  go_wp2_with fail
  go_ret
  exact ⟨ret_bool (by rw [HS.out];rfl),hb⟩
 ·go_wp2_with fail
  refine (HV2.out _ HX1.out).mono ?_;rintro e w2 ⟨rfl,hB2⟩
  have HX2:=zq (HX1.out.call hB2)
  clear p0 p1 p2 p3 q0 q1 q2 q3
  obtain ⟨p0,p1,p2,p3,q0,q1,q2,q3⟩:=HCE.out _ HX2.out
  clear HX1 hB2 HV2
  cases v2
  ·have hb:=HX2.out.bel
   go_wp2_with fail
   go_ret
   exact ⟨ret_bool (by rw [HS.out];rfl),hb⟩
  ·go_wp2_with fail
   refine (HID.out _ HX2.out).mono ?_;rintro e w3 ⟨rfl,hB3⟩
   have hb:=(HX2.out.call hB3).bel
   go_wp2_with fail
   go_ret
   exact ⟨ret_bool (by rw [HS.out];simp),hb⟩
end Go.Proofs.YtbojljpldcijgaaGreat
namespace Hb
open Go Go.RowKit
def cntF:Nat→(Nat→Bool)→Nat
 | 0,_=>0
 | n+1,S=>cntF n S+(if S n=true then 0 else 1)
def updF (S:Nat→Bool) (j:Nat):Nat→Bool:=fun i=>if i=j then true else S i
theorem updF_same (S:Nat→Bool) (j:Nat):updF S j j=true:=if_pos rfl
theorem updF_other (S:Nat→Bool) {j i:Nat} (h:i≠j):updF S j i=S i:=if_neg h
theorem cntF_ext:∀(n:Nat) (S T:Nat→Bool),(∀i,i<n→S i=T i)→cntF n S=cntF n T
 | 0,_,_,_=>rfl
 | n+1,S,T,h=>by
  unfold cntF
  rw [cntF_ext n S T (fun i hi=>h i (by omega)),h n (by omega)]
theorem cntF_upd:∀(n:Nat) (S:Nat→Bool) (j:Nat),j<n→S j=false→cntF n (updF S j)+1=cntF n S
 | 0,_,_,h,_=>absurd h (by omega)
 | n+1,S,j,hj,h=>by
  unfold cntF
  by_cases e:n=j
  ·subst e
   rw [cntF_ext n (updF S n) S (fun i hi=>updF_other S (by omega)),updF_same,h]
   simp
  ·rw [updF_other S e]
   have:=cntF_upd n S j (by omega) h
   omega
theorem cntF_zero:∀(n:Nat) (S:Nat→Bool),cntF n S=0→∀j,j<n→S j=true
 | 0,_,_,_,h=>absurd h (by omega)
 | n+1,S,h,j,hj=>by
  unfold cntF at h
  by_cases e:j=n
  ·subst e
   by_cases c:S j=true
   ·exact c
   ·rw [if_neg c] at h;omega
  ·exact cntF_zero n S (by omega) j (by omega)
def Bk (X:World) (g:Nat) (vs:List Value):Prop:=∃e,X.heap[g]? = some (.cells vs.toArray e)
theorem Bk.lt {X:World} {g:Nat} {vs:List Value} (h:Bk X g vs):g<X.heap.size:=by
 obtain ⟨e,h⟩:=h
 exact (Array.getElem?_eq_some_iff.1 h).1
theorem Bk.c {X:World} {g:Nat} {vs:List Value} (h:Bk X g vs) (j:Nat) (v:Value) (hv:vs[j]? = some v):X.cell? ⟨g,j,none⟩=some v:=by
 obtain ⟨e,h⟩:=h
 simp [World.cell?,h,hv]
theorem Bk.f {X:World} {g:Nat} {vs:List Value} (h:Bk X g vs) (o:Nat):X.frozen? ⟨g,o,none⟩=false:=by
 obtain ⟨e,h⟩:=h
 unfold World.frozen?
 rw [h]
 simp
theorem Bk.call {X X':World} {g:Nat} {vs:List Value} (h:Bk X g vs) (hB:Below X.heap.size X X'):Bk X' g vs:=by
 have hl:=h.lt
 obtain ⟨e,h⟩:=h
 exact ⟨e,(hB.block g hl).trans h⟩
theorem Bk.al {X:World} {g:Nat} {vs:List Value} (h:Bk X g vs) (o:Obj):Bk (X.alloc o) g vs:=h.call ((Below.refl _ _).alloc (Nat.le_refl _) o)
theorem Bk.dr {X:World} {g:Nat} {vs:List Value} (h:Bk X g vs):Bk X.drew g vs:=h.call (Below.refl _ _).drew
theorem Bk.new (X:World) (vs:List Value) (e:TypeId):Bk (X.alloc (.cells vs.toArray e)) X.heap.size vs:=⟨e,World.alloc_heap_new X _⟩
theorem Bk.other {X:World} {g:Nat} {vs:List Value} (h:Bk X g vs) {g':Nat} (hne:g≠g') (j:Nat) (v:Value):Bk (X.setCell ⟨g',j,none⟩ v) g vs:=by
 obtain ⟨e,h⟩:=h
 exact ⟨e,(heap_setCell_other X ⟨g',j,none⟩ g v hne).trans h⟩
theorem Bk.set {X:World} {g:Nat} {vs:List Value} (h:Bk X g vs) (j:Nat) (v:Value):Bk (X.setCell ⟨g,j,none⟩ v) g (vs.set j v):=by
 obtain ⟨e,h⟩:=h
 refine ⟨e,?_⟩
 have hl:=(Array.getElem?_eq_some_iff.1 h).1
 simp only [World.setCell,Array.getElem?_modify,h]
 simp
theorem Bk.keeps {X X':World} {g:Nat} {vs:List Value} (h:Bk X g vs) (hk:X'.heap[g]? = X.heap[g]?):Bk X' g vs:=by
 obtain ⟨e,h⟩:=h
 exact ⟨e,hk.trans h⟩
structure Bks (X:World) (l:List (Nat×List Value)):Prop where
 bk:∀x∈l,Bk X x.1 x.2
 ord:(l.map (·.1)).Pairwise (· > ·)
theorem Bks.nil (X:World):Bks X []:=⟨fun x hx=>(by cases hx),List.Pairwise.nil⟩
theorem Bks.at {X:World} {l:List (Nat×List Value)} (h:Bks X l) (j g:Nat) (vs:List Value) (hx:l[j]? = some (g,vs)):Bk X g vs:=h.bk (g,vs) (List.mem_of_getElem? hx)
theorem Bks.lt {X:World} {l:List (Nat×List Value)} (h:Bks X l) (j:Nat) {g:Nat} {vs:List Value} (hx:l[j]? = some (g,vs)):g<X.heap.size:=(h.at j g vs hx).lt
theorem Bks.keep {X X':World} {l:List (Nat×List Value)} (h:Bks X l) (hk:∀x∈l,X'.heap[x.1]? = X.heap[x.1]?):Bks X' l:=⟨fun x hx=>(h.bk x hx).keeps (hk x hx),h.ord⟩
theorem Bks.call {X X':World} {l:List (Nat×List Value)} (h:Bks X l) (hB:Below X.heap.size X X'):Bks X' l:=⟨fun x hx=>(h.bk x hx).call hB,h.ord⟩
theorem Bks.new {X:World} {l:List (Nat×List Value)} (h:Bks X l) (vs:List Value) (e:TypeId) {g:Nat} (hg:X.heap.size=g):Bks (X.alloc (.cells vs.toArray e)) ((g,vs)::l):=by
 subst hg
 refine ⟨fun x hx=>?_,?_⟩
 ·rcases List.mem_cons.1 hx with rfl | hx
  ·exact Bk.new X vs e
  ·exact (h.bk x hx).al _
 ·rw [List.map_cons,List.pairwise_cons]
  refine ⟨fun g hg=>?_,h.ord⟩
  obtain ⟨x,hx,rfl⟩:=List.mem_map.1 hg
  exact (h.bk x hx).lt
theorem Bks.set {X:World} {l:List (Nat×List Value)} (h:Bks X l) (j i:Nat) {g:Nat} {vs:List Value} (hx:l[j]? = some (g,vs)) (v:Value):Bks (X.setCell ⟨g,i,none⟩ v) (l.set j (g,vs.set i v)):=by
 have hm:(l.set j (g,vs.set i v)).map (·.1)=l.map (·.1):=by
  rw [List.map_set]
  refine List.ext_getElem? fun k=>?_
  rw [List.getElem?_set]
  split
  ·rename_i e
   subst e
   split
   ·rw [List.getElem?_map,hx];rfl
   ·rename_i hn
    rw [List.getElem?_eq_none (by simpa using hn)]
  ·rfl
 refine ⟨fun x hx2=>?_,by rw [hm];exact h.ord⟩
 obtain ⟨k,hk⟩:=List.mem_iff_getElem?.1 hx2
 rw [List.getElem?_set] at hk
 split at hk
 ·split at hk
  ·injection hk with hk;subst hk
   exact (h.at j g vs hx).set i v
  ·cases hk
 ·rename_i hne
  have hkx:=h.bk x (List.mem_of_getElem? hk)
  refine hkx.other (fun e=>?_) i v
  have h1:(l.map (·.1))[k]? = some x.1:=by rw [List.getElem?_map,hk];rfl
  have h2:(l.map (·.1))[j]? = some g:=by rw [List.getElem?_map,hx];rfl
  obtain ⟨k1,e1⟩:=List.getElem?_eq_some_iff.1 h1
  obtain ⟨k2,e2⟩:=List.getElem?_eq_some_iff.1 h2
  have hp:=List.pairwise_iff_getElem.1 h.ord
  rcases Nat.lt_or_gt_of_ne (fun e=>hne e:j≠k) with hlt | hlt
  ·have:=hp j k k2 k1 hlt
   rw [e1,e2] at this;omega
  ·have:=hp k j k1 k2 hlt
   rw [e1,e2] at this;omega
theorem Bks.set4 {X:World} {l:List (Nat×List Value)} (h:Bks X l) (j:Nat) {g:Nat} {u0 u1 u2 u3:Value} (hx:l[j]? = some (g,[u0,u1,u2,u3])) (v0 v1 v2 v3:Value) :
  Bks ((((X.setCell ⟨g,0,none⟩ v0).setCell ⟨g,1,none⟩ v1).setCell ⟨g,2,none⟩ v2).setCell ⟨g,3,none⟩ v3) (l.set j (g,[v0,v1,v2,v3])):=by
 have hj:j<l.length:=(List.getElem?_eq_some_iff.1 hx).1
 have h1:=h.set j 0 hx v0
 have h2:=h1.set j 1 (g:=g) (vs:=[v0,u1,u2,u3]) (by rw [List.getElem?_set];simp [hj]) v1
 have h3:=h2.set j 2 (g:=g) (vs:=[v0,v1,u2,u3]) (by rw [List.getElem?_set];simp [hj]) v2
 have h4:=h3.set j 3 (g:=g) (vs:=[v0,v1,v2,u3]) (by rw [List.getElem?_set];simp [hj]) v3
 simpa using h4
theorem Bks.tl {X:World} {x:Nat×List Value} {l:List (Nat×List Value)} (h:Bks X (x::l)):Bks X l:=⟨fun y hy=>h.bk y (List.mem_cons_of_mem _ hy),by have:=h.ord;rw [List.map_cons,List.pairwise_cons] at this;exact this.2⟩
theorem set_fst {l:List (Nat×List Value)} {j g:Nat} {vs:List Value} (vs':List Value) (hx:l[j]? = some (g,vs)):∀x∈l.set j (g,vs'),∃y∈l,y.1=x.1:=fun x hx2=>by
 rcases List.mem_or_eq_of_mem_set hx2 with h | h
 ·exact ⟨x,h,rfl⟩
 ·exact ⟨_,List.mem_of_getElem? hx,by rw [h]⟩
theorem TmsK.rows {K:Nat→Prop} {w:World} {rs:List TR} {e:TypeId} (hK:K w.heap.size) (hlen:rs.length≤maxLen) (h:∀x∈rs,TmsK K (w.alloc (.cells (rowsC rs).toArray e)) x.2.1 x.1.args) :
  TmsK K (w.alloc (.cells (rowsC rs).toArray e)) (some ⟨w.heap.size,0,none⟩) (rs.map (·.1)):=by
 have hget:∀(rs:List TR) (j:Nat) (hj:j<rs.length) (i:Nat),i<4→(rowsC rs)[j * 4+i]? = (rowC rs[j])[i]?:=by
  intro rs
  induction rs with
  | nil=>intro j hj;cases hj
  | cons x rs ih=>
   intro j hj i hi
   have hx:rowsC (x::rs)=rowC x++rowsC rs:=rfl
   have hl:(rowC x).length=4:=rfl
   rw [hx]
   cases j with
   | zero=>rw [List.getElem?_append_left (by omega)];simp
   | succ j=>
    rw [List.getElem?_append_right (by omega),hl,show (j+1) * 4+i-4=j * 4+i by omega,ih j (by simpa using hj) i hi]
    rfl
 refine .mk _ _ (fun j=>(rs[j]?.map (·.2.1)).getD none) (fun j=>(rs[j]?.map (·.2.2)).getD 0) (by simpa using hlen) (fun j hj=>?_) (fun j hj=>?_)
 ·have hj':j<rs.length:=by simpa using hj
  have hc:∀i u,i<4→(rowC rs[j])[i]? = some u→(w.alloc (.cells (rowsC rs).toArray e)).cell? ⟨w.heap.size,0+j * 4+i,none⟩=some u:=fun i u hi hu=>by
   rw [World.cell?_alloc_new,Nat.zero_add]
   simp [hget rs j hj' i hi,hu]
  refine ⟨w.heap.size,0,rfl,hK,?_,?_,?_,?_⟩
  ·have:=hc 0 _ (by omega) rfl
   simpa using this
  ·have:=hc 1 _ (by omega) rfl
   simpa using this
  ·have:=hc 2 _ (by omega) rfl
   simpa using this
  ·have:=hc 3 _ (by omega) rfl
   simpa [List.getElem?_eq_getElem hj'] using this
 ·have hj':j<rs.length:=by simpa using hj
  have:=h rs[j] (List.getElem_mem hj')
  simpa [List.getElem?_eq_getElem hj'] using this
def doneA (n:Nat) (S:Nat→Bool):Array Bool:=Array.ofFn fun i:Fin n=>S i
theorem doneA_get (n:Nat) (S:Nat→Bool) (j:Nat) (d:Bool) (hj:j<n):(doneA n S).getD j d=S j:=by
 unfold doneA
 simp [Array.getD,hj]
theorem doneA_set (n:Nat) (S:Nat→Bool) (j:Nat):(doneA n S).setIfInBounds j true=doneA n (updF S j):=by
 apply Array.ext
 ·simp [doneA]
 ·intro i h1 h2
  have hi:i<n:=by simpa [doneA] using h2
  rw [Array.getElem_setIfInBounds (by simpa [doneA] using hi)]
  have h2':(doneA n (updF S j))[i]=updF S j i:=Array.getElem_ofFn ..
  have h1':(doneA n S)[i]'(by simpa [doneA] using hi)=S i:=Array.getElem_ofFn ..
  rw [h2',h1']
  split
  ·rename_i e;subst e;exact (updF_same S j).symm
  ·rename_i e;exact (updF_other S (fun h=>e h.symm)).symm
theorem doneA_zero (n:Nat):doneA n (fun _=>false)=Array.replicate n false:=by
 apply Array.ext
 ·simp [doneA]
 ·intro i h1 h2;simp [doneA]
def ordOk (md:Region.Mode) (ops:Array Oper):Bool:=(List.range ops.size).all fun j=>(ops[j]?).all fun o=>o.after.all fun e=>!Region.binds md e||decide (e.on<j)
theorem ordOk_at {md:Region.Mode} {ops:Array Oper} (h:ordOk md ops=true) {j:Nat} {o:Oper} (ho:ops[j]? = some o) {e:Edge} (he:e∈o.after) (hb:Region.binds md e=true):e.on<j:=by
 unfold ordOk at h
 rw [List.all_eq_true] at h
 have h1:=h j (List.mem_range.2 (Array.getElem?_eq_some_iff.1 ho).1)
 rw [ho] at h1
 simp only [Option.all_some] at h1
 have h2:=Array.all_eq_true_iff_forall_mem.1 h1 e he
 rw [hb] at h2
 simpa using h2
theorem wpAny_inv {P:Program} {ops:Array Oper} {Q:Exit→Act→World→Prop} {md:Region.Mode} (I:(Nat→Bool)→Act→World→Prop) (hord:ordOk md ops=true)
  (hstep:∀S j o a w,ops[j]? = some o→S j=false→(∀e∈o.after,Region.binds md e=true→S e.on=true)→I S a w→if Region.wanted o (yielded ops a.tmps) then o.wp P a w (I (updF S j)) Q else I (updF S j) (a.put o.dst undef) w)
  (hend:∀S a w,(∀j,j<ops.size→S j=true)→I S a w→Q .normal a w):∀(m:Nat) (S:Nat→Bool) (a:Act) (w:World),cntF ops.size S≤m→I S a w→wpAny P md ops Q m (doneA ops.size S) a w:=by
 have hnone:∀S,Region.ready md ops (doneA ops.size S)=[]→∀j,j<ops.size→S j=true:=fun S hr j=>by
  induction j using Nat.strongRecOn with
  | ind j ih=>
   intro hj
   cases hs:S j with
   | true=>rfl
   | false=>
    have:j∈Region.ready md ops (doneA ops.size S):=mem_ready.2 ⟨by rw [doneA_get _ _ _ _ hj];exact hs,_,Array.getElem?_eq_getElem hj,fun e he hb=>by
     have hl:=ordOk_at hord (Array.getElem?_eq_getElem hj) he hb
     rw [doneA_get _ _ _ _ (by omega)]
     exact ih e.on hl (by omega)⟩
    rw [hr] at this
    cases this
 intro m
 induction m with
 | zero=>
  intro S a w hc hI
  have hall:=cntF_zero ops.size S (by omega)
  refine ⟨?_,hend S a w hall hI⟩
  refine List.eq_nil_iff_forall_not_mem.2 fun i hi=>?_
  obtain ⟨h1,o,ho,_⟩:=mem_ready.1 hi
  have hlt:=(Array.getElem?_eq_some_iff.1 ho).1
  rw [doneA_get _ _ _ _ hlt,hall i hlt] at h1
  cases h1
 | succ m ih=>
  intro S a w hc hI
  refine ⟨fun hr=>hend S a w (hnone S hr) hI,fun i hi=>?_⟩
  obtain ⟨h1,o,ho,hp⟩:=mem_ready.1 hi
  have hlt:=(Array.getElem?_eq_some_iff.1 ho).1
  rw [doneA_get _ _ _ _ hlt] at h1
  have hstep':=hstep S i o a w ho h1 (fun e he hb=>by
   have:=hp e he hb
   have hl:=ordOk_at hord ho he hb
   rw [doneA_get _ _ _ _ (by omega)] at this
   exact this) hI
  have hcu:=cntF_upd ops.size S i hlt h1
  have next:∀a' w',I (updF S i) a' w'→wpAny P md ops Q m ((doneA ops.size S).setIfInBounds i true) a' w':=fun a' w' h=>by
   rw [doneA_set]
   exact ih (updF S i) a' w' (by omega) h
  unfold wpOp
  rw [ho]
  dsimp only
  split
  ·rename_i hw
   rw [if_pos hw] at hstep'
   exact .inl (Oper.wp_mono next hstep')
  ·rename_i hw
   rw [if_neg hw] at hstep'
   exact next _ _ hstep'
end Hb
