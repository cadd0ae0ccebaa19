/- Parts of the proof. -/
import Derived.Test.YtbojljpldcijgaaGreatH01
import Derived.Test.YtbojljpldcijgaaGreatH02
import Derived.Test.YtbojljpldcijgaaGreatH03
import Derived.Test.YtbojljpldcijgaaGreatH04
import Derived.Test.YtbojljpldcijgaaGreatH05
import Derived.Test.YtbojljpldcijgaaGreatH06
import Derived.Test.YtbojljpldcijgaaGreatH07
import Derived.Test.YtbojljpldcijgaaGreatH08
import Derived.Test.YtbojljpldcijgaaGreatH09
import Derived.Test.YtbojljpldcijgaaGreatH10
import Derived.Test.YtbojljpldcijgaaGreatH11
import Derived.Test.YtbojljpldcijgaaGreatH12
import Derived.Test.YtbojljpldcijgaaGreatH13
import Derived.Test.YtbojljpldcijgaaGreatH14
import Derived.Test.YtbojljpldcijgaaGreatH15
import Derived.Test.YtbojljpldcijgaaGreatH16
import Derived.Test.YtbojljpldcijgaaGreatH17
import Derived.Test.YtbojljpldcijgaaGreatH18
import Derived.Test.YtbojljpldcijgaaGreatH21
import Derived.Test.YtbojljpldcijgaaGreatH22
import Derived.Test.YtbojljpldcijgaaGreatH23
import Derived.Test.YtbojljpldcijgaaGreatH24
import Derived.Test.YtbojljpldcijgaaGreatH25
import Derived.Test.YtbojljpldcijgaaGreatH26
import Derived.Test.YtbojljpldcijgaaGreatH27
import Derived.Test.YtbojljpldcijgaaGreatJ01
namespace Hb
open Go Go.RowKit
theorem filt_le (o:OpR) (l:List OpR):(restL o l).length≤l.length:=List.length_filter_le _ _
theorem setR_bad {l:List OpR} {o:OpR} (h:(!opsValid l||decide (o.prec<0)||decide (1200<o.prec)||clsOp o.typ==0||decide (100<o.name.size))=true):setR l o=([],1):=by
 unfold setR;rw [if_pos h]
theorem setR_fix {l:List OpR} {o:OpR} (h:(!opsValid l||decide (o.prec<0)||decide (1200<o.prec)||clsOp o.typ==0||decide (100<o.name.size))=false) (hf:fixedS l o=true):setR l o=([],5):=by
 unfold setR;rw [h,if_neg (by simp),if_pos hf]
theorem setR_full {l:List OpR} {o:OpR} (h:(!opsValid l||decide (o.prec<0)||decide (1200<o.prec)||clsOp o.typ==0||decide (100<o.name.size))=false) (hf:fixedS l o=false) (hn:100<(newL l o).length):setR l o=([],13):=by
 unfold setR;rw [h,if_neg (by simp),hf,if_neg (by simp),if_pos hn]
theorem setR_ok {l:List OpR} {o:OpR} (h:(!opsValid l||decide (o.prec<0)||decide (1200<o.prec)||clsOp o.typ==0||decide (100<o.name.size))=false) (hf:fixedS l o=false) (hn:¬100<(newL l o).length):setR l o=(newL l o,0):=by
 unfold setR;rw [h,if_neg (by simp),hf,if_neg (by simp),if_neg hn]
theorem own_nilG {w:World} {base e n cap:Nat} {A:Option Addr} {xs:List Value} (h:w.ownsRow base e 3 (.slice A n cap) n xs):n=0→(Value.slice A n cap=.slice none 0 0∨∃ad,A=some ad):=by
 intro _
 rcases h.2 with ⟨hv,_⟩ | ⟨g,c,cur,hv,_⟩
 ·exact .inl hv
 ·injection hv with h1 _ _
  exact .inr ⟨_,h1⟩
theorem BoxAt.over {w0 w w':World} {o:OpR} {B:Nat} (h:BoxAt w0 w o) (hlt:w0.heap.size<B) (hB:Below B w w'):BoxAt w0 w' o where
 bel:=h.bel.trans (hB.mono (Nat.le_of_lt hlt))
 lt:=Nat.lt_of_lt_of_le h.lt hB.size
 c0:=(hB.cell (p:=⟨_,_,none⟩) hlt).trans h.c0
 c1:=(hB.cell (p:=⟨_,_,none⟩) hlt).trans h.c1
 c2:=(hB.cell (p:=⟨_,_,none⟩) hlt).trans h.c2
theorem Tab.none (w:World):Tab w none 0 0 []:=⟨rfl,OpsAt.nil _ _,fun _=>.inl rfl⟩
theorem Tab.own {w:World} {base e n cap:Nat} {A:Option Addr} {l:List OpR} (h:w.ownsRow base e 3 (.slice A n cap) n (opsCells l)):Tab w A n cap l:=⟨(own_len h).symm,ops_own h,own_nilG h⟩
end Hb
namespace Go.Proofs.YtbojljpldcijgaaGreat
open Go.RowKit Hb
set_option maxRecDepth 100000
set_option maxHeartbeats 3200000 in
theorem ops_set (A:Option Addr) (n cap:Nat) (l:List OpR) (prec typ:Int) (name:ByteArray) (w:World) (hm:n≤400) (hT:Tab w A n cap l) :
  Calls Tryz.prog 49 #[.slice A n cap,.int .i64 prec,.int .i64 typ,.string name] w fun e w'=>∃A' n' cap',e=.returned (.tuple #[.slice A' n' cap',.int .i64 (setR l ⟨name,typ,prec⟩).2])∧Below w.heap.size w w'∧Tab w' A' n' cap' (setR l ⟨name,typ,prec⟩).1:=by
 have HV:=Lib.hid (ops_valid A n cap l w hT.len hm hT.ops)
 cases hbad:(!opsValid l||decide (prec<0)||decide (1200<prec)||clsOp typ==0||decide (100<name.size))
 ·have HG:=Lib.hid hbad
  simp at hbad
  obtain ⟨⟨⟨⟨hv,hb1⟩,hb2⟩,hb3⟩,hb4⟩:=hbad
  have HVL:=Lib.hid hv
  rw [hv] at HV
  clear hv
  obtain ⟨o,HOE⟩:∃o:OpR,Hid (o=⟨name,typ,prec⟩):=⟨_,Lib.hid rfl⟩
  have HFX:Hid (∀(W:World),OpsAt W A l→Calls Tryz.prog 77 #[.slice A n cap,.agg #[.string name,.int .i64 typ,.int .i64 prec]] W fun e w'=>e=.returned (.bool (fixedS l o))∧Below W.heap.size W w'):=Lib.hid fun W hW=>by
   rw [HOE.out];exact ops_fixed A n cap l ⟨name,typ,prec⟩ W hT.len hm hW
  have HTA:=Lib.hid hT
  have hl100:n≤100:=by have:=(opsValid_at l HVL.out).1;have:=hT.len;omega
  rw [←HOE.out]
  have HG':Hid ((!opsValid l||decide (o.prec<0)||decide (1200<o.prec)||clsOp o.typ==0||decide (100<o.name.size))=false):=by rw [HOE.out];exact HG
  clear hT HG
  have b1:decide (prec<0)=false:=by simpa using hb1
  have b2:decide (1200<prec)=false:=by simpa using hb2
  have b3:(clsOp typ==0)=false:=by simpa using hb3
  have b4:decide ((100:Int)<(name.size:Int))=false:=by simp;omega
  clear hb1 hb2 hb3 hb4
  cases hfx:fixedS l o
  ·rw [hfx] at HFX
   have HFS:=Lib.hid hfx
   clear hfx
   go_enter Tryz.func49,Tryz.ntmps49
   go_wp2_with fail
   refine HV.out.mono ?_;rintro e w1 ⟨rfl,hB1⟩
   go_wp2_with fail
   refine (op_class typ w1).mono ?_;rintro e w2 ⟨rfl,hB2⟩
   have hB02:Below w.heap.size w w2:=hB1.trans (hB2.mono hB1.size)
   have hX:Hid (BoxAt w2 (w2.alloc (.cells #[.string name,.int .i64 typ,.int .i64 prec] 61)) o):=by rw [HOE.out];exact Lib.hid (BoxAt.start w2 ⟨name,typ,prec⟩ 61)
   go_wp2_with fail
   refine (HFX.out _ (HTA.out.ops.below (hB02.trans (hX.out.bel.mono hB02.size)))).mono ?_;rintro e w3 ⟨rfl,hB3⟩
   have hX3:=Lib.hid (hX.out.call hB3)
   have hB03:Below w.heap.size w w3:=hB02.trans (hX3.out.bel.mono hB02.size)
   have hx3:w2.heap.size<w3.heap.size:=hX3.out.lt
   have hT3:=Lib.hid (HTA.out.below hB03)
   clear hX hB3
   go_wp2_with fail
   refine (ops_clone A n cap l w3 hT3.out.len hm hT3.out.ops hT3.out.nil).mono ?_;rintro e w4 ⟨A4,c4,rfl,hB4,hO4⟩
   have hX4:=Lib.hid (hX3.out.call hB4)
   have HD:=Lib.hid (ops_delete A4 n c4 l o w2.heap.size w3.heap.size w4 hm hO4 hx3 hB4.size hX4.out.c0 hX4.out.c1 hX4.out.c2)
   clear hO4
   go_wp2_with fail
   refine HD.out.mono ?_;rintro e w5 ⟨n5,rfl,hB5,hO5⟩
   have hX5:=Lib.hid (hX4.out.over hx3 hB5)
   have hB45:Below w3.heap.size w3 w5:=hB4.trans hB5
   have hB05:Below w.heap.size w w5:=hB03.trans (hB45.mono hB03.size)
   have HO5:=Lib.hid hO5
   have hn5:n5≤100:=by have h1:=own_len hO5;have h2:=filt_le o l;have h3:=HTA.out.len;omega
   clear hO5 HD HFX HV
   have HN5:=Lib.hid (own_len HO5.out)
   by_cases hp:0<prec
   ·have HNL:Hid (newL l o=insO o (restL o l)):=by
     refine Lib.hid ?_
     unfold newL
     rw [if_pos (by rw [HOE.out];exact hp)]
    have hs0:=sorted_valid HVL.out
    have HSR:=Lib.hid (ops_search A4 n5 c4 (restL o l) o w5 HN5.out.symm (by omega) (ops_own HO5.out) ((hs0.rest o).mono o))
    clear hs0
    unfold opV at HSR
    have c0:=hX5.out.c0
    have c1:=hX5.out.c1
    have c2:=hX5.out.c2
    go_wp2_with fail
    refine HSR.out.mono ?_;rintro e w6 ⟨i,b,rfl,hPa,hB6⟩
    have hX6:=Lib.hid (hX5.out.call hB6)
    have HIN:=Lib.hid (insO_parts o (restL o l) i (rest_ne o l) hPa)
    have hi5:i≤n5:=by have:=hPa.hl;have:=HN5.out;omega
    have hB6':Below w3.heap.size w5 w6:=hB6.mono hB45.size
    have HI6:=Lib.hid (ops_insert A4 n5 c4 i (restL o l) o w6.heap.size w3.heap.size (w6.alloc (.cells #[.string o.name,.int .i64 o.typ,.int .i64 o.prec] 61)) (by omega) hi5 ((own_belowO HO5.out hB6).alloc _) (by have:=hB45.size;have:=hB6.size;simp;omega) (fun g hg=>by
     have:=(HO5.out.lt g (by rw [hg];rfl)).2
     have:=hB6.size
     omega) (heap_alloc_new _ _))
    rw [HIN.out] at HI6
    clear hPa HSR c0 c1 c2
    have c0:=hX6.out.c0
    have c1:=hX6.out.c1
    have c2:=hX6.out.c2
    have hB06:Below w3.heap.size w3 w6:=hB45.trans hB6'
    have hBa:Below w3.heap.size w3 (w6.alloc (.cells #[.string o.name,.int .i64 o.typ,.int .i64 o.prec] 61)):=hB06.alloc (by have:=hB06.size;exact this) _
    go_wp2_with fail
    refine HI6.out.mono ?_;rintro e w7 ⟨A7,c7,rfl,hB7,hO7⟩
    have HT7:=Lib.hid (Tab.own hO7)
    have HN7:=Lib.hid (own_len hO7)
    rw [←HNL.out] at HN7 HT7
    clear hO7 HI6
    have hBz:Below w.heap.size w w7:=hB03.trans ((hBa.trans hB7).mono hB03.size)
    by_cases hfull:100<n5+1
    ·have b5:decide ((100:Int)<(n5:Int)+1)=true:=by simp;omega
     have HR:=Lib.hid (setR_full HG'.out HFS.out (by rw [HN7.out];exact hfull))
     go_wp2_with fail
     go_ret2
     exact ⟨none,0,0,by rw [HR.out];rfl,hBz,by rw [HR.out];exact Tab.none _⟩
    ·have b5:decide ((100:Int)<(n5:Int)+1)=false:=by simp;omega
     have HR:=Lib.hid (setR_ok HG'.out HFS.out (by rw [HN7.out];exact hfull))
     go_wp2_with fail
     go_ret2
     exact ⟨A7,n5+1,c7,by rw [HR.out];rfl,hBz,by rw [HR.out];exact HT7.out⟩
   ·have b6:decide (0<prec)=false:=by simpa using hp
    have HNL:Hid (newL l o=restL o l):=by
     refine Lib.hid ?_
     unfold newL
     rw [if_neg (by rw [HOE.out];exact hp)]
    have HT5:=Lib.hid (Tab.own HO5.out)
    rw [←HNL.out] at HT5 HN5
    have HR:=Lib.hid (setR_ok HG'.out HFS.out (by rw [HN5.out];omega))
    have b5:decide ((100:Int)<(n5:Int))=false:=by simp;omega
    go_wp2_with fail
    go_ret2
    exact ⟨A4,n5,c4,by rw [HR.out];rfl,hB05,by rw [HR.out];exact HT5.out⟩
  ·rw [hfx] at HFX
   have HR:=Lib.hid (setR_fix HG'.out hfx)
   clear hfx
   go_enter Tryz.func49,Tryz.ntmps49
   go_wp2_with fail
   refine HV.out.mono ?_;rintro e w1 ⟨rfl,hB1⟩
   go_wp2_with fail
   refine (op_class typ w1).mono ?_;rintro e w2 ⟨rfl,hB2⟩
   have hB02:Below w.heap.size w w2:=hB1.trans (hB2.mono hB1.size)
   have hX:Hid (BoxAt w2 (w2.alloc (.cells #[.string name,.int .i64 typ,.int .i64 prec] 61)) o):=by rw [HOE.out];exact Lib.hid (BoxAt.start w2 ⟨name,typ,prec⟩ 61)
   go_wp2_with fail
   refine (HFX.out _ (HTA.out.ops.below (hB02.trans (hX.out.bel.mono hB02.size)))).mono ?_;rintro e w3 ⟨rfl,hB3⟩
   have hX3:=Lib.hid (hX.out.call hB3)
   have hB03:Below w.heap.size w w3:=hB02.trans (hX3.out.bel.mono hB02.size)
   go_wp2_with fail
   go_ret2
   exact ⟨none,0,0,by rw [HR.out];rfl,hB03,by rw [HR.out];exact Tab.none _⟩
 ·have HR:=Lib.hid (setR_bad (l:=l) (o:=⟨name,typ,prec⟩) hbad)
  have HTA:=Lib.hid hT
  cases hv:opsValid l
  ·rw [hv] at HV
   clear hv hbad hT
   go_enter Tryz.func49,Tryz.ntmps49
   go_wp2_with fail
   refine HV.out.mono ?_;rintro e w1 ⟨rfl,hB1⟩
   go_wp2_with fail
   go_ret2
   exact ⟨none,0,0,by rw [HR.out];rfl,hB1,by rw [HR.out];exact Tab.none _⟩
  ·rw [hv] at HV hbad
   have HC:=Lib.hid (op_class typ)
   have HBD:Hid (prec<0∨1200<prec∨clsOp typ=0∨(100:Int)<name.size):=by
    simp at hbad
    refine Lib.hid ?_
    rcases hbad with ((h | h) | h) | h
    ·exact .inl h
    ·exact .inr (.inl h)
    ·exact .inr (.inr (.inl h))
    ·exact .inr (.inr (.inr (by omega)))
   clear hv hbad hT
   generalize clsOp typ=c at *
   go_enter Tryz.func49,Tryz.ntmps49
   go_wp2_with fail
   refine HV.out.mono ?_;rintro e w1 ⟨rfl,hB1⟩
   by_cases h1:prec<0
   ·go_wp2_with fail
    go_ret2
    exact ⟨none,0,0,by rw [HR.out];rfl,hB1,by rw [HR.out];exact Tab.none _⟩
   by_cases h2:1200<prec
   ·go_wp2_with fail
    go_ret2
    exact ⟨none,0,0,by rw [HR.out];rfl,hB1,by rw [HR.out];exact Tab.none _⟩
   have HB2:∀w2,Below w1.heap.size w1 w2→Below w.heap.size w w2:=fun w2 h=>hB1.trans (h.mono hB1.size)
   have b1:decide (prec<0)=false:=by simpa using h1
   have b2:decide (1200<prec)=false:=by simpa using h2
   by_cases h3:c=0
   ·go_wp2_with fail
    refine (HC.out w1).mono ?_;rintro e w2 ⟨rfl,hB2⟩
    go_wp2_with fail
    go_ret2
    exact ⟨none,0,0,by rw [HR.out];rfl,HB2 _ hB2,by rw [HR.out];exact Tab.none _⟩
   ·have b3:(c==0)=false:=by simpa using h3
    have b4:decide ((100:Int)<(name.size:Int))=true:=by
     rcases HBD.out with h | h | h | h
     ·exact absurd h h1
     ·exact absurd h h2
     ·exact absurd h h3
     ·simpa using h
    go_wp2_with fail
    refine (HC.out w1).mono ?_;rintro e w2 ⟨rfl,hB2⟩
    go_wp2_with fail
    go_ret2
    exact ⟨none,0,0,by rw [HR.out];rfl,HB2 _ hB2,by rw [HR.out];exact Tab.none _⟩
end Go.Proofs.YtbojljpldcijgaaGreat
namespace Hb
open Go Go.RowKit
theorem sorted_idx {l:List OpR} (h:Sorted l) {i j:Nat} (hj:j<l.length) (hij:i<j):befOp (l[i]'(by omega)) l[j]=true:=(List.pairwise_iff_getElem.1 h) i j (by omega) hj hij
theorem bef_names {a b:OpR} (h:befOp a b=true):a.name.toList≤b.name.toList:=by
 rw [befOp_iff] at h
 rcases h with h | ⟨h,_⟩
 ·exact List.le_of_lt h
 ·rw [h];exact List.le_refl _
theorem bef_cls {a b:OpR} (h:befOp a b=true) (he:a.name.toList=b.name.toList):clsOp a.typ<clsOp b.typ:=by
 rw [befOp_iff] at h
 rcases h with h | ⟨_,h⟩
 ·rw [he] at h;exact absurd h (List.lt_irrefl _)
 ·exact h
def NoMix (l:List OpR):Prop:=∀a∈l,∀b∈l,a.name.toList=b.name.toList→¬(clsOp a.typ=2∧clsOp b.typ=3)
theorem nomix_valid {l:List OpR} (h:opsValid l=true):NoMix l:=by
 intro a ha b hb hn ⟨h2,h3⟩
 have hs:=sorted_valid h
 obtain ⟨i,hi,rfl⟩:=List.getElem_of_mem ha
 obtain ⟨j,hj,rfl⟩:=List.getElem_of_mem hb
 rcases Nat.lt_trichotomy i j with hij | hij | hij
 ·rcases Nat.eq_or_lt_of_le (show i+1≤j from hij) with he | hlt
  ·subst he
   have:=valid_next h i hj
   rw [opLt_ref,hn,h2,h3] at this
   simp at this
  ·have b1:=sorted_idx hs (i:=i) (j:=i+1) (by omega) (by omega)
   have b2:=sorted_idx hs (i:=i+1) (j:=j) hj hlt
   have n1:=bef_names b1
   have n2:=bef_names b2
   have e1:l[i].name.toList=l[i+1].name.toList:=List.le_antisymm n1 (by rw [hn];exact n2)
   have c1:=bef_cls b1 e1
   have c2:=bef_cls b2 (e1.symm.trans hn)
   omega
 ·subst hij;omega
 ·have:=bef_cls (sorted_idx hs hi hij) hn.symm
  omega
theorem valid_of {l:List OpR} (h1:l.length≤100) (h2:∀a∈l,opOk a=true) (h3:Sorted l) (h4:NoMix l):opsValid l=true:=by
 refine opsValid_yes l h1 fun j hj=>?_
 unfold okJ
 rw [getD_at l j hj,h2 _ (List.getElem_mem hj)]
 rcases Nat.eq_zero_or_pos j with h0 | h0
 ·subst h0;rfl
 ·have hp:=sorted_idx h3 hj (show j-1<j by omega)
  rw [getD_at l (j-1) (by omega),opLt_ref,hp]
  have hne:¬((l[j-1].name.toList==l[j].name.toList&&(clsOp l[j-1].typ==2&&clsOp l[j].typ==3))=true):=by
   intro hh
   simp only [Bool.and_eq_true,beq_iff_eq] at hh
   exact h4 _ (List.getElem_mem _) _ (List.getElem_mem hj) hh.1 hh.2
  rw [Bool.not_eq_true] at hne
  rw [hne];simp
theorem find_one {l:List OpR} (hs:Sorted l) {name:ByteArray} {c:Int} {a:OpR} (ha:a∈l) (hi:isOp name c a=true):l.find? (isOp name c)=some a:=by
 cases hf:l.find? (isOp name c) with
 | none=>rw [List.find?_eq_none] at hf;exact absurd hi (hf a ha)
 | some b=>
  have hb:=List.mem_of_find?_eq_some hf
  have hib:=List.find?_some hf
  unfold isOp at hi hib
  simp only [Bool.and_eq_true,beq_iff_eq] at hi hib
  obtain ⟨i,hi1,rfl⟩:=List.getElem_of_mem ha
  obtain ⟨j,hj1,rfl⟩:=List.getElem_of_mem hb
  rcases Nat.lt_trichotomy i j with hij | hij | hij
  ·have:=bef_cls (sorted_idx hs hj1 hij) (hi.1.trans hib.1.symm)
   omega
  ·subst hij;rfl
  ·have:=bef_cls (sorted_idx hs hi1 hij) (hib.1.trans hi.1.symm)
   omega
theorem mem_rest {o a:OpR} {l:List OpR}:a∈restL o l↔a∈l∧eqOp o a=false:=by
 unfold restL
 rw [List.mem_filter]
 simp
theorem mem_new {o a:OpR} {l:List OpR}:a∈newL l o↔(0<o.prec∧a=o)∨(a∈l∧eqOp o a=false):=by
 unfold newL
 split
 ·rename_i h
  rw [(insO_perm o (restL o l)).mem_iff,List.mem_cons,mem_rest]
  simp [h]
 ·rename_i h
  rw [mem_rest]
  simp [h]
theorem sorted_ins {o:OpR}:∀{t:List OpR},Sorted t→(∀a∈t,eqOp o a=false)→Sorted (insO o t)
 | [],_,_=>by unfold insO Sorted;simp
 | a::t,h,hne=>by
  unfold Sorted at h ⊢
  rw [List.pairwise_cons] at h
  unfold insO
  split
  ·rename_i hc
   rw [List.pairwise_cons]
   refine ⟨fun b hb=>?_,List.pairwise_cons.2 h⟩
   rcases List.mem_cons.1 hb with rfl | hb
   ·exact (cmp_bef _ _).1 hc
   ·exact bef_trans ((cmp_bef _ _).1 hc) (h.1 b hb)
  ·rename_i hc
   rw [List.pairwise_cons]
   refine ⟨fun b hb=>?_,sorted_ins h.2 fun b hb=>hne b (by simp [hb])⟩
   rcases List.mem_cons.1 ((insO_perm o t).mem_iff.1 hb) with rfl | hb
   ·have h1:befOp b a=false:=by rw [←Bool.not_eq_true,←cmp_bef];exact hc
    have h2:eqOp a b=false:=by
     have:=hne a (by simp)
     rw [←Bool.not_eq_true,eqOp_iff] at this ⊢
     exact fun hh=>this ⟨hh.1.symm,hh.2.symm⟩
    exact bef_tri h1 h2
   ·exact h.1 b hb
theorem sorted_new {l:List OpR} (h:Sorted l) (o:OpR):Sorted (newL l o):=by
 unfold newL
 split
 ·exact sorted_ins (h.rest o) (rest_ne o l)
 ·exact h.rest o
theorem isOp_eq {o a:OpR}:isOp o.name (clsOp o.typ) a=eqOp o a:=by
 rw [Bool.eq_iff_iff,eqOp_iff]
 unfold isOp
 simp
structure Sets (l:List OpR) (o:OpR):Prop where
 val:opsValid l=true
 p0:0≤o.prec
 p1:o.prec≤1200
 cls:clsOp o.typ≠0
 sz:o.name.size≤100
 fix:fixedS l o=false
 len:(newL l o).length≤100
theorem setR_iff (l:List OpR) (o:OpR):(setR l o).2=0↔Sets l o:=by
 cases hb:(!opsValid l||decide (o.prec<0)||decide (1200<o.prec)||clsOp o.typ==0||decide (100<o.name.size))
 ·cases hf:fixedS l o
  ·by_cases hn:100<(newL l o).length
   ·rw [setR_full hb hf hn]
    exact ⟨fun h=>(by cases h),fun h=>absurd h.len (by omega)⟩
   ·rw [setR_ok hb hf hn]
    simp at hb
    exact ⟨fun _=>⟨hb.1.1.1.1,by omega,by omega,hb.1.2,by omega,hf,by omega⟩,fun _=>rfl⟩
  ·rw [setR_fix hb hf]
   exact ⟨fun h=>(by cases h),fun h=>(by rw [h.fix] at hf;cases hf)⟩
 ·rw [setR_bad hb]
  refine ⟨fun h=>(by cases h),fun h=>?_⟩
  have h0:=h.p0;have h1:=h.p1;have h2:=h.cls;have h3:=h.sz
  rw [h.val] at hb
  simp [h2] at hb
  omega
theorem setR_new {l:List OpR} {o:OpR} (h:Sets l o):setR l o=(newL l o,0):=by
 refine setR_ok ?_ h.fix (by have:=h.len;omega)
 have h0:=h.p0;have h1:=h.p1;have h2:=h.cls;have h3:=h.sz
 rw [h.val]
 simp [h2]
 omega
theorem findR_valid {l:List OpR} (h:opsValid l=true) (name:ByteArray) (c:Int):findR l name c=l.find? (isOp name c):=by unfold findR;rw [h];rfl
theorem Sets.ok {l:List OpR} {o:OpR} (h:Sets l o) (hp:0<o.prec):opOk o=true:=by
 have h1:=h.p1;have h2:=h.cls;have h3:=h.sz
 have hf:=h.fix
 unfold fixedS at hf
 unfold opOk
 grind
theorem Sets.mix {l:List OpR} {o b:OpR} (h:Sets l o) (hp:0<o.prec) (hc:clsOp o.typ≠1) (hb:b∈l) (hn:b.name.toList=o.name.toList):clsOp b.typ≠5-clsOp o.typ:=by
 intro hcb
 have hf:=h.fix
 unfold fixedS at hf
 have hnone:(findR l o.name (5-clsOp o.typ)).isSome=false:=by grind
 rw [findR_valid h.val,find_one (sorted_valid h.val) hb (by unfold isOp;simp [hn,hcb])] at hnone
 cases hnone
theorem Sets.valid {l:List OpR} {o:OpR} (h:Sets l o):opsValid (newL l o)=true:=by
 refine valid_of h.len (fun a ha=>?_) (sorted_new (sorted_valid h.val) o) ?_
 ·rcases mem_new.1 ha with ⟨hp,rfl⟩ | ⟨ha,_⟩
  ·exact h.ok hp
  ·exact valid_all h.val a ha
 ·intro a ha b hb hn hh
  rcases mem_new.1 ha with ⟨hp,ea⟩ | ⟨la,_⟩ <;> rcases mem_new.1 hb with ⟨hp2,eb⟩ | ⟨lb,_⟩
  ·rw [ea,eb] at hh;omega
  ·rw [ea] at hn hh;exact h.mix hp (by omega) lb hn.symm (by omega)
  ·rw [eb] at hn hh;exact h.mix hp2 (by omega) la hn (by omega)
  ·exact nomix_valid h.val a la b lb hn hh
theorem Sets.found {l:List OpR} {o:OpR} (h:Sets l o):findR (newL l o) o.name (clsOp o.typ)=if 0<o.prec then some o else none:=by
 rw [findR_valid h.valid]
 split
 ·rename_i hp
  exact find_one (sorted_new (sorted_valid h.val) o) (mem_new.2 (.inl ⟨hp,rfl⟩)) (by rw [isOp_eq,eqOp_iff];exact ⟨rfl,rfl⟩)
 ·rename_i hp
  rw [List.find?_eq_none]
  intro a ha
  rcases mem_new.1 ha with ⟨hp2,_⟩ | ⟨_,hne⟩
  ·exact absurd hp2 hp
  ·rw [isOp_eq,hne];simp
theorem Sets.other {l:List OpR} {o:OpR} (h:Sets l o) (name:ByteArray) (c:Int) (hne:¬(c=clsOp o.typ∧name.toList=o.name.toList)):findR (newL l o) name c=findR l name c:=by
 rw [findR_valid h.valid,findR_valid h.val]
 have key:∀a,isOp name c a=true→eqOp o a=false:=by
  intro a ha
  rw [←Bool.not_eq_true,eqOp_iff]
  unfold isOp at ha
  simp only [Bool.and_eq_true,beq_iff_eq] at ha
  exact fun hh=>hne ⟨ha.2.symm.trans hh.2,ha.1.symm.trans hh.1⟩
 cases hf:l.find? (isOp name c) with
 | some a=>
  have hi:=List.find?_some hf
  exact find_one (sorted_new (sorted_valid h.val) o) (mem_new.2 (.inr ⟨List.mem_of_find?_eq_some hf,key a hi⟩)) hi
 | none=>
  rw [List.find?_eq_none] at hf ⊢
  intro a ha
  rcases mem_new.1 ha with ⟨_,rfl⟩ | ⟨ha,_⟩
  ·intro hi
   have h1:=key a hi
   rw [←Bool.not_eq_true,eqOp_iff] at h1
   exact h1 ⟨rfl,rfl⟩
  ·exact hf a ha
end Hb
namespace Hb
open Go Go.RowKit
set_option linter.unusedSimpArgs false
structure Alike (E F:RE):Prop where
 f:∀n c,findR F.P (E.at n).txt c=findR E.P (E.at n).txt c
 q:F.q=E.q
 len:F.T.length=E.T.length
 k:∀n,(F.at n).r.kind=(E.at n).r.kind
 x:∀n,(F.at n).r.text=(E.at n).r.text
 n:∀n,(F.at n).r.n=(E.at n).r.n
 y:∀n,(F.at n).lay=(E.at n).lay
 v:∀n,vsAt F.T n=vsAt E.T n
section
variable {E F:RE} (h:Alike E F)
include h
theorem Alike.isP (n:Nat) (s:List UInt8):isP (F.at n) s=isP (E.at n) s:=by unfold Hb.isP;rw [h.k,h.x]
theorem Alike.isNam (n:Nat):isNam (F.at n)=isNam (E.at n):=by unfold Hb.isNam;rw [h.k]
theorem Alike.opn (n:Nat):opn (F.at n)=opn (E.at n):=by unfold Hb.opn;rw [h.isP,h.y]
theorem Alike.txt (n:Nat):(F.at n).txt=(E.at n).txt:=by unfold NextR.txt;rw [h.x]
theorem Alike.has (n:Nat) (c:Int):hasO F.P (E.at n).txt c=hasO E.P (E.at n).txt c:=by unfold hasO;rw [h.f]
theorem Alike.alone (n:Nat):aloneG F n=aloneG E n:=by unfold aloneG;simp only [h.k,h.x,h.isNam,h.opn,h.txt,h.has,h.f]
theorem Alike.minus (k n:Nat):minusG F (F.at k) n=minusG E (E.at k) n:=by unfold minusG;simp only [h.k,h.x,h.y]
theorem Alike.pre (k:Nat) (most:Int) (n:Nat):preG F (F.at k) most n=preG E (E.at k) most n:=by unfold preG;simp only [h.has,h.f,h.txt,h.alone]
theorem Alike.row (S:PT):∀(k n:Nat),rowG F S k n=rowG E S k n
 | 0,_=>rfl
 | k+1,n=>by
  unfold rowG
  cases S 999 n with
  | error e=>rfl
  | ok x=>
   obtain ⟨t,_,m⟩:=x
   simp only [h.isP,Alike.row S k]
theorem Alike.rowX (S:PT) (n:Nat):rowX F S n=rowX E S n:=by unfold Hb.rowX;rw [h.len,h.row]
theorem Alike.need {α:Type} (s:List UInt8) (n:Nat) (a:α):needG F s n a=needG E s n a:=by unfold needG;rw [h.isP]
theorem Alike.comp (S:PT) (s:ByteArray) (n:Nat):compG F S s n=compG E S s n:=by unfold compG;simp only [h.opn,h.rowX,h.need]
theorem Alike.nmd (S:PT) (k:Nat) (most:Int) (n:Nat):nmdG F S (F.at k) most n=nmdG E S (E.at k) most n:=by unfold nmdG;simp only [h.txt,h.comp,h.minus,h.n,h.pre,h.has,h.f]
theorem Alike.empty (S:PT) (s:ByteArray) (n:Nat):emptyG F S s n=emptyG E S s n:=by unfold emptyG;simp only [h.comp]
theorem Alike.tail (S:PT) (n:Nat):tailG F S n=tailG E S n:=by unfold tailG;simp only [h.isP]
theorem Alike.list (S:PT) (n:Nat):listG F S n=listG E S n:=by unfold listG;simp only [h.rowX,h.tail,h.need]
theorem Alike.par (S:PT) (s:List UInt8) (G:Tm→Tm) (n:Nat):parG F S s G n=parG E S s G n:=by unfold parG;simp only [h.need]
theorem Alike.brk (S:PT) (s:List UInt8) (n:Nat):brkG F S s n=brkG E S s n:=by unfold brkG;simp only [h.par,h.isP,h.empty,h.list]
theorem Alike.isBrk (n:Nat):isBrk (F.at n)=isBrk (E.at n):=by unfold Hb.isBrk;simp only [h.isP]
theorem Alike.opd (S:PT) (most:Int) (n:Nat):opdG F S most n=opdG E S most n:=by unfold opdG;simp only [h.k,h.n,h.v,h.x,h.q,h.isBrk,h.brk,h.isNam,h.nmd]
theorem Alike.opr (n:Nat):oprG F n=oprG E n:=by unfold oprG;simp only [h.isNam,h.isP,h.txt,h.has,h.f]
theorem Alike.loop (S:PT) (most:Int):∀(k:Nat) (t:Tm) (prec:Int) (n:Nat),loopG F S most k t prec n=loopG E S most k t prec n
 | 0,_,_,_=>rfl
 | k+1,t,prec,n=>by unfold loopG;simp only [h.opr,Alike.loop S most k]
theorem Alike.trm (S:PT) (most:Int) (n:Nat):trmG F S most n=trmG E S most n:=by unfold trmG;simp only [h.opd,h.len,h.loop]
theorem Alike.trmF:∀(f:Nat),trmF F f=trmF E f
 | 0=>rfl
 | f+1=>by funext most n;unfold Hb.trmF;rw [Alike.trmF f,h.trm]
theorem Alike.whole:wholeG F=wholeG E:=by unfold wholeG;simp only [h.len,h.trmF,h.k]
end
theorem alike_tab (T:List NextR) (P Q:List OpR) (q:Int) (h:∀n c,findR Q (tokA T n).txt c=findR P (tokA T n).txt c):wholeG ⟨T,Q,q⟩=wholeG ⟨T,P,q⟩ :=
 Alike.whole ⟨h,rfl,rfl,fun _=>rfl,fun _=>rfl,fun _=>rfl,fun _=>rfl,fun _=>rfl⟩
end Hb
namespace Hb
open Go Go.RowKit
noncomputable def isR (L:List UInt8) (s:Sy) (t:Tm) (k:Int):Bool:=if 0≤k then (readS L 0 s).err==7&&(readS L 0 s).where_==k else (readS L 0 s).err==0&&sameT (readS L 0 s).t t
end Hb
namespace Go.Proofs.YtbojljpldcijgaaGreat
open Go.RowKit Hb
set_option maxRecDepth 100000
set_option linter.unusedSimpArgs false
set_option maxHeartbeats 3200000 in
theorem l_is (text:ByteArray) (OA:Option Addr) (on oc:Nat) (q u:Int) (c d:Bool) (CA:Option Addr) (cn cc:Nat) (t:Tm) (B:Option Addr) (cb:Nat) (k:Int) (ol:List OpR) (cl:List (Int×Int)) (w:World) (hO:Tab w OA on oc ol) (hcl:cn=cl.length) (hcn:cn≤maxLen) (hC:Pairs w CA cl) (hs:text.size≤maxLen) (hT:TmsAt w.heap.size w B t.args):Calls Tryz.prog 30 #[.string text,.agg #[.slice OA on oc,.int .i64 q,.int .i64 u,.bool c,.bool d,.slice CA cn cc],.agg #[.int .i64 t.kind,.int .i64 t.num,.string t.name,.slice B t.args.length cb],.int .i64 k] w fun e w'=>e=.returned (.bool (isR text.data.toList ⟨ol,q,u,c,d,cl⟩ t k))∧Below w.heap.size w w':=by
 obtain ⟨r,HR⟩:∃r,Hid (r=readS text.data.toList 0 ⟨ol,q,u,c,d,cl⟩):=⟨_,Lib.hid rfl⟩
 obtain ⟨RB,HRB⟩:∃b,Hid (b=isR text.data.toList ⟨ol,q,u,c,d,cl⟩ t k):=⟨_,Lib.hid rfl⟩
 have HE:Hid (RB=if 0≤k then r.err==7&&r.where_==k else r.err==0&&sameT r.t t):=Lib.hid (by rw [HRB.out,HR.out];rfl)
 rw [←HRB.out]
 have HRD:Hid (∀X,Below w.heap.size w X→Calls Tryz.prog 11 #[.string text,.int .i64 0,.agg #[.slice OA on oc,.int .i64 q,.int .i64 u,.bool c,.bool d,.slice CA cn cc]] X (ROk X r)):=Lib.hid fun X hX=>by
  rw [HR.out];exact rd_Term text 0 OA on oc q u c d CA cn cc ol cl X (hO.below hX) hcl hcn (hC.below hX) hs
 have HB0:=Lib.hid (((Below.refl w.heap.size w).alloc (Nat.le_refl _) (.cells #[.slice OA on oc,.int .i64 q,.int .i64 u,.bool c,.bool d,.slice CA cn cc] 27)).alloc (by simp) (.cells #[.int .i64 t.kind,.int .i64 t.num,.string t.name,.slice B t.args.length cb] 30))
 have HK0:=Lib.hid (((Bks.nil w).new [.slice OA on oc,.int .i64 q,.int .i64 u,.bool c,.bool d,.slice CA cn cc] 27 rfl).new [.int .i64 t.kind,.int .i64 t.num,.string t.name,.slice B t.args.length cb] 30 (g:=w.heap.size+1) (by simp))
 have HSM:=Lib.hid (fun W A cap (h:Below w.heap.size w W) (h2:TmsAt W.heap.size W A r.t.args)=>r3_same r.t t A B cap cb W h2 ((hT.keep h).mono h.size))
 unfold tmV at HSM
 clear hO hcl hcn hC hs hT HR HRB
 go_enter Tryz.func30,Tryz.ntmps30
 go_wp2_with fail
 refine (HRD.out _ HB0.out).mono ?_;rintro e w2 ⟨A,cap,NA,nc,SA,sn,rfl,hB,h1,h2,h3⟩
 have HT2:=Lib.hid (ROk.at hB h1 h2 h3).t
 have HB2:=Lib.hid (HB0.out.trans (hB.mono HB0.out.size))
 have HK2:=Lib.hid (HK0.out.call hB)
 clear hB h1 h2 h3 HB0 HK0 HRD
 obtain ⟨w3,HW3⟩:∃x,Hid (x=w2.alloc (.cells #[.int .i64 r.t.kind,.int .i64 r.t.num,.string r.t.name,.slice A r.t.args.length cap,.slice NA r.names.length nc,.slice SA r.singles.length sn,.int .i64 r.end_] 33)):=⟨_,Lib.hid rfl⟩
 obtain ⟨g3,HG3⟩:∃x,Hid (x=w2.heap.size):=⟨_,Lib.hid rfl⟩
 have hB3:Below w2.heap.size w2 w3:=by rw [HW3.out];exact (Below.refl _ _).alloc (Nat.le_refl _) _
 have HK3:Hid (Bks w3 [(g3,[.int .i64 r.t.kind,.int .i64 r.t.num,.string r.t.name,.slice A r.t.args.length cap,.slice NA r.names.length nc,.slice SA r.singles.length sn,.int .i64 r.end_]),(w.heap.size+1,[.int .i64 t.kind,.int .i64 t.num,.string t.name,.slice B t.args.length cb]),(w.heap.size,[.slice OA on oc,.int .i64 q,.int .i64 u,.bool c,.bool d,.slice CA cn cc])]):=Lib.hid (by rw [HW3.out,HG3.out];exact HK2.out.new [.int .i64 r.t.kind,.int .i64 r.t.num,.string r.t.name,.slice A r.t.args.length cap,.slice NA r.names.length nc,.slice SA r.singles.length sn,.int .i64 r.end_] 33 rfl)
 have HB3:=Lib.hid (HB2.out.trans (hB3.mono HB2.out.size))
 have HT3:=Lib.hid ((HT2.out.keep hB3).mono hB3.size)
 go_upto_region 2 with fail
 rw [←HW3.out,←HG3.out]
 clear hB3 HB2 HK2 HT2 HW3 HG3
 have cc:=HK3.out.all
 simp only [bksAll,bkAll,Nat.zero_add,Nat.reduceAdd,and_true] at cc
 by_cases hk:0≤k
 ·have HE2:Hid (RB=(r.err==7&&r.where_==k)):=Lib.hid (by rw [HE.out,if_pos hk])
  clear HE
  by_cases e1:r.err=7
  rotate_left
  ·have b1:(r.err==7)=false:=by simpa using e1
   have HV:Hid (RB=false):=Lib.hid (by rw [HE2.out,b1];rfl)
   clear e1 HE2
   go_wp2_with fail
   go_ret
   exact ⟨by rw [HV.out];rfl,HB3.out⟩
  have b1:(r.err==7)=true:=by simpa using e1
  have HV:Hid (RB=(r.where_==k)):=Lib.hid (by rw [HE2.out,b1];rfl)
  clear e1 HE2
  go_wp2_with fail
  go_ret
  exact ⟨by rw [HV.out];rfl,HB3.out⟩
 have HE2:Hid (RB=(r.err==0&&sameT r.t t)):=Lib.hid (by rw [HE.out,if_neg hk])
 clear HE
 by_cases e1:r.err=0
 rotate_left
 ·have b1:(r.err==0)=false:=by simpa using e1
  have HV:Hid (RB=false):=Lib.hid (by rw [HE2.out,b1];rfl)
  clear e1 HE2
  go_wp2_with fail
  go_ret
  exact ⟨by rw [HV.out];rfl,HB3.out⟩
 have b1:(r.err==0)=true:=by simpa using e1
 have HV:Hid (RB=sameT r.t t):=Lib.hid (by rw [HE2.out,b1];rfl)
 have HS3:=Lib.hid (HSM.out w3 A cap HB3.out HT3.out)
 clear e1 HE2 HSM
 generalize sameT r.t t=bs at *
 go_wp2_with fail
 refine HS3.out.mono ?_;rintro e w4 ⟨rfl,hB⟩
 have HB4:=Lib.hid (HB3.out.trans (hB.mono HB3.out.size))
 clear hB HB3 HK3 cc HS3
 cases bs
 all_goals
  go_wp2_with fail
  go_ret
  exact ⟨by rw [HV.out];rfl,HB4.out⟩
end Go.Proofs.YtbojljpldcijgaaGreat
namespace Hb
open Go Go.RowKit
def withR:List OpR→List OpR→List OpR×Bool
 | [],P=>(P,true)
 | o::l,P=>if (setR P o).2=0 then withR l (setR P o).1 else (P,false)
theorem six_no {a:Option Addr} {n c:Nat} {p q:Bool} {x y:Int} {A:Option Addr} {i j:Nat}:noOp [Value.slice a n c,.int .i64 x,.int .i64 y,.bool p,.bool q,.slice A i j]:=fun k s z h=>by
 rcases k with _ | _ | _ | _ | _ | _ | k <;> simp at h
theorem two_no {a b:Option Addr} {n c k m g h:Nat} {p q r s:Bool} {x y z u:Int} {A B:Option Addr} {i j e f:Nat}:∀v∈[(g,[Value.slice a n c,.int .i64 x,.int .i64 y,.bool p,.bool q,.slice A i j]),(h,[Value.slice b k m,.int .i64 z,.int .i64 u,.bool r,.bool s,.slice B e f])],noOp v.2:=by
 intro v hv
 simp only [List.mem_cons,List.mem_nil_iff,or_false] at hv
 rcases hv with rfl|rfl
 ·exact six_no
 ·exact six_no
theorem setR_len (P:List OpR) (o:OpR):(setR P o).1.length≤100:=by
 unfold setR
 split
 ·exact Nat.zero_le _
 split
 ·exact Nat.zero_le _
 split
 ·exact Nat.zero_le _
 ·show (newL P o).length≤100
  omega
end Hb
namespace Go.Proofs.YtbojljpldcijgaaGreat
open Go.RowKit Hb
set_option maxRecDepth 100000
set_option linter.unusedSimpArgs false
set_option maxHeartbeats 3200000 in
theorem l_with (A:Option Addr) (n cap:Nat) (l:List OpR) (w:World) (hn:n=l.length) (hm:n≤10) (hO:OpsAt w A l):Calls Tryz.prog 29 #[.slice A n cap] w fun e w'=>∃A' n' c',e=.returned (.tuple #[.agg #[.slice A' n' c',.int .i64 1,.int .i64 1,.bool false,.bool false,.slice none 0 0],.bool (withR l defL).2])∧Below w.heap.size w w'∧Tab w' A' n' c' (withR l defL).1:=by
 have HO:=Lib.hid hO
 have HN:=Lib.hid hn
 have HST:=Lib.hid (fun W=>f_start W)
 have HSE:=Lib.hid (fun A n cap (l:List OpR) (o:OpR) W (h:n≤400) (hT:Tab W A n cap l)=>ops_set A n cap l o.prec o.typ o.name W h hT)
 obtain ⟨R,HR⟩:∃R,Hid (R=withR l defL):=⟨_,Lib.hid rfl⟩
 rw [←HR.out]
 have HB0:=Lib.hid ((Below.refl w.heap.size w).alloc (Nat.le_refl _) (.cells #[.slice none 0 0,.int .i64 0,.int .i64 0,.bool false,.bool false,.slice none 0 0] 27))
 have HK0:=Lib.hid ((Bks.nil w).new [.slice none 0 0,.int .i64 0,.int .i64 0,.bool false,.bool false,.slice none 0 0] 27 rfl)
 clear hO hn
 go_enter Tryz.func29,Tryz.ntmps29
 go_wp2_with fail
 refine (HST.out _).mono ?_;rintro e w1 ⟨g,gc,rfl,hB,hTB⟩
 have HB1:=Lib.hid (HB0.out.trans (hB.mono HB0.out.size))
 have HK1:=Lib.hid (HK0.out.call hB)
 obtain ⟨w2,HW2⟩:∃x,Hid (x=w1.alloc (.cells #[.slice (some ⟨g,0,none⟩) 41 gc,.int .i64 1,.int .i64 1,.bool false,.bool false,.slice none 0 0] 27)):=⟨_,Lib.hid rfl⟩
 obtain ⟨g4,HG4⟩:∃x,Hid (x=w1.heap.size):=⟨_,Lib.hid rfl⟩
 have hB2:Below w1.heap.size w1 w2:=by rw [HW2.out];exact (Below.refl _ _).alloc (Nat.le_refl _) _
 have HB2:=Lib.hid (HB1.out.trans (hB2.mono HB1.out.size))
 have HK2:Hid (Bks w2 [(g4,[.slice (some ⟨g,0,none⟩) 41 gc,.int .i64 1,.int .i64 1,.bool false,.bool false,.slice none 0 0]),(w.heap.size,[.slice none 0 0,.int .i64 0,.int .i64 0,.bool false,.bool false,.slice none 0 0])]):=Lib.hid (by rw [HW2.out,HG4.out];exact HK1.out.new [.slice (some ⟨g,0,none⟩) 41 gc,.int .i64 1,.int .i64 1,.bool false,.bool false,.slice none 0 0] 27 rfl)
 have HT2:=Lib.hid (hTB.below hB2)
 have HGL:Hid (w.heap.size<g4):=Lib.hid (by rw [HG4.out];exact HK1.out.lt 0 rfl)
 go_upto_region 2 with fail
 rw [←HW2.out,←HG4.out]
 clear hB hTB hB2 HB0 HK0 HB1 HK1 HST HW2 HG4
 go_wp2_with fail
 go_loopw [12] (fun iv wr=>∃(i:Nat) (P:List OpR) (A1:Option Addr) (n1 c1:Nat),iv=.int .i64 i∧i≤n∧Hid (R=withR (l.drop i) P)∧P.length≤400∧Hid (Tab wr A1 n1 c1 P)∧Hid (Bks wr [(g4,[.slice A1 n1 c1,.int .i64 1,.int .i64 1,.bool false,.bool false,.slice none 0 0]),(w.heap.size,[.slice none 0 0,.int .i64 0,.int .i64 0,.bool false,.bool false,.slice none 0 0])])∧Hid (Below w.heap.size w wr)) (fun iv _=>n-(intOf iv).toNat)
 case atStart=>exact ⟨0,defL,some ⟨g,0,none⟩,41,gc,rfl,Nat.zero_le _,Lib.hid HR.out,Nat.le_trans (Nat.le_of_eq HT2.out.len.symm) (by decide),HT2,HK2,HB2⟩
 case round=>
  obtain ⟨i,P,A1,n1,c1,rfl,hi,HW,hPl,HT,HK,HB⟩:=hrel
  have cc:=HK.out.all
  simp only [bksAll,bkAll,Nat.zero_add,Nat.reduceAdd,and_true] at cc
  by_cases hin:i<n
  ·have hil:i<l.length:=by rw [←HN.out];exact hin
   obtain ⟨b,off,rfl,hb,c0,c1',c2⟩:=HO.out i hil
   obtain ⟨o,HOI⟩:∃o,Hid (o=l[i]):=⟨_,Lib.hid rfl⟩
   rw [←HOI.out] at c0 c1' c2
   have c0:=(HB.out.cell (p:=⟨_,_,none⟩) hb).trans c0
   have c1':=(HB.out.cell (p:=⟨_,_,none⟩) hb).trans c1'
   have c2:=(HB.out.cell (p:=⟨_,_,none⟩) hb).trans c2
   have hdl:=dltT hin
   obtain ⟨k0,k1⟩:=natLt hin
   have hw1:=Lib.hid (wrapN hin (by omega))
   obtain ⟨w3,HW3⟩:∃x,Hid (x=wr.alloc (.cells #[.string o.name,.int .i64 o.typ,.int .i64 o.prec] 61)):=⟨_,Lib.hid rfl⟩
   obtain ⟨g3,HG3⟩:∃x,Hid (x=wr.heap.size):=⟨_,Lib.hid rfl⟩
   have hB3:Below wr.heap.size wr w3:=by rw [HW3.out];exact (Below.refl _ _).alloc (Nat.le_refl _) _
   have HK3:Hid (Bks w3 ((g3,[.string o.name,.int .i64 o.typ,.int .i64 o.prec])::[(g4,[.slice A1 n1 c1,.int .i64 1,.int .i64 1,.bool false,.bool false,.slice none 0 0]),(w.heap.size,[.slice none 0 0,.int .i64 0,.int .i64 0,.bool false,.bool false,.slice none 0 0])])):=Lib.hid (by rw [HW3.out,HG3.out];exact HK.out.new [.string o.name,.int .i64 o.typ,.int .i64 o.prec] 61 rfl)
   have HB3:=Lib.hid (HB.out.trans (hB3.mono HB.out.size))
   have HT3:=Lib.hid (HT.out.below hB3)
   have HJ3:=Lib.hid (HK.out.call hB3)
   have HC3:=Lib.hid (HSE.out A1 n1 c1 P o w3 (by rw [HT.out.len];exact hPl) HT3.out)
   go_upto_region 5 with fail
   rw [←HW3.out,←HG3.out]
   clear hB3 HW3 HG3 cc c0 c1' c2 hb HK HB HT
   have cc:=HK3.out.all
   simp only [bksAll,bkAll,Nat.zero_add,Nat.reduceAdd,and_true] at cc
   go_wp2_with fail
   refine HC3.out.mono ?_;rintro e w5 ⟨A2,n2,c2,rfl,hB,hT⟩
   have HK5:=Lib.hid (HK3.out.call hB)
   have HB5:=Lib.hid (HB3.out.trans (hB.mono HB3.out.size))
   have HT5:=Lib.hid hT
   have HP5:=Lib.hid (HT3.out.below hB)
   have HJ5:=Lib.hid (HJ3.out.call hB)
   clear hB hT cc HK3 HB3 HT3 HC3 HJ3
   have cc:=HK5.out.all
   simp only [bksAll,bkAll,Nat.zero_add,Nat.reduceAdd,and_true] at cc
   by_cases he:(setR P o).2=0
   ·have hb0:((setR P o).2 != 0)=false:=by simpa using he
    have HV:Hid (R=withR (l.drop (i+1)) (setR P o).1):=Lib.hid (by
     rw [HW.out,List.drop_eq_getElem_cons hil,←HOI.out]
     exact if_pos he)
    have hln:=setR_len P o
    clear HW he
    go_wp2_with fail
    obtain ⟨W9,HW9⟩:∃x,Hid (x=w5.setCell ⟨g4,0,none⟩ (.slice A2 n2 c2)):=⟨_,Lib.hid rfl⟩
    rw [←HW9.out]
    have HJ9:Hid (Bks W9 [(g4,[.slice A2 n2 c2,.int .i64 1,.int .i64 1,.bool false,.bool false,.slice none 0 0]),(w.heap.size,[.slice none 0 0,.int .i64 0,.int .i64 0,.bool false,.bool false,.slice none 0 0])]):=Lib.hid (by rw [HW9.out];exact HJ5.out.set 0 0 rfl _)
    have HB9:Hid (Below w.heap.size w W9):=Lib.hid (by rw [HW9.out];exact HB5.out.setCell (p:=⟨g4,0,none⟩) (Nat.le_of_lt HGL.out) _)
    have HT9:Hid (Tab W9 A2 n2 c2 (setR P o).1):=Lib.hid (by
     rw [HW9.out]
     exact tab_boxes HT5.out HJ5.out two_no (by simp) fun k hk=>heap_setCell_other _ _ _ _ (hk (g4,[.slice A1 n1 c1,.int .i64 1,.int .i64 1,.bool false,.bool false,.slice none 0 0]) (List.mem_cons_self ..)))
    clear HW9 HJ5 HB5 HT5 HP5 HK5 cc
    go_roundw
    case rel=>exact ⟨i+1,(setR P o).1,A2,n2,c2,by go_num,hin,HV,Nat.le_trans hln (by decide),HT9,HJ9,HB9⟩
    case measure=>simp [intOf] <;> omega
   ·have hb0:((setR P o).2 != 0)=true:=by simpa using he
    have HV:Hid (R=(P,false)):=Lib.hid (by
     rw [HW.out,List.drop_eq_getElem_cons hil,←HOI.out]
     exact if_neg he)
    clear HW he
    go_wp2_with fail
    have hld:=HJ5.out.put 1 rfl [.slice A1 n1 c1,.int .i64 1,.int .i64 1,.bool false,.bool false,.slice none 0 0] rfl
    have hl:=(hld.at 1 _ _ rfl).all0
    simp only [setL,bkAll,Nat.zero_add,Nat.reduceAdd,and_true] at hl
    have hbe:Below w.heap.size w (setL w5 w.heap.size 0 [.slice A1 n1 c1,.int .i64 1,.int .i64 1,.bool false,.bool false,.slice none 0 0]):=setL_below (Nat.le_refl _) _ _ _ HB5.out
    have hte:Tab (setL w5 w.heap.size 0 [.slice A1 n1 c1,.int .i64 1,.int .i64 1,.bool false,.bool false,.slice none 0 0]) A1 n1 c1 P:=tab_boxes HP5.out HJ5.out two_no (by rw [setL_size];exact Nat.le_refl _) fun k hk=>setL_other (hk (w.heap.size,[.slice none 0 0,.int .i64 0,.int .i64 0,.bool false,.bool false,.slice none 0 0]) (by simp)) _ _ _
    refine bodyPost_ret (v:=.tuple #[.agg #[.slice A1 n1 c1,.int .i64 1,.int .i64 1,.bool false,.bool false,.slice none 0 0],.bool false]) (by simp [results,Tryz.results29,go_sem,hl]) rfl ?_
    exact ⟨A1,n1,c1,by rw [HV.out],hbe,by rw [HV.out];exact hte⟩
  ·have hie:=notlt hin hi
   have hdl:=dltF hin
   have HV:Hid (R=(P,true)):=Lib.hid (by rw [HW.out,hie,HN.out,List.drop_length];rfl)
   clear hi HW hie
   go_wp2_with fail
   have hld:=HK.out.put 1 rfl [.slice A1 n1 c1,.int .i64 1,.int .i64 1,.bool false,.bool false,.slice none 0 0] rfl
   have hl:=(hld.at 1 _ _ rfl).all0
   simp only [setL,bkAll,Nat.zero_add,Nat.reduceAdd,and_true] at hl
   have hbe:Below w.heap.size w (setL wr w.heap.size 0 [.slice A1 n1 c1,.int .i64 1,.int .i64 1,.bool false,.bool false,.slice none 0 0]):=setL_below (Nat.le_refl _) _ _ _ HB.out
   have hte:Tab (setL wr w.heap.size 0 [.slice A1 n1 c1,.int .i64 1,.int .i64 1,.bool false,.bool false,.slice none 0 0]) A1 n1 c1 P:=tab_boxes HT.out HK.out two_no (by rw [setL_size];exact Nat.le_refl _) fun k hk=>setL_other (hk (w.heap.size,[.slice none 0 0,.int .i64 0,.int .i64 0,.bool false,.bool false,.slice none 0 0]) (by simp)) _ _ _
   refine bodyPost_ret (v:=.tuple #[.agg #[.slice A1 n1 c1,.int .i64 1,.int .i64 1,.bool false,.bool false,.slice none 0 0],.bool true]) (by simp [results,Tryz.results29,go_sem,hl]) rfl ?_
   exact ⟨A1,n1,c1,by rw [HV.out],hbe,by rw [HV.out];exact hte⟩
end Go.Proofs.YtbojljpldcijgaaGreat
namespace Hb
open Go Go.RowKit
theorem ins_lenR (o:OpR):∀l:List OpR,(insO o l).length=l.length+1
 | []=>rfl
 | a::l=>by
  unfold insO
  split
  ·rfl
  ·rw [List.length_cons,ins_lenR o l,List.length_cons]
theorem new_lenR (l:List OpR) (o:OpR):(newL l o).length≤l.length+1:=by
 unfold newL
 split
 ·rw [ins_lenR]
  have:=List.length_filter_le (fun a=>!eqOp o a) l
  unfold restL
  omega
 ·have:=List.length_filter_le (fun a=>!eqOp o a) l
  unfold restL
  omega
theorem new_sets {l:List OpR} {o:OpR} (hv:opsValid l=true) (hl:l.length≤99) (hp:0<o.prec∧o.prec≤1200) (hc:¬clsOp o.typ=0) (hs:o.name.size≤100) (hx:isN o [44]=false∧isN o [91,93]=false∧isN o [123,125]=false∧isN o [124]=false) (hf:∀c,findR l o.name c=none):Sets l o:=(setR_iff l o).1 (by
 have h1:fixedS l o=false:=by
  unfold fixedS
  rw [hx.1,hx.2.1,hx.2.2.1,hx.2.2.2,hf]
  simp
 have h2:=new_lenR l o
 unfold setR
 rw [hv,decide_eq_false (by omega),decide_eq_false (by omega),decide_eq_false (by omega),h1]
 have h3:(clsOp o.typ==0)=false:=by simpa using hc
 rw [h3,if_neg (by simp),if_neg (by simp),if_neg (by omega)])
theorem name_eq {a b:ByteArray} (h:a.toList=b.toList):a=b:=by
 rw [tl_dataO,tl_dataO] at h
 exact ByteArray.ext (Array.toList_inj.1 h)
theorem one_find {l:List OpR} {o:OpR} (h:Sets l o) (hp:0<o.prec) (name:ByteArray) (c:Int):findR (newL l o) name c=if c=clsOp o.typ∧name.toList=o.name.toList then some o else findR l name c:=by
 by_cases hc:c=clsOp o.typ∧name.toList=o.name.toList
 ·rw [if_pos hc,hc.1,name_eq hc.2,h.found,if_pos hp]
 ·rw [if_neg hc];exact h.other name c hc
theorem two_find {l:List OpR} {o p:OpR} (h:Sets l o) (hp:0<o.prec) (h2:Sets (newL l o) p) (hq:0<p.prec) (name:ByteArray) (c:Int):findR (newL (newL l o) p) name c=if c=clsOp p.typ∧name.toList=p.name.toList then some p else if c=clsOp o.typ∧name.toList=o.name.toList then some o else findR l name c:=by
 rw [one_find h2 hq,one_find h hp]
theorem bad_of {L:List UInt8} {P:List OpR} (hP:opsValid P=true) (hL:L.length≤16384):badArgs L 0 ⟨P,1,1,false,false,[]⟩=false:=by
 have h:(⟨P,1,1,false,false,[]⟩:Sy).ok=true:=by
  show (opsValid P&&(flOk ⟨1,1,false,false⟩&&pvalid []))=true
  rw [hP];decide
 exact (bad_at L 0 ⟨P,1,1,false,false,[]⟩ (Nat.zero_le _) hL).trans (by rw [h];rfl)
theorem toks_of (L:List UInt8) (P:List OpR):toksOf L 0 ⟨P,1,1,false,false,[]⟩=toksOf L 0 syD:=rfl
theorem is_yes {L:List UInt8} {P Q:List OpR} {t:Tm} {m:Nat} (hP:opsValid P=true) (hL:L.length≤16384) (he:(toksOf L 0 syD).err=0) (hf:∀i c,findR P (tokA (toksOf L 0 syD).l i).txt c=findR Q (tokA (toksOf L 0 syD).l i).txt c) (hw:wholeG ⟨(toksOf L 0 syD).l,Q,1⟩=.ok (t,m)) (hv:validT t=true):isR L ⟨P,1,1,false,false,[]⟩ t (-1)=true:=by
 have hr:readS L 0 ⟨P,1,1,false,false,[]⟩=readOk ⟨(toksOf L 0 syD).l,P,1⟩ t m:=by
  unfold readS
  rw [bad_of hP hL,if_neg (by simp),toks_of,if_neg (by rw [he];simp)]
  unfold readT
  rw [alike_tab _ Q P 1 hf,hw]
 unfold isR
 rw [if_neg (by decide),hr]
 unfold readOk
 rw [if_pos hv]
 exact same_refl hv
theorem is_no {L:List UInt8} {P Q:List OpR} {t:Tm} {j k:Nat} (hP:opsValid P=true) (hL:L.length≤16384) (he:(toksOf L 0 syD).err=0) (hf:∀i c,findR P (tokA (toksOf L 0 syD).l i).txt c=findR Q (tokA (toksOf L 0 syD).l i).txt c) (hw:wholeG ⟨(toksOf L 0 syD).l,Q,1⟩=.error j) (ha:(tokA (toksOf L 0 syD).l j).r.at_=k):isR L ⟨P,1,1,false,false,[]⟩ t k=true:=by
 have hr:readS L 0 ⟨P,1,1,false,false,[]⟩=rdErr k 7:=by
  unfold readS
  rw [bad_of hP hL,if_neg (by simp),toks_of,if_neg (by rw [he];simp)]
  unfold readT
  rw [alike_tab _ Q P 1 hf,hw]
  simp only [RE.at]
  rw [ha]
 unfold isR
 rw [if_pos (by omega),hr]
 unfold rdErr
 simp
end Hb
namespace Hb
open Go Go.RowKit
set_option maxRecDepth 100000
def nOO:ByteArray:=⟨#[111,111]⟩
theorem all_same {α:Type} {f:Nat→α} {b:α} {n:Nat} (h:(List.range n).map f=List.replicate n b) {k:Nat} (hk:k<n):f k=b :=
 by
 have h2:=congrArg (fun l=>l[k]?) h
 simp only [List.getElem?_map,List.getElem?_range hk,List.getElem?_replicate,if_pos hk,Option.map_some] at h2
 exact Option.some.inj h2
theorem as_1 {k:Nat} (hk:k<1200):wholeG ⟨(toksOf [97,32,111,111,32,98,32,111,111,32,99,46] 0 syD).l,[⟨nOO,1,(k:Int)+1⟩],1⟩=.error 3 :=
 all_same (f:=fun k:Nat=>wholeG ⟨(toksOf [97,32,111,111,32,98,32,111,111,32,99,46] 0 syD).l,[⟨nOO,1,(k:Int)+1⟩],1⟩) (b:=.error 3) (n:=1200) (by kernel_rfl) hk
theorem as_2 {k:Nat} (hk:k<1200):wholeG ⟨(toksOf [97,32,111,111,32,98,32,111,111,32,99,46] 0 syD).l,[⟨nOO,2,(k:Int)+1⟩],1⟩=.ok ((stT ⟨#[111,111]⟩ [(atT ⟨#[97]⟩),(stT ⟨#[111,111]⟩ [(atT ⟨#[98]⟩),(atT ⟨#[99]⟩)])]),5) :=
 all_same (f:=fun k:Nat=>wholeG ⟨(toksOf [97,32,111,111,32,98,32,111,111,32,99,46] 0 syD).l,[⟨nOO,2,(k:Int)+1⟩],1⟩) (b:=.ok ((stT ⟨#[111,111]⟩ [(atT ⟨#[97]⟩),(stT ⟨#[111,111]⟩ [(atT ⟨#[98]⟩),(atT ⟨#[99]⟩)])]),5)) (n:=1200) (by kernel_rfl) hk
theorem as_3 {k:Nat} (hk:k<1200):wholeG ⟨(toksOf [97,32,111,111,32,98,32,111,111,32,99,46] 0 syD).l,[⟨nOO,3,(k:Int)+1⟩],1⟩=.ok ((stT ⟨#[111,111]⟩ [(stT ⟨#[111,111]⟩ [(atT ⟨#[97]⟩),(atT ⟨#[98]⟩)]),(atT ⟨#[99]⟩)]),5) :=
 all_same (f:=fun k:Nat=>wholeG ⟨(toksOf [97,32,111,111,32,98,32,111,111,32,99,46] 0 syD).l,[⟨nOO,3,(k:Int)+1⟩],1⟩) (b:=.ok ((stT ⟨#[111,111]⟩ [(stT ⟨#[111,111]⟩ [(atT ⟨#[97]⟩),(atT ⟨#[98]⟩)]),(atT ⟨#[99]⟩)]),5)) (n:=1200) (by kernel_rfl) hk
theorem as_4 {k:Nat} (hk:k<1200):wholeG ⟨(toksOf [111,111,32,111,111,32,97,46] 0 syD).l,[⟨nOO,4,(k:Int)+1⟩],1⟩=.ok ((stT ⟨#[111,111]⟩ [(stT ⟨#[111,111]⟩ [(atT ⟨#[97]⟩)])]),3) :=
 all_same (f:=fun k:Nat=>wholeG ⟨(toksOf [111,111,32,111,111,32,97,46] 0 syD).l,[⟨nOO,4,(k:Int)+1⟩],1⟩) (b:=.ok ((stT ⟨#[111,111]⟩ [(stT ⟨#[111,111]⟩ [(atT ⟨#[97]⟩)])]),3)) (n:=1200) (by kernel_rfl) hk
theorem as_5 {k:Nat} (hk:k<1200):wholeG ⟨(toksOf [111,111,32,111,111,32,97,46] 0 syD).l,[⟨nOO,5,(k:Int)+1⟩],1⟩=.error 2 :=
 all_same (f:=fun k:Nat=>wholeG ⟨(toksOf [111,111,32,111,111,32,97,46] 0 syD).l,[⟨nOO,5,(k:Int)+1⟩],1⟩) (b:=.error 2) (n:=1200) (by kernel_rfl) hk
theorem as_7 {k:Nat} (hk:k<1200):wholeG ⟨(toksOf [97,32,111,111,32,111,111,46] 0 syD).l,[⟨nOO,7,(k:Int)+1⟩],1⟩=.ok ((stT ⟨#[111,111]⟩ [(stT ⟨#[111,111]⟩ [(atT ⟨#[97]⟩)])]),3) :=
 all_same (f:=fun k:Nat=>wholeG ⟨(toksOf [97,32,111,111,32,111,111,46] 0 syD).l,[⟨nOO,7,(k:Int)+1⟩],1⟩) (b:=.ok ((stT ⟨#[111,111]⟩ [(stT ⟨#[111,111]⟩ [(atT ⟨#[97]⟩)])]),3)) (n:=1200) (by kernel_rfl) hk
theorem as_6 {k:Nat} (hk:k<1200):wholeG ⟨(toksOf [97,32,111,111,32,111,111,46] 0 syD).l,[⟨nOO,6,(k:Int)+1⟩],1⟩=.error 2 :=
 all_same (f:=fun k:Nat=>wholeG ⟨(toksOf [97,32,111,111,32,111,111,46] 0 syD).l,[⟨nOO,6,(k:Int)+1⟩],1⟩) (b:=.error 2) (n:=1200) (by kernel_rfl) hk
def nPP:ByteArray:=⟨#[112,112]⟩
theorem find_no {l:List OpR} {s:ByteArray} (h:l.all (fun o=>!(o.name.toList==s.toList))=true) (c:Int):findR l s c=none:=by
 unfold findR
 split
 ·rw [List.find?_eq_none]
  intro o ho
  rw [List.all_eq_true] at h
  have h1:=h o ho
  unfold isOp
  cases h2:o.name.toList==s.toList
  ·simp
  ·rw [h2] at h1;cases h1
 ·rfl
theorem tok_all {T:List NextR} {p:NextR→Prop} (h0:0<T.length) (h:∀t∈T,p t) (i:Nat):p (tokA T i):=by
 have hl:min i (T.length-1)<T.length:=by omega
 unfold tokA
 rw [List.getD_eq_getElem?_getD,List.getElem?_eq_getElem hl]
 exact h _ (List.getElem_mem hl)
theorem one_valid {o:OpR} (h:opOk o=true):opsValid [o]=true:=by
 unfold opsValid okJ
 simp [List.range_succ,h]
theorem find_one1 {o:OpR} (h:opOk o=true) (s:ByteArray) (c:Int):findR [o] s c=if c=clsOp o.typ∧s.toList=o.name.toList then some o else none:=by
 rw [findR_valid (one_valid h),List.find?_singleton]
 have e:isOp s c o=decide (c=clsOp o.typ∧s.toList=o.name.toList):=by
  unfold isOp
  rw [Bool.eq_iff_iff,Bool.and_eq_true,beq_iff_eq,beq_iff_eq,decide_eq_true_iff]
  exact ⟨fun h=>⟨h.2.symm,h.1.symm⟩,fun h=>⟨h.2.symm,h.1.symm⟩⟩
 rw [e]
 by_cases hh:c=clsOp o.typ∧s.toList=o.name.toList
 ·rw [decide_eq_true hh,if_pos hh];rfl
 ·rw [decide_eq_false hh,if_neg hh];rfl
theorem cls_ne {t:Int} (h:1≤t∧t≤7):¬clsOp t=0:=by
 unfold clsOp
 repeat' split
 all_goals omega
def newNm (s:ByteArray):Bool:=decide (s.size≤100)&&(!(s.toList==[44])&&(!(s.toList==[91,93])&&(!(s.toList==[123,125]) && !(s.toList==[124]))))
theorem new_sets2 {l:List OpR} {o:OpR} (hv:opsValid l=true) (hl:l.length≤99) (ht:1≤o.typ∧o.typ≤7) (hp:1≤o.prec∧o.prec≤1200) (hn:newNm o.name=true) (hf:∀c,findR l o.name c=none):Sets l o:=by
 unfold newNm at hn
 simp only [Bool.and_eq_true,decide_eq_true_iff,Bool.not_eq_true'] at hn
 exact new_sets hv hl ⟨by omega,hp.2⟩ (cls_ne ht) hn.1 ⟨hn.2.1,hn.2.2.1,hn.2.2.2.1,hn.2.2.2.2⟩ hf
def noIn (l:List OpR) (s:ByteArray):Bool:=l.all (fun o=>!(o.name.toList==s.toList))
structure Two (P:List OpR) (o p:OpR):Prop where
 with_:withR [o,p] defL=(P,true)
 val:opsValid P=true
 len:P.length≤43
 ok1:opOk o=true
 ok2:opOk p=true
 find:∀s c,findR P s c=if c=clsOp p.typ∧s.toList=p.name.toList then some p else if c=clsOp o.typ∧s.toList=o.name.toList then some o else findR defL s c
theorem two_new {o p:OpR} (ht:1≤o.typ∧o.typ≤7) (hp:1≤o.prec∧o.prec≤1200) (hn:newNm o.name=true) (hu:1≤p.typ∧p.typ≤7) (hq:1≤p.prec∧p.prec≤1200) (hm:newNm p.name=true) (hno:noIn defL o.name=true) (hnp:noIn defL p.name=true) (hne:(p.name.toList==o.name.toList)=false):Two (newL (newL defL o) p) o p:=by
 have hl:defL.length=41:=by decide +kernel
 have h1:=new_sets2 defL_ok (by omega) ht hp hn (find_no hno)
 have hl1:=new_lenR defL o
 have hne2:¬p.name.toList=o.name.toList:=by simpa using hne
 have h2:=new_sets2 (l:=newL defL o) h1.valid (by omega) hu hq hm (fun c=>by rw [one_find h1 (by omega),if_neg (fun h=>hne2 h.2),find_no hnp])
 have hl2:=new_lenR (newL defL o) p
 refine ⟨?_,h2.valid,by omega,h1.ok (by omega),h2.ok (by omega),fun s c=>two_find h1 (by omega) h2 (by omega) s c⟩
 unfold withR
 rw [if_pos ((setR_iff _ _).2 h1),setR_new h1]
 unfold withR
 rw [if_pos ((setR_iff _ _).2 h2),setR_new h2]
 rfl
theorem nm_oo:newNm nOO=true:=by decide +kernel
theorem nm_pp:newNm nPP=true:=by decide +kernel
theorem no_oo:noIn defL nOO=true:=by decide +kernel
theorem no_pp:noIn defL nPP=true:=by decide +kernel
theorem ne_po:(nPP.toList==nOO.toList)=false:=by decide +kernel
def ckT (T:List NextR) (x:ByteArray):Bool:=T.all fun t=>noIn defL t.txt && !(t.txt.toList==x.toList)
theorem two_small {P:List OpR} {o p:OpR} (h:Two P o p) {T:List NextR} (h0:0<T.length) (hT:ckT T p.name=true) (i:Nat) (c:Int):findR P (tokA T i).txt c=findR [o] (tokA T i).txt c:=by
 refine tok_all (p:=fun t=>findR P t.txt c=findR [o] t.txt c) h0 (fun t ht=>?_) i
 unfold ckT at hT
 rw [List.all_eq_true] at hT
 have h1:=hT t ht
 rw [Bool.and_eq_true,Bool.not_eq_true'] at h1
 have h2:¬t.txt.toList=p.name.toList:=by simpa using h1.2
 show findR P t.txt c=findR [o] t.txt c
 rw [h.find,if_neg (fun h=>h2 h.2),find_one1 h.ok1,find_no h1.1]
theorem toks_n1:ckT (toksOf [97,32,111,111,32,98,32,111,111,32,99,46] 0 syD).l nPP=true:=by decide +kernel
theorem toks_n2:ckT (toksOf [111,111,32,111,111,32,97,46] 0 syD).l nPP=true:=by decide +kernel
theorem toks_n3:ckT (toksOf [97,32,111,111,32,111,111,46] 0 syD).l nPP=true:=by decide +kernel
section
variable {P:List OpR} {k:Nat} {p:OpR}
theorem assoc_1 (h:Two P ⟨nOO,1,(k:Int)+1⟩ p) (hk:k<1200) (hp:p.name=nPP) (t:Tm):isR [97,32,111,111,32,98,32,111,111,32,99,46] ⟨P,1,1,false,false,[]⟩ t 7=true :=
 is_no (k:=7) h.val (by decide) (by kernel_rfl) (two_small h (by decide +kernel) (by rw [hp];exact toks_n1)) (as_1 hk) (by kernel_rfl)
theorem assoc_2 (h:Two P ⟨nOO,2,(k:Int)+1⟩ p) (hk:k<1200) (hp:p.name=nPP):isR [97,32,111,111,32,98,32,111,111,32,99,46] ⟨P,1,1,false,false,[]⟩ (stT ⟨#[111,111]⟩ [(atT ⟨#[97]⟩),(stT ⟨#[111,111]⟩ [(atT ⟨#[98]⟩),(atT ⟨#[99]⟩)])]) (-1)=true :=
 is_yes h.val (by decide) (by kernel_rfl) (two_small h (by decide +kernel) (by rw [hp];exact toks_n1)) (as_2 hk) (chk_valid (n:=5) (by kernel_rfl) (by decide))
theorem assoc_3 (h:Two P ⟨nOO,3,(k:Int)+1⟩ p) (hk:k<1200) (hp:p.name=nPP):isR [97,32,111,111,32,98,32,111,111,32,99,46] ⟨P,1,1,false,false,[]⟩ (stT ⟨#[111,111]⟩ [(stT ⟨#[111,111]⟩ [(atT ⟨#[97]⟩),(atT ⟨#[98]⟩)]),(atT ⟨#[99]⟩)]) (-1)=true :=
 is_yes h.val (by decide) (by kernel_rfl) (two_small h (by decide +kernel) (by rw [hp];exact toks_n1)) (as_3 hk) (chk_valid (n:=5) (by kernel_rfl) (by decide))
theorem assoc_4 (h:Two P ⟨nOO,4,(k:Int)+1⟩ p) (hk:k<1200) (hp:p.name=nPP):isR [111,111,32,111,111,32,97,46] ⟨P,1,1,false,false,[]⟩ (stT ⟨#[111,111]⟩ [(stT ⟨#[111,111]⟩ [(atT ⟨#[97]⟩)])]) (-1)=true :=
 is_yes h.val (by decide) (by kernel_rfl) (two_small h (by decide +kernel) (by rw [hp];exact toks_n2)) (as_4 hk) (chk_valid (n:=3) (by kernel_rfl) (by decide))
theorem assoc_5 (h:Two P ⟨nOO,5,(k:Int)+1⟩ p) (hk:k<1200) (hp:p.name=nPP) (t:Tm):isR [111,111,32,111,111,32,97,46] ⟨P,1,1,false,false,[]⟩ t 6=true :=
 is_no (k:=6) h.val (by decide) (by kernel_rfl) (two_small h (by decide +kernel) (by rw [hp];exact toks_n2)) (as_5 hk) (by kernel_rfl)
theorem assoc_6 (h:Two P ⟨nOO,6,(k:Int)+1⟩ p) (hk:k<1200) (hp:p.name=nPP) (t:Tm):isR [97,32,111,111,32,111,111,46] ⟨P,1,1,false,false,[]⟩ t 5=true :=
 is_no (k:=5) h.val (by decide) (by kernel_rfl) (two_small h (by decide +kernel) (by rw [hp];exact toks_n3)) (as_6 hk) (by kernel_rfl)
theorem assoc_7 (h:Two P ⟨nOO,7,(k:Int)+1⟩ p) (hk:k<1200) (hp:p.name=nPP):isR [97,32,111,111,32,111,111,46] ⟨P,1,1,false,false,[]⟩ (stT ⟨#[111,111]⟩ [(stT ⟨#[111,111]⟩ [(atT ⟨#[97]⟩)])]) (-1)=true :=
 is_yes h.val (by decide) (by kernel_rfl) (two_small h (by decide +kernel) (by rw [hp];exact toks_n3)) (as_7 hk) (chk_valid (n:=3) (by kernel_rfl) (by decide))
end
end Hb
