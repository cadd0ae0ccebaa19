/- Parts of the proof. -/
import Derived.Test.YtbojljpldcijgaaGreatH01
import Derived.Test.YtbojljpldcijgaaGreatH23
import Derived.Test.YtbojljpldcijgaaGreatH08
import Derived.Test.YtbojljpldcijgaaGreatH22
import Derived.Test.YtbojljpldcijgaaGreatH09
namespace Hb
open Go Go.RowKit
noncomputable def sameRd (r s:RdR):Bool:=sameT r.t s.t&&(decide (r.names=s.names)&&(decide (r.singles=s.singles)&&r.end_==s.end_))
def sumO:List (Option Nat)→Option Nat
 | []=>some 0
 | none::_=>none
 | some a::l=>match sumO l with | none=>none | some b=>some (a+b)
def chkF:Nat→Tm→Option Nat
 | 0,_=>none
 | f+1,.mk k n s l=>if nodeOk (.mk k n s l)=true then (match sumO (l.map (chkF f)) with | none=>none | some b=>some (b+1)) else none
theorem sumO_ok:∀(l:List Tm) (g:Tm→Option Nat) (b:Nat),(∀t n,g t=some n→n=t.nodes∧t.allOk=true)→sumO (l.map g)=some b→b=(l.map Tm.nodes).sum∧l.all Tm.allOk=true
 | [],_,b,_,h=>by injection h with h;exact ⟨h.symm,rfl⟩
 | t::l,g,b,hg,h=>by
  rw [List.map_cons] at h
  cases ht:g t with
  | none=>rw [ht] at h;cases h
  | some a=>
   rw [ht] at h
   simp only [sumO] at h
   cases hs:sumO (l.map g) with
   | none=>rw [hs] at h;cases h
   | some c=>
    rw [hs] at h
    injection h with h
    obtain ⟨h1,h2⟩:=sumO_ok l g c hg hs
    obtain ⟨h3,h4⟩:=hg t a ht
    exact ⟨by rw [List.map_cons,List.sum_cons,←h3,←h1,←h],by rw [List.all_cons,h4,h2];rfl⟩
theorem chk_ok:∀(f:Nat) (t:Tm) (n:Nat),chkF f t=some n→n=t.nodes∧t.allOk=true
 | 0,_,_,h=>by cases h
 | f+1,.mk k m s l,n,h=>by
  unfold chkF at h
  split at h
  ·rename_i hk
   cases hs:sumO (l.map (chkF f)) with
   | none=>rw [hs] at h;cases h
   | some b=>
    rw [hs] at h
    injection h with h
    obtain ⟨h1,h2⟩:=sumO_ok l (chkF f) b (fun t n h=>chk_ok f t n h) hs
    rw [Tm.nodes_eq,Tm.allOk_eq]
    exact ⟨by show n=1+(l.map Tm.nodes).sum;omega,by rw [hk];show (true&&l.all Tm.allOk)=true;rw [h2];rfl⟩
  ·cases h
theorem chk_valid {t:Tm} {n:Nat} (h:chkF 30 t=some n) (hn:n≤2000):validT t=true:=by
 obtain ⟨h1,h2⟩:=chk_ok 30 t n h
 unfold validT
 rw [h2,decide_eq_true (by omega)];rfl
def syD:Sy:=⟨defL,1,1,false,false,[]⟩
theorem read_closed {L:List UInt8} {at_:Int} {s:Sy} {t:Tm} {m n:Nat} {nm sg:List (List UInt8×Nat)} {en:Int}
  (h:(badArgs L at_ s,(toksOf L at_ s).err,wholeG ⟨(toksOf L at_ s).l,s.P,s.q⟩,chkF 30 t,(vsAt (toksOf L at_ s).l m).m,sglV (vsAt (toksOf L at_ s).l m),(tokA (toksOf L at_ s).l m).r.end_)=(false,(0:Int),(.ok (t,m):RR (Tm×Nat)),some n,nm,sg,en)) (hn:n≤2000):readS L at_ s=⟨t,nm,sg,en,0,0⟩:=by
 simp only [Prod.mk.injEq] at h
 obtain ⟨h1,h2,h3,h4,h5,h6,h7⟩:=h
 unfold readS
 rw [h1,if_neg (by simp),h2,if_neg (by simp)]
 unfold readT
 rw [h3]
 simp only
 unfold readOk
 rw [chk_valid h4 hn,if_pos rfl]
 simp only [RE.at,h5,h6,h7]
theorem read_wrong {L:List UInt8} {at_:Int} {s:Sy} {k:Nat} {a:Int}
  (h:(badArgs L at_ s,(toksOf L at_ s).err,wholeG ⟨(toksOf L at_ s).l,s.P,s.q⟩,(tokA (toksOf L at_ s).l k).r.at_)=(false,(0:Int),(.error k:RR (Tm×Nat)),a)):readS L at_ s=rdErr a 7:=by
 simp only [Prod.mk.injEq] at h
 obtain ⟨h1,h2,h3,h4⟩:=h
 unfold readS
 rw [h1,if_neg (by simp),h2,if_neg (by simp)]
 unfold readT
 rw [h3]
 simp only [RE.at,h4]
noncomputable def givesR (L:List UInt8) (t:Tm):Bool:=(readS L 0 syD).err==0&&((readS L 0 syD).where_==0&&(sameT (readS L 0 syD).t t&&(readS L 0 syD).end_==L.length))
noncomputable def wrongR (L:List UInt8) (k:Int):Bool:=(readS L 0 syD).err==7&&((readS L 0 syD).where_==k&&sameRd (readS L 0 syD) (rdErr 0 0))
theorem same_refl {t:Tm} (h:validT t=true):sameT t t=true:=by unfold sameT;rw [h,eqT_yes rfl];rfl
theorem zero_valid:validT (.mk 0 0 ⟨#[]⟩ [])=true:=chk_valid (n:=1) (by kernel_rfl) (by decide)
theorem gives_closed {L:List UInt8} {t:Tm} {m n:Nat} {nm sg:List (List UInt8×Nat)}
  (h:(badArgs L 0 syD,(toksOf L 0 syD).err,wholeG ⟨(toksOf L 0 syD).l,syD.P,syD.q⟩,chkF 30 t,(vsAt (toksOf L 0 syD).l m).m,sglV (vsAt (toksOf L 0 syD).l m),(tokA (toksOf L 0 syD).l m).r.end_)=(false,(0:Int),(.ok (t,m):RR (Tm×Nat)),some n,nm,sg,(L.length:Int))) (hn:n≤2000):givesR L t=true:=by
 have hv:=read_closed h hn
 simp only [Prod.mk.injEq] at h
 unfold givesR
 rw [hv]
 simp only [same_refl (chk_valid h.2.2.2.1 hn)]
 simp
theorem wrong_closed {L:List UInt8} {k:Nat} {a:Int}
  (h:(badArgs L 0 syD,(toksOf L 0 syD).err,wholeG ⟨(toksOf L 0 syD).l,syD.P,syD.q⟩,(tokA (toksOf L 0 syD).l k).r.at_)=(false,(0:Int),(.error k:RR (Tm×Nat)),a)):wrongR L a=true:=by
 unfold wrongR
 rw [read_wrong h]
 unfold sameRd rdErr
 simp only [same_refl zero_valid]
 simp
end Hb
namespace Go.Proofs.YtbojljpldcijgaaGreat
open Go.RowKit Hb
set_option maxRecDepth 100000
set_option linter.unusedSimpArgs false
theorem l_x (n:Int) (w:World):Calls Tryz.prog 24 #[.int .i64 n] w fun e w'=>e=.returned (.agg #[.int .i64 0,.int .i64 n,.string ⟨#[]⟩,.slice none 0 0])∧Below w.heap.size w w':=by
 have hB:=zq ((Below.refl w.heap.size w).alloc (Nat.le_refl _) (.cells #[.int .i64 0,.int .i64 n,.string ⟨#[]⟩,.slice none 0 0] 30))
 go_enter Tryz.func24,Tryz.ntmps24
 go_wp2_with fail
 exact bodyPost_ret (v:=.agg #[.int .i64 0,.int .i64 n,.string ⟨#[]⟩,.slice none 0 0]) (by simp [results,Tryz.results24,go_sem]) rfl ⟨rfl,hB.out⟩
theorem l_n (n:Int) (w:World):Calls Tryz.prog 26 #[.int .i64 n] w fun e w'=>e=.returned (.agg #[.int .i64 1,.int .i64 n,.string ⟨#[]⟩,.slice none 0 0])∧Below w.heap.size w w':=by
 have hB:=zq ((Below.refl w.heap.size w).alloc (Nat.le_refl _) (.cells #[.int .i64 1,.int .i64 n,.string ⟨#[]⟩,.slice none 0 0] 30))
 go_enter Tryz.func26,Tryz.ntmps26
 go_wp2_with fail
 exact bodyPost_ret (v:=.agg #[.int .i64 1,.int .i64 n,.string ⟨#[]⟩,.slice none 0 0]) (by simp [results,Tryz.results26,go_sem]) rfl ⟨rfl,hB.out⟩
theorem l_a (s:ByteArray) (w:World):Calls Tryz.prog 27 #[.string s] w fun e w'=>e=.returned (.agg #[.int .i64 2,.int .i64 0,.string s,.slice none 0 0])∧Below w.heap.size w w':=by
 have hB:=zq ((Below.refl w.heap.size w).alloc (Nat.le_refl _) (.cells #[.int .i64 2,.int .i64 0,.string s,.slice none 0 0] 30))
 go_enter Tryz.func27,Tryz.ntmps27
 go_wp2_with fail
 exact bodyPost_ret (v:=.agg #[.int .i64 2,.int .i64 0,.string s,.slice none 0 0]) (by simp [results,Tryz.results27,go_sem]) rfl ⟨rfl,hB.out⟩
theorem l_f (s:ByteArray) (A:Option Addr) (n c:Nat) (w:World):Calls Tryz.prog 19 #[.string s,.slice A n c] w fun e w'=>e=.returned (.agg #[.int .i64 3,.int .i64 0,.string s,.slice A n c])∧Below w.heap.size w w':=by
 have hB:=zq ((Below.refl w.heap.size w).alloc (Nat.le_refl _) (.cells #[.int .i64 3,.int .i64 0,.string s,.slice A n c] 30))
 go_enter Tryz.func19,Tryz.ntmps19
 go_wp2_with fail
 exact bodyPost_ret (v:=.agg #[.int .i64 3,.int .i64 0,.string s,.slice A n c]) (by simp [results,Tryz.results19,go_sem]) rfl ⟨rfl,hB.out⟩
set_option maxHeartbeats 1600000 in
theorem r10_names (K K2:Nat→Prop) (m1 m2:List (List UInt8×Nat)) (A B:Option Addr) (n1 n2 c d:Nat) (w:World) (hn1:n1=m1.length) (hn2:n2=m2.length) (h1:NmAt K w A m1) (h2:NmAt K2 w B m2) (hK:∀b,K b→b<w.heap.size) (hK2:∀b,K2 b→b<w.heap.size) (hm:m1.length≤20000) :
  Calls Tryz.prog 41 #[.slice A n1 c,.slice B n2 d] w fun e w'=>e=.returned (.bool (decide (m1=m2)))∧Below w.heap.size w w':=by
 obtain ⟨RB,HRB⟩:=lz (decide (m1=m2))
 rw [←HRB.out]
 by_cases hl:n1=n2
 ·subst hl
  have HN:=zq hn1
  have HL:Hid (m1.length=m2.length):=zq (hn1.symm.trans hn2)
  have H1:=zq h1
  have H2:=zq h2
  have HK:=zq hK
  have HK2:=zq hK2
  have HMM:=zq (show n1≤20000 by omega)
  clear h1 h2 hn1 hn2 hK hK2 hm
  go_enter Tryz.func41,Tryz.ntmps41
  go_wp2_with fail
  go_loopw [5] (fun i wr=>∃j:Nat,i=.int .i64 j∧j≤n1∧m1.take j=m2.take j∧Below w.heap.size w wr) (fun i _=>n1-(intOf i).toNat)
  case atStart=>exact ⟨0,rfl,Nat.zero_le _,rfl,Below.refl _ _⟩
  case round=>
   obtain ⟨j,rfl,hj,ht,hB⟩:=hrel
   by_cases hjn:j<n1
   ·have hj1:j<m1.length:=by rw [←HN.out];exact hjn
    have hj2:j<m2.length:=by rw [←HL.out];exact hj1
    obtain ⟨b,off,rfl,hb1,c0,c1⟩:=H1.out.2 j hj1
    obtain ⟨b2,off2,rfl,hb2,d0,d1⟩:=H2.out.2 j hj2
    have c0:=(hB.cell (p:=⟨b,off+j * 2,none⟩) (HK.out b hb1)).trans c0
    have c1:=(hB.cell (p:=⟨b,off+j * 2+1,none⟩) (HK.out b hb1)).trans c1
    have d0:=(hB.cell (p:=⟨b2,off2+j * 2,none⟩) (HK2.out b2 hb2)).trans d0
    have d1:=(hB.cell (p:=⟨b2,off2+j * 2+1,none⟩) (HK2.out b2 hb2)).trans d1
    have hdl:=dltT hjn
    obtain ⟨k0,k1⟩:=natLt hjn
    have HB:=zq hB
    have HT:=zq ht
    obtain ⟨p1,HP1⟩:=lz (m1[j])
    obtain ⟨p2,HP2⟩:=lz (m2[j])
    rw [←HP1.out] at c0 c1
    rw [←HP2.out] at d0 d1
    clear hB ht hb1 hb2
    have hw1:=zq (wrapN hjn (by have:=HMM.out;omega))
    by_cases e1:p1=p2
    ·have HT2:Hid (m1.take (j+1)=m2.take (j+1)):=zq (by rw [List.take_succ_eq_append_getElem hj1,List.take_succ_eq_append_getElem hj2,←HP1.out,←HP2.out,e1,HT.out])
     clear HP1 HP2 HT
     subst e1
     go_wp2_with fail
     go_region
     all_goals
      go_wp2_with fail
      go_roundw
      case rel=>exact ⟨j+1,congrArg (Value.int IntKind.i64) hw1.out,hjn,HT2.out,HB.out.drew⟩
      case measure=>exact measW hw1.out hjn
    ·have HV:Hid (decide (m1=m2)=false):=zq (decide_eq_false fun h=>e1 (by rw [HP1.out,HP2.out];subst h;rfl))
     clear HP1 HP2 HT
     by_cases e2:p1.1=p2.1
     ·have e3:¬(p1.2:Int)=(p2.2:Int):=fun h=>e1 (by obtain ⟨a,b⟩:=p1;obtain ⟨a',b'⟩:=p2;simp only at e2 h;have:=Int.ofNat.inj h;rw [e2,this])
      clear e1
      go_wp2_with fail
      go_region
      all_goals
       go_wp2_with fail
       go_ret
       exact ⟨by rw [HRB.out,HV.out];rfl,HB.out.drew⟩
     ·clear e1
      go_wp2_with fail
      go_region
      all_goals
       go_wp2_with fail
       go_ret
       exact ⟨by rw [HRB.out,HV.out];rfl,HB.out.drew⟩
   ·have hdl:=dltF hjn
    have hjj:=notlt hjn hj
    subst hjj
    have HV:Hid (decide (m1=m2)=true):=zq (decide_eq_true (by rwa [List.take_of_length_le (by rw [←HN.out];exact Nat.le_refl _),List.take_of_length_le (by rw [←HL.out,←HN.out];exact Nat.le_refl _)] at ht))
    have HB:=zq hB
    clear ht hB hj hjn
    go_wp2_with fail
    go_ret
    exact ⟨by rw [HRB.out,HV.out];rfl,HB.out⟩
 ·have HV:Hid (decide (m1=m2)=false):=zq (decide_eq_false fun h=>hl (by rw [hn1,hn2,h]))
  have hb:((n1:Int) != (n2:Int))=true:=by simp;omega
  clear h1 h2 hn1 hn2 hK hK2 hm
  go_enter Tryz.func41,Tryz.ntmps41
  go_wp2_with fail
  go_ret
  exact ⟨by rw [HRB.out,HV.out];rfl,Below.refl _ _⟩
structure RdAt (w:World) (r:RdR) (A N S:Option Addr):Prop where
 t:TmsAt w.heap.size w A r.t.args
 n:NmAt (fun b=>b<w.heap.size) w N r.names
 s:NmAt (fun b=>b<w.heap.size) w S r.singles
theorem RdAt.below {w w':World} {r:RdR} {A N S:Option Addr} (h:RdAt w r A N S) (hB:Below w.heap.size w w'):RdAt w' r A N S :=
 ⟨(h.t.keep hB).mono hB.size,h.n.keep (fun b hb=>hB.block b hb) fun _ hb=>Nat.lt_of_lt_of_le hb hB.size,h.s.keep (fun b hb=>hB.block b hb) fun _ hb=>Nat.lt_of_lt_of_le hb hB.size⟩
set_option maxHeartbeats 1600000 in
theorem r10_same (r s:RdR) (A1 N1 S1 A2 N2 S2:Option Addr) (c1 d1 e1 c2 d2 e2:Nat) (w:World) (h1:RdAt w r A1 N1 S1) (h2:RdAt w s A2 N2 S2) (hm:r.names.length≤20000) (hm2:r.singles.length≤20000) :
  Calls Tryz.prog 13 #[.agg #[.int .i64 r.t.kind,.int .i64 r.t.num,.string r.t.name,.slice A1 r.t.args.length c1,.slice N1 r.names.length d1,.slice S1 r.singles.length e1,.int .i64 r.end_],.agg #[.int .i64 s.t.kind,.int .i64 s.t.num,.string s.t.name,.slice A2 s.t.args.length c2,.slice N2 s.names.length d2,.slice S2 s.singles.length e2,.int .i64 s.end_]] w fun e w'=>e=.returned (.bool (sameRd r s))∧Below w.heap.size w w':=by
 have HS:=zq (fun W (h:Below w.heap.size w W)=>r3_same r.t s.t A1 A2 c1 c2 W (h1.below h).t (h2.below h).t)
 have HN:=zq (fun W (h:Below w.heap.size w W)=>r10_names _ _ r.names s.names N1 N2 _ _ d1 d2 W rfl rfl (h1.below h).n (h2.below h).n (fun _ h=>h) (fun _ h=>h) hm)
 have HG:=zq (fun W (h:Below w.heap.size w W)=>r10_names _ _ r.singles s.singles S1 S2 _ _ e1 e2 W rfl rfl (h1.below h).s (h2.below h).s (fun _ h=>h) (fun _ h=>h) hm2)
 obtain ⟨RB,HRB⟩:=lz (sameRd r s)
 have HRE:Hid (RB=(sameT r.t s.t&&(decide (r.names=s.names)&&(decide (r.singles=s.singles)&&r.end_==s.end_)))):=zq HRB.out
 rw [←HRB.out]
 have HB0:=zq ((((Below.refl w.heap.size w).alloc (Nat.le_refl _) (.cells #[.int .i64 r.t.kind,.int .i64 r.t.num,.string r.t.name,.slice A1 r.t.args.length c1,.slice N1 r.names.length d1,.slice S1 r.singles.length e1,.int .i64 r.end_] 33)).alloc (by simp) (.cells #[.int .i64 s.t.kind,.int .i64 s.t.num,.string s.t.name,.slice A2 s.t.args.length c2,.slice N2 s.names.length d2,.slice S2 s.singles.length e2,.int .i64 s.end_] 33)))
 have HK0:=zq (((Bks.nil w).new [.int .i64 r.t.kind,.int .i64 r.t.num,.string r.t.name,.slice A1 r.t.args.length c1,.slice N1 r.names.length d1,.slice S1 r.singles.length e1,.int .i64 r.end_] 33 rfl).new [.int .i64 s.t.kind,.int .i64 s.t.num,.string s.t.name,.slice A2 s.t.args.length c2,.slice N2 s.names.length d2,.slice S2 s.singles.length e2,.int .i64 s.end_] 33 (g:=w.heap.size+1) (by simp))
 clear h1 h2 hm hm2 HRB
 unfold tmV at HS
 generalize sameT r.t s.t=b1 at *
 generalize decide (r.names=s.names)=b2 at *
 generalize decide (r.singles=s.singles)=b3 at *
 have cc0:=HK0.out.all
 simp only [bksAll,bkAll,Nat.zero_add,Nat.reduceAdd,and_true] at cc0
 go_enter Tryz.func13,Tryz.ntmps13
 go_wp2_with fail
 refine (HS.out _ HB0.out).mono ?_;rintro e w1 ⟨rfl,hB⟩
 have HB1:=bz HB0 hB
 have HK1:=zq (HK0.out.call hB)
 clear hB HB0 HK0 cc0
 have cc1:=HK1.out.all
 simp only [bksAll,bkAll,Nat.zero_add,Nat.reduceAdd,and_true] at cc1
 cases b1
 ·have HV:Hid (RB=false):=HRE
  go_wp2_with fail
  go_ret
  exact ⟨by rw [HV.out];rfl,HB1.out⟩
 go_wp2_with fail
 refine (HN.out _ HB1.out).mono ?_;rintro e w2 ⟨rfl,hB⟩
 have HB2:=bz HB1 hB
 have HK2:=zq (HK1.out.call hB)
 clear hB HB1 HK1 cc1
 have cc2:=HK2.out.all
 simp only [bksAll,bkAll,Nat.zero_add,Nat.reduceAdd,and_true] at cc2
 cases b2
 ·have HV:Hid (RB=false):=HRE
  go_wp2_with fail
  go_ret
  exact ⟨by rw [HV.out];rfl,HB2.out⟩
 go_wp2_with fail
 refine (HG.out _ HB2.out).mono ?_;rintro e w3 ⟨rfl,hB⟩
 have HB3:=bz HB2 hB
 have HK3:=zq (HK2.out.call hB)
 clear hB HB2 HK2 cc2
 have cc3:=HK3.out.all
 simp only [bksAll,bkAll,Nat.zero_add,Nat.reduceAdd,and_true] at cc3
 cases b3
 ·have HV:Hid (RB=false):=HRE
  go_wp2_with fail
  go_ret
  exact ⟨by rw [HV.out];rfl,HB3.out⟩
 have HV:Hid (RB=(r.end_==s.end_)):=HRE
 go_wp2_with fail
 go_ret
 exact ⟨by rw [HV.out];rfl,HB3.out⟩
end Go.Proofs.YtbojljpldcijgaaGreat
namespace Hb
open Go Go.RowKit
def InT (lo hi:Nat) (t:NextR):Prop:=(lo:Int)≤t.r.at_∧t.r.at_<t.r.end_∧t.r.end_≤hi
theorem all_in (m l : List UInt8) (hl : m.length = l.length) (lo : Nat) : ∀ (f a : Nat) (acc : List NextR), lo ≤ a → a ≤ l.length → (∀ t ∈ acc, InT lo l.length t) →
    (∀ t ∈ (allF f m l a acc).l, InT lo l.length t) ∧ ((allF f m l a acc).err = 99 ∨ ¬(allF f m l a acc).err = 0 → 0 ≤ (allF f m l a acc).where_ ∧ (allF f m l a acc).where_ ≤ l.length)
  | 0, _, _, _, _, _ => ⟨fun t h => (by cases h), fun _ => ⟨Int.le_refl _, by show (0 : Int) ≤ _; omega⟩⟩
  | f + 1, a, acc, h1, h2, ha => by
    have hw := next_where m l hl a h2
    have he := next_end m l hl a h2
    rw [allF_succ]
    split
    · rename_i h3
      obtain ⟨p, h4, h5, h6, _⟩ := hw (by rw [h3.1]; decide)
      exact ⟨fun t h => (by cases h), fun _ => by simp only [h4]; omega⟩
    split
    · rename_i h3
      obtain ⟨p, h4, h5, h6, _⟩ := hw h3
      exact ⟨fun t h => (by cases h), fun _ => by simp only [h4]; omega⟩
    rename_i h3
    have h3 : (nextR m l a).r.err = 0 := by simpa using h3
    obtain ⟨p, e, h4, h5, h6, h7, h8, _⟩ := he h3
    have hx : ∀ t ∈ acc ++ [nextR m l a], InT lo l.length t := fun t ht => by
      rcases List.mem_append.1 ht with ht | ht
      · exact ha t ht
      · rw [List.mem_singleton.1 ht]
        exact ⟨by rw [h4]; omega, by rw [h4, h6]; omega, by rw [h6]; omega⟩
    split
    · exact ⟨hx, fun h => by rcases h with h | h; · exact absurd h (by show ¬(0 : Int) = 99; decide)
                             · exact absurd rfl h⟩
    · rw [h6, Int.toNat_natCast]
      exact all_in m l hl lo f e _ (by omega) h8 hx
theorem tokA_in {T:List NextR} {lo hi:Nat} (h:∀t∈T,InT lo hi t) (hp:0<T.length) (n:Nat):InT lo hi (tokA T n):=by
 have hm:tokA T n∈T:=by
  unfold tokA
  have hl:min n (T.length-1)<T.length:=by omega
  rw [List.getD_eq_getElem?_getD,List.getElem?_eq_getElem hl];exact List.getElem_mem hl
 exact h _ hm
theorem read_in (L:List UInt8) (a:Nat) (s:Sy) (ha:a≤L.length) (hL:L.length≤16384) :
  let r:=readS L a s
  (0≤r.where_∧r.where_≤L.length)∧(0≤r.end_∧r.end_≤L.length)∧(r.err=1→r.where_=0)∧validT r.t=true∧(r.err=0→r.where_=0∧(a:Int)<r.end_)∧(¬r.err=0→r=rdErr r.where_ r.err):=by
 have h0:=all_in (cvt (convT s.conv) L) L (cvt_len _ _) a (L.length+1) a [] (Nat.le_refl _) ha (fun _ h=>by cases h)
 have h1:=all_not1 (cvt (convT s.conv) L) L (L.length+1) a []
 have hin:(toksOf L a s).err=0→0<(toksOf L a s).l.length:=fun h2=>(allR_toks _ _ (cvt_len _ _) _ ha h2).pos
 have ht:allF (L.length+1) (cvt (convT s.conv) L) L a []=toksOf L a s:=rfl
 rw [ht] at h0 h1
 intro r
 obtain ⟨R,hR⟩:∃R,readS L a s=R:=⟨_,rfl⟩
 have hr:r=R:=hR
 rw [hr]
 clear hr
 subst hR
 unfold readS
 split
 ·exact ⟨⟨Int.le_refl _,by show (0:Int)≤_;omega⟩,⟨Int.le_refl _,by show (0:Int)≤_;omega⟩,fun _=>rfl,zero_valid,fun h=>absurd h (by show ¬(1:Int)=0;decide),fun _=>rfl⟩
 split
 ·rename_i h2
  exact ⟨h0.2 (.inr h2),⟨Int.le_refl _,by show (0:Int)≤_;omega⟩,fun h=>absurd h h1,zero_valid,fun h=>absurd h h2,fun _=>rfl⟩
 rename_i h2
 have h2:(toksOf L a s).err=0:=by simpa using h2
 have hp:=hin h2
 have ht:=fun n=>tokA_in h0.1 hp n
 unfold readT
 split
 ·rename_i k _
  obtain ⟨h3,h4,h5⟩:=ht k
  exact ⟨⟨by show (0:Int)≤(tokA (toksOf L a s).l k).r.at_;omega,by show (tokA (toksOf L a s).l k).r.at_≤_;omega⟩,⟨Int.le_refl _,by show (0:Int)≤_;omega⟩,fun h=>absurd h (by show ¬(7:Int)=1;decide),zero_valid,fun h=>absurd h (by show ¬(7:Int)=0;decide),fun _=>rfl⟩
 ·rename_i t m _
  obtain ⟨h3,h4,h5⟩:=ht m
  obtain ⟨g3,g4,g5⟩:=ht 0
  unfold readOk
  split
  ·rename_i hv
   exact ⟨⟨Int.le_refl _,by show (0:Int)≤_;omega⟩,⟨by show (0:Int)≤(tokA (toksOf L a s).l m).r.end_;omega,h5⟩,fun _=>rfl,hv,fun _=>⟨rfl,by show (a:Int)<(tokA (toksOf L a s).l m).r.end_;omega⟩,fun h=>absurd rfl h⟩
  ·exact ⟨⟨by show (0:Int)≤(tokA (toksOf L a s).l 0).r.at_;omega,by show (tokA (toksOf L a s).l 0).r.at_≤_;omega⟩,⟨Int.le_refl _,by show (0:Int)≤_;omega⟩,fun h=>absurd h (by show ¬(2:Int)=1;decide),zero_valid,fun h=>absurd h (by show ¬(2:Int)=0;decide),fun _=>rfl⟩
theorem place_sum (L:List UInt8) (a:Nat) (s:Sy) (ha:a≤L.length) (hL:L.length≤16384):∃(t:Tm) (nm sg:List (List UInt8×Nat)) (e1 e2 w1 w2 er:Int),
  readS L a s=⟨t,nm,sg,e1,w1,er⟩∧readS (L.drop a) 0 s=⟨t,nm,sg,e2,w2,er⟩∧(er=1→w1=0∧w2=0)∧(¬er=0→¬er=1→w1=w2+a)∧(er=0→e1=e2+a)∧(0≤w2∧w2≤16384)∧(0≤e2∧e2≤16384)∧validT t=true:=by
 have hp:=place L a s ha hL
 have hin:=read_in (L.drop a) 0 s (Nat.zero_le _) (by rw [List.length_drop];omega)
 obtain ⟨R,hR⟩:∃R,readS (L.drop a) 0 s=R:=⟨_,rfl⟩
 dsimp only at hin
 rw [show ((0:Nat):Int)=0 from rfl,hR,List.length_drop] at hin
 rw [hR] at hp
 obtain ⟨t,nm,sg,e2,w2,er⟩:=R
 obtain ⟨h1,h2,h3,h4,_⟩:=hin
 simp only at h1 h2 h3 h4
 unfold shD at hp
 simp only at hp
 by_cases e0:er=0
 ·rw [if_pos e0] at hp
  exact ⟨t,nm,sg,_,e2,_,w2,er,hp,hR,fun h=>absurd h (by omega),fun h=>absurd e0 h,fun _=>rfl,by omega,by omega,h4⟩
 rw [if_neg e0] at hp
 by_cases e1:er=1
 ·rw [if_pos e1] at hp
  exact ⟨t,nm,sg,_,e2,_,w2,er,hp,hR,fun h=>⟨h3 h,h3 h⟩,fun _ h=>absurd e1 h,fun h=>absurd h e0,by omega,by omega,h4⟩
 ·rw [if_neg e1] at hp
  exact ⟨t,nm,sg,_,e2,_,w2,er,hp,hR,fun h=>absurd h e1,fun _ _=>rfl,fun h=>absurd h e0,by omega,by omega,h4⟩
end Hb
namespace Go.Proofs.YtbojljpldcijgaaGreat
open Go.RowKit Hb
set_option maxRecDepth 100000
set_option linter.unusedSimpArgs false
theorem start_read (text:ByteArray) (at_:Int) (hs:text.size≤maxLen) (g gc:Nat) (W:World) (hT:Tab W (some ⟨g,0,none⟩) 41 gc defL):Calls Tryz.prog 11 #[.string text,.int .i64 at_,.agg #[.slice (some ⟨g,0,none⟩) 41 gc,.int .i64 1,.int .i64 1,.bool false,.bool false,.slice none 0 0]] W (ROk W (readS text.data.toList at_ syD)) :=
 rd_Term text at_ (some ⟨g,0,none⟩) 41 gc 1 1 false false none 0 0 defL [] W hT rfl (Nat.zero_le _) (Pairs.nil _ _) hs
theorem toks_few {L:List UInt8} {at_:Int} {s:Sy} (h:badArgs L at_ s=false) (he:(toksOf L at_ s).err=0):(toksOf L at_ s).l.length≤16385:=by
 have h1:=(toks_in h he).len
 have h2:=(bad_no h).1
 omega
theorem sgl_le (v:VS):(sglV v).length≤v.m.length:=List.length_filter_le _ _
theorem read_few (L:List UInt8) (at_:Int) (s:Sy):(readS L at_ s).names.length≤20000∧(readS L at_ s).singles.length≤20000:=by
 unfold readS
 split
 ·exact ⟨Nat.zero_le _,Nat.zero_le _⟩
 ·rename_i hb
  split
  ·exact ⟨Nat.zero_le _,Nat.zero_le _⟩
  ·rename_i he
   have hf:=toks_few (by simpa using hb) (by simpa using he)
   unfold readT
   split
   ·exact ⟨Nat.zero_le _,Nat.zero_le _⟩
   ·rename_i t m _
    unfold readOk
    split
    ·have h1:=vsOf_ok ((toksOf L at_ s).l.take m)
     have h2:=vsOf_len ((toksOf L at_ s).l.take m)
     have h3:=h1.mo
     have h4:=sgl_le (vsAt (toksOf L at_ s).l m)
     have h6:=List.length_take_le' m (toksOf L at_ s).l
     have h5:(vsAt (toksOf L at_ s).l m).m.length≤20000:=by
      unfold vsAt;omega
     exact ⟨h5,Nat.le_trans h4 h5⟩
    ·exact ⟨Nat.zero_le _,Nat.zero_le _⟩
theorem ROk.at {w0 w:World} {r:RdR} {A NA SA:Option Addr} (_:Below w0.heap.size w0 w) (h1:TmsK (fun b=>w0.heap.size≤b∧b<w.heap.size) w A r.t.args) (h2:NmAt (fun b=>w0.heap.size≤b∧b<w.heap.size) w NA r.names) (h3:NmAt (fun b=>w0.heap.size≤b∧b<w.heap.size) w SA r.singles):RdAt w r A NA SA :=
 ⟨h1.keep (fun _ _=>rfl) fun _ hb=>hb.2,h2.keep (fun _ _=>rfl) fun _ hb=>hb.2,h3.keep (fun _ _=>rfl) fun _ hb=>hb.2⟩
theorem zero_at (w:World):RdAt w (rdErr 0 0) none none none:=⟨TmsK.nil,NmAt.nil,NmAt.nil⟩
set_option maxHeartbeats 3200000 in
theorem l_gives (text:ByteArray) (t:Tm) (B:Option Addr) (cb:Nat) (w:World) (hs:text.size≤maxLen) (hT:TmsAt w.heap.size w B t.args):Calls Tryz.prog 25 #[.string text,.agg #[.int .i64 t.kind,.int .i64 t.num,.string t.name,.slice B t.args.length cb]] w fun e w'=>e=.returned (.bool (givesR text.data.toList t))∧Below w.heap.size w w':=by
 obtain ⟨r,HR⟩:=lz (readS text.data.toList 0 syD)
 obtain ⟨RB,HRB⟩:=lz (givesR text.data.toList t)
 have HE:Hid (RB=(r.err==0&&(r.where_==0&&(sameT r.t t&&r.end_==(text.size:Int))))):=zq (by rw [HRB.out,HR.out,←size_data];rfl)
 rw [←HRB.out]
 have HST:=zq (fun W=>f_start W)
 have HRD:=zq (fun g gc W (h:Tab W (some ⟨g,0,none⟩) 41 gc defL)=>start_read text 0 hs g gc W h)
 rw [←HR.out] at HRD
 have HB0:=zq ((Below.refl w.heap.size w).alloc (Nat.le_refl _) (.cells #[.int .i64 t.kind,.int .i64 t.num,.string t.name,.slice B t.args.length cb] 30))
 have HK0:=zq ((Bks.nil w).new [.int .i64 t.kind,.int .i64 t.num,.string t.name,.slice B t.args.length cb] 30 rfl)
 have HSM:=zq (fun W A cap (h:Below w.heap.size w W) (h2:TmsAt W.heap.size W A r.t.args)=>r3_same r.t t A B cap cb W h2 ((hT.keep h).mono h.size))
 unfold tmV at HSM
 clear hs hT HR HRB
 go_enter Tryz.func25,Tryz.ntmps25
 go_wp2_with fail
 refine (HST.out _).mono ?_;rintro e w1 ⟨g,gc,rfl,hB,hTB⟩
 have HB1:=bz HB0 hB
 have HK1:=zq (HK0.out.call hB)
 have HTB:=zq hTB
 clear hB hTB HB0 HK0 HST
 go_wp2_with fail
 refine (HRD.out g gc _ HTB.out).mono ?_;rintro e w2 ⟨A,cap,NA,nc,SA,sc,rfl,hB,h1,h2,h3⟩
 have HT2:=zq (ROk.at hB h1 h2 h3).t
 have HB2:=bz HB1 hB
 have HK2:=zq (HK1.out.call hB)
 clear hB h1 h2 h3 HB1 HK1 HRD HTB
 obtain ⟨w3,HW3⟩:=lz (w2.alloc (.cells #[.int .i64 r.t.kind,.int .i64 r.t.num,.string r.t.name,.slice A r.t.args.length cap,.slice NA r.names.length nc,.slice SA r.singles.length sc,.int .i64 r.end_] 33))
 obtain ⟨g3,HG3⟩:=lz (w2.heap.size)
 have hB3:Below w2.heap.size w2 w3:=by rw [HW3.out];exact (Below.refl _ _).alloc (Nat.le_refl _) _
 have HK3:Hid (Bks w3 [(g3,[.int .i64 r.t.kind,.int .i64 r.t.num,.string r.t.name,.slice A r.t.args.length cap,.slice NA r.names.length nc,.slice SA r.singles.length sc,.int .i64 r.end_]),(w.heap.size,[.int .i64 t.kind,.int .i64 t.num,.string t.name,.slice B t.args.length cb])]):=zq (by rw [HW3.out,HG3.out];exact HK2.out.new [.int .i64 r.t.kind,.int .i64 r.t.num,.string r.t.name,.slice A r.t.args.length cap,.slice NA r.names.length nc,.slice SA r.singles.length sc,.int .i64 r.end_] 33 rfl)
 have HB3:=bz HB2 hB3
 have HT3:=zq ((HT2.out.keep hB3).mono hB3.size)
 go_upto_region 2 with fail
 rw [←HW3.out,←HG3.out]
 clear hB3 HB2 HK2 HT2 HW3 HG3
 have cc:=HK3.out.all
 simp only [bksAll,bkAll,Nat.zero_add,Nat.reduceAdd,and_true] at cc
 by_cases e1:r.err=0
 rotate_left
 ·have b1:(r.err==0)=false:=by simpa using e1
  have HV:Hid (RB=false):=zq (by rw [HE.out,b1];rfl)
  clear e1 HE
  go_wp2_with fail
  go_ret
  exact ⟨by rw [HV.out];rfl,HB3.out⟩
 have b1:(r.err==0)=true:=by simpa using e1
 by_cases e2:r.where_=0
 rotate_left
 ·have b2:(r.where_==0)=false:=by simpa using e2
  have HV:Hid (RB=false):=zq (by rw [HE.out,b1,b2];rfl)
  clear e1 e2 HE
  go_wp2_with fail
  go_ret
  exact ⟨by rw [HV.out];rfl,HB3.out⟩
 have b2:(r.where_==0)=true:=by simpa using e2
 have HE2:Hid (RB=(sameT r.t t&&r.end_==(text.size:Int))):=zq (by rw [HE.out,b1,b2];rfl)
 have HS3:=zq (HSM.out w3 A cap HB3.out HT3.out)
 clear e1 e2 HE HSM
 generalize sameT r.t t=bs at *
 go_wp2_with fail
 refine HS3.out.mono ?_;rintro e w4 ⟨rfl,hB⟩
 have HB4:=bz HB3 hB
 have HK4:=zq (HK3.out.call hB)
 clear hB HB3 HK3 cc HS3
 have cc:=HK4.out.all
 simp only [bksAll,bkAll,Nat.zero_add,Nat.reduceAdd,and_true] at cc
 cases bs
 ·have HV:Hid (RB=false):=HE2
  go_wp2_with fail
  go_ret
  exact ⟨by rw [HV.out];rfl,HB4.out⟩
 have HV:Hid (RB=(r.end_==(text.size:Int))):=HE2
 go_wp2_with fail
 go_ret
 exact ⟨by rw [HV.out];rfl,HB4.out⟩
set_option maxHeartbeats 3200000 in
theorem l_wrong (text:ByteArray) (k:Int) (w:World) (hs:text.size≤maxLen):Calls Tryz.prog 28 #[.string text,.int .i64 k] w fun e w'=>e=.returned (.bool (wrongR text.data.toList k))∧Below w.heap.size w w':=by
 have HFW:=zq (read_few text.data.toList 0 syD)
 obtain ⟨r,HR⟩:=lz (readS text.data.toList 0 syD)
 obtain ⟨RB,HRB⟩:=lz (wrongR text.data.toList k)
 have HE:Hid (RB=(r.err==7&&(r.where_==k&&sameRd r (rdErr 0 0)))):=zq (by rw [HRB.out,HR.out];rfl)
 rw [←HRB.out]
 have HST:=zq (fun W=>f_start W)
 have HRD:=zq (fun g gc W (h:Tab W (some ⟨g,0,none⟩) 41 gc defL)=>start_read text 0 hs g gc W h)
 rw [←HR.out] at HRD HFW
 clear hs HR HRB
 go_enter Tryz.func28,Tryz.ntmps28
 go_wp2_with fail
 refine (HST.out _).mono ?_;rintro e w1 ⟨g,gc,rfl,hB,hTB⟩
 have HB1:=zq hB
 have HTB:=zq hTB
 clear hB hTB HST
 go_wp2_with fail
 refine (HRD.out g gc _ HTB.out).mono ?_;rintro e w2 ⟨A,cap,NA,nc,SA,sc,rfl,hB,h1,h2,h3⟩
 have HT2:=zq (ROk.at hB h1 h2 h3)
 have HB2:=bz HB1 hB
 clear hB h1 h2 h3 HB1 HRD HTB
 obtain ⟨w3,HW3⟩:=lz (w2.alloc (.cells #[.int .i64 r.t.kind,.int .i64 r.t.num,.string r.t.name,.slice A r.t.args.length cap,.slice NA r.names.length nc,.slice SA r.singles.length sc,.int .i64 r.end_] 33))
 obtain ⟨g3,HG3⟩:=lz (w2.heap.size)
 have hB3:Below w2.heap.size w2 w3:=by rw [HW3.out];exact (Below.refl _ _).alloc (Nat.le_refl _) _
 have HK3:Hid (Bks w3 [(g3,[.int .i64 r.t.kind,.int .i64 r.t.num,.string r.t.name,.slice A r.t.args.length cap,.slice NA r.names.length nc,.slice SA r.singles.length sc,.int .i64 r.end_])]):=zq (by rw [HW3.out,HG3.out];exact (Bks.nil w2).new [.int .i64 r.t.kind,.int .i64 r.t.num,.string r.t.name,.slice A r.t.args.length cap,.slice NA r.names.length nc,.slice SA r.singles.length sc,.int .i64 r.end_] 33 rfl)
 have HB3:=bz HB2 hB3
 have HS3:=zq (r10_same r (rdErr 0 0) A NA SA none none none cap nc sc 0 0 0 w3 (HT2.out.below hB3) (zero_at w3) HFW.out.1 HFW.out.2)
 go_upto_region 2 with fail
 rw [←HW3.out,←HG3.out]
 clear hB3 HB2 HT2 HW3 HG3
 have cc:=HK3.out.all
 simp only [bksAll,bkAll,Nat.zero_add,Nat.reduceAdd,and_true] at cc
 by_cases e1:r.err=7
 rotate_left
 ·have b1:(r.err==7)=false:=by simpa using e1
  have HV:Hid (RB=false):=zq (by rw [HE.out,b1];rfl)
  clear e1 HE
  go_wp2_with fail
  go_ret
  exact ⟨by rw [HV.out];rfl,HB3.out⟩
 have b1:(r.err==7)=true:=by simpa using e1
 by_cases e2:r.where_=k
 rotate_left
 ·have b2:(r.where_==k)=false:=by simpa using e2
  have HV:Hid (RB=false):=zq (by rw [HE.out,b1,b2];rfl)
  clear e1 e2 HE
  go_wp2_with fail
  go_ret
  exact ⟨by rw [HV.out];rfl,HB3.out⟩
 have b2:(r.where_==k)=true:=by simpa using e2
 have HV:Hid (RB=sameRd r (rdErr 0 0)):=zq (by rw [HE.out,b1,b2];rfl)
 clear e1 e2 HE
 generalize sameRd r (rdErr 0 0)=bs at *
 go_wp2_with fail
 refine HS3.out.mono ?_;rintro e w4 ⟨rfl,hB⟩
 have HB4:=bz HB3 hB
 clear hB HB3 HK3 cc HS3
 cases bs
 all_goals
  go_wp2_with fail
  go_ret
  exact ⟨by rw [HV.out];rfl,HB4.out⟩
end Go.Proofs.YtbojljpldcijgaaGreat
namespace Hb
open Go Go.RowKit
theorem row_stab {N N':Nat→Prop} {X X':World} {A:Option Addr} {l:List Tm} (h:TmsK N X A l) (hk:∀b,N b→X'.heap[b]? = X.heap[b]?) (hN:∀b,N b→N' b):TmsK N' X' A l:=h.keep hk hN
def vpRow (n:Nat):List Value→Prop | [v]=>∃g,v=.slice (some ⟨g,0,none⟩) n n | _=>False
def vcRow (n:Nat) (l:List Tm):List Value→(Nat→Prop)→World→Prop | [v],N,X=>∃g,v=.slice (some ⟨g,0,none⟩) n n∧TmsK N X (some ⟨g,0,none⟩) l | _,_,_=>False
def vpGoal (s:ByteArray) (n:Nat):List Value→Prop | [v]=>∃g,v=.agg #[.int .i64 3,.int .i64 0,.string s,.slice (some ⟨g,0,none⟩) n n] | _=>False
def vcGoal (s:ByteArray) (n:Nat) (l:List Tm):List Value→(Nat→Prop)→World→Prop | [v],N,X=>∃g,v=.agg #[.int .i64 3,.int .i64 0,.string s,.slice (some ⟨g,0,none⟩) n n]∧TmsK N X (some ⟨g,0,none⟩) l | _,_,_=>False
def rRow (A:List Nat) (j n:Nat) (l:List Tm):ROp:=rCall A [j] (vpRow n) (vcRow n l) fun vs _ _ _ _ h hk hN _=>match vs,h with | [_],⟨g,e,ht⟩=>⟨g,e,row_stab ht hk hN⟩
def rGoal (A:List Nat) (j:Nat) (s:ByteArray) (n:Nat) (l:List Tm):ROp:=rCall A [j] (vpGoal s n) (vcGoal s n l) fun vs _ _ _ _ h hk hN _=>match vs,h with | [_],⟨g,e,ht⟩=>⟨g,e,row_stab ht hk hN⟩
theorem srv_calG {P:Program} {ops:Array Oper} {sp:List ROp} {BP:List Value→Prop} {B:Nat} {w0:World} {a0:Act} {T:List Value→World→Prop} {j:Nat} {o:Oper} {g:Nat} {b:Bool} (hc:(opAt sp j).cl=.call) (hg:o.guard=some (g,b)) (hv:∀val,VPs sp j val→val g=.bool b) (h:∀val E X N,EOf ops val a0 o E→AtC BP B w0 X N→VPs sp j val→VCs sp j val N X→∃f args,(execOp E o).run P X=.ok (.enter f args) X∧Calls P f args X fun e w'=>∃v,e=.returned v∧Below X.heap.size X w'∧(opAt sp j).vp (vals sp j (updV val j v))∧∀N':Nat→Prop,(∀b,N b→N' b)→(∀b,X.heap.size≤b→b<w'.heap.size→N' b)→(opAt sp j).vc (vals sp j (updV val j v)) N' w'):SrvAt P ops sp BP B w0 a0 T j o:=by
 unfold SrvAt;rw [hc]
 refine fun val X N h1 h2 h3 h4 hA hC=>⟨fun _=>?_,fun hf=>by rw [want_some hg (hv val hA)] at hf;simp at hf⟩
 obtain ⟨f,args,h5,h6⟩:=h val _ X N (EOf.at _ _ _ _) ⟨h1,h2,h3,h4⟩ hA hC
 exact .inr (.inr ⟨f,args,X,h5,h6⟩)
end Hb
