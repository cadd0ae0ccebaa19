/- Parts of the proof. -/
import Derived.Test.YtbojljpldcijgaaGreatDoorH01
import Derived.Test.YtbojljpldcijgaaGreatDoorH02
import Derived.Test.YtbojljpldcijgaaGreatDoorH24
import Derived.Test.YtbojljpldcijgaaGreatDoorRows
import Derived.Test.YtbojljpldcijgaaGreatDoorTie
import Derived.Test.YtbojljpldcijgaaGreatDoorCards
import Derived.ProofKit
import Derived.LaidMore
import Derived.OpenShut
import Derived.Stop.Joined
import Derived.Stop.LaidErr
import Derived.Lib.LaidTab
import Derived.Lib.ItoaNum
import Derived.Lib.SmallJoins
import Derived.SevenTiedAt
import Derived.Shelf.Small.Bits
import Derived.Shelf.Small.Strs
import Derived.Shelf.Small.Wraps
import Derived.Shelf.Strconv.Itoa0
import Derived.Shelf.Strconv.Itoa1
import Derived.Shelf.LaysM
import Derived.Shelf.Strconv.Itoa2
import Derived.Shelf.Strconv.Itoa3
import Derived.Shelf.Strconv.Itoa4
import Derived.Shelf.Strings.Search1
import Derived.Ground.Names2Prog
import Derived.Shelf.Slices.SearchI
import Derived.Test.YtbojljpldcijgaaGreatDoorProg
namespace Hb
open Go Go.RowKit
set_option maxRecDepth 100000
def IsTk (t:List UInt8) (r:LexR):Prop:=TokText t∧tokR t t 0=r
theorem tk_f:IsTk [102] ⟨1,[102],0,0,1,0⟩:=⟨⟨by decide,by decide +kernel,rfl,by decide,rfl⟩,rfl⟩
theorem tk_1:IsTk [49] ⟨4,[],1,0,1,0⟩:=⟨⟨by decide,by decide +kernel,rfl,by decide,rfl⟩,rfl⟩
theorem tk_minus:IsTk [45] ⟨1,[45],0,0,1,0⟩:=⟨⟨by decide,by decide +kernel,rfl,by decide,rfl⟩,rfl⟩
theorem tk_open:IsTk [40] ⟨6,[40],0,0,1,0⟩:=⟨⟨by decide,by decide +kernel,rfl,by decide,rfl⟩,rfl⟩
theorem tk_close:IsTk [41] ⟨6,[41],0,0,1,0⟩:=⟨⟨by decide,by decide +kernel,rfl,by decide,rfl⟩,rfl⟩
theorem tk_sq:IsTk [91] ⟨6,[91],0,0,1,0⟩:=⟨⟨by decide,by decide +kernel,rfl,by decide,rfl⟩,rfl⟩
theorem tk_qs:IsTk [93] ⟨6,[93],0,0,1,0⟩:=⟨⟨by decide,by decide +kernel,rfl,by decide,rfl⟩,rfl⟩
theorem tk_bar:IsTk [124] ⟨6,[124],0,0,1,0⟩:=⟨⟨by decide,by decide +kernel,rfl,by decide,rfl⟩,rfl⟩
theorem tk_dec (u:Nat) (h:u≤9223372036854775807):IsTk (Lib.decDigits u) ⟨4,[],(u:Int),0,(Lib.decDigits u).length,0⟩:=by
 have:=dec_text u (by omega)
 rw [if_neg (by omega)] at this
 exact this
theorem tk_big:IsTk (Lib.decDigits 9223372036854775808) ⟨4,[],-9223372036854775808,0,(Lib.decDigits 9223372036854775808).length,0⟩:=by
 have:=dec_text 9223372036854775808 (by omega)
 rw [if_pos rfl] at this
 exact this
def tksOf:Nat→List (Bool×List UInt8×LexR)→List NextR
 | _,[]=>[]
 | a,x::l=>⟨⟨x.2.2.kind,x.2.2.text,x.2.2.n,x.2.2.at_+((a+(spB x.1).length:Nat):Int),x.2.2.end_+((a+(spB x.1).length:Nat):Int),0⟩,x.1,0⟩::tksOf (a+(spB x.1).length+x.2.1.length) l
def ciOf (l:List (Bool×List UInt8×LexR)):List CI:=l.map fun x=>(x.1,x.2.1)
theorem tks_eq:∀(l:List (Bool×List UInt8×LexR)) (a:Nat),(∀x∈l,IsTk x.2.1 x.2.2)→ctoks a (ciOf l)=tksOf a l
 | [],_,_=>rfl
 | x::l,a,h=>by
  have hx:=h x (List.mem_cons_self ..)
  show _::_=_
  rw [tksOf,←tks_eq l _ fun y hy=>h y (List.mem_cons_of_mem _ hy)]
  congr 2
  show shL _ (tokR x.2.1 x.2.1 0)=_
  rw [shL_ok0 _ _ hx.1.err,hx.2]
theorem tks_len:∀(l:List (Bool×List UInt8×LexR)) (a:Nat),(tksOf a l).length=l.length
 | [],_=>rfl
 | x::l,a=>by rw [tksOf,List.length_cons,List.length_cons,tks_len l]
theorem syD_ok:syD.ok=true:=by kernel_rfl
theorem toks_words {l:List (Bool×List UInt8×LexR)} (h:∀x∈l,IsTk x.2.1 x.2.2) (hC:Chn (ciOf l) false) (hn:(ctext (ciOf l)).length≤16000) :
  badArgs (ctext (ciOf l)++[46]) 0 syD=false∧toksOf (ctext (ciOf l)++[46]) 0 syD=⟨tksOf 0 l++[cend (ctext (ciOf l)).length false],0,0⟩:=by
 constructor
 ·unfold badArgs
  rw [syD_ok,List.length_append,decide_eq_false (by simp;omega),decide_eq_false (by omega),decide_eq_false (by simp;omega)];rfl
 ·unfold toksOf
  rw [show syD.conv=[] from rfl,cvt_id]
  have:=allR_ck dotOk_nil (ciOf l) false (fun x hx=>by
   obtain ⟨y,hy,rfl⟩:=List.mem_map.1 hx
   exact (h y hy).1) hC
  rw [tks_eq l 0 h] at this
  exact this
theorem gives_words {l:List (Bool×List UInt8×LexR)} {t:Tm} (h:∀x∈l,IsTk x.2.1 x.2.2) (hC:Chn (ciOf l) false) (hn:(ctext (ciOf l)).length≤16000)
  (hw:∀e,wholeG ⟨tksOf 0 l++[cend e false],defL,1⟩=.ok (t,l.length)) (hv:validT t=true):givesR (ctext (ciOf l)++[46]) t=true:=by
 obtain ⟨h1,h2⟩:=toks_words h hC hn
 have hr:readS (ctext (ciOf l)++[46]) 0 syD=⟨t,(vsAt (tksOf 0 l++[cend (ctext (ciOf l)).length false]) l.length).m,sglV (vsAt (tksOf 0 l++[cend (ctext (ciOf l)).length false]) l.length),((ctext (ciOf l)++[46]).length:Nat),0,0⟩:=by
  unfold readS
  rw [h1,if_neg (by simp),h2,if_neg (by simp)]
  unfold readT
  rw [show (⟨tksOf 0 l++[cend (ctext (ciOf l)).length false],syD.P,syD.q⟩:RE)=⟨tksOf 0 l++[cend (ctext (ciOf l)).length false],defL,1⟩ from rfl,hw]
  simp only
  unfold readOk
  rw [hv,if_pos rfl]
  congr 1
  show (tokA _ l.length).r.end_=_
  unfold tokA
  rw [List.length_append,tks_len,show min l.length (l.length+[cend (ctext (ciOf l)).length false].length-1)=l.length by simp,List.getD_eq_getElem?_getD,List.getElem?_append_right (by rw [tks_len];exact Nat.le_refl _),tks_len]
  simp [cend,spB]
 unfold givesR
 rw [hr]
 simp only [same_refl hv]
 simp
theorem gives_never {l:List (Bool×List UInt8×LexR)} {t:Tm} {k:Nat} (h:∀x∈l,IsTk x.2.1 x.2.2) (hC:Chn (ciOf l) false) (hn:(ctext (ciOf l)).length≤16000)
  (hw:∀e,wholeG ⟨tksOf 0 l++[cend e false],defL,1⟩=.error k):givesR (ctext (ciOf l)++[46]) t=false:=by
 obtain ⟨h1,h2⟩:=toks_words h hC hn
 have hr:(readS (ctext (ciOf l)++[46]) 0 syD).err=7:=by
  unfold readS
  rw [h1,if_neg (by simp),h2,if_neg (by simp)]
  unfold readT
  rw [show (⟨tksOf 0 l++[cend (ctext (ciOf l)).length false],syD.P,syD.q⟩:RE)=⟨tksOf 0 l++[cend (ctext (ciOf l)).length false],defL,1⟩ from rfl,hw]
  rfl
 unfold givesR
 rw [hr]
 rfl
theorem dec_len20 (u:Nat) (h:u≤9223372036854775808):(Lib.decDigits u).length≤100:=by
 have:∀(k u:Nat),u<10 ^ (k+1)→(Lib.decDigits u).length≤k+1:=by
  intro k
  induction k with
  | zero=>intro u h;rw [Lib.decDigits,dif_pos (by omega)];simp
  | succ k ih=>
   intro u h
   rw [Lib.decDigits]
   split
   ·simp
   ·rw [List.length_append]
    have:=ih (u / 10) (by rw [Nat.pow_succ] at h;omega)
    simp;omega
 have h2:=this 19 u (by omega)
 omega
theorem gi_a (u:Nat) (hu:u≤9223372036854775807):givesR (Lib.decDigits u++[46]) (intT (u:Int))=true:=by
 have hT:∀x∈([(false,Lib.decDigits u,⟨4,[],(u:Int),0,(Lib.decDigits u).length,0⟩)]:List (Bool×List UInt8×LexR)),IsTk x.2.1 x.2.2:=fun x hx=>by
  simp only [List.mem_cons,List.mem_nil_iff,or_false] at hx
  rcases hx with rfl
  ·exact tk_dec u hu
 have hl:=dec_len20 u (by omega)
 have h:=gives_words hT (fun _=>glue_dec u [46] (by decide +kernel) (by decide +kernel)) (by simp [ctext,ciOf,spB];omega) (fun e=>by kernel_rfl) (t:=(intT (u:Int))) (chk_valid (n:=1) (by kernel_rfl) (by decide))
 simpa [ctext,ciOf,spB] using h
theorem gi_b (u:Nat) (hu:u≤9223372036854775807):givesR (102::40::(Lib.decDigits u++[41,46])) (strT ⟨#[102]⟩ [intT (u:Int)])=true:=by
 have hT:∀x∈([(false,[102],⟨1,[102],0,0,1,0⟩),(false,[40],⟨6,[40],0,0,1,0⟩),(false,Lib.decDigits u,⟨4,[],(u:Int),0,(Lib.decDigits u).length,0⟩),(false,[41],⟨6,[41],0,0,1,0⟩)]:List (Bool×List UInt8×LexR)),IsTk x.2.1 x.2.2:=fun x hx=>by
  simp only [List.mem_cons,List.mem_nil_iff,or_false] at hx
  rcases hx with rfl|rfl|rfl|rfl
  ·exact tk_f
  ·exact tk_open
  ·exact tk_dec u hu
  ·exact tk_close
 have hl:=dec_len20 u (by omega)
 have h:=gives_words hT ⟨(fun _=>by decide +kernel),⟨(fun _=>glue_to_dec u [40] (by decide +kernel) (by decide +kernel)),⟨(fun _=>glue_dec u [41] (by decide +kernel) (by decide +kernel)),(fun _=>by decide +kernel)⟩⟩⟩ (by simp [ctext,ciOf,spB];omega) (fun e=>by kernel_rfl) (t:=(strT ⟨#[102]⟩ [intT (u:Int)])) (chk_valid (n:=2) (by kernel_rfl) (by decide))
 simpa [ctext,ciOf,spB] using h
theorem gi_c (u:Nat) (hu:u≤9223372036854775807):givesR (91::(Lib.decDigits u++(32::124::32::(Lib.decDigits u++[93,46])))) (strT ⟨#[46]⟩ [intT (u:Int),intT (u:Int)])=true:=by
 have hT:∀x∈([(false,[91],⟨6,[91],0,0,1,0⟩),(false,Lib.decDigits u,⟨4,[],(u:Int),0,(Lib.decDigits u).length,0⟩),(true,[124],⟨6,[124],0,0,1,0⟩),(true,Lib.decDigits u,⟨4,[],(u:Int),0,(Lib.decDigits u).length,0⟩),(false,[93],⟨6,[93],0,0,1,0⟩)]:List (Bool×List UInt8×LexR)),IsTk x.2.1 x.2.2:=fun x hx=>by
  simp only [List.mem_cons,List.mem_nil_iff,or_false] at hx
  rcases hx with rfl|rfl|rfl|rfl|rfl
  ·exact tk_sq
  ·exact tk_dec u hu
  ·exact tk_bar
  ·exact tk_dec u hu
  ·exact tk_qs
 have hl:=dec_len20 u (by omega)
 have h:=gives_words hT ⟨(fun _=>glue_to_dec u [91] (by decide +kernel) (by decide +kernel)),⟨(fun h=>absurd (show true=false from h) (by decide)),⟨(fun h=>absurd (show true=false from h) (by decide)),⟨(fun _=>glue_dec u [93] (by decide +kernel) (by decide +kernel)),(fun _=>by decide +kernel)⟩⟩⟩⟩ (by simp [ctext,ciOf,spB];omega) (fun e=>by kernel_rfl) (t:=(strT ⟨#[46]⟩ [intT (u:Int),intT (u:Int)])) (chk_valid (n:=3) (by kernel_rfl) (by decide))
 simpa [ctext,ciOf,spB] using h
theorem gi_d (u:Nat) (hu:u≤9223372036854775807):givesR (45::32::(Lib.decDigits u++[46])) (strT ⟨#[45]⟩ [intT (u:Int)])=true:=by
 have hT:∀x∈([(false,[45],⟨1,[45],0,0,1,0⟩),(true,Lib.decDigits u,⟨4,[],(u:Int),0,(Lib.decDigits u).length,0⟩)]:List (Bool×List UInt8×LexR)),IsTk x.2.1 x.2.2:=fun x hx=>by
  simp only [List.mem_cons,List.mem_nil_iff,or_false] at hx
  rcases hx with rfl|rfl
  ·exact tk_minus
  ·exact tk_dec u hu
 have hl:=dec_len20 u (by omega)
 have h:=gives_words hT ⟨(fun h=>absurd (show true=false from h) (by decide)),(fun _=>glue_dec u [46] (by decide +kernel) (by decide +kernel))⟩ (by simp [ctext,ciOf,spB];omega) (fun e=>by kernel_rfl) (t:=(strT ⟨#[45]⟩ [intT (u:Int)])) (chk_valid (n:=2) (by kernel_rfl) (by decide))
 simpa [ctext,ciOf,spB] using h
theorem gi_e (u:Nat) (hu:u≤9223372036854775807):givesR (49::32::45::(Lib.decDigits u++[46])) (strT ⟨#[45]⟩ [intT 1,intT (u:Int)])=true:=by
 have hT:∀x∈([(false,[49],⟨4,[],1,0,1,0⟩),(true,[45],⟨1,[45],0,0,1,0⟩),(false,Lib.decDigits u,⟨4,[],(u:Int),0,(Lib.decDigits u).length,0⟩)]:List (Bool×List UInt8×LexR)),IsTk x.2.1 x.2.2:=fun x hx=>by
  simp only [List.mem_cons,List.mem_nil_iff,or_false] at hx
  rcases hx with rfl|rfl|rfl
  ·exact tk_1
  ·exact tk_minus
  ·exact tk_dec u hu
 have hl:=dec_len20 u (by omega)
 have h:=gives_words hT ⟨(fun h=>absurd (show true=false from h) (by decide)),⟨(fun _=>glue_to_dec u [45] (by decide +kernel) (by decide +kernel)),(fun _=>glue_dec u [46] (by decide +kernel) (by decide +kernel))⟩⟩ (by simp [ctext,ciOf,spB];omega) (fun e=>by kernel_rfl) (t:=(strT ⟨#[45]⟩ [intT 1,intT (u:Int)])) (chk_valid (n:=3) (by kernel_rfl) (by decide))
 simpa [ctext,ciOf,spB] using h
theorem gj_a (u:Nat) (hu:u≤9223372036854775807):givesR (45::(Lib.decDigits u++[46])) (intT (if (u:Int)=-9223372036854775808 then (u:Int) else -(u:Int)))=true:=by
 have hT:∀x∈([(false,[45],⟨1,[45],0,0,1,0⟩),(false,Lib.decDigits u,⟨4,[],(u:Int),0,(Lib.decDigits u).length,0⟩)]:List (Bool×List UInt8×LexR)),IsTk x.2.1 x.2.2:=fun x hx=>by
  simp only [List.mem_cons,List.mem_nil_iff,or_false] at hx
  rcases hx with rfl|rfl
  ·exact tk_minus
  ·exact tk_dec u hu
 have hl:=dec_len20 u (by omega)
 have h:=gives_words hT ⟨(fun _=>glue_to_dec u [45] (by decide +kernel) (by decide +kernel)),(fun _=>glue_dec u [46] (by decide +kernel) (by decide +kernel))⟩ (by simp [ctext,ciOf,spB];omega) (fun e=>by kernel_rfl) (t:=(intT (if (u:Int)=-9223372036854775808 then (u:Int) else -(u:Int)))) (chk_valid (n:=1) (by kernel_rfl) (by decide))
 simpa [ctext,ciOf,spB] using h
theorem gj_b (u:Nat) (hu:u≤9223372036854775807):givesR (102::40::45::(Lib.decDigits u++[41,46])) (strT ⟨#[102]⟩ [(intT (if (u:Int)=-9223372036854775808 then (u:Int) else -(u:Int)))])=true:=by
 have hT:∀x∈([(false,[102],⟨1,[102],0,0,1,0⟩),(false,[40],⟨6,[40],0,0,1,0⟩),(false,[45],⟨1,[45],0,0,1,0⟩),(false,Lib.decDigits u,⟨4,[],(u:Int),0,(Lib.decDigits u).length,0⟩),(false,[41],⟨6,[41],0,0,1,0⟩)]:List (Bool×List UInt8×LexR)),IsTk x.2.1 x.2.2:=fun x hx=>by
  simp only [List.mem_cons,List.mem_nil_iff,or_false] at hx
  rcases hx with rfl|rfl|rfl|rfl|rfl
  ·exact tk_f
  ·exact tk_open
  ·exact tk_minus
  ·exact tk_dec u hu
  ·exact tk_close
 have hl:=dec_len20 u (by omega)
 have h:=gives_words hT ⟨(fun _=>by decide +kernel),⟨(fun _=>by decide +kernel),⟨(fun _=>glue_to_dec u [45] (by decide +kernel) (by decide +kernel)),⟨(fun _=>glue_dec u [41] (by decide +kernel) (by decide +kernel)),(fun _=>by decide +kernel)⟩⟩⟩⟩ (by simp [ctext,ciOf,spB];omega) (fun e=>by kernel_rfl) (t:=(strT ⟨#[102]⟩ [(intT (if (u:Int)=-9223372036854775808 then (u:Int) else -(u:Int)))])) (chk_valid (n:=2) (by kernel_rfl) (by decide))
 simpa [ctext,ciOf,spB] using h
theorem gj_c (u:Nat) (hu:u≤9223372036854775807):givesR (91::45::(Lib.decDigits u++(32::124::32::45::(Lib.decDigits u++[93,46])))) (strT ⟨#[46]⟩ [(intT (if (u:Int)=-9223372036854775808 then (u:Int) else -(u:Int))),(intT (if (u:Int)=-9223372036854775808 then (u:Int) else -(u:Int)))])=true:=by
 have hT:∀x∈([(false,[91],⟨6,[91],0,0,1,0⟩),(false,[45],⟨1,[45],0,0,1,0⟩),(false,Lib.decDigits u,⟨4,[],(u:Int),0,(Lib.decDigits u).length,0⟩),(true,[124],⟨6,[124],0,0,1,0⟩),(true,[45],⟨1,[45],0,0,1,0⟩),(false,Lib.decDigits u,⟨4,[],(u:Int),0,(Lib.decDigits u).length,0⟩),(false,[93],⟨6,[93],0,0,1,0⟩)]:List (Bool×List UInt8×LexR)),IsTk x.2.1 x.2.2:=fun x hx=>by
  simp only [List.mem_cons,List.mem_nil_iff,or_false] at hx
  rcases hx with rfl|rfl|rfl|rfl|rfl|rfl|rfl
  ·exact tk_sq
  ·exact tk_minus
  ·exact tk_dec u hu
  ·exact tk_bar
  ·exact tk_minus
  ·exact tk_dec u hu
  ·exact tk_qs
 have hl:=dec_len20 u (by omega)
 have h:=gives_words hT ⟨(fun _=>by decide +kernel),⟨(fun _=>glue_to_dec u [45] (by decide +kernel) (by decide +kernel)),⟨(fun h=>absurd (show true=false from h) (by decide)),⟨(fun h=>absurd (show true=false from h) (by decide)),⟨(fun _=>glue_to_dec u [45] (by decide +kernel) (by decide +kernel)),⟨(fun _=>glue_dec u [93] (by decide +kernel) (by decide +kernel)),(fun _=>by decide +kernel)⟩⟩⟩⟩⟩⟩ (by simp [ctext,ciOf,spB];omega) (fun e=>by kernel_rfl) (t:=(strT ⟨#[46]⟩ [(intT (if (u:Int)=-9223372036854775808 then (u:Int) else -(u:Int))),(intT (if (u:Int)=-9223372036854775808 then (u:Int) else -(u:Int)))])) (chk_valid (n:=3) (by kernel_rfl) (by decide))
 simpa [ctext,ciOf,spB] using h
theorem gj_d (u:Nat) (hu:u≤9223372036854775807):givesR (45::32::45::(Lib.decDigits u++[46])) (strT ⟨#[45]⟩ [(intT (if (u:Int)=-9223372036854775808 then (u:Int) else -(u:Int)))])=true:=by
 have hT:∀x∈([(false,[45],⟨1,[45],0,0,1,0⟩),(true,[45],⟨1,[45],0,0,1,0⟩),(false,Lib.decDigits u,⟨4,[],(u:Int),0,(Lib.decDigits u).length,0⟩)]:List (Bool×List UInt8×LexR)),IsTk x.2.1 x.2.2:=fun x hx=>by
  simp only [List.mem_cons,List.mem_nil_iff,or_false] at hx
  rcases hx with rfl|rfl|rfl
  ·exact tk_minus
  ·exact tk_minus
  ·exact tk_dec u hu
 have hl:=dec_len20 u (by omega)
 have h:=gives_words hT ⟨(fun h=>absurd (show true=false from h) (by decide)),⟨(fun _=>glue_to_dec u [45] (by decide +kernel) (by decide +kernel)),(fun _=>glue_dec u [46] (by decide +kernel) (by decide +kernel))⟩⟩ (by simp [ctext,ciOf,spB];omega) (fun e=>by kernel_rfl) (t:=(strT ⟨#[45]⟩ [(intT (if (u:Int)=-9223372036854775808 then (u:Int) else -(u:Int)))])) (chk_valid (n:=2) (by kernel_rfl) (by decide))
 simpa [ctext,ciOf,spB] using h
theorem gk_a:givesR (45::(Lib.decDigits 9223372036854775808++[46])) (intT (-9223372036854775808))=true:=by
 have hT:∀x∈([(false,[45],⟨1,[45],0,0,1,0⟩),(false,Lib.decDigits 9223372036854775808,⟨4,[],-9223372036854775808,0,(Lib.decDigits 9223372036854775808).length,0⟩)]:List (Bool×List UInt8×LexR)),IsTk x.2.1 x.2.2:=fun x hx=>by
  simp only [List.mem_cons,List.mem_nil_iff,or_false] at hx
  rcases hx with rfl|rfl
  ·exact tk_minus
  ·exact tk_big
 have hl:=dec_len20 9223372036854775808 (by decide)
 have h:=gives_words hT ⟨(fun _=>glue_to_dec 9223372036854775808 [45] (by decide +kernel) (by decide +kernel)),(fun _=>glue_dec 9223372036854775808 [46] (by decide +kernel) (by decide +kernel))⟩ (by simp [ctext,ciOf,spB];omega) (fun e=>by kernel_rfl) (t:=(intT (-9223372036854775808))) (chk_valid (n:=1) (by kernel_rfl) (by decide))
 simpa [ctext,ciOf,spB] using h
theorem gk_b:givesR (102::40::45::(Lib.decDigits 9223372036854775808++[41,46])) (strT ⟨#[102]⟩ [(intT (-9223372036854775808))])=true:=by
 have hT:∀x∈([(false,[102],⟨1,[102],0,0,1,0⟩),(false,[40],⟨6,[40],0,0,1,0⟩),(false,[45],⟨1,[45],0,0,1,0⟩),(false,Lib.decDigits 9223372036854775808,⟨4,[],-9223372036854775808,0,(Lib.decDigits 9223372036854775808).length,0⟩),(false,[41],⟨6,[41],0,0,1,0⟩)]:List (Bool×List UInt8×LexR)),IsTk x.2.1 x.2.2:=fun x hx=>by
  simp only [List.mem_cons,List.mem_nil_iff,or_false] at hx
  rcases hx with rfl|rfl|rfl|rfl|rfl
  ·exact tk_f
  ·exact tk_open
  ·exact tk_minus
  ·exact tk_big
  ·exact tk_close
 have hl:=dec_len20 9223372036854775808 (by decide)
 have h:=gives_words hT ⟨(fun _=>by decide +kernel),⟨(fun _=>by decide +kernel),⟨(fun _=>glue_to_dec 9223372036854775808 [45] (by decide +kernel) (by decide +kernel)),⟨(fun _=>glue_dec 9223372036854775808 [41] (by decide +kernel) (by decide +kernel)),(fun _=>by decide +kernel)⟩⟩⟩⟩ (by simp [ctext,ciOf,spB];omega) (fun e=>by kernel_rfl) (t:=(strT ⟨#[102]⟩ [(intT (-9223372036854775808))])) (chk_valid (n:=2) (by kernel_rfl) (by decide))
 simpa [ctext,ciOf,spB] using h
theorem gk_c:givesR (91::45::(Lib.decDigits 9223372036854775808++(32::124::32::45::(Lib.decDigits 9223372036854775808++[93,46])))) (strT ⟨#[46]⟩ [(intT (-9223372036854775808)),(intT (-9223372036854775808))])=true:=by
 have hT:∀x∈([(false,[91],⟨6,[91],0,0,1,0⟩),(false,[45],⟨1,[45],0,0,1,0⟩),(false,Lib.decDigits 9223372036854775808,⟨4,[],-9223372036854775808,0,(Lib.decDigits 9223372036854775808).length,0⟩),(true,[124],⟨6,[124],0,0,1,0⟩),(true,[45],⟨1,[45],0,0,1,0⟩),(false,Lib.decDigits 9223372036854775808,⟨4,[],-9223372036854775808,0,(Lib.decDigits 9223372036854775808).length,0⟩),(false,[93],⟨6,[93],0,0,1,0⟩)]:List (Bool×List UInt8×LexR)),IsTk x.2.1 x.2.2:=fun x hx=>by
  simp only [List.mem_cons,List.mem_nil_iff,or_false] at hx
  rcases hx with rfl|rfl|rfl|rfl|rfl|rfl|rfl
  ·exact tk_sq
  ·exact tk_minus
  ·exact tk_big
  ·exact tk_bar
  ·exact tk_minus
  ·exact tk_big
  ·exact tk_qs
 have hl:=dec_len20 9223372036854775808 (by decide)
 have h:=gives_words hT ⟨(fun _=>by decide +kernel),⟨(fun _=>glue_to_dec 9223372036854775808 [45] (by decide +kernel) (by decide +kernel)),⟨(fun h=>absurd (show true=false from h) (by decide)),⟨(fun h=>absurd (show true=false from h) (by decide)),⟨(fun _=>glue_to_dec 9223372036854775808 [45] (by decide +kernel) (by decide +kernel)),⟨(fun _=>glue_dec 9223372036854775808 [93] (by decide +kernel) (by decide +kernel)),(fun _=>by decide +kernel)⟩⟩⟩⟩⟩⟩ (by simp [ctext,ciOf,spB];omega) (fun e=>by kernel_rfl) (t:=(strT ⟨#[46]⟩ [(intT (-9223372036854775808)),(intT (-9223372036854775808))])) (chk_valid (n:=3) (by kernel_rfl) (by decide))
 simpa [ctext,ciOf,spB] using h
theorem gk_d:givesR (45::32::45::(Lib.decDigits 9223372036854775808++[46])) (strT ⟨#[45]⟩ [(intT (-9223372036854775808))])=true:=by
 have hT:∀x∈([(false,[45],⟨1,[45],0,0,1,0⟩),(true,[45],⟨1,[45],0,0,1,0⟩),(false,Lib.decDigits 9223372036854775808,⟨4,[],-9223372036854775808,0,(Lib.decDigits 9223372036854775808).length,0⟩)]:List (Bool×List UInt8×LexR)),IsTk x.2.1 x.2.2:=fun x hx=>by
  simp only [List.mem_cons,List.mem_nil_iff,or_false] at hx
  rcases hx with rfl|rfl|rfl
  ·exact tk_minus
  ·exact tk_minus
  ·exact tk_big
 have hl:=dec_len20 9223372036854775808 (by decide)
 have h:=gives_words hT ⟨(fun h=>absurd (show true=false from h) (by decide)),⟨(fun _=>glue_to_dec 9223372036854775808 [45] (by decide +kernel) (by decide +kernel)),(fun _=>glue_dec 9223372036854775808 [46] (by decide +kernel) (by decide +kernel))⟩⟩ (by simp [ctext,ciOf,spB];omega) (fun e=>by kernel_rfl) (t:=(strT ⟨#[45]⟩ [(intT (-9223372036854775808))])) (chk_valid (n:=2) (by kernel_rfl) (by decide))
 simpa [ctext,ciOf,spB] using h
theorem gk_e:givesR (49::32::45::(Lib.decDigits 9223372036854775808++[46])) (strT ⟨#[45]⟩ [intT 1,(intT (-9223372036854775808))])=false:=by
 have hT:∀x∈([(false,[49],⟨4,[],1,0,1,0⟩),(true,[45],⟨1,[45],0,0,1,0⟩),(false,Lib.decDigits 9223372036854775808,⟨4,[],-9223372036854775808,0,(Lib.decDigits 9223372036854775808).length,0⟩)]:List (Bool×List UInt8×LexR)),IsTk x.2.1 x.2.2:=fun x hx=>by
  simp only [List.mem_cons,List.mem_nil_iff,or_false] at hx
  rcases hx with rfl|rfl|rfl
  ·exact tk_1
  ·exact tk_minus
  ·exact tk_big
 have hl:=dec_len20 9223372036854775808 (by decide)
 have h:=gives_never (t:=(strT ⟨#[45]⟩ [intT 1,(intT (-9223372036854775808))])) (k:=2) hT ⟨(fun h=>absurd (show true=false from h) (by decide)),⟨(fun _=>glue_to_dec 9223372036854775808 [45] (by decide +kernel) (by decide +kernel)),(fun _=>glue_dec 9223372036854775808 [46] (by decide +kernel) (by decide +kernel))⟩⟩ (by simp [ctext,ciOf,spB];omega) (fun e=>by kernel_rfl)
 simpa [ctext,ciOf,spB] using h
end Hb
namespace Hb
open Go Go.RowKit
theorem itoa_cases (k:Int) (h0:-9223372036854775808≤k) (h1:k≤9223372036854775807) :
  (∃u:Nat,u≤9223372036854775807∧k=(u:Int)∧Lib.itoa k=Lib.decDigits u) ∨
  (∃u:Nat,u≤9223372036854775807∧0<u∧k=-(u:Int)∧Lib.itoa k=45::Lib.decDigits u) ∨
  (k=-9223372036854775808∧Lib.itoa k=45::Lib.decDigits 9223372036854775808):=by
 unfold Lib.itoa
 by_cases h:k<0
 ·rw [if_pos h]
  by_cases h2:k=-9223372036854775808
  ·subst h2;exact .inr (.inr ⟨rfl,rfl⟩)
  ·exact .inr (.inl ⟨k.natAbs,by omega,by omega,by omega,rfl⟩)
 ·rw [if_neg h]
  exact .inl ⟨k.toNat,by omega,by omega,rfl⟩
theorem if_small (u:Nat):(if (u:Int)=-9223372036854775808 then (u:Int) else -(u:Int))=-(u:Int):=if_neg (by omega)
section
variable (k:Int) (h0:-9223372036854775808≤k) (h1:k≤9223372036854775807)
include h0 h1
theorem gv_a:givesR (Lib.itoa k++[46]) (intT k)=true:=by
 rcases itoa_cases k h0 h1 with ⟨u,hu,rfl,e⟩ | ⟨u,hu,hp,rfl,e⟩ | ⟨rfl,e⟩
 ·rw [e];exact gi_a u hu
 ·rw [e];have:=gj_a u hu;rw [if_small] at this;exact this
 ·rw [e];exact gk_a
theorem gv_b:givesR (102::40::(Lib.itoa k++[41,46])) (strT ⟨#[102]⟩ [intT k])=true:=by
 rcases itoa_cases k h0 h1 with ⟨u,hu,rfl,e⟩ | ⟨u,hu,hp,rfl,e⟩ | ⟨rfl,e⟩
 ·rw [e];exact gi_b u hu
 ·rw [e];have:=gj_b u hu;rw [if_small] at this;exact this
 ·rw [e];exact gk_b
theorem gv_c:givesR (91::(Lib.itoa k++(32::124::32::(Lib.itoa k++[93,46])))) (strT ⟨#[46]⟩ [intT k,intT k])=true:=by
 rcases itoa_cases k h0 h1 with ⟨u,hu,rfl,e⟩ | ⟨u,hu,hp,rfl,e⟩ | ⟨rfl,e⟩
 ·rw [e];exact gi_c u hu
 ·rw [e];have:=gj_c u hu;rw [if_small] at this;exact this
 ·rw [e];exact gk_c
theorem gv_d:givesR (45::32::(Lib.itoa k++[46])) (strT ⟨#[45]⟩ [intT k])=true:=by
 rcases itoa_cases k h0 h1 with ⟨u,hu,rfl,e⟩ | ⟨u,hu,hp,rfl,e⟩ | ⟨rfl,e⟩
 ·rw [e];exact gi_d u hu
 ·rw [e];have:=gj_d u hu;rw [if_small] at this;exact this
 ·rw [e];exact gk_d
theorem gv_e (hk:¬k<0):givesR (49::32::45::(Lib.itoa k++[46])) (strT ⟨#[45]⟩ [intT 1,intT k])=true:=by
 rcases itoa_cases k h0 h1 with ⟨u,hu,rfl,e⟩ | ⟨u,hu,hp,rfl,e⟩ | ⟨rfl,e⟩
 ·rw [e];exact gi_e u hu
 ·omega
 ·omega
theorem gv_f (hk:k<0) (hm:¬k=-9223372036854775808):givesR (49::32::(Lib.itoa k++[46])) (strT ⟨#[45]⟩ [intT 1,intT (-k)])=true:=by
 rcases itoa_cases k h0 h1 with ⟨u,hu,rfl,e⟩ | ⟨u,hu,hp,rfl,e⟩ | ⟨rfl,e⟩
 ·omega
 ·rw [e,Int.neg_neg];exact gi_e u hu
 ·omega
theorem itoa_len:(Lib.itoa k).length≤101:=by
 rcases itoa_cases k h0 h1 with ⟨u,hu,rfl,e⟩ | ⟨u,hu,hp,rfl,e⟩ | ⟨rfl,e⟩
 ·rw [e];have:=dec_len20 u (by omega);omega
 ·rw [e,List.length_cons];have:=dec_len20 u (by omega);omega
 ·rw [e,List.length_cons];have:=dec_len20 9223372036854775808 (by omega);omega
end
theorem gv_g:givesR (49::32::(Lib.itoa (-9223372036854775808)++[46])) (strT ⟨#[45]⟩ [intT 1,intT (-9223372036854775808)])=false:=by
 rcases itoa_cases (-9223372036854775808) (by decide) (by decide) with ⟨u,hu,h,e⟩ | ⟨u,hu,hp,h,e⟩ | ⟨_,e⟩
 ·omega
 ·omega
 ·rw [e];exact gk_e
end Hb
namespace Go.Proofs.YtbojljpldcijgaaGreatDoor
open Go.ChangeShapes Go.WideShapes Go.ChangeAt Go.RowKit
set_option maxRecDepth 100000
theorem ownDoor:ownKnob Tryz.prog.godebug=none:=by kernel_rfl
theorem laidOutDoor:laidOutB Tryz.prog=true:=by kernel_rfl
def laid3 : List (String × DataW Unit) := [("math/bits.deBruijn32tab", Rows.laid_math_bits_deBruijn32tab), ("math/bits.deBruijn64tab", Rows.laid_math_bits_deBruijn64tab), ("internal/strconv.uint64pow10", Rows.laid_internal_strconv_uint64pow10)]
theorem door_met (os:Os) (args:Array Value):laidMetH Tryz.prog laid3 ((World.doorLaid Tryz.prog 400 os).forCall (fun _ _=>0) ⟨#[],args,[]⟩).memory :=
 laidMetH_of_parts3 (fuel:=8) (laidMet_of_run' 8 (by kernel_rfl) (by kernel_rfl)) (by kernel_rfl) (by kernel_rfl)
def tab64:List Int:=[0,1,56,2,57,49,28,3,61,58,42,50,38,29,17,4,62,47,59,36,45,43,51,22,53,39,33,30,24,18,12,5,63,55,48,27,60,41,37,16,46,35,44,21,52,32,23,11,54,26,40,15,34,20,31,10,25,14,19,9,13,8,7,6]
theorem g64 : Tryz.prog.globalNamed "math/bits.deBruijn64tab" = some 2 := by kernel_rfl
theorem g64t:(Tryz.prog.globals[2]?).map (·.type)=some 128:=by kernel_rfl
theorem g10 : Tryz.prog.globalNamed "internal/strconv.uint64pow10" = some 0 := by kernel_rfl
theorem g10t:(Tryz.prog.globals[0]?).map (·.type)=some 77:=by kernel_rfl
theorem c8:Tryz.prog.cellsOf 5=1:=by kernel_rfl
theorem c64a:Tryz.prog.cellsOf 128=64:=by kernel_rfl
theorem cu64:Tryz.prog.cellsOf 51=1:=by kernel_rfl
theorem c20a:Tryz.prog.cellsOf 77=20:=by kernel_rfl
structure DoorOk (W:World):Prop where
 lt:2<W.heap.size
 c15:W.cell? ⟨2,15,none⟩=some (.int .u8 4)
 pow : Lib.TabIs Tryz.prog W "internal/strconv.uint64pow10" .u64 Lib.pow10Tab
theorem door_of {W:World} (h:laidMetH Tryz.prog laid3 W):DoorOk W:=by
 rw [MakeChecks.laidMetH_plain _ _ _ (by kernel_rfl)] at h
 have h1:=laidMet.tail h
 have h2:=laidMet.tail h1
 have hT:=Lib.tabIs_of_head (k:=.u8) (zs:=tab64) g64 g64t Tryz.underlying128 Tryz.underlying5 c8 c64a h1
 have hP:=Lib.tabIs_of_head (k:=.u64) (zs:=Lib.pow10Tab) g10 g10t Tryz.underlying77 Tryz.underlying51 cu64 c20a h2
 have hc:W.cell? ⟨2,15,none⟩=some (.int .u8 4):=hT.cell g64 15 (by decide)
 exact ⟨World.block_lt_of_cell? W ⟨_,15,none⟩ hc,hc,hP⟩
theorem DoorOk.below {W W':World} (h:DoorOk W) (hB:Below W.heap.size W W'):DoorOk W' :=
 ⟨Nat.lt_of_lt_of_le h.lt hB.size,(hB.cell (p:=⟨_,15,none⟩) h.lt).trans h.c15,Joins.tab_stays g10 h.pow hB (Nat.le_refl _)⟩
end Go.Proofs.YtbojljpldcijgaaGreatDoor
namespace Go.Proofs
open Go.Shelf
def Tryz.laysM173_ren:Go.Shelf.Ren:=⟨fun | 173=>4 | 246=>9 | 283=>16 | 284=>17 | 285=>18 | 286=>19 | 129=>31 | 317=>30 | 318=>32 | 319=>33 | 320=>34 | 337=>50 | 338=>51 | n=>n,fun | 2=>2 | 3=>3 | 9=>9 | 4=>4 | 171=>50 | 0=>0 | 53=>51 | 37=>54 | 5=>5 | 173=>55 | 212=>77 | 51=>78 | 20=>20 | 213=>79 | 46=>81 | 232=>127 | 233=>128 | n=>n,fun | 17=>0 | 18=>1 | 19=>2 | n=>n⟩
theorem Tryz.laysM173:Go.Proofs.LaysM.n173 Tryz.prog Tryz.laysM173_ren:={
 mixed:=by kernel_rfl
 f129:=Tryz.func31.trans (congrArg some (by kernel_rfl))
 f173:=Tryz.func4.trans (congrArg some (by kernel_rfl))
 f246:=Tryz.func9.trans (congrArg some (by kernel_rfl))
 f283:=Tryz.func16.trans (congrArg some (by kernel_rfl))
 f284:=Tryz.func17.trans (congrArg some (by kernel_rfl))
 f285:=Tryz.func18.trans (congrArg some (by kernel_rfl))
 f286:=Tryz.func19.trans (congrArg some (by kernel_rfl))
 f317:=Tryz.func30.trans (congrArg some (by kernel_rfl))
 f318:=Tryz.func32.trans (congrArg some (by kernel_rfl))
 f319:=Tryz.func33.trans (congrArg some (by kernel_rfl))
 f320:=Tryz.func34.trans (congrArg some (by kernel_rfl))
 f337:=Tryz.func50.trans (congrArg some (by kernel_rfl))
 f338:=Tryz.func51.trans (congrArg some (by kernel_rfl))
 t0:=Tryz.underlying0
 a0:=Tryz.isAgg0
 z0:=Tryz.sizeOf0
 v0:=Tryz.zeroValue0
 t2:=Tryz.underlying2
 a2:=Tryz.isAgg2
 z2:=Tryz.sizeOf2
 v2:=Tryz.zeroValue2
 t3:=Tryz.underlying3
 a3:=Tryz.isAgg3
 z3:=Tryz.sizeOf3
 v3:=Tryz.zeroValue3
 t4:=Tryz.underlying4
 a4:=Tryz.isAgg4
 z4:=Tryz.sizeOf4
 v4:=Tryz.zeroValue4
 t5:=Tryz.underlying5
 a5:=Tryz.isAgg5
 z5:=Tryz.sizeOf5
 v5:=Tryz.zeroValue5
 t9:=Tryz.underlying9
 a9:=Tryz.isAgg9
 z9:=Tryz.sizeOf9
 v9:=Tryz.zeroValue9
 t20:=Tryz.underlying20
 a20:=Tryz.isAgg20
 z20:=Tryz.sizeOf20
 v20:=Tryz.zeroValue20
 t37:=Tryz.underlying54
 a37:=Tryz.isAgg54
 z37:=Tryz.sizeOf54
 v37:=Tryz.zeroValue54
 t46:=Tryz.underlying81
 a46:=Tryz.isAgg81
 z46:=Tryz.sizeOf81
 v46:=Tryz.zeroValue81
 t51:=Tryz.underlying78
 a51:=Tryz.isAgg78
 z51:=Tryz.sizeOf78
 v51:=Tryz.zeroValue78
 t53:=Tryz.underlying51
 a53:=Tryz.isAgg51
 z53:=Tryz.sizeOf51
 v53:=Tryz.zeroValue51
 t171:=Tryz.underlying50
 a171:=Tryz.isAgg50
 z171:=Tryz.sizeOf50
 v171:=Tryz.zeroValue50
 t173:=Tryz.underlying55
 a173:=Tryz.isAgg55
 z173:=Tryz.sizeOf55
 v173:=Tryz.zeroValue55
 t212:=Tryz.underlying77
 a212:=Tryz.isAgg77
 z212:=Tryz.sizeOf77
 v212:=Tryz.zeroValue77
 t213:=Tryz.underlying79
 a213:=Tryz.isAgg79
 z213:=Tryz.sizeOf79
 t232:=Tryz.underlying127
 a232:=Tryz.isAgg127
 z232:=Tryz.sizeOf127
 v232:=Tryz.zeroValue127
 t233:=Tryz.underlying128
 a233:=Tryz.isAgg128
 z233:=Tryz.sizeOf128
 v233:=Tryz.zeroValue128
 g17:=by kernel_rfl
 g18:=by kernel_rfl
 g19:=by kernel_rfl
 i0:=by kernel_rfl
 i2:=by kernel_rfl
 i3:=by kernel_rfl
 i4:=by kernel_rfl
 i5:=by kernel_rfl
 i9:=by kernel_rfl
 i20:=by kernel_rfl
 i37:=by kernel_rfl
 i46:=by kernel_rfl
 i51:=by kernel_rfl
 i53:=by kernel_rfl
 i171:=by kernel_rfl
 i173:=by kernel_rfl
 i212:=by kernel_rfl
 i232:=by kernel_rfl
 i233:=by kernel_rfl
 m17:=by kernel_rfl
 m18:=by kernel_rfl
 m19:=by kernel_rfl }
open Go.RowKit Go.Sort Go.Lib in
theorem Tryz.strconv_FormatInt_10 (n : Int) (h0 : -9223372036854775808 ≤ n) (h1 : n ≤ 9223372036854775807) (w : World) (htab : Lib.TabIs Tryz.prog w "internal/strconv.uint64pow10" .u64 Lib.pow10Tab) :
  Calls Tryz.prog 4 #[.int .i64 n,.int .i64 10] w fun e w'=>e=.returned (.string ⟨(Lib.itoa n).toArray⟩)∧∃k os,w'=grow (w.drewN k) os:=Any.strconv_FormatInt_10 Tryz.laysM173 n h0 h1 w htab
end Go.Proofs
