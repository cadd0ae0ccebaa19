/- Parts of the proof. -/
import Derived.Test.YtbojljpldcijgaaGreatH01
import Derived.Test.YtbojljpldcijgaaGreatH02
import Derived.Test.YtbojljpldcijgaaGreatH03
import Derived.Test.YtbojljpldcijgaaGreatH04
import Derived.Test.YtbojljpldcijgaaGreatH05
import Derived.Test.YtbojljpldcijgaaGreatH06
import Derived.Test.YtbojljpldcijgaaGreatH07
import Derived.Test.YtbojljpldcijgaaGreatH08
import Derived.Test.YtbojljpldcijgaaGreatH09
import Derived.Test.YtbojljpldcijgaaGreatH10
import Derived.Test.YtbojljpldcijgaaGreatH11
import Derived.Test.YtbojljpldcijgaaGreatH12
import Derived.Test.YtbojljpldcijgaaGreatH13
import Derived.Test.YtbojljpldcijgaaGreatH14
import Derived.Test.YtbojljpldcijgaaGreatH15
import Derived.Test.YtbojljpldcijgaaGreatH16
import Derived.Test.YtbojljpldcijgaaGreatH17
import Derived.Test.YtbojljpldcijgaaGreatH18
import Derived.Test.YtbojljpldcijgaaGreatH21
import Derived.Test.YtbojljpldcijgaaGreatH22
import Derived.Test.YtbojljpldcijgaaGreatH23
import Derived.Test.YtbojljpldcijgaaGreatH24
import Derived.Test.YtbojljpldcijgaaGreatH25
import Derived.Test.YtbojljpldcijgaaGreatH26
import Derived.Test.YtbojljpldcijgaaGreatH27
namespace Hb
open Go Go.RowKit
set_option linter.unusedSimpArgs false
theorem rap (B D:List UInt8) {i:Nat} (h:i<B.length):rawAt (B++D) i=rawAt B i:=by
 rw [rawAt_in _ _ (by rw [List.length_append];omega),rawAt_in _ _ h]
 unfold bAt
 rw [List.getD_eq_getElem?_getD,List.getD_eq_getElem?_getD,List.getElem?_append_left h]
theorem rap_mid (B:List UInt8) (x:UInt8) (r:List UInt8):rawAt (B++x::r) B.length=(x.toNat:Int):=by
 rw [rawAt_in _ _ (by simp)]
 unfold bAt
 rw [List.getD_eq_getElem?_getD,List.getElem?_append_right (Nat.le_refl _)]
 simp
def Sep (x:UInt8):Prop:=x=46∨x=41
theorem span_app {q:Int→Bool} {x:UInt8} (hq:q (x.toNat:Int)=false) (r:List UInt8):∀B:List UInt8,span q (B++x::r)=span q B
 | []=>by simp [span,hq]
 | b::B=>by
  show (if q (b.toNat:Int) then span q (B++x::r)+1 else 0)=(if q (b.toNat:Int) then span q B+1 else 0)
  rw [span_app hq r B]
theorem span_lt {q:Int→Bool} (D:List UInt8):∀B:List UInt8,span q B<B.length→span q (B++D)=span q B
 | [],h=>by simp at h
 | b::B,h=>by
  show (if q (b.toNat:Int) then span q (B++D)+1 else 0)=(if q (b.toNat:Int) then span q B+1 else 0)
  by_cases hb:q (b.toNat:Int)=true
  ·have h2:span q B<B.length:=by
    unfold span at h
    rw [if_pos hb] at h
    simpa using h
   rw [span_lt D B h2]
  ·rw [if_neg hb,if_neg hb]
theorem span_in {q:Int→Bool} {x:UInt8} (hq:q (x.toNat:Int)=true) (r:List UInt8):∀B:List UInt8,span q (B++x::r)≤B.length→span q B<B.length
 | [],h=>by
  have:span q ([]++x::r)=span q r+1:=by show (if q (x.toNat:Int) then span q r+1 else 0)=_;rw [if_pos hq]
  rw [this] at h;simp at h
 | b::B,h=>by
  have h0:span q (b::B++x::r)=if q (b.toNat:Int) then span q (B++x::r)+1 else 0:=rfl
  have h1:span q (b::B)=if q (b.toNat:Int) then span q B+1 else 0:=rfl
  rw [h1,List.length_cons]
  by_cases hb:q (b.toNat:Int)=true
  ·rw [if_pos hb]
   rw [h0,if_pos hb,List.length_cons] at h
   have:=span_in hq r B (by omega)
   omega
  ·rw [if_neg hb];omega
theorem take_span (q:Int→Bool) (B D:List UInt8):(B++D).take (span q B)=B.take (span q B):=List.take_append_of_le_length (span_le q B)
theorem drop_ap {B D:List UInt8} {k:Nat} (h:k≤B.length):(B++D).drop k=B.drop k++D:=List.drop_append_of_le_length h
theorem isDig_sep {x:UInt8} (hx:Sep x) (base:Int) (h1:2≤base) (h2:base≤36):isDig base (x.toNat:Int)=false:=by
 unfold isDig
 rw [digOk_dgt _ _ h1 h2]
 have:dgt (x.toNat:Int)=36:=by rcases hx with rfl|rfl <;> decide
 rw [this]
 exact decide_eq_false (by omega)
theorem alnum_sep {x:UInt8} (hx:Sep x):alnum (x.toNat:Int)=false:=by rcases hx with rfl|rfl <;> decide +kernel
theorem quotedS_local {B D D':List UInt8} {q c:Int} {k:Nat} (hq:0≤q∧q≤255) (h:quotedS (B++D) q=some (c,k)) (hk:k≤B.length):quotedS (B++D') q=some (c,k):=by
 obtain ⟨hk1,-⟩:=quotedS_ok _ _ _ _ hq h
 have r0:rawAt (B++D) 0=rawAt (B++D') 0:=by rw [rap B D (by omega),rap B D' (by omega)]
 by_cases hB:2≤B.length
 ·have r1:rawAt (B++D) 1=rawAt (B++D') 1:=by rw [rap B D (by omega),rap B D' (by omega)]
  have rb:escBase (B++D)=escBase (B++D'):=by unfold escBase;rw [r1]
  have rf:escFrom (B++D)=escFrom (B++D'):=by unfold escFrom;rw [r1]
  unfold quotedS at h ⊢
  rw [r0,r1] at h
  split at h
  ·cases h
  rename_i a1
  rw [if_neg a1]
  split at h
  ·rename_i a2
   rw [if_pos a2];exact h
  rename_i a2
  rw [if_neg a2]
  split at h
  ·rename_i a3
   rw [if_pos a3];exact h
  rename_i a3
  rw [if_neg a3]
  split at h
  ·rename_i a4
   rw [if_pos a4];exact h
  rename_i a4
  rw [if_neg a4]
  split at h
  ·rename_i a5
   injection h with h
   injection h with h1 h2
   obtain ⟨f,hf⟩:∃f,escFrom (B++D')=f:=⟨_,rfl⟩
   have hfl:f≤B.length:=by rw [←hf];unfold escFrom;split <;> omega
   have rl:escLen (B++D)=span (isDig (escBase (B++D'))) (B.drop f):=by
    have h0:escLen (B++D)=span (isDig (escBase (B++D'))) (B.drop f++D):=by unfold escLen;rw [rb,rf,hf,drop_ap hfl]
    rw [h0]
    refine span_lt D _ ?_
    rcases Nat.lt_or_ge (span (isDig (escBase (B++D'))) (B.drop f)) (B.drop f).length with h3 | h3
    ·exact h3
    ·exfalso
     have h4:(B.drop f).length≤span (isDig (escBase (B++D'))) (B.drop f++D):=by
      have:∀(q:Int→Bool) (X:List UInt8),X.length≤span q X→X.length≤span q (X++D):=by
       intro q X
       induction X with
       | nil=>intro _;exact Nat.zero_le _
       | cons b X ih=>
        intro hh
        have e1:span q (b::X)=if q (b.toNat:Int) then span q X+1 else 0:=rfl
        have e2:span q (b::X++D)=if q (b.toNat:Int) then span q (X++D)+1 else 0:=rfl
        rw [e1,List.length_cons] at hh
        by_cases hb:q (b.toNat:Int)=true
        ·rw [if_pos hb] at hh
         rw [e2,if_pos hb,List.length_cons]
         have:=ih (by omega)
         omega
        ·rw [if_neg hb] at hh;omega
      exact this _ _ h3
     rw [←h0,List.length_drop] at h4
     rw [rf,hf] at h2
     omega
   have hlen:escLen (B++D')=escLen (B++D):=by
    rw [rl]
    unfold escLen
    rw [hf,drop_ap hfl]
    refine span_lt D' _ ?_
    rw [←rl,List.length_drop]
    rw [rf,hf] at h2
    omega
   have hnum:escNum (B++D')=escNum (B++D):=by
    unfold escNum
    rw [hlen,rb,rf,hf,drop_ap hfl,drop_ap hfl,rl,take_span,take_span]
   have hat:rawAt (B++D') (escFrom (B++D')+escLen (B++D'))=rawAt (B++D) (escFrom (B++D)+escLen (B++D)):=by
    rw [hlen,rf]
    rw [rap B D' (by rw [←rf];omega),rap B D (by rw [←rf];omega)]
   rw [if_pos (by rw [hat,hnum,hlen];exact a5),hnum,hlen,←rf,h1,h2]
  ·cases h
 ·have hB1:B.length=1:=by omega
  have hk2:k=1:=by omega
  subst hk2
  unfold quotedS at h ⊢
  rw [r0] at h
  split at h
  ·cases h
  rename_i a1
  rw [if_neg a1]
  split at h
  ·split at h
   ·injection h with h;injection h with _ h;omega
   ·cases h
  rename_i a2
  rw [if_neg a2]
  split at h
  ·rename_i a3
   rw [if_pos a3];exact h
  split at h
  ·injection h with h;injection h with _ h;omega
  split at h
  ·injection h with h;injection h with _ h
   have:1≤escFrom (B++D):=by unfold escFrom;split <;> omega
   omega
  ·cases h
theorem itemF_local {x x':UInt8} {r r':List UInt8} (q:Int) (hq:q=39∨q=34) (hx:Sep x) (hx':Sep x'):∀(f f':Nat) (B:List UInt8) (t:List UInt8) (k:Nat),itemF f (B++x::r) q=some (t,k)→k+1≤B.length→B.length≤f'→itemF f' (B++x'::r') q=some (t,k)
 | 0,_,_,_,_,h,_,_=>by cases h
 | _+1,0,B,_,_,_,h1,h2=>by omega
 | f+1,f'+1,B,t,k,h,hk,hf=>by
  have hq2:0≤q∧q≤255:=by rcases hq with rfl|rfl <;> decide
  have r0:rawAt (B++x::r) 0=rawAt (B++x'::r') 0:=by rw [rap B _ (by omega),rap B _ (by omega)]
  have nx:¬(x.toNat:Int)=q:=by rcases hx with rfl|rfl <;> rcases hq with rfl|rfl <;> decide
  have nx':¬(x'.toNat:Int)=q:=by rcases hx' with rfl|rfl <;> rcases hq with rfl|rfl <;> decide
  have r1:rawAt (B++x::r) 1=q↔rawAt (B++x'::r') 1=q:=by
   rcases Nat.lt_or_ge 1 B.length with h1 | h1
   ·rw [rap B _ h1,rap B _ h1]
   ·have e:B.length=1:=by omega
    have e1:=rap_mid B x r
    have e2:=rap_mid B x' r'
    rw [e] at e1 e2
    rw [e1,e2]
    exact ⟨fun h=>absurd h nx,fun h=>absurd h nx'⟩
  unfold itemF at h ⊢
  simp only [r0,r1] at h
  split at h
  ·rename_i a1
   rw [if_pos a1];exact h
  rename_i a1
  rw [if_neg a1]
  have hB2:2≤B.length:=by
   rcases Nat.lt_or_ge 1 B.length with h1 | h1
   ·exact h1
   ·exfalso
    have e:k=0:=by omega
    subst e
    split at h
    ·cases hi:itemF f (List.drop 2 (B++x::r)) q with
     | none=>rw [hi] at h;cases h
     | some y=>rw [hi] at h;injection h with h;injection h with _ h;omega
    ·cases hs:quotedS (B++x::r) q with
     | none=>rw [hs] at h;cases h
     | some ck=>
      obtain ⟨c,j⟩:=ck
      have hj:=(quotedS_ok _ _ _ _ hq2 hs).1
      rw [hs] at h
      simp only at h
      cases hi:itemF f (List.drop j (B++x::r)) q with
      | none=>rw [hi] at h;cases h
      | some y=>rw [hi] at h;injection h with h;injection h with _ h;omega
  have r2:rawAt (B++x::r) 1=rawAt (B++x'::r') 1:=by rw [rap B _ (by omega),rap B _ (by omega)]
  split at h
  ·rename_i a2
   rw [r2] at a2
   rw [if_pos a2]
   cases hi:itemF f (List.drop 2 (B++x::r)) q with
   | none=>rw [hi] at h;cases h
   | some y=>
    obtain ⟨t',k'⟩:=y
    rw [hi] at h
    injection h with h
    injection h with e1 e2
    rw [drop_ap hB2] at hi
    have ih:=itemF_local (r:=r) (r':=r') q hq hx hx' f f' (B.drop 2) t' k' hi (by rw [List.length_drop];omega) (by rw [List.length_drop];omega)
    rw [drop_ap hB2,ih]
    show some (t',k'+2)=some (t,k)
    rw [←e1,←e2]
  ·rename_i a2
   rw [r2] at a2
   rw [if_neg a2]
   cases hs:quotedS (B++x::r) q with
   | none=>rw [hs] at h;cases h
   | some ck=>
    obtain ⟨c,j⟩:=ck
    have hj:=(quotedS_ok _ _ _ _ hq2 hs).1
    rw [hs] at h
    simp only at h
    cases hi:itemF f (List.drop j (B++x::r)) q with
    | none=>rw [hi] at h;cases h
    | some y=>
     obtain ⟨t',k'⟩:=y
     rw [hi] at h
     injection h with h
     injection h with e1 e2
     have e2:k'+j=k:=e2
     rw [drop_ap (show j≤B.length by omega)] at hi
     have ih:=itemF_local (r:=r) (r':=r') q hq hx hx' f f' (B.drop j) t' k' hi (by rw [List.length_drop];omega) (by rw [List.length_drop];omega)
     rw [quotedS_local hq2 hs (by omega)]
     simp only
     rw [drop_ap (show j≤B.length by omega),ih]
     show some (c.toNat.toUInt8::t',k'+j)=some (t,k)
     rw [←e1,←e2]
theorem item_local {x x':UInt8} {r r':List UInt8} (q:Int) (hq:q=39∨q=34) (hx:Sep x) (hx':Sep x') {B t:List UInt8} {k:Nat} (h:item (B++x::r) q=some (t,k)) (hk:k+1≤B.length):item (B++x'::r') q=some (t,k) :=
 itemF_local q hq hx hx' _ _ B t k h hk (by rw [List.length_append];omega)
section
variable {C r r':List UInt8} {x x':UInt8}
theorem raw1_iff (hx:Sep x) (hx':Sep x') (hC:1≤C.length) (v:Int) (hv:¬v=46∧¬v=41):rawAt (C++x::r) 1=v↔rawAt (C++x'::r') 1=v:=by
 rcases Nat.lt_or_ge 1 C.length with h1 | h1
 ·rw [rap C _ h1,rap C _ h1]
 ·have e:C.length=1:=by omega
  have e1:=rap_mid C x r
  have e2:=rap_mid C x' r'
  rw [e] at e1 e2
  rw [e1,e2]
  have q1:¬(x.toNat:Int)=v:=by rcases hx with rfl|rfl <;> intro h <;> exact absurd h.symm (by first | exact hv.1 | exact hv.2)
  have q2:¬(x'.toNat:Int)=v:=by rcases hx' with rfl|rfl <;> intro h <;> exact absurd h.symm (by first | exact hv.1 | exact hv.2)
  exact ⟨fun h=>absurd h q1,fun h=>absurd h q2⟩
theorem end_next_iff (hx:Sep x) (hx':Sep x') (hC:1≤C.length):endNext (rawAt (C++x::r) 1)=endNext (rawAt (C++x'::r') 1):=by
 rcases Nat.lt_or_ge 1 C.length with h1 | h1
 ·rw [rap C _ h1,rap C _ h1]
 ·have e:C.length=1:=by omega
  have e1:=rap_mid C x r
  have e2:=rap_mid C x' r'
  rw [e] at e1 e2
  rw [e1,e2]
  rcases hx with rfl|rfl <;> rcases hx' with rfl|rfl <;> decide +kernel
theorem base_in {m:List UInt8} {p:Nat} (h:0<numBase m p):(2≤numBase m p∧numBase m p≤36)∧(rawAt m (p+1)=120∨rawAt m (p+1)=111∨rawAt m (p+1)=98):=by
 unfold numBase at *
 grind
theorem tok0_local (hx:x=46) (hx':Sep x') (hC:1≤C.length) (h:(tokR (C++x::r) (C++x::r) 0).err=0) (he:(tokR (C++x::r) (C++x::r) 0).end_≤C.length):tokR (C++x'::r') (C++x'::r') 0=tokR (C++x::r) (C++x::r) 0:=by
 have hxs:Sep x:=.inl hx
 have r0:rawAt (C++x'::r') 0=rawAt (C++x::r) 0:=by rw [rap C _ (by omega),rap C _ (by omega)]
 have r1:∀v,¬v=46∧¬v=41→(rawAt (C++x'::r') 1=v↔rawAt (C++x::r) 1=v):=fun v hv=>raw1_iff hx' hxs hC v hv
 have rn:endNext (rawAt (C++x'::r') 1)=endNext (rawAt (C++x::r) 1):=end_next_iff hx' hxs hC
 have hnb:numBase (C++x'::r') 0=numBase (C++x::r) 0:=by
  unfold numBase
  rw [r0]
  simp only [Nat.zero_add,r1 120 (by decide),r1 111 (by decide),r1 98 (by decide)]
 unfold tokR at *
 rw [r0]
 simp only [Nat.zero_add,r1 42 (by decide)] at *
 split
 ·rfl
 rename_i a0
 rw [if_neg a0] at h he
 split
 ·rename_i a1
  unfold wordR
  rw [r0]
  simp only [List.drop_zero,Nat.zero_add,span_app (alnum_sep hxs),span_app (alnum_sep hx'),take_span]
 rename_i a1
 rw [if_neg a1] at h he
 split
 ·rename_i a2
  rw [if_pos a2] at h he
  unfold numR at *
  rw [hnb,r0]
  simp only [Nat.zero_add,r1 39 (by decide),List.drop_zero] at *
  split
  ·rename_i b1
   rw [if_pos b1] at h he
   have hC2:2≤C.length:=by
    rcases Nat.lt_or_ge 1 C.length with h1 | h1
    ·exact h1
    ·exfalso
     have e:C.length=1:=by omega
     have e1:=rap_mid C x r
     rw [e,b1.2,hx] at e1
     exact absurd e1 (by decide)
   rw [drop_ap hC2] at h he ⊢
   rw [drop_ap hC2]
   cases hq:quotedS (C.drop 2++x::r) 39 with
   | none=>rw [hq] at h;exact absurd h (by show ¬(7:Int)=0;decide)
   | some ck=>
    obtain ⟨c,k⟩:=ck
    rw [hq] at he
    have he:((0:Nat):Int)+2+(k:Int)≤C.length:=he
    rw [quotedS_local (by decide) hq (by rw [List.length_drop];omega)]
  rename_i b1
  rw [if_neg b1] at h he
  by_cases hb:0<numBase (C++x::r) 0
  ·obtain ⟨⟨h2,h3⟩,h4⟩:=base_in hb
   rw [Nat.zero_add] at h4
   have hC2:2≤C.length:=by
    rcases Nat.lt_or_ge 1 C.length with h1 | h1
    ·exact h1
    ·exfalso
     have e:C.length=1:=by omega
     have e1:=rap_mid C x r
     rw [e] at e1
     rw [e1,hx] at h4
     exact absurd h4 (by decide)
   rw [drop_ap hC2,drop_ap hC2,span_app (isDig_sep hxs _ h2 h3),span_app (isDig_sep hx' _ h2 h3),take_span,take_span,span_app (isDig_sep hxs 10 (by decide) (by decide)),span_app (isDig_sep hx' 10 (by decide) (by decide)),take_span,take_span]
  ·rw [if_neg (fun h=>hb h.1),if_neg (fun h=>hb h.1),span_app (isDig_sep hxs 10 (by decide) (by decide)),span_app (isDig_sep hx' 10 (by decide) (by decide)),take_span,take_span]
 rename_i a2
 rw [if_neg a2] at h he
 split
 ·rename_i a3
  rw [if_pos a3] at h he
  unfold symR at *
  rw [r0]
  simp only [Nat.zero_add,rn,List.drop_zero] at *
  split
  ·rfl
  rename_i b1
  rw [if_neg b1] at h he
  have h5:=named_end _ _ _ _ h
  rw [h5.2.1] at he
  have h6:span isSym C<C.length:=span_in (x:=x) (by rw [hx];decide +kernel) r C (by omega)
  rw [span_lt _ C h6,span_lt _ C h6,take_span,take_span]
 rename_i a3
 rw [if_neg a3] at h he
 split
 ·rename_i a4
  unfold soloR
  rw [r0]
  simp only [List.drop_zero]
  rw [List.take_append_of_le_length hC,List.take_append_of_le_length hC]
 rename_i a4
 rw [if_neg a4] at h he
 split
 ·rename_i a5
  rw [if_pos a5] at h he
  unfold quoteR at *
  rw [r0]
  simp only [Nat.zero_add] at *
  rw [drop_ap hC] at h he ⊢
  rw [drop_ap hC]
  split
  ·rename_i b1
   rw [if_pos b1] at h he
   cases hi:item (C.drop 1++x::r) 34 with
   | none=>rw [hi] at h;exact absurd h (by show ¬(7:Int)=0;decide)
   | some y=>
    obtain ⟨t,k⟩:=y
    rw [hi] at he
    have he:((0:Nat):Int)+1+(k:Int)+1≤C.length:=he
    rw [item_local 34 (.inr rfl) hxs hx' hi (by rw [List.length_drop];omega)]
  rename_i b1
  rw [if_neg b1] at h he
  split
  ·rename_i b2
   rw [if_pos b2] at h he
   cases hi:item (C.drop 1++x::r) 39 with
   | none=>rw [hi] at h;exact absurd h (by show ¬(7:Int)=0;decide)
   | some y=>
    obtain ⟨t,k⟩:=y
    rw [hi] at he h
    have h5:=(named_end _ _ _ _ h).2.1
    have he:(namedR 2 t (0:Nat) (((0:Nat):Int)+1+(k:Int)+1)).end_≤C.length:=he
    have h5:(namedR 2 t (0:Nat) (((0:Nat):Int)+1+(k:Int)+1)).end_=((0:Nat):Int)+1+(k:Int)+1:=h5
    rw [h5] at he
    rw [item_local 39 (.inl rfl) hxs hx' hi (by rw [List.length_drop];omega)]
  ·rfl
 ·rfl
end
theorem closeAt_local {x x':UInt8} (hx:Sep x) (hx':Sep x') (r r':List UInt8):∀(B:List UInt8) (j:Nat),closeAt (B++x::r)=some j→j+2≤B.length→closeAt (B++x'::r')=some j
 | [],j,_,h2=>by simp at h2
 | b::B,j,h,h2=>by
  have h1:(if b=42∧rawAt (B++x::r) 0=47 then some 0 else (closeAt (B++x::r)).map (· + 1))=some j:=h
  show (if b=42∧rawAt (B++x'::r') 0=47 then some 0 else (closeAt (B++x'::r')).map (· + 1))=some j
  have e:rawAt (B++x::r) 0=rawAt (B++x'::r') 0:=by
   have:0<B.length:=by rw [List.length_cons] at h2;omega
   rw [rap B _ this,rap B _ this]
  rw [e] at h1
  split at h1
  ·rename_i a1
   rw [if_pos a1];exact h1
  ·rename_i a1
   rw [if_neg a1]
   cases hc:closeAt (B++x::r) with
   | none=>rw [hc] at h1;cases h1
   | some i=>
    rw [hc] at h1
    have h1:i+1=j:=by injection h1
    rw [closeAt_local hx hx' r r' B i hc (by rw [List.length_cons] at h2;omega)]
    show some (i+1)=some j
    rw [h1]
theorem skip_local {x x':UInt8} (hx:Sep x) (hx':Sep x') (r r':List UInt8):∀(n:Nat) (B:List UInt8) (k:Nat),B.length≤n→skipN (B++x::r)=k→k≤B.length→¬(rawAt (B++x::r) k=47∧rawAt (B++x::r) (k+1)=42)→skipN (B++x'::r')=k:=by
 have sep0:∀(y:UInt8) (s:List UInt8),Sep y→skipN (y::s)=0:=by
  intro y s hy
  rw [skipN_eq]
  have e:rawAt (y::s) 0=(y.toNat:Int):=rawAt_cons y s
  rw [e]
  have h1:¬cls (y.toNat:Int)=1:=by rcases hy with rfl|rfl <;> decide +kernel
  have h2:¬(y.toNat:Int)=37:=by rcases hy with rfl|rfl <;> decide
  have h3:¬(y.toNat:Int)=47:=by rcases hy with rfl|rfl <;> decide
  rw [if_neg (by simp),if_neg h1,if_neg h2,if_neg (fun h=>h3 h.1)]
 intro n
 induction n with
 | zero=>
  intro B k hB h hk _
  have:B=[]:=List.eq_nil_of_length_eq_zero (by omega)
  subst this
  have:k=0:=by simpa using hk
  subst this
  exact sep0 _ _ hx'
 | succ n ih=>
  intro B k hB h hk hc
  rcases Nat.eq_zero_or_pos B.length with h0 | h0
  ·have:B=[]:=List.eq_nil_of_length_eq_zero h0
   subst this
   have:k=0:=by simpa using hk
   subst this
   exact sep0 _ _ hx'
  have r0:rawAt (B++x'::r') 0=rawAt (B++x::r) 0:=by rw [rap B _ h0,rap B _ h0]
  have i1:(B++x::r).isEmpty=false:=by cases B <;> rfl
  have i2:(B++x'::r').isEmpty=false:=by cases B <;> rfl
  rw [skipN_eq,i1,if_neg (by simp)] at h
  rw [skipN_eq,i2,if_neg (by simp),r0]
  have r1:=raw1_iff (r:=r') (r':=r) hx' hx h0 42 (by decide)
  have down:∀j,0<j→j≤B.length→j+skipN ((B++x::r).drop j)=k→skipN ((B++x'::r').drop j)=skipN ((B++x::r).drop j):=by
   intro j hj0 hj he
   rw [drop_ap hj] at he ⊢
   rw [drop_ap hj]
   refine ih (B.drop j) _ (by rw [List.length_drop];omega) rfl (by rw [List.length_drop];omega) ?_
   rw [←drop_ap hj,rawAt_drop,rawAt_drop]
   rw [←drop_ap hj] at he
   rw [he,←Nat.add_assoc,he]
   exact hc
  split at h
  ·rename_i a1
   rw [if_pos a1]
   rw [down 1 (by omega) (by omega) h];exact h
  rename_i a1
  rw [if_neg a1]
  split at h
  ·rename_i a2
   rw [if_pos a2]
   have hn:notNl (x.toNat:Int)=true:=by rcases hx with rfl|rfl <;> decide
   have hs:=span_in (q:=notNl) hn r B (by omega)
   have e1:=span_lt (x::r) B hs
   have e2:=span_lt (x'::r') B hs
   rw [e1] at h
   rw [e2]
   have hp:0<span notNl B:=by
    rw [←e1]
    exact span_pos _ _ (by rw [List.length_append];omega) (by rw [a2];decide)
   rw [down _ hp (by omega) h];exact h
  rename_i a2
  rw [if_neg a2]
  simp only [r1]
  split at h
  ·rename_i a3
   rw [if_pos a3]
   have hB2:2≤B.length:=by
    rcases Nat.lt_or_ge 1 B.length with h1 | h1
    ·exact h1
    ·exfalso
     have e:B.length=1:=by omega
     have e1:=rap_mid B x r
     rw [e,a3.2] at e1
     rcases hx with rfl|rfl <;> exact absurd e1 (by decide)
   rw [drop_ap hB2] at h
   rw [drop_ap hB2]
   cases hcl:closeAt (B.drop 2++x::r) with
   | none=>
    rw [hcl] at h
    have h:0=k:=h
    subst h
    exact absurd a3 hc
   | some j=>
    rw [hcl] at h
    have h:j+4+skipN ((B++x::r).drop (j+4))=k:=h
    rw [closeAt_local hx hx' r r' (B.drop 2) j hcl (by rw [List.length_drop];omega)]
    show j+4+skipN ((B++x'::r').drop (j+4))=k
    rw [down (j+4) (by omega) (by omega) h];exact h
  ·rename_i a3
   rw [if_neg a3]
   exact h
theorem tok_kind7 (m l:List UInt8) (p:Nat) (h:(tokR m l p).err=0) (hk:(tokR m l p).kind=7):(tokR m l p).end_=p+1∧rawAt m p=46:=by
 have nk:∀(k:Int) (t:List UInt8) (a e:Int),¬k=7→(namedR k t a e).err=0→¬(namedR k t a e).kind=7:=fun k t a e hk he=>by rw [(named_end _ _ _ _ he).2.2.1];exact hk
 have ik:∀(b:Int) (t:List UInt8) (a e:Int),¬(intR b t a e).kind=7:=fun b t a e=>by
  unfold intR
  split
  ·show ¬(4:Int)=7;decide
  ·show ¬(0:Int)=7;decide
 unfold tokR at *
 split at h
 ·exact absurd h (by decide)
 rename_i a0
 rw [if_neg a0] at hk ⊢
 split at h
 ·rename_i a1
  rw [if_pos a1] at hk
  exact absurd hk (nk _ _ _ _ (by unfold wordKind;split <;> decide) h)
 rename_i a1
 rw [if_neg a1] at hk ⊢
 split at h
 ·rename_i a2
  rw [if_pos a2] at hk
  unfold numR at hk h
  split at hk
  ·rename_i b1
   rw [if_pos b1] at h
   cases hq:quotedS (l.drop (p+2)) 39 with
   | none=>rw [hq] at h;exact absurd h (by show ¬(7:Int)=0;decide)
   | some ck=>rw [hq] at hk;exact absurd hk (by show ¬(4:Int)=7;decide)
  split at hk
  ·exact absurd hk (ik _ _ _ _)
  ·exact absurd hk (ik _ _ _ _)
 rename_i a2
 rw [if_neg a2] at hk ⊢
 split at h
 ·rename_i a3
  rw [if_pos a3] at hk ⊢
  unfold symR at *
  split at h
  ·rename_i b1;rw [if_pos b1];exact ⟨rfl,b1.1⟩
  ·rename_i b1
   rw [if_neg b1] at hk
   exact absurd hk (nk _ _ _ _ (by decide) h)
 rename_i a3
 rw [if_neg a3] at hk ⊢
 split at h
 ·rename_i a4
  rw [if_pos a4] at hk
  exact absurd hk (nk _ _ _ _ (by unfold soloKind;split <;> decide) h)
 rename_i a4
 rw [if_neg a4] at hk ⊢
 split at h
 ·rename_i a5
  rw [if_pos a5] at hk
  unfold quoteR at *
  split at h
  ·rename_i b1
   rw [if_pos b1] at hk
   cases hi:item (l.drop (p+1)) 34 with
   | none=>rw [hi] at h;exact absurd h (by show ¬(7:Int)=0;decide)
   | some y=>rw [hi] at hk;exact absurd hk (by show ¬(5:Int)=7;decide)
  split at h
  ·rename_i b1 b2
   rw [if_neg b1,if_pos b2] at hk
   cases hi:item (l.drop (p+1)) 39 with
   | none=>rw [hi] at h;exact absurd h (by show ¬(7:Int)=0;decide)
   | some y=>rw [hi] at hk h;exact absurd hk (nk _ _ _ _ (by decide) h)
  ·exact absurd h (by decide)
 ·exact absurd h (by decide)
theorem tok_drop (l:List UInt8) (p:Nat):tokR l l p=shR p (tokR (l.drop p) (l.drop p) 0):=by
 have:=sh_tok l l p 0
 rwa [Nat.add_zero] at this
def tClose (p:Nat) (b:Bool):NextR:=⟨⟨6,[41],0,p,(p:Int)+1,0⟩,b,0⟩
theorem next_at {m l:List UInt8} {a p:Nat} (hp:a+skipN (m.drop a)=p):nextR m l a=if p=l.length then ⟨errR 14,false,p⟩ else if (tokR m l p).err=0 then ⟨tokR m l p,decide (a<p),0⟩ else ⟨errR (tokR m l p).err,false,p⟩:=by
 subst hp;rfl
section
variable {B r r':List UInt8}
theorem drop_mid (B D:List UInt8):(B++D).drop B.length=D:=by simp
theorem skip_next {a:Nat} (ha:a≤B.length) (hk:a+skipN ((B++46::r).drop a)≤B.length) (h:(tokR (B++46::r) (B++46::r) (a+skipN ((B++46::r).drop a))).err=0):skipN ((B++41::r').drop a)=skipN ((B++46::r).drop a):=by
 have hc:¬(rawAt (B++46::r) (a+skipN ((B++46::r).drop a))=47∧rawAt (B++46::r) (a+skipN ((B++46::r).drop a)+1)=42):=by
  intro hh
  unfold tokR at h
  rw [if_pos hh] at h
  exact absurd h (by decide)
 rw [drop_ap ha] at hk ⊢
 rw [drop_ap ha]
 refine skip_local (x:=46) (x':=41) (.inl rfl) (.inr rfl) r r' _ (B.drop a) _ (Nat.le_refl _) rfl (by rw [List.length_drop];omega) ?_
 rw [←drop_ap ha,rawAt_drop,rawAt_drop,←Nat.add_assoc]
 exact hc
theorem next_local {a:Nat} (ha:a≤B.length) (h:(nextR (B++46::r) (B++46::r) a).r.err=0) (he:(nextR (B++46::r) (B++46::r) a).r.end_≤B.length):nextR (B++41::r') (B++41::r') a=nextR (B++46::r) (B++46::r) a:=by
 have hl:(B++46::r).length=B.length+(r.length+1):=by simp
 have hl':(B++41::r').length=B.length+(r'.length+1):=by simp
 obtain ⟨p,hp⟩:∃p,a+skipN ((B++46::r).drop a)=p:=⟨_,rfl⟩
 have e0:nextR (B++46::r) (B++46::r) a=if p=(B++46::r).length then ⟨errR 14,false,p⟩ else if (tokR (B++46::r) (B++46::r) p).err=0 then ⟨tokR (B++46::r) (B++46::r) p,decide (a<p),0⟩ else ⟨errR (tokR (B++46::r) (B++46::r) p).err,false,p⟩:=by
  unfold nextR;rw [hp]
 have hsl:=skipN_le ((B++46::r).drop a)
 rw [List.length_drop] at hsl
 by_cases h1:p=(B++46::r).length
 ·rw [e0,if_pos h1] at h;exact absurd h (by show ¬(14:Int)=0;decide)
 rw [if_neg h1] at e0
 by_cases h2:(tokR (B++46::r) (B++46::r) p).err=0
 ·rw [if_pos h2] at e0
  rw [e0] at he
  have he:(tokR (B++46::r) (B++46::r) p).end_≤B.length:=he
  obtain ⟨_,e,e1,e2,e3⟩:=tok_end (B++46::r) (B++46::r) rfl p (by omega) h2
  have hpB:p<B.length:=by omega
  have hs:=skip_next (r':=r') ha (by rw [hp];omega) (by rw [hp];exact h2)
  have ht:tokR (B++41::r') (B++41::r') p=tokR (B++46::r) (B++46::r) p:=by
   rw [tok_drop _ p] at h2 he ⊢
   rw [tok_drop _ p,drop_ap (Nat.le_of_lt hpB),drop_ap (Nat.le_of_lt hpB)]
   rw [drop_ap (Nat.le_of_lt hpB)] at h2 he
   rw [shR_err] at h2
   rw [tok0_local rfl (.inr rfl) (by rw [List.length_drop];omega) h2]
   unfold shR at he
   rw [if_pos h2] at he
   have he:(tokR (B.drop p++46::r) (B.drop p++46::r) 0).end_+p≤B.length:=he
   rw [List.length_drop]
   omega
  rw [e0,next_at (p:=p) (by rw [hs];exact hp),ht,if_neg (by omega),if_pos h2]
 ·rw [e0,if_neg h2] at h;exact absurd h h2
theorem tok_close (D:List UInt8):tokR (41::D) (41::D) 0=⟨6,[41],0,0,1,0⟩:=by
 have h0:rawAt (41::D) 0=41:=rawAt_cons 41 D
 unfold tokR
 rw [h0,if_neg (fun h=>absurd h.1 (by decide)),if_neg (by decide +kernel),if_neg (by decide +kernel),if_neg (by decide +kernel),if_pos (by decide +kernel)]
 unfold soloR
 rw [h0]
 rfl
theorem next_close {a:Nat} (ha:a≤B.length) (h:(nextR (B++46::r) (B++46::r) a).r.err=0) (hk:(nextR (B++46::r) (B++46::r) a).r.kind=7) (he:(nextR (B++46::r) (B++46::r) a).r.end_=B.length+1):∃b,nextR (B++41::r') (B++41::r') a=tClose B.length b:=by
 have hl:(B++46::r).length=B.length+(r.length+1):=by simp
 have hl':(B++41::r').length=B.length+(r'.length+1):=by simp
 obtain ⟨p,hp⟩:∃p,a+skipN ((B++46::r).drop a)=p:=⟨_,rfl⟩
 have e0:nextR (B++46::r) (B++46::r) a=if p=(B++46::r).length then ⟨errR 14,false,p⟩ else if (tokR (B++46::r) (B++46::r) p).err=0 then ⟨tokR (B++46::r) (B++46::r) p,decide (a<p),0⟩ else ⟨errR (tokR (B++46::r) (B++46::r) p).err,false,p⟩:=by
  unfold nextR;rw [hp]
 by_cases h1:p=(B++46::r).length
 ·rw [e0,if_pos h1] at h;exact absurd h (by show ¬(14:Int)=0;decide)
 rw [if_neg h1] at e0
 by_cases h2:(tokR (B++46::r) (B++46::r) p).err=0
 ·rw [if_pos h2] at e0
  rw [e0] at he hk
  have he:(tokR (B++46::r) (B++46::r) p).end_=B.length+1:=he
  have h7:=(tok_kind7 _ _ _ h2 hk).1
  have hpB:p=B.length:=by omega
  have hs:=skip_next (r':=r') ha (by rw [hp];omega) (by rw [hp];exact h2)
  refine ⟨decide (a<p),?_⟩
  have ht:tokR (B++41::r') (B++41::r') p=⟨6,[41],0,(B.length:Int),(B.length:Int)+1,0⟩:=by
   rw [tok_drop _ p,hpB,drop_mid,tok_close]
   unfold shR
   rw [if_pos rfl]
   simp only [LexR.mk.injEq,true_and,and_true]
   omega
  rw [next_at (p:=p) (by rw [hs];exact hp),ht,if_neg (by omega)]
  rfl
 ·rw [e0,if_neg h2] at h;exact absurd h h2
theorem all_local (U:List NextR) (hU:∀f acc,(B++41::r').length+1≤f+(B.length+1)→acc≠[]→allF f (B++41::r') (B++41::r') (B.length+1) acc=⟨acc++U,0,0⟩):∀(f a f':Nat) (acc acc':List NextR),a≤(B++46::r).length→(allF f (B++46::r) (B++46::r) a acc).err=0→(∀te,(allF f (B++46::r) (B++46::r) a acc).l.getLast? = some te→te.r.end_=B.length+1)→(B++41::r').length+1≤f'+a →
  a≤B.length∧∃T te b,(allF f (B++46::r) (B++46::r) a acc).l=acc++(T++[te])∧te.r.kind=7∧(∀t∈T,¬t.r.kind=7)∧allF f' (B++41::r') (B++41::r') a acc'=⟨acc'++(T++(tClose B.length b::U)),0,0⟩:=by
 have hl:(B++46::r).length=B.length+(r.length+1):=by simp
 have hl':(B++41::r').length=B.length+(r'.length+1):=by simp
 intro f
 induction f with
 | zero=>intro a f' acc acc' _ h _ _;exact absurd h (by show ¬(99:Int)=0;decide)
 | succ f ih=>
  intro a f' acc acc' ha h hlast hf
  rw [allF_succ] at h hlast
  rw [allF_succ]
  split at h
  ·exact absurd h (by show ¬(7:Int)=0;decide)
  rename_i a1
  rw [if_neg a1] at hlast
  rw [if_neg a1]
  split at h
  ·rename_i a2;exact absurd h a2
  rename_i a2
  rw [if_neg a2] at hlast
  rw [if_neg a2]
  have he0:(nextR (B++46::r) (B++46::r) a).r.err=0:=by simpa using a2
  obtain ⟨p,e,hat,hap,hen,hpe,hel,_,_⟩:=next_end (B++46::r) (B++46::r) rfl a ha he0
  split at h
  ·rename_i a3
   rw [if_pos a3] at hlast
   have hte:=hlast _ (by simp:(acc++[nextR (B++46::r) (B++46::r) a]).getLast? = some (nextR (B++46::r) (B++46::r) a))
   have haB:a≤B.length:=by
    have:=hte
    rw [hen] at this
    omega
   rw [if_pos a3]
   refine ⟨haB,[],nextR (B++46::r) (B++46::r) a,?_⟩
   obtain ⟨b,hb⟩:=next_close (r':=r') haB he0 a3 hte
   refine ⟨b,rfl,a3,fun t ht=>(by cases ht),?_⟩
   obtain ⟨g,rfl⟩:∃g,f'=g+1:=⟨f'-1,by omega⟩
   rw [allF_succ,hb]
   have e1:(tClose B.length b).r.err=0:=rfl
   have e2:(tClose B.length b).r.kind=6:=rfl
   have e3:(tClose B.length b).r.end_.toNat=B.length+1:=by show ((B.length:Int)+1).toNat=_;omega
   rw [e1,e2,e3,if_neg (fun h=>absurd h.1 (by decide)),if_neg (by decide),if_neg (by decide),hU g _ (by omega) (by simp)]
   simp
  ·rename_i a3
   rw [if_neg a3] at hlast
   rw [if_neg a3]
   have he2:(nextR (B++46::r) (B++46::r) a).r.end_.toNat=e:=by rw [hen];simp
   rw [he2] at h hlast ⊢
   have IH:=fun f' acc' (hf:(B++41::r').length+1≤f'+e)=>ih e f' (acc++[nextR (B++46::r) (B++46::r) a]) acc' hel h hlast hf
   have heB:=(IH ((B++41::r').length+1) [] (by omega)).1
   obtain ⟨g,rfl⟩:∃g,f'=g+1:=⟨f'-1,by omega⟩
   obtain ⟨_,T,te,b,h1,h2,h3,h4⟩:=IH g (acc'++[nextR (B++46::r) (B++46::r) a]) (by omega)
   have haB:a≤B.length:=by omega
   refine ⟨haB,nextR (B++46::r) (B++46::r) a::T,te,b,by rw [h1];simp,h2,fun t ht=>?_,?_⟩
   ·rcases List.mem_cons.1 ht with rfl | ht
    ·exact a3
    ·exact h3 t ht
   ·rw [allF_succ,next_local haB he0 (by rw [hen];omega),if_neg (fun h=>by rw [he0] at h;exact absurd h.1 (by decide)),if_neg a2,if_neg a3,he2,h4]
    simp
end
theorem cvt_nil (l:List UInt8):cvt (convT []) l=l:=by
 unfold cvt
 have:∀b:UInt8,(convT [] (b.toNat:Int)).toNat.toUInt8=b:=fun b=>by unfold convT;simp
 simp [this]
theorem next_solo {c:UInt8} (hc:c=40∨c=41) (A D:List UInt8):nextR (A++c::D) (A++c::D) A.length=⟨⟨6,[c],0,A.length,(A.length:Int)+1,0⟩,false,0⟩:=by
 have hs:skipN ((A++c::D).drop A.length)=0:=by
  rw [drop_mid,skipN_eq]
  have e:rawAt (c::D) 0=(c.toNat:Int):=rawAt_cons c D
  rw [e]
  rcases hc with rfl|rfl
  ·rw [if_neg (by simp),if_neg (by decide +kernel),if_neg (by decide),if_neg (fun h=>absurd h.1 (by decide))]
  ·rw [if_neg (by simp),if_neg (by decide +kernel),if_neg (by decide),if_neg (fun h=>absurd h.1 (by decide))]
 have ht:tokR (A++c::D) (A++c::D) A.length=⟨6,[c],0,A.length,(A.length:Int)+1,0⟩:=by
  rw [tok_drop,drop_mid]
  have h0:rawAt (c::D) 0=(c.toNat:Int):=rawAt_cons c D
  have:tokR (c::D) (c::D) 0=⟨6,[c],0,0,1,0⟩:=by
   unfold tokR
   rw [h0]
   rcases hc with rfl|rfl
   ·rw [if_neg (fun h=>absurd h.1 (by decide)),if_neg (by decide +kernel),if_neg (by decide +kernel),if_neg (by decide +kernel),if_pos (by decide +kernel)]
    unfold soloR
    rw [h0]
    rfl
   ·rw [if_neg (fun h=>absurd h.1 (by decide)),if_neg (by decide +kernel),if_neg (by decide +kernel),if_neg (by decide +kernel),if_pos (by decide +kernel)]
    unfold soloR
    rw [h0]
    rfl
  rw [this]
  unfold shR
  rw [if_pos rfl]
  simp only [LexR.mk.injEq,true_and,and_true]
  omega
 rw [next_at (p:=A.length) (by rw [hs];rfl),ht,if_neg (by simp)]
 simp
theorem next_dot (A:List UInt8):nextR (A++[46]) (A++[46]) A.length=⟨⟨7,[46],0,A.length,(A.length:Int)+1,0⟩,false,0⟩:=by
 have hs:skipN ((A++[46]).drop A.length)=0:=by rw [drop_mid];decide +kernel
 have ht:tokR (A++[46]) (A++[46]) A.length=⟨7,[46],0,A.length,(A.length:Int)+1,0⟩:=by
  rw [tok_drop,drop_mid,show tokR [46] [46] 0=⟨7,[46],0,0,1,0⟩ from rfl]
  unfold shR
  rw [if_pos rfl]
  simp only [LexR.mk.injEq,true_and,and_true]
  omega
 rw [next_at (p:=A.length) (by rw [hs];rfl),ht,if_neg (by simp)]
 simp
theorem all_dot (A:List UInt8) (f:Nat) (acc:List NextR) (hf:1≤f):allF f (A++[46]) (A++[46]) A.length acc=⟨acc++[⟨⟨7,[46],0,A.length,(A.length:Int)+1,0⟩,false,0⟩],0,0⟩:=by
 obtain ⟨g,rfl⟩:∃g,f=g+1:=⟨f-1,by omega⟩
 rw [allF_succ,next_dot,if_neg (by rintro ⟨h,_⟩;exact absurd h (by show ¬(0:Int)=14;decide)),if_neg (fun h=>h rfl),if_pos rfl]
theorem all_solo {c:UInt8} (hc:c=40∨c=41) (A D:List UInt8) (f:Nat) (acc:List NextR):allF (f+1) (A++c::D) (A++c::D) A.length acc=allF f (A++c::D) (A++c::D) (A.length+1) (acc++[⟨⟨6,[c],0,A.length,(A.length:Int)+1,0⟩,false,0⟩]):=by
 rw [allF_succ,next_solo hc,if_neg (by rintro ⟨h,_⟩;exact absurd h (by show ¬(0:Int)=14;decide)),if_neg (fun h=>h rfl),if_neg (by show ¬(6:Int)=7;decide)]
 have:((⟨⟨6,[c],0,A.length,(A.length:Int)+1,0⟩,false,0⟩:NextR).r.end_).toNat=A.length+1:=by show ((A.length:Int)+1).toNat=_;omega
 rw [this]
structure Sim (E F:RE) (d N:Nat):Prop where
 P:F.P=E.P
 q:F.q=E.q
 flen:E.T.length≤F.T.length
 k:∀n,n<N→(F.at (n+d)).r.kind=(E.at n).r.kind
 x:∀n,n<N→(F.at (n+d)).r.text=(E.at n).r.text
 n:∀n,n<N→(F.at (n+d)).r.n=(E.at n).r.n
 y:∀n,n<N→(F.at (n+d)).lay=(E.at n).lay
 v:∀n,n<N→vsAt F.T (n+d)=vsAt E.T n
 ek:(E.at N).r.kind=7
 fk:(F.at (N+d)).r.kind=6
 fx:(F.at (N+d)).r.text=[41]
def Sub (d N:Nat) (S S':PT):Prop:=∀most n t p m,n≤N→S most n=.ok (t,p,m)→m≤N∧S' most (n+d)=.ok (t,p,m+d)
theorem opn_isPb {t:NextR} (h:Hb.opn t=true):Hb.isP t [40]=true:=by unfold Hb.opn at h;rw [Bool.and_eq_true] at h;exact h.1
section
variable {E F:RE} {d N:Nat} (h:Sim E F d N)
include h
theorem Sim.lt {n:Nat} (hn:n≤N) (hk:¬(E.at n).r.kind=7):n<N:=by
 rcases Nat.lt_or_ge n N with h1 | h1
 ·exact h1
 ·exact absurd (by rw [show n=N by omega];exact h.ek) hk
theorem Sim.isP_lt {n:Nat} (hn:n≤N) {s:List UInt8} (hp:isP (E.at n) s=true):n<N:=h.lt hn (by
 unfold isP at hp
 rw [Bool.and_eq_true,beq_iff_eq] at hp
 omega)
theorem Sim.isPy {n:Nat} (hn:n<N) (s:List UInt8):isP (F.at (n+d)) s=isP (E.at n) s:=by unfold isP;rw [h.k n hn,h.x n hn]
theorem Sim.isP {n:Nat} (hn:n≤N) {s:List UInt8} (hs:(s==[41])=false):isP (F.at (n+d)) s=isP (E.at n) s:=by
 rcases Nat.lt_or_ge n N with h1 | h1
 ·exact h.isPy h1 s
 ·obtain rfl:n=N:=by omega
  have e:([41]==s)=false:=by
   cases e:([41]==s)
   ·rfl
   ·exfalso
    have:([41]:List UInt8)=s:=by simpa using e
    subst this
    simp at hs
  unfold Hb.isP
  rw [h.ek,h.fk,h.fx,e]
  rfl
theorem Sim.isNam {n:Nat} (hn:n≤N):isNam (F.at (n+d))=isNam (E.at n):=by
 rcases Nat.lt_or_ge n N with h1 | h1
 ·unfold Hb.isNam;rw [h.k n h1]
 ·obtain rfl:n=N:=by omega
  unfold Hb.isNam
  rw [h.ek,h.fk]
  rfl
theorem Sim.opn {n:Nat} (hn:n≤N):opn (F.at (n+d))=opn (E.at n):=by
 rcases Nat.lt_or_ge n N with h1 | h1
 ·unfold Hb.opn;rw [h.isPy h1,h.y n h1]
 ·obtain rfl:n=N:=by omega
  have h2:=h.isP (Nat.le_refl n) (s:=[40]) (by decide)
  have h3:Hb.isP (E.at n) [40]=false:=by unfold Hb.isP;rw [h.ek];rfl
  unfold Hb.opn
  rw [h2,h3]
  rfl
theorem Sim.txt {n:Nat} (hn:n<N):(F.at (n+d)).txt=(E.at n).txt:=by unfold NextR.txt;rw [h.x n hn]
theorem Sim.alone {n:Nat} (hn:n≤N):aloneG F (n+d)=aloneG E n:=by
 rcases Nat.lt_or_ge n N with h1 | h1
 ·have e:n+d+1=n+1+d:=by omega
  unfold aloneG
  rw [h.k n h1,h.x n h1,h.isNam hn,e,h.opn (show n+1≤N from h1),h.txt h1,h.P]
 ·obtain rfl:n=N:=by omega
  unfold aloneG
  rw [h.ek,h.fk,h.fx]
  simp
theorem Sim.minus {k n:Nat} (hk:k<N) (hn:n≤N):minusG F (F.at (k+d)) (n+d)=minusG E (E.at k) n:=by
 unfold minusG
 rw [h.k k hk,h.x k hk]
 rcases Nat.lt_or_ge n N with h1 | h1
 ·rw [h.k n h1,h.y n h1]
 ·obtain rfl:n=N:=by omega
  rw [h.ek,h.fk]
  rfl
theorem Sim.pre {k n:Nat} (hk:k<N) (hn:n≤N) (most:Int):preG F (F.at (k+d)) most (n+d)=preG E (E.at k) most n:=by
 unfold preG
 rw [h.txt hk,h.P,h.alone hn]
theorem Sim.row {S S':PT} (hS:Sub d N S S'):∀(k k' n:Nat) (l:List Tm) (m:Nat),k≤k'→n≤N→rowG E S k n=.ok (l,m)→m≤N∧rowG F S' k' (n+d)=.ok (l,m+d)
 | 0,_,_,_,_,_,_,he=>by unfold rowG at he;cases he
 | k+1,0,_,_,_,hk,_,_=>by omega
 | k+1,k'+1,n,l,m,hk,hn,he=>by
  unfold rowG at he ⊢
  cases h1:S 999 n with
  | error e=>rw [h1] at he;cases he
  | ok y=>
   obtain ⟨t,p,m1⟩:=y
   obtain ⟨hm1,h2⟩:=hS 999 n t p m1 hn h1
   rw [h1] at he
   rw [h2]
   simp only at he ⊢
   rw [h.isP hm1 (s:=[44]) (by decide)]
   cases h3:Hb.isP (E.at m1) [44] with
   | false=>
    rw [h3,if_neg (by simp)] at he
    rw [if_neg (by simp)]
    injection he with he
    injection he with e1 e2
    subst e1 e2
    exact ⟨hm1,rfl⟩
   | true=>
    rw [h3,if_pos rfl] at he
    rw [if_pos rfl]
    have hlt:=h.isP_lt hm1 h3
    cases h4:rowG E S k (m1+1) with
    | error e=>rw [h4] at he;cases he
    | ok z=>
     obtain ⟨l2,m2⟩:=z
     obtain ⟨hm2,h5⟩:=Sim.row hS k k' (m1+1) l2 m2 (by omega) hlt h4
     rw [h4] at he
     injection he with he
     injection he with e1 e2
     subst e1 e2
     rw [show m1+d+1=m1+1+d by omega,h5]
     exact ⟨hm2,rfl⟩
theorem Sim.rowX {S S':PT} (hS:Sub d N S S') {n:Nat} {l:List Tm} {m:Nat} (hn:n≤N) (he:rowX E S n=.ok (l,m)):m≤N∧rowX F S' (n+d)=.ok (l,m+d) :=
 h.row hS _ _ n l m h.flen hn he
theorem Sim.need {α:Type} {s:List UInt8} {n:Nat} {a b:α} {m:Nat} (hn:n≤N) (he:needG E s n a=.ok (b,m)):m≤N∧needG F s (n+d) a=.ok (b,m+d):=by
 unfold needG at he ⊢
 split at he
 ·rename_i h1
  have hlt:=h.isP_lt hn h1
  injection he with he
  injection he with e1 e2
  subst e1 e2
  rw [h.isPy hlt,if_pos h1]
  exact ⟨hlt,by rw [show n+d+1=n+1+d by omega]⟩
 ·cases he
theorem Sim.comp {S S':PT} (hS:Sub d N S S') (s:ByteArray) {n:Nat} {u:Option Tm} {m:Nat} (hn:n≤N) (he:compG E S s n=.ok (u,m)):m≤N∧compG F S' s (n+d)=.ok (u,m+d):=by
 unfold compG at he ⊢
 rw [h.opn hn]
 split at he
 ·rename_i h1
  rw [if_pos h1]
  have hlt:=h.isP_lt hn (opn_isPb h1)
  cases h4:Hb.rowX E S (n+1) with
  | error e=>rw [h4] at he;cases he
  | ok z=>
   obtain ⟨l2,m2⟩:=z
   obtain ⟨hm2,h5⟩:=h.rowX hS hlt h4
   rw [h4] at he
   rw [show n+d+1=n+1+d by omega,h5]
   exact h.need hm2 he
 ·rename_i h1
  rw [if_neg h1]
  injection he with he
  injection he with e1 e2
  subst e1 e2
  exact ⟨hn,rfl⟩
theorem Sim.nmd {S S':PT} (hS:Sub d N S S') {k n:Nat} (hk:k<N) (hn:n≤N) (most:Int) {t:Tm} {p:Int} {m:Nat} (he:nmdG E S (E.at k) most n=.ok (t,p,m)):m≤N∧nmdG F S' (F.at (k+d)) most (n+d)=.ok (t,p,m+d):=by
 unfold nmdG at he ⊢
 rw [h.txt hk,h.minus hk hn,h.pre hk hn,h.P]
 cases h1:compG E S (E.at k).txt n with
 | error e=>rw [h1] at he;cases he
 | ok z=>
  obtain ⟨u,m1⟩:=z
  obtain ⟨hm1,h2⟩:=h.comp hS (E.at k).txt hn h1
  rw [h1] at he
  rw [h2]
  cases u with
  | some u=>
   injection he with he
   injection he with e1 e2
   injection e2 with e2 e3
   subst e1 e2 e3
   exact ⟨hm1,rfl⟩
  | none=>
   simp only at he ⊢
   split at he
   ·rename_i h3
    rw [if_pos h3]
    have hlt:n<N:=h.lt hn (by
     unfold minusG at h3
     simp only [Bool.and_eq_true,beq_iff_eq] at h3
     omega)
    injection he with he
    injection he with e1 e2
    injection e2 with e2 e3
    subst e1 e2 e3
    rw [h.n n hlt]
    exact ⟨hlt,by rw [show n+d+1=n+1+d by omega]⟩
   rename_i h3
   rw [if_neg h3]
   split at he
   ·rename_i h4
    rw [if_pos h4]
    cases h5:S (sideR ((findR E.P (E.at k).txt 1).getD op0)) n with
    | error e=>rw [h5] at he;cases he
    | ok y=>
     obtain ⟨u,p2,m2⟩:=y
     obtain ⟨hm2,h6⟩:=hS _ n u p2 m2 hn h5
     rw [h5] at he
     rw [h6]
     injection he with he
     injection he with e1 e2
     injection e2 with e2 e3
     subst e1 e2 e3
     exact ⟨hm2,rfl⟩
   ·rename_i h4
    rw [if_neg h4]
    injection he with he
    injection he with e1 e2
    injection e2 with e2 e3
    subst e1 e2 e3
    exact ⟨hn,rfl⟩
theorem Sim.empty {S S':PT} (hS:Sub d N S S') (s:ByteArray) {n:Nat} {t:Tm} {m:Nat} (hn:n≤N) (he:emptyG E S s n=.ok (t,m)):m≤N∧emptyG F S' s (n+d)=.ok (t,m+d):=by
 unfold emptyG at he ⊢
 cases h1:compG E S s n with
 | error e=>rw [h1] at he;cases he
 | ok z=>
  obtain ⟨u,m1⟩:=z
  obtain ⟨hm1,h2⟩:=h.comp hS s hn h1
  rw [h1] at he
  rw [h2]
  cases u with
  | some u=>
   injection he with he
   injection he with e1 e2
   subst e1 e2
   exact ⟨hm1,rfl⟩
  | none=>
   injection he with he
   injection he with e1 e2
   subst e1 e2
   exact ⟨hm1,rfl⟩
theorem Sim.tail {S S':PT} (hS:Sub d N S S') {n:Nat} {t:Tm} {m:Nat} (hn:n≤N) (he:tailG E S n=.ok (t,m)):m≤N∧tailG F S' (n+d)=.ok (t,m+d):=by
 unfold tailG at he ⊢
 rw [h.isP hn (s:=[124]) (by decide)]
 split at he
 ·rename_i h1
  rw [if_pos h1]
  have hlt:=h.isP_lt hn h1
  cases h5:S 999 (n+1) with
  | error e=>rw [h5] at he;cases he
  | ok y=>
   obtain ⟨u,p2,m2⟩:=y
   obtain ⟨hm2,h6⟩:=hS _ (n+1) u p2 m2 hlt h5
   rw [h5] at he
   rw [show n+d+1=n+1+d by omega,h6]
   injection he with he
   injection he with e1 e2
   subst e1 e2
   exact ⟨hm2,rfl⟩
 ·rename_i h1
  rw [if_neg h1]
  injection he with he
  injection he with e1 e2
  subst e1 e2
  exact ⟨hn,rfl⟩
theorem Sim.list {S S':PT} (hS:Sub d N S S') {n:Nat} {t:Tm} {m:Nat} (hn:n≤N) (he:listG E S n=.ok (t,m)):m≤N∧listG F S' (n+d)=.ok (t,m+d):=by
 unfold listG at he ⊢
 cases h4:Hb.rowX E S n with
 | error e=>rw [h4] at he;cases he
 | ok z=>
  obtain ⟨l2,m2⟩:=z
  obtain ⟨hm2,h5⟩:=h.rowX hS hn h4
  rw [h4] at he
  rw [h5]
  simp only at he ⊢
  cases h6:tailG E S m2 with
  | error e=>rw [h6] at he;cases he
  | ok y=>
   obtain ⟨u,m3⟩:=y
   obtain ⟨hm3,h7⟩:=h.tail hS hm2 h6
   rw [h6] at he
   rw [h7]
   exact h.need hm3 he
theorem Sim.par {S S':PT} (hS:Sub d N S S') (s:List UInt8) (G:Tm→Tm) {n:Nat} {t:Tm} {m:Nat} (hn:n≤N) (he:parG E S s G n=.ok (t,m)):m≤N∧parG F S' s G (n+d)=.ok (t,m+d):=by
 unfold parG at he ⊢
 cases h5:S 1200 n with
 | error e=>rw [h5] at he;cases he
 | ok y=>
  obtain ⟨u,p2,m2⟩:=y
  obtain ⟨hm2,h6⟩:=hS _ n u p2 m2 hn h5
  rw [h5] at he
  rw [h6]
  exact h.need hm2 he
theorem Sim.brk {S S':PT} (hS:Sub d N S S') (s:List UInt8) {n:Nat} {t:Tm} {m:Nat} (hn:n≤N) (he:brkG E S s n=.ok (t,m)):m≤N∧brkG F S' s (n+d)=.ok (t,m+d):=by
 unfold brkG at he ⊢
 rw [h.isP hn (s:=[93]) (by decide),h.isP hn (s:=[125]) (by decide)]
 split at he
 ·rename_i h1
  rw [if_pos h1]
  exact h.par hS _ _ hn he
 rename_i h1
 rw [if_neg h1]
 split at he
 ·rename_i h2
  rw [if_pos h2,show n+d+1=n+1+d by omega]
  exact h.empty hS _ (h.isP_lt hn h2.2) he
 rename_i h2
 rw [if_neg h2]
 split at he
 ·rename_i h3
  rw [if_pos h3,show n+d+1=n+1+d by omega]
  exact h.empty hS _ (h.isP_lt hn h3.2) he
 rename_i h3
 rw [if_neg h3]
 split at he
 ·rename_i h4
  rw [if_pos h4]
  exact h.list hS hn he
 ·rename_i h4
  rw [if_neg h4]
  exact h.par hS _ _ hn he
theorem Sim.isBrk {n:Nat} (hn:n<N):isBrk (F.at (n+d))=isBrk (E.at n):=by unfold Hb.isBrk;simp only [h.isPy hn]
theorem Sim.opd {S S':PT} (hS:Sub d N S S') (most:Int) {n:Nat} {t:Tm} {p:Int} {m:Nat} (hn:n≤N) (he:opdG E S most n=.ok (t,p,m)):m≤N∧opdG F S' most (n+d)=.ok (t,p,m+d):=by
 have hlt:n<N:=by
  rcases Nat.lt_or_ge n N with h1 | h1
  ·exact h1
  ·exfalso
   obtain rfl:n=N:=by omega
   have b1:Hb.isBrk (E.at n)=false:=by unfold Hb.isBrk Hb.isP;rw [h.ek];rfl
   have b2:Hb.isNam (E.at n)=false:=by unfold Hb.isNam;rw [h.ek];rfl
   unfold opdG at he
   simp only [h.ek,b1,b2] at he
   simp at he
 unfold opdG at he ⊢
 simp only at he ⊢
 rw [h.k n hlt,h.n n hlt,h.x n hlt,h.v n hlt,h.q,h.isBrk hlt,h.isNam hn,show n+d+1=n+1+d by omega]
 split at he
 ·rename_i h1
  rw [if_pos h1]
  injection he with he
  injection he with e1 e2
  injection e2 with e2 e3
  subst e1 e2 e3
  exact ⟨hlt,rfl⟩
 rename_i h1
 rw [if_neg h1]
 split at he
 ·rename_i h2
  rw [if_pos h2]
  injection he with he
  injection he with e1 e2
  injection e2 with e2 e3
  subst e1 e2 e3
  exact ⟨hlt,rfl⟩
 rename_i h2
 rw [if_neg h2]
 split at he
 ·rename_i h3
  rw [if_pos h3]
  injection he with he
  injection he with e1 e2
  injection e2 with e2 e3
  subst e1 e2 e3
  exact ⟨hlt,rfl⟩
 rename_i h3
 rw [if_neg h3]
 split at he
 ·rename_i h4
  rw [if_pos h4]
  cases h5:brkG E S (E.at n).r.text (n+1) with
  | error e=>rw [h5] at he;cases he
  | ok z=>
   obtain ⟨u,m2⟩:=z
   obtain ⟨hm2,h6⟩:=h.brk hS _ hlt h5
   rw [h5] at he
   rw [h6]
   injection he with he
   injection he with e1 e2
   injection e2 with e2 e3
   subst e1 e2 e3
   exact ⟨hm2,rfl⟩
 rename_i h4
 rw [if_neg h4]
 split at he
 ·rename_i h5
  rw [if_pos h5]
  exact h.nmd hS hlt hlt most he
 ·cases he
theorem Sim.opr {n:Nat} (hn:n≤N):oprG F (n+d)=oprG E n:=by
 unfold oprG
 simp only
 rw [h.isNam hn,h.isP hn (s:=[44]) (by decide),h.isP hn (s:=[124]) (by decide),h.P]
 rcases Nat.lt_or_ge n N with h1 | h1
 ·rw [h.txt h1]
 ·obtain rfl:n=N:=by omega
  have b2:Hb.isNam (E.at n)=false:=by unfold Hb.isNam;rw [h.ek];rfl
  have b3:∀s,Hb.isP (E.at n) s=false:=fun s=>by unfold Hb.isP;rw [h.ek];rfl
  rw [b2,b3,b3,if_pos (by rfl),if_pos (by rfl)]
theorem Sim.opr_lt {n:Nat} (hn:n≤N) (ho:(oprG E n).2=true):n<N:=by
 rcases Nat.lt_or_ge n N with h1 | h1
 ·exact h1
 ·exfalso
  obtain rfl:n=N:=by omega
  have b2:Hb.isNam (E.at n)=false:=by unfold Hb.isNam;rw [h.ek];rfl
  have b3:∀s,Hb.isP (E.at n) s=false:=fun s=>by unfold Hb.isP;rw [h.ek];rfl
  unfold oprG at ho
  simp only [b2,b3] at ho
  rw [if_pos (by rfl)] at ho
  cases ho
theorem Sim.loop {S S':PT} (hS:Sub d N S S') (most:Int):∀(k k':Nat) (t:Tm) (prec:Int) (n:Nat) (u:Tm) (p:Int) (m:Nat),k≤k'→n≤N→loopG E S most k t prec n=.ok (u,p,m)→m≤N∧loopG F S' most k' t prec (n+d)=.ok (u,p,m+d)
 | 0,_,_,_,_,_,_,_,_,_,he=>by unfold loopG at he;cases he
 | _+1,0,_,_,_,_,_,_,hk,_,_=>by omega
 | k+1,k'+1,t,prec,n,u,p,m,hk,hn,he=>by
  unfold loopG at he ⊢
  rw [h.opr hn]
  split at he
  ·rename_i h1
   rw [if_pos h1]
   injection he with he
   injection he with e1 e2
   injection e2 with e2 e3
   subst e1 e2 e3
   exact ⟨hn,rfl⟩
  rename_i h1
  rw [if_neg h1]
  have hlt:n<N:=h.opr_lt hn (by
   cases h2:(oprG E n).2
   ·exact absurd (by unfold endsG;rw [h2];rfl) h1
   ·rfl)
  rw [show n+d+1=n+1+d by omega]
  split at he
  ·rename_i h2
   rw [if_pos h2]
   exact Sim.loop hS most k k' _ _ (n+1) u p m (by omega) hlt he
  rename_i h2
  rw [if_neg h2]
  cases h5:S (sideR (oprG E n).1) (n+1) with
  | error e=>rw [h5] at he;cases he
  | ok y=>
   obtain ⟨u2,p2,m2⟩:=y
   obtain ⟨hm2,h6⟩:=hS _ (n+1) u2 p2 m2 hlt h5
   rw [h5] at he
   rw [h6]
   exact Sim.loop hS most k k' _ _ m2 u p m (by omega) hm2 he
theorem Sim.trm {S S':PT} (hS:Sub d N S S'):Sub d N (trmG E S) (trmG F S'):=fun most n t p m hn he=>by
 unfold trmG at he ⊢
 cases h5:opdG E S most n with
 | error e=>rw [h5] at he;cases he
 | ok y=>
  obtain ⟨u2,p2,m2⟩:=y
  obtain ⟨hm2,h6⟩:=h.opd hS most hn h5
  rw [h5] at he
  rw [h6]
  exact h.loop hS most _ _ _ _ _ _ _ _ h.flen hm2 he
theorem Sim.trmF:∀(f f':Nat),f≤f'→Sub d N (trmF E f) (trmF F f')
 | 0,_,_=>fun _ _ _ _ _ _ he=>by unfold Hb.trmF at he;cases he
 | f+1,0,hf=>by omega
 | f+1,f'+1,hf=>by
  show Sub d N (trmG E (Hb.trmF E f)) (trmG F (Hb.trmF F f'))
  exact h.trm (Sim.trmF f f' (by omega))
end
theorem loop_end {E:RE} {S:PT} {most prec:Int} {k n:Nat} {t:Tm} (hk:0<k) (h1:isNam (E.at n)=false) (h2:isP (E.at n) [44]=false) (h3:isP (E.at n) [124]=false):loopG E S most k t prec n=.ok (t,prec,n):=by
 obtain ⟨j,rfl⟩:∃j,k=j+1:=⟨k-1,by omega⟩
 have ho:oprG E n=(op0,false):=by unfold oprG;simp only [h1,h2,h3];rfl
 unfold loopG
 rw [ho,if_pos (by unfold endsG;rfl)]
theorem next_kind7 {l:List UInt8} {a:Nat} (h:(nextR l l a).r.err=0) (hk:(nextR l l a).r.kind=7):∃B rest,l=B++46::rest∧(nextR l l a).r.end_=(B.length:Int)+1:=by
 obtain ⟨p,hp⟩:∃p,a+skipN (l.drop a)=p:=⟨_,rfl⟩
 have e0:nextR l l a=if p=l.length then ⟨errR 14,false,p⟩ else if (tokR l l p).err=0 then ⟨tokR l l p,decide (a<p),0⟩ else ⟨errR (tokR l l p).err,false,p⟩:=by
  unfold nextR;rw [hp]
 by_cases h1:p=l.length
 ·rw [e0,if_pos h1] at h;exact absurd h (by show ¬(14:Int)=0;decide)
 rw [if_neg h1] at e0
 by_cases h2:(tokR l l p).err=0
 ·rw [if_pos h2] at e0
  rw [e0] at hk ⊢
  obtain ⟨h3,h4⟩:=tok_kind7 _ _ _ h2 hk
  have hlt:p<l.length:=by
   rcases Nat.lt_or_ge p l.length with h5 | h5
   ·exact h5
   ·rw [rawAt_out _ _ h5] at h4;exact absurd h4 (by decide)
  rw [rawAt_in _ _ hlt] at h4
  have hx:l[p]=46:=by
   unfold bAt at h4
   rw [List.getD_eq_getElem?_getD,List.getElem?_eq_getElem hlt] at h4
   have h5:((l[p].toNat:Nat):Int)=46:=h4
   have h6:l[p].toNat=46:=Int.ofNat.inj h5
   exact UInt8.toNat_inj.1 h6
  refine ⟨l.take p,l.drop (p+1),?_,?_⟩
  ·rw [←hx,←List.drop_eq_getElem_cons hlt,List.take_append_drop]
  ·rw [List.length_take,Nat.min_eq_left (Nat.le_of_lt hlt)];exact h3
 ·rw [e0,if_neg h2] at h;exact absurd h h2
def oB:NextR:=⟨⟨6,[40],0,-1,0,0⟩,false,0⟩
theorem tok_word (D:List UInt8):tokR (102::40::D) (102::40::D) 0=⟨1,[102],0,0,1,0⟩:=by
 have h0:rawAt (102::40::D) 0=102:=rawAt_cons 102 _
 unfold tokR
 rw [h0,if_neg (fun h=>absurd h.1 (by decide)),if_pos (by decide +kernel)]
 unfold wordR
 rw [h0]
 have hs:span alnum (List.drop 0 (102::40::D))=1:=by
  rw [List.drop_zero]
  show (if alnum ((102:UInt8).toNat:Int) then (if alnum ((40:UInt8).toNat:Int) then span alnum D+1 else 0)+1 else 0)=1
  rw [if_pos (by decide +kernel),if_neg (by decide +kernel)]
 rw [hs]
 rfl
theorem next_word (D:List UInt8):nextR (102::40::D) (102::40::D) 0=⟨⟨1,[102],0,0,1,0⟩,false,0⟩:=by
 have hs:skipN ((102::40::D).drop 0)=0:=by
  rw [List.drop_zero,skipN_eq]
  have h0:rawAt (102::40::D) 0=102:=rawAt_cons 102 _
  rw [h0,if_neg (by simp),if_neg (by decide +kernel),if_neg (by decide),if_neg (fun h=>absurd h.1 (by decide))]
 rw [next_at (p:=0) (by rw [hs]),tok_word,if_neg (by simp)]
 simp
def fB:NextR:=⟨⟨1,[102],0,-3,-2,0⟩,false,0⟩
def oB1:NextR:=⟨⟨6,[40],0,-2,-1,0⟩,false,0⟩
def oB2:NextR:=⟨⟨6,[40],0,-1,0,0⟩,false,0⟩
structure InBr (L:List UInt8) (T:List NextR) (te:NextR) (B:List UInt8) (T1 T2:List NextR):Prop where
 l:(allR L L 0).l=T++[te]
 bl:B=L.take B.length∧B.length<L.length
 k:te.r.kind=7
 e:te.r.end_=(B.length:Int)+1
 nk:∀t∈T,¬t.r.kind=7
 a1:∃b,allR (40::(B++[41,46])) (40::(B++[41,46])) 0=⟨T1.map (shN 1),0,0⟩∧T1=oB::(T++[tClose B.length b,⟨⟨7,[46],0,((B.length+1:Nat):Int),((B.length+1:Nat):Int)+1,0⟩,false,0⟩])
 a2:∃b,allR (102::40::40::(B++[41,41,46])) (102::40::40::(B++[41,41,46])) 0=⟨T2.map (shN 3),0,0⟩∧T2=fB::oB1::oB2::(T++[tClose B.length b,⟨⟨6,[41],0,((B.length+1:Nat):Int),((B.length+1:Nat):Int)+1,0⟩,false,0⟩,⟨⟨7,[46],0,((B.length+2:Nat):Int),((B.length+2:Nat):Int)+1,0⟩,false,0⟩])
theorem in_br {L:List UInt8} (h:(allR L L 0).err=0):∃T te B T1 T2,InBr L T te B T1 T2:=by
 obtain ⟨_,hne,hch⟩:=(allR_chain L L rfl 0 (Nat.zero_le _)).1 h
 have hpos:0<(allR L L 0).l.length:=List.length_pos_iff.2 hne
 obtain ⟨te,hte⟩:∃te,(allR L L 0).l[(allR L L 0).l.length-1]? = some te:=⟨_,List.getElem?_eq_getElem (by omega)⟩
 obtain ⟨c1,c2,c3,c4⟩:=hch _ te hte
 have hk:te.r.kind=7:=c3.2 ⟨by omega,trivial⟩
 obtain ⟨B,rest,hL,hend⟩:=next_kind7 (by rw [c1];exact c2) (by rw [c1];exact hk)
 rw [c1] at hend
 have hlast:(allR L L 0).l.getLast? = some te:=by rw [List.getLast?_eq_getElem?];exact hte
 subst hL
 have hlen:(B++46::rest).length=B.length+(rest.length+1):=by simp
 have hle:∀te',(allF ((B++46::rest).length+1) (B++46::rest) (B++46::rest) 0 []).l.getLast? = some te'→te'.r.end_=B.length+1:=fun te' h'=>by
  have:some te'=some te:=h'.symm.trans hlast
  injection this with this
  rw [this];exact hend
 have U1:∀f acc,(B++41::[46]).length+1≤f+(B.length+1)→acc≠[]→allF f (B++41::[46]) (B++41::[46]) (B.length+1) acc=⟨acc++[⟨⟨7,[46],0,((B.length+1:Nat):Int),((B.length+1:Nat):Int)+1,0⟩,false,0⟩],0,0⟩:=fun f acc hf _=>by
  have h1:=all_dot (B++[41]) f acc (by simp at hf;omega)
  have e1:(B++[41])++[46]=B++41::[46]:=by simp
  have e2:(B++[41]).length=B.length+1:=by simp
  rw [e1,e2] at h1
  exact h1
 have U2:∀f acc,(B++41::[41,46]).length+1≤f+(B.length+1)→acc≠[]→allF f (B++41::[41,46]) (B++41::[41,46]) (B.length+1) acc=⟨acc++[⟨⟨6,[41],0,((B.length+1:Nat):Int),((B.length+1:Nat):Int)+1,0⟩,false,0⟩,⟨⟨7,[46],0,((B.length+2:Nat):Int),((B.length+2:Nat):Int)+1,0⟩,false,0⟩],0,0⟩:=fun f acc hf _=>by
  obtain ⟨g,rfl⟩:∃g,f=g+1:=⟨f-1,by simp at hf;omega⟩
  have h0:=all_solo (c:=41) (.inr rfl) (B++[41]) [46] g acc
  have e1:(B++[41])++41::[46]=B++41::[41,46]:=by simp
  have e2:(B++[41]).length=B.length+1:=by simp
  rw [e1,e2] at h0
  rw [h0]
  have h1:=all_dot (B++[41,41]) g (acc++[⟨⟨6,[41],0,((B.length+1:Nat):Int),((B.length+1:Nat):Int)+1,0⟩,false,0⟩]) (by simp at hf;omega)
  have e3:(B++[41,41])++[46]=B++41::[41,46]:=by simp
  have e4:(B++[41,41]).length=B.length+2:=by simp
  rw [e3,e4] at h1
  rw [show B.length+1+1=B.length+2 from rfl,h1]
  simp
 have A1:=fun f' acc' hf'=>(all_local (r:=rest) (r':=[46]) _ U1 _ 0 f' [] acc' (Nat.zero_le _) h hle hf').2
 have A2:=fun f' acc' hf'=>(all_local (r:=rest) (r':=[41,46]) _ U2 _ 0 f' [] acc' (Nat.zero_le _) h hle hf').2
 obtain ⟨T,te1,b,g1,g2,g3,g4⟩:=A1 ((B++41::[46]).length+1) [oB] (by omega)
 obtain ⟨T',te2,b',k1,k2,k3,k4⟩:=A2 ((B++41::[41,46]).length+1) [fB,oB1,oB2] (by omega)
 have g1':(allR (B++46::rest) (B++46::rest) 0).l=T++[te1]:=g1.trans (List.nil_append _)
 have hTT:T'=T∧te2=te1:=by
  have:T'++[te2]=T++[te1]:=by
   have e:=k1.symm.trans g1
   rwa [List.nil_append,List.nil_append] at e
  have:=List.append_inj' this rfl
  exact ⟨this.1,by injection this.2⟩
 obtain ⟨rfl,rfl⟩:=hTT
 have hte1:te2=te:=by
  have e:(T'++[te2]).getLast? = some te:=by rw [←g1'];exact hlast
  simp at e
  exact e
 refine ⟨T',te2,B,oB::(T'++[tClose B.length b,⟨⟨7,[46],0,((B.length+1:Nat):Int),((B.length+1:Nat):Int)+1,0⟩,false,0⟩]),fB::oB1::oB2::(T'++[tClose B.length b',⟨⟨6,[41],0,((B.length+1:Nat):Int),((B.length+1:Nat):Int)+1,0⟩,false,0⟩,⟨⟨7,[46],0,((B.length+2:Nat):Int),((B.length+2:Nat):Int)+1,0⟩,false,0⟩]),g1',⟨by simp,by omega⟩,g2,by rw [hte1];exact hend,g3,⟨b,?_,rfl⟩,⟨b',?_,rfl⟩⟩
 ·have h0:=all_solo (c:=40) (.inl rfl) [] (B++[41,46]) ((40::(B++[41,46])).length) []
  have h1:=sh_all (40::(B++[41,46])) (40::(B++[41,46])) rfl 1 (by simp) ((40::(B++[41,46])).length) 0 [oB] (by simp) (by omega)
  have e:(40::(B++[41,46])).length=(B++41::[46]).length+1:=by simp
  unfold allR
  refine h0.trans (h1.trans ?_)
  rw [e]
  show shA 1 (allF ((B++41::[46]).length+1) (B++41::[46]) (B++41::[46]) 0 [oB])=_
  rw [g4]
  unfold shA
  rw [if_pos rfl]
  rfl
 ·have hn:=next_word (40::(B++[41,41,46]))
  have h0:=all_solo (c:=40) (.inl rfl) [102] (40::(B++[41,41,46])) ((B++41::[41,46]).length+2) [⟨⟨1,[102],0,0,1,0⟩,false,0⟩]
  have h2:=all_solo (c:=40) (.inl rfl) [102,40] (B++[41,41,46]) ((B++41::[41,46]).length+1) ([⟨⟨1,[102],0,0,1,0⟩,false,0⟩]++[⟨⟨6,[40],0,((1:Nat):Int),((1:Nat):Int)+1,0⟩,false,0⟩])
  have h1:=sh_all (102::40::40::(B++[41,41,46])) (102::40::40::(B++[41,41,46])) rfl 3 (by simp) ((B++41::[41,46]).length+1) 0 [fB,oB1,oB2] (by simp) (by simp)
  have e:(102::40::40::(B++[41,41,46])).length+1=(B++41::[41,46]).length+3+1:=by simp
  unfold allR
  rw [e,allF_succ,hn,if_neg (by rintro ⟨h,_⟩;exact absurd h (by decide)),if_neg (by decide),if_neg (by decide)]
  refine h0.trans (h2.trans (h1.trans ?_))
  show shA 3 (allF ((B++41::[41,46]).length+1) (B++41::[41,46]) (B++41::[41,46]) 0 [fB,oB1,oB2])=_
  rw [k4]
  unfold shA
  rw [if_pos rfl]
  rfl
theorem tokA_lt {T:List NextR} {n:Nat} (h:n<T.length):tokA T n=T[n]:=by
 unfold tokA
 rw [Nat.min_eq_left (by omega),List.getD_eq_getElem?_getD,List.getElem?_eq_getElem h];rfl
theorem tokA_pre {X T Y:List NextR} {n:Nat} (h:n<T.length):tokA (X++(T++Y)) (n+X.length)=tokA (T++Y) n:=by
 rw [tokA_lt (by simp;omega),tokA_lt (by simp;omega)]
 rw [List.getElem_append_right (by omega)]
 congr 1
 omega
theorem tokA_mid {X T Y:List NextR} (c:NextR) {n:Nat} (h:n=X.length+T.length):tokA (X++(T++c::Y)) n=c:=by
 subst h
 rw [tokA_lt (by simp)]
 simp
theorem vs_pre (X T Y Z:List NextR) (hX:X.filter isV=[]) {n:Nat} (h:n≤T.length):vsAt (X++(T++Y)) (n+X.length)=vsAt (T++Z) n:=by
 unfold vsAt
 rw [List.take_append_of_le_length h,Nat.add_comm,List.take_append,List.take_of_length_le (by omega),Nat.add_sub_cancel_left,List.take_append_of_le_length h]
 unfold vsOf
 rw [List.filter_append,hX,List.nil_append]
theorem sim_of (X T Y:List NextR) (te c:NextR) (P:List OpR) (q:Int) (hX:X.filter isV=[]) (hk:te.r.kind=7) (hc:c.r.kind=6∧c.r.text=[41]):Sim ⟨T++[te],P,q⟩ ⟨X++(T++c::Y),P,q⟩ X.length T.length:=by
 have ht:∀n,n<T.length→tokA (X++(T++c::Y)) (n+X.length)=tokA (T++[te]) n:=fun n hn=>by
  rw [tokA_pre hn,tokA_lt (by simp;omega),tokA_lt (by simp;omega),List.getElem_append_left hn,List.getElem_append_left hn]
 have hm:tokA (X++(T++c::Y)) (T.length+X.length)=c:=tokA_mid c (by omega)
 have he:tokA (T++[te]) T.length=te:=by
  have:=tokA_mid (X:=[]) (T:=T) (Y:=[]) te (n:=T.length) (by simp)
  rwa [List.nil_append] at this
 exact ⟨rfl,rfl,by simp;omega,fun n hn=>by show (tokA _ _).r.kind=_;rw [ht n hn];rfl,fun n hn=>by show (tokA _ _).r.text=_;rw [ht n hn];rfl,fun n hn=>by show (tokA _ _).r.n=_;rw [ht n hn];rfl,fun n hn=>by show (tokA _ _).lay=_;rw [ht n hn];rfl,fun n hn=>vs_pre X T (c::Y) [te] hX (Nat.le_of_lt hn),by show (tokA _ _).r.kind=_;rw [he];exact hk,by show (tokA _ _).r.kind=_;rw [hm];exact hc.1,by show (tokA _ _).r.text=_;rw [hm];exact hc.2⟩
theorem opd_par {F:RE} {S:PT} {most:Int} {n:Nat} {t:Tm} {p:Int} {m:Nat} (hk:(F.at n).r.kind=6) (hx:(F.at n).r.text=[40]) (hS:S 1200 (n+1)=.ok (t,p,m)) (hc:isP (F.at m) [41]=true):opdG F S most n=.ok (t,0,m+1):=by
 have b1:isBrk (F.at n)=true:=by unfold isBrk isP;rw [hk,hx];rfl
 have b2:brkG F S [40] (n+1)=.ok (t,m+1):=by
  unfold brkG parG needG
  rw [if_pos rfl,hS]
  simp only [id]
  rw [if_pos hc]
 unfold opdG
 simp only [hk,hx,b1,b2]
 simp
theorem trm_par {F:RE} {S:PT} {most:Int} {n:Nat} {t:Tm} {p:Int} {m:Nat} (hl:0<F.T.length) (hk:(F.at n).r.kind=6) (hx:(F.at n).r.text=[40]) (hS:S 1200 (n+1)=.ok (t,p,m)) (hc:isP (F.at m) [41]=true) (h1:isNam (F.at (m+1))=false) (h2:isP (F.at (m+1)) [44]=false) (h3:isP (F.at (m+1)) [124]=false):trmG F S most n=.ok (t,0,m+1):=by
 unfold trmG
 rw [opd_par hk hx hS hc]
 exact loop_end hl h1 h2 h3
theorem brackets_whole {P:List OpR} {q:Int} {X:List NextR} {T Y:List NextR} {te c c2:NextR} {t:Tm} {m:Nat} (hX:X.filter isV=[]) (hk:te.r.kind=7) (hT:∀t∈T,¬t.r.kind=7) (hc:c.r.kind=6∧c.r.text=[41]) (hw:wholeG ⟨T++[te],P,q⟩=.ok (t,m)):m=T.length∧∀f,T.length+1≤f→∃p,trmF ⟨X++(T++c::c2::Y),P,q⟩ f 1200 X.length=.ok (t,p,T.length+X.length):=by
 have hs:=sim_of X T (c2::Y) te c P q hX hk hc
 unfold wholeG at hw
 have hlen:(⟨T++[te],P,q⟩:RE).T.length=T.length+1:=by simp
 rw [hlen] at hw
 cases h1:trmF ⟨T++[te],P,q⟩ (T.length+1) 1200 0 with
 | error e=>rw [h1] at hw;cases hw
 | ok y=>
  obtain ⟨t2,p2,m2⟩:=y
  rw [h1] at hw
  simp only at hw
  split at hw
  ·rename_i h2
   injection hw with hw
   injection hw with e1 e2
   subst e1 e2
   have h3:=fun f hf=>hs.trmF (T.length+1) f hf 1200 0 _ _ _ (Nat.zero_le _) h1
   have hm:=(h3 (T.length+1) (Nat.le_refl _)).1
   have hm2:m2=T.length:=by
    rcases Nat.lt_or_ge m2 T.length with h4 | h4
    ·exfalso
     have:(⟨T++[te],P,q⟩:RE).at m2=T[m2]:=by
      show tokA _ _=_
      rw [tokA_lt (by simp;omega),List.getElem_append_left h4]
     rw [this] at h2
     exact hT _ (List.getElem_mem h4) h2
    ·omega
   refine ⟨hm2,fun f hf=>⟨p2,?_⟩⟩
   have h5:=(h3 f hf).2
   rw [Nat.zero_add,hm2] at h5
   exact h5
  ·cases hw
theorem bracket_one {P:List OpR} {q:Int} {T:List NextR} {te o c d:NextR} {t:Tm} {m:Nat} (ho:o.r.kind=6∧o.r.text=[40]) (hk:te.r.kind=7) (hT:∀t∈T,¬t.r.kind=7) (hc:c.r.kind=6∧c.r.text=[41]) (hd:d.r.kind=7) (hw:wholeG ⟨T++[te],P,q⟩=.ok (t,m)):wholeG ⟨o::(T++[c,d]),P,q⟩=.ok (t,T.length+2):=by
 have hX:([o]:List NextR).filter isV=[]:=by
  have:isV o=false:=by unfold isV;rw [ho.1];rfl
  simp [this]
 obtain ⟨_,h1⟩:=brackets_whole (X:=[o]) (Y:=[]) (c2:=d) hX hk hT hc hw
 obtain ⟨p,h2⟩:=h1 (T.length+2) (by omega)
 have h2:trmF ⟨o::(T++[c,d]),P,q⟩ (T.length+2) 1200 (0+1)=.ok (t,p,T.length+1):=h2
 have a0:(⟨o::(T++[c,d]),P,q⟩:RE).at 0=o:=by show tokA _ _=_;rw [tokA_lt (by simp)];rfl
 have aN:(⟨o::(T++[c,d]),P,q⟩:RE).at (T.length+1)=c:=tokA_mid (X:=[o]) c (by simp;omega)
 have aE:(⟨o::(T++[c,d]),P,q⟩:RE).at (T.length+1+1)=d:=by
  have:=tokA_mid (X:=[o]) (T:=T++[c]) (Y:=[]) d (n:=T.length+1+1) (by simp;omega)
  simp only [List.append_assoc,List.cons_append,List.nil_append] at this
  exact this
 have hl:(⟨o::(T++[c,d]),P,q⟩:RE).T.length=T.length+3:=by simp
 have e1:trmF ⟨o::(T++[c,d]),P,q⟩ (T.length+3) 1200 0=.ok (t,0,T.length+1+1):=by
  show trmG _ (trmF _ (T.length+2)) 1200 0=_
  refine trm_par (by rw [hl];omega) (by rw [a0];exact ho.1) (by rw [a0];exact ho.2) h2 (by rw [aN];unfold isP;rw [hc.1,hc.2];rfl) ?_ ?_ ?_
  ·rw [aE];unfold isNam;rw [hd];rfl
  ·rw [aE];unfold isP;rw [hd];rfl
  ·rw [aE];unfold isP;rw [hd];rfl
 unfold wholeG
 rw [hl,e1]
 simp only
 rw [aE,if_pos hd]
theorem bracket_two {P:List OpR} {q:Int} {T:List NextR} {te s o o2 c c2 d:NextR} {t:Tm} {m:Nat} (hs:s.r.kind=1) (ho:o.r.kind=6∧o.r.text=[40]∧o.lay=false) (ho2:o2.r.kind=6∧o2.r.text=[40]) (hk:te.r.kind=7) (hT:∀t∈T,¬t.r.kind=7) (hc:c.r.kind=6∧c.r.text=[41]) (hc2:c2.r.kind=6∧c2.r.text=[41]) (hd:d.r.kind=7) (hw:wholeG ⟨T++[te],P,q⟩=.ok (t,m)):wholeG ⟨s::o::o2::(T++[c,c2,d]),P,q⟩=.ok (stT s.txt [t],T.length+5):=by
 have hX:([s,o,o2]:List NextR).filter isV=[]:=by
  have i1:isV s=false:=by unfold isV;rw [hs];rfl
  have i2:isV o=false:=by unfold isV;rw [ho.1];rfl
  have i3:isV o2=false:=by unfold isV;rw [ho2.1];rfl
  simp [i1,i2,i3]
 obtain ⟨_,h1⟩:=brackets_whole (X:=[s,o,o2]) (Y:=[d]) (c2:=c2) hX hk hT hc hw
 obtain ⟨p,h2⟩:=h1 (T.length+4) (by omega)
 have h2:trmF ⟨s::o::o2::(T++[c,c2,d]),P,q⟩ (T.length+4) 1200 (2+1)=.ok (t,p,T.length+3):=h2
 obtain ⟨F,hF⟩:∃F:RE,F=⟨s::o::o2::(T++[c,c2,d]),P,q⟩:=⟨_,rfl⟩
 have a0:F.at 0=s:=by rw [hF];show tokA _ _=_;rw [tokA_lt (by simp)];rfl
 have a1:F.at 1=o:=by rw [hF];show tokA _ _=_;rw [tokA_lt (by simp)];rfl
 have a2:F.at 2=o2:=by rw [hF];show tokA _ _=_;rw [tokA_lt (by simp)];rfl
 have aN:F.at (T.length+3)=c:=by rw [hF];exact tokA_mid (X:=[s,o,o2]) c (by simp;omega)
 have aM:F.at (T.length+4)=c2:=by
  have:=tokA_mid (X:=[s,o,o2]) (T:=T++[c]) (Y:=[d]) c2 (n:=T.length+4) (by simp;omega)
  simp only [List.append_assoc,List.cons_append,List.nil_append] at this
  rw [hF];exact this
 have aE:F.at (T.length+5)=d:=by
  have:=tokA_mid (X:=[s,o,o2]) (T:=T++[c,c2]) (Y:=[]) d (n:=T.length+5) (by simp;omega)
  simp only [List.append_assoc,List.cons_append,List.nil_append] at this
  rw [hF];exact this
 have hl:F.T.length=T.length+6:=by rw [hF];simp
 rw [←hF] at h2 ⊢
 have e1:trmF F (T.length+5) 999 2=.ok (t,0,T.length+3+1):=by
  show trmG F (trmF F (T.length+4)) 999 2=_
  refine trm_par (by rw [hl];omega) (by rw [a2];exact ho2.1) (by rw [a2];exact ho2.2) h2 (by rw [aN];unfold isP;rw [hc.1,hc.2];rfl) ?_ ?_ ?_
  ·rw [aM];unfold isNam;rw [hc2.1];rfl
  ·rw [aM];unfold isP;rw [hc2.1,hc2.2];rfl
  ·rw [aM];unfold isP;rw [hc2.1,hc2.2];rfl
 have e2:rowX F (trmF F (T.length+5)) 2=.ok ([t],T.length+4):=by
  unfold rowX
  rw [hl,rowG,e1]
  simp only
  rw [aM,if_neg (by unfold isP;rw [hc2.1,hc2.2];decide)]
 have e3:compG F (trmF F (T.length+5)) s.txt 1=.ok (some (stT s.txt [t]),T.length+5):=by
  unfold compG
  rw [a1,if_pos (by unfold opn isP;rw [ho.1,ho.2.1,ho.2.2];rfl),e2]
  simp only
  unfold needG
  rw [aM,if_pos (by unfold isP;rw [hc2.1,hc2.2];rfl)]
 have e4:opdG F (trmF F (T.length+5)) 1200 0=.ok (stT s.txt [t],0,T.length+5):=by
  have b1:isBrk (F.at 0)=false:=by rw [a0];unfold isBrk isP;rw [hs];rfl
  have b2:isNam (F.at 0)=true:=by rw [a0];unfold isNam;rw [hs];rfl
  unfold opdG nmdG
  simp only [b1,b2]
  rw [a0,hs,e3]
  simp
 have e5:trmF F (T.length+6) 1200 0=.ok (stT s.txt [t],0,T.length+5):=by
  show trmG F (trmF F (T.length+5)) 1200 0=_
  unfold trmG
  rw [e4]
  refine loop_end (by rw [hl];omega) ?_ ?_ ?_
  ·rw [aE];unfold isNam;rw [hd];rfl
  ·rw [aE];unfold isP;rw [hd];rfl
  ·rw [aE];unfold isP;rw [hd];rfl
 unfold wholeG
 rw [hl,e5]
 simp only
 rw [aE,if_pos hd]
theorem read_ok {L:List UInt8} {at_:Int} {s:Sy} (h:(readS L at_ s).err=0):badArgs L at_ s=false∧(toksOf L at_ s).err=0∧∃t m,wholeG ⟨(toksOf L at_ s).l,s.P,s.q⟩=.ok (t,m)∧validT t=true∧readS L at_ s=⟨t,(vsAt (toksOf L at_ s).l m).m,sglV (vsAt (toksOf L at_ s).l m),(tokA (toksOf L at_ s).l m).r.end_,0,0⟩:=by
 unfold readS at h ⊢
 split at h
 ·exact absurd h (by show ¬(1:Int)=0;decide)
 rename_i h1
 rw [if_neg h1]
 split at h
 ·rename_i h2;exact absurd h h2
 rename_i h2
 rw [if_neg h2]
 refine ⟨by simpa using h1,by simpa using h2,?_⟩
 unfold readT at h ⊢
 cases hw:wholeG ⟨(toksOf L at_ s).l,s.P,s.q⟩ with
 | error k=>rw [hw] at h;exact absurd h (by show ¬(7:Int)=0;decide)
 | ok y=>
  obtain ⟨t,m⟩:=y
  rw [hw] at h
  simp only at h ⊢
  unfold readOk at h ⊢
  split at h
  ·rename_i h3
   rw [if_pos h3]
   exact ⟨t,m,rfl,h3,rfl⟩
  ·exact absurd h (by show ¬(2:Int)=0;decide)
theorem read_of {L:List UInt8} {s:Sy} {T:List NextR} {t:Tm} {m:Nat} (h1:badArgs L 0 s=false) (h2:toksOf L 0 s=⟨T,0,0⟩) (h3:wholeG ⟨T,s.P,s.q⟩=.ok (t,m)):readS L 0 s=readOk ⟨T,s.P,s.q⟩ t m:=by
 unfold readS
 rw [h1,if_neg (by simp),h2,if_neg (by simp)]
 unfold readT
 rw [h3]
theorem bad_sy {L K:List UInt8} {s:Sy} (h:badArgs L 0 s=false) (hK:K.length≤16384):badArgs K 0 s=false:=by
 obtain ⟨_,_,_,h4⟩:=bad_no h
 exact (bad_at K 0 s (Nat.zero_le _) hK).trans (by rw [h4];rfl)
theorem vs_two (X T Y:List NextR) (c te:NextR) (hX:X.filter isV=[]) (hc:isV c=false):vsAt (X++(T++c::Y)) (T.length+1+X.length)=vsAt (T++[te]) T.length:=by
 have h1:=vs_pre X (T++[c]) Y [] hX (n:=T.length+1) (by simp)
 simp only [List.append_assoc,List.cons_append,List.nil_append,List.append_nil] at h1
 rw [h1]
 unfold vsAt
 rw [List.take_of_length_le (by simp),List.take_append_of_le_length (Nat.le_refl _),List.take_length]
 unfold vsOf
 rw [List.filter_append]
 simp [hc]
structure BrSum (L:List UInt8) (s:Sy) (B:List UInt8):Prop where
 b:B=L.take B.length
 e:(readS L 0 s).end_=(B.length:Int)+1
 el:B.length<L.length
 v:validT (readS L 0 s).t=true
 q0:(readS (40::(B++[41,46])) 0 s).err=0
 qt:(readS (40::(B++[41,46])) 0 s).t=(readS L 0 s).t
 qn:(readS (40::(B++[41,46])) 0 s).names=(readS L 0 s).names
 qs:(readS (40::(B++[41,46])) 0 s).singles=(readS L 0 s).singles
 qe:(readS (40::(B++[41,46])) 0 s).end_=(B.length:Int)+1+2
 uy:validT (stT ⟨#[102]⟩ [(readS L 0 s).t])=true→(readS (102::40::40::(B++[41,41,46])) 0 s).err=0∧(readS (102::40::40::(B++[41,41,46])) 0 s).t=stT ⟨#[102]⟩ [(readS L 0 s).t]
 un:validT (stT ⟨#[102]⟩ [(readS L 0 s).t])=false→(readS (102::40::40::(B++[41,41,46])) 0 s).err=2∧(readS (102::40::40::(B++[41,41,46])) 0 s).where_=0
theorem brackets_sum {L:List UInt8} {s:Sy} (hcv:s.conv=[]) (hr:(readS L 0 s).err=0) (hL:L.length+5≤16384):∃B,BrSum L s B:=by
 obtain ⟨h1,h2,t,m,hw,hv,hR⟩:=read_ok hr
 have hto:∀K,toksOf K 0 s=allR K K 0:=fun K=>by unfold toksOf;rw [hcv,cvt_nil];rfl
 rw [hto] at h2 hw hR
 obtain ⟨T,te,B,T1,T2,I⟩:=in_br h2
 obtain ⟨b1,e1,rfl⟩:=I.a1
 obtain ⟨b2,e2,rfl⟩:=I.a2
 rw [I.l] at hw hR
 have k1:=bracket_one (o:=oB) (d:=⟨⟨7,[46],0,((B.length+1:Nat):Int),((B.length+1:Nat):Int)+1,0⟩,false,0⟩) (c:=tClose B.length b1) ⟨rfl,rfl⟩ I.k I.nk ⟨rfl,rfl⟩ rfl hw
 have k2:=bracket_two (s:=fB) (o:=oB1) (o2:=oB2) (c:=tClose B.length b2) (c2:=⟨⟨6,[41],0,((B.length+1:Nat):Int),((B.length+1:Nat):Int)+1,0⟩,false,0⟩) (d:=⟨⟨7,[46],0,((B.length+2:Nat):Int),((B.length+2:Nat):Int)+1,0⟩,false,0⟩) rfl ⟨rfl,rfl,rfl⟩ ⟨rfl,rfl⟩ I.k I.nk ⟨rfl,rfl⟩ ⟨rfl,rfl⟩ rfl hw
 have hm:=(brackets_whole (X:=[oB]) (Y:=[]) (c:=tClose B.length b1) (c2:=⟨⟨7,[46],0,((B.length+1:Nat):Int),((B.length+1:Nat):Int)+1,0⟩,false,0⟩) rfl I.k I.nk ⟨rfl,rfl⟩ hw).1
 subst hm
 rw [←(like_sh 1 _ s.P s.q).whole] at k1
 rw [←(like_sh 3 _ s.P s.q).whole] at k2
 have hB:=I.bl.2
 have hl1:(40::(B++[41,46])).length=B.length+3:=by simp
 have hl2:(102::40::40::(B++[41,41,46])).length=B.length+6:=by simp
 have r1:=read_of (bad_sy h1 (by rw [hl1];omega)) ((hto _).trans e1) k1
 have r2:=read_of (bad_sy h1 (by rw [hl2];omega)) ((hto _).trans e2) k2
 have hte:tokA (T++[te]) T.length=te:=by
  have:=tokA_mid (X:=[]) (T:=T) (Y:=[]) te (n:=T.length) (by simp)
  rwa [List.nil_append] at this
 have v1:=((like_sh 1 (oB::(T++[tClose B.length b1,⟨⟨7,[46],0,((B.length+1:Nat):Int),((B.length+1:Nat):Int)+1,0⟩,false,0⟩])) s.P s.q).v (T.length+2)).trans (vs_two [oB] T [⟨⟨7,[46],0,((B.length+1:Nat):Int),((B.length+1:Nat):Int)+1,0⟩,false,0⟩] (tClose B.length b1) te rfl rfl)
 unfold readOk at r1
 rw [hv,if_pos rfl] at r1
 refine ⟨B,I.bl.1,?_,hB,?_,?_,?_,?_,?_,?_,?_,?_⟩
 ·rw [hR];show (tokA (T++[te]) T.length).r.end_=_;rw [hte];exact I.e
 ·rw [hR];exact hv
 ·rw [r1]
 ·rw [r1,hR]
 ·rw [r1,hR]
  show (vsAt _ (T.length+2)).m=_
  exact congrArg VS.m v1
 ·rw [r1,hR]
  show sglV (vsAt _ (T.length+2))=_
  exact congrArg sglV v1
 ·rw [r1]
  show (tokA _ (T.length+2)).r.end_=_
  rw [tokA_sh _ _ _ (by simp)]
  have hd:tokA (oB::(T++[tClose B.length b1,⟨⟨7,[46],0,((B.length+1:Nat):Int),((B.length+1:Nat):Int)+1,0⟩,false,0⟩])) (T.length+2)=⟨⟨7,[46],0,((B.length+1:Nat):Int),((B.length+1:Nat):Int)+1,0⟩,false,0⟩:=by
   have:=tokA_mid (X:=[oB]) (T:=T++[tClose B.length b1]) (Y:=[]) ⟨⟨7,[46],0,((B.length+1:Nat):Int),((B.length+1:Nat):Int)+1,0⟩,false,0⟩ (n:=T.length+2) (by simp;omega)
   simp only [List.append_assoc,List.cons_append,List.nil_append] at this
   exact this
  rw [hd]
  show ((B.length+1:Nat):Int)+1+1=_
  omega
 ·intro hu
  rw [hR] at hu ⊢
  have hu:validT (stT fB.txt [t])=true:=hu
  unfold readOk at r2
  rw [hu,if_pos rfl] at r2
  rw [r2]
  exact ⟨rfl,rfl⟩
 ·intro hu
  rw [hR] at hu
  have hu:validT (stT fB.txt [t])=false:=hu
  unfold readOk at r2
  rw [hu,if_neg (by simp)] at r2
  rw [r2]
  refine ⟨rfl,?_⟩
  show (tokA _ 0).r.at_=0
  rw [tokA_sh _ _ _ (by simp),tokA_lt (by simp)]
  rfl
end Hb
