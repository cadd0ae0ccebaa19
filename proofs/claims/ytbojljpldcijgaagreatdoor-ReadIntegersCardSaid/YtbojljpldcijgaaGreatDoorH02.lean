/- Parts of the proof. -/
import Derived.Test.YtbojljpldcijgaaGreatDoorH01
import Derived.Lib.ItoaNum
import Derived.Sort.Walk0
import Derived.Test.YtbojljpldcijgaaGreatDoorChecked
import Derived.LoopN
import Derived.Deep.RegionHeld3
namespace Hb
def shL (n:Int) (r:LexR):LexR:=if r.err=0 then ⟨r.kind,r.text,r.n,r.at_+n,r.end_+n,0⟩ else r
theorem shL_err (n e:Int) (h:¬e=0):shL n (errR e)=errR e:=by unfold shL errR;rw [if_neg h]
theorem shL_named (n kind:Int) (t:List UInt8) (a e a' e':Int) (ha:a'=a+n) (he:e'=e+n):namedR kind t a' e'=shL n (namedR kind t a e):=by
 subst ha;subst he
 unfold namedR
 by_cases h:100<t.length
 ·rw [if_pos h,if_pos h,shL_err _ _ (by decide)]
 ·rw [if_neg h,if_neg h];rfl
theorem shL_int (n base:Int) (t:List UInt8) (a e a' e':Int) (ha:a'=a+n) (he:e'=e+n):intR base t a' e'=shL n (intR base t a e):=by
 subst ha;subst he
 unfold intR
 by_cases h:natOf base t≤9223372036854775808
 ·rw [if_pos h,if_pos h];rfl
 ·rw [if_neg h,if_neg h,shL_err _ _ (by decide)]
theorem shL_ok (n kind n0 a e a' e':Int) (t:List UInt8) (ha:a'=a+n) (he:e'=e+n):(⟨kind,t,n0,a',e',0⟩:LexR)=shL n ⟨kind,t,n0,a,e,0⟩:=by
 subst ha;subst he;rfl
theorem shL_shL (n k:Int) (r:LexR):shL n (shL k r)=shL (k+n) r:=by
 by_cases h:r.err=0
 ·unfold shL;rw [if_pos h];simp only [if_true];rw [if_pos h];simp [Int.add_assoc]
 ·unfold shL;rw [if_neg h,if_neg h,if_neg h]
theorem numBase_drop (m:List UInt8) (p:Nat):numBase (m.drop p) 0=numBase m p:=by
 unfold numBase;simp only [rawAt_drop,Nat.add_zero,Nat.zero_add]
theorem tok_drop (m l:List UInt8) (p:Nat):tokR m l p=shL p (tokR (m.drop p) (l.drop p) 0):=by
 have r0:rawAt (m.drop p) 0=rawAt m p:=by rw [rawAt_drop,Nat.add_zero]
 have r1:rawAt (m.drop p) (0+1)=rawAt m (p+1):=by rw [rawAt_drop,Nat.zero_add]
 unfold tokR
 simp only [r0,r1]
 split
 ·rw [shL_err _ _ (by decide)]
 split
 ·unfold wordR;rw [r0];simp only [List.drop_zero];exact shL_named _ _ _ _ _ _ _ (by simp) (by simp;omega)
 split
 ·unfold numR
  simp only [r0,r1,numBase_drop,List.drop_drop,Nat.zero_add]
  split
  ·cases quotedS (l.drop (p+2)) 39 with
   | none=>rw [shL_err _ _ (by decide)]
   | some ck=>exact shL_ok _ _ _ _ _ _ _ _ (by simp) (by simp;omega)
  split
  ·exact shL_int _ _ _ _ _ _ _ (by simp) (by simp;omega)
  ·exact shL_int _ _ _ _ _ _ _ (by simp) (by simp;omega)
 split
 ·unfold symR
  simp only [r0,r1,List.drop_zero]
  split
  ·exact shL_ok _ _ _ _ _ _ _ _ (by simp) (by simp;omega)
  ·exact shL_named _ _ _ _ _ _ _ (by simp) (by simp;omega)
 split
 ·unfold soloR;rw [r0];simp only [List.drop_zero];exact shL_named _ _ _ _ _ _ _ (by simp) (by simp;omega)
 split
 ·unfold quoteR
  simp only [r0,List.drop_drop,Nat.zero_add]
  split
  ·cases item (l.drop (p+1)) 34 with
   | none=>unfold strRes;rw [shL_err _ _ (by decide)]
   | some x=>unfold strRes;exact shL_ok _ _ _ _ _ _ _ _ (by simp) (by simp;omega)
  split
  ·cases item (l.drop (p+1)) 39 with
   | none=>unfold nmRes;rw [shL_err _ _ (by decide)]
   | some x=>unfold nmRes;exact shL_named _ _ _ _ _ _ _ (by simp) (by simp;omega)
  ·rw [shL_err _ _ (by decide)]
 ·rw [shL_err _ _ (by decide)]
theorem tok_app (pre l:List UInt8) (p:Nat):tokR (pre++l) (pre++l) (pre.length+p)=shL pre.length (tokR l l p):=by
 rw [tok_drop,tok_drop l l p,shL_shL,List.drop_append,List.drop_of_length_le (by omega),show pre.length+p-pre.length=p by omega,List.nil_append]
 congr 1;simp;omega
theorem cvt_id (l:List UInt8):cvt (convT []) l=l:=by
 unfold cvt convT
 simp
theorem raw_app1 (t R:List UInt8) (i:Nat) (h:i<t.length):rawAt (t++R) i=rawAt t i:=by
 rw [rawAt_in _ _ (by simp;omega),rawAt_in _ _ h,←bAt_get _ _ (by simp;omega),←bAt_get _ _ h,List.getElem_append_left h]
theorem raw_app2 (t R:List UInt8):rawAt (t++R) t.length=rawAt R 0:=by
 have:=rawAt_drop (t++R) t.length 0
 rw [List.drop_left,Nat.add_zero] at this;exact this.symm
theorem span_app (q:Int→Bool) (t R:List UInt8) (h:every q t=true) (hR:q (rawAt R 0)=false):span q (t++R)=t.length:=by
 induction t with
 | nil=>
  rw [List.nil_append]
  match R,hR with
  | [],_=>rfl
  | b::R,hR=>rw [rawAt_cons] at hR;rw [span,hR];rfl
 | cons b t ih=>
  unfold every at h ih
  rw [List.all_cons,Bool.and_eq_true] at h
  rw [List.cons_append,span,if_pos h.1,ih h.2];rfl
theorem span_app_lt (q:Int→Bool) (t R:List UInt8) (h:span q t<t.length):span q (t++R)=span q t:=by
 induction t with
 | nil=>simp [span] at h
 | cons b t ih=>
  rw [List.cons_append,span,span]
  rw [span] at h
  by_cases hb:q (b.toNat:Int)=true
  ·rw [if_pos hb] at h ⊢
   rw [if_pos hb,ih (by simpa using h)]
  ·rw [if_neg hb,if_neg hb]
theorem span_full (q:Int→Bool) (t:List UInt8) (h:span q t=t.length):every q t=true:=(span_all q t).1 h
structure NoGlue (t R:List UInt8):Prop where
 a:alnum (rawAt t (t.length-1))=true→alnum (rawAt R 0)=false
 s:isSym (rawAt t (t.length-1))=true→isSym (rawAt R 0)=false
 q:cls (rawAt t (t.length-1))=7→¬rawAt t (t.length-1)=rawAt R 0
 z:t=[48]→¬rawAt R 0=39
theorem dig_alnum (b:Nat) (hb:okBase b) (c:Int) (h:isDig (b:Int) c=true):alnum c=true:=by
 have hb2:=base_lo b hb
 unfold isDig at h
 rw [digOk_dgt _ _ (by omega) (by omega)] at h
 have h:dgt c<(b:Int):=by simpa using h
 have hc:(48≤c∧c≤57)∨(97≤c∧c≤122)∨(65≤c∧c≤90):=by unfold dgt at h;grind
 unfold alnum cls
 grind
theorem last_every (q:Int→Bool) (t:List UInt8) (h:every q t=true) (h0:0<t.length):q (rawAt t (t.length-1))=true:=every_at q t h _ (by omega)
theorem dig_stop (b:Nat) (hb:okBase b) (c:Int) (h:alnum c=false):isDig (b:Int) c=false:=by
 cases hd:isDig (b:Int) c with
 | false=>rfl
 | true=>rw [dig_alnum b hb c hd] at h;cases h
theorem raw_last_drop (t:List UInt8) (k:Nat) (h:k<t.length):rawAt (t.drop k) ((t.drop k).length-1)=rawAt t (t.length-1):=by
 rw [rawAt_drop,List.length_drop];congr 1;omega
theorem quotedS_app (l R:List UInt8) (q c:Int) (k:Nat) (hq:0≤q∧q≤255) (h:quotedS l q=some (c,k)):quotedS (l++R) q=some (c,k):=by
 have hok:=quotedS_ok l q c k hq h
 have r0:rawAt (l++R) 0=rawAt l 0:=raw_app1 _ _ _ (by omega)
 have n0:=rawAt_neg l 0
 unfold quotedS at h ⊢
 rw [r0]
 by_cases h1:rawAt l 0<0∨rawAt l 0=10
 ·rw [if_pos h1] at h;cases h
 rw [if_neg h1] at h ⊢
 by_cases h2:rawAt l 0=q
 ·rw [if_pos h2] at h ⊢
  by_cases h3:rawAt l 1=q
  ·have:=rawAt_neg l 1
   rw [raw_app1 _ _ _ (by omega),if_pos h3]
   rw [if_pos h3] at h;exact h
  ·rw [if_neg h3] at h;cases h
 rw [if_neg h2] at h ⊢
 by_cases h3:rawAt l 0≠92
 ·rw [if_pos h3] at h ⊢;exact h
 rw [if_neg h3] at h ⊢
 by_cases h4:uneOk (rawAt l 1)=true
 ·have:=une_bd _ h4
  have:=rawAt_neg l 1
  rw [if_pos h4] at h
  rw [raw_app1 _ _ _ (by omega),if_pos h4];exact h
 rw [if_neg h4] at h
 by_cases h5:0<escLen l∧escNum l≤255∧rawAt l (escFrom l+escLen l)=92
 ·have n2:=rawAt_neg l (escFrom l+escLen l)
  have hf1:1≤escFrom l:=by unfold escFrom;split <;> omega
  have r1:rawAt (l++R) 1=rawAt l 1:=raw_app1 _ _ _ (by omega)
  have eb:escBase (l++R)=escBase l:=by unfold escBase;rw [r1]
  have ef:escFrom (l++R)=escFrom l:=by unfold escFrom;rw [r1]
  have el:escLen (l++R)=escLen l:=by
   unfold escLen;rw [eb,ef,List.drop_append_of_le_length (by omega)]
   refine span_app_lt _ _ _ ?_
   rw [List.length_drop];show escLen l<_;omega
  have en:escNum (l++R)=escNum l:=by
   unfold escNum;rw [eb,ef,el,List.drop_append_of_le_length (by omega),List.take_append_of_le_length (by rw [List.length_drop];omega)]
  rw [if_pos h5] at h
  rw [r1,if_neg h4,el,en,ef,raw_app1 _ _ _ (by omega),if_pos h5];exact h
 ·rw [if_neg h5] at h;cases h
theorem item_last (q:Int) (hq:0≤q∧q≤255):∀(f:Nat) (l:List UInt8) (s:List UInt8) (k:Nat),itemF f l q=some (s,k)→rawAt l k=q
 | 0,_,_,_,h=>by cases h
 | f+1,l,s,k,h=>by
  unfold itemF at h
  by_cases a1:rawAt l 0=q∧¬rawAt l 1=q
  ·rw [if_pos a1] at h;injection h with h;injection h with e1 e2;subst e2;exact a1.1
  rw [if_neg a1] at h
  by_cases a2:rawAt l 0=92∧rawAt l 1=10
  ·rw [if_pos a2] at h
   cases hi:itemF f (l.drop 2) q with
   | none=>rw [hi] at h;cases h
   | some x=>
    obtain ⟨t',k'⟩:=x
    have:=item_last q hq f (l.drop 2) t' k' hi
    rw [hi] at h;injection h with h;injection h with e1 e2;subst e2
    rw [rawAt_drop] at this;rw [←this];congr 1;simp only [];omega
  rw [if_neg a2] at h
  cases hs:quotedS l q with
  | none=>rw [hs] at h;cases h
  | some ck=>
   obtain ⟨c,j⟩:=ck
   rw [hs] at h
   simp only [] at h
   cases hi:itemF f (l.drop j) q with
   | none=>rw [hi] at h;cases h
   | some x=>
    obtain ⟨t',k'⟩:=x
    have:=item_last q hq f (l.drop j) t' k' hi
    rw [hi] at h;injection h with h;injection h with e1 e2;subst e2
    rw [rawAt_drop] at this;rw [←this];congr 1;simp only [];omega
theorem item_app (q:Int) (hq:0≤q∧q≤255) (R:List UInt8) (hR:¬rawAt R 0=q):∀(n:Nat) (l:List UInt8),l.length=n→∀(s:List UInt8) (k:Nat),item l q=some (s,k)→k+1=l.length→item (l++R) q=some (s,k):=by
 intro n
 induction n using Nat.strongRecOn with
 | _ n ih=>
  intro l hn s k h hk
  have h0:0<l.length:=by omega
  rw [item_eq _ _ hq] at h ⊢
  have r0:rawAt (l++R) 0=rawAt l 0:=raw_app1 _ _ _ h0
  have n1:=rawAt_neg l 1
  have hr1:1<l.length→rawAt (l++R) 1=rawAt l 1:=fun hx=>raw_app1 _ _ _ hx
  have hr2:l.length=1→rawAt (l++R) 1=rawAt R 0:=fun hx=>by have:=raw_app2 l R;rwa [hx] at this
  by_cases a1:rawAt l 0=q∧¬rawAt l 1=q
  ·rw [if_pos a1] at h
   injection h with h;injection h with e1 e2;subst e1;subst e2
   rw [r0,if_pos ⟨a1.1,by rw [hr2 (by omega)];exact hR⟩]
  rw [if_neg a1] at h
  by_cases a2:rawAt l 0=92∧rawAt l 1=10
  ·have hl:1<l.length:=by omega
   rw [r0,hr1 hl,if_neg a1,if_pos a2,List.drop_append_of_le_length (by omega)]
   rw [if_pos a2] at h
   cases hi:item (l.drop 2) q with
   | none=>rw [hi] at h;cases h
   | some x=>
    obtain ⟨t',k'⟩:=x
    rw [hi] at h;injection h with h;injection h with e1 e2
    simp only [] at e1 e2
    rw [ih (l.drop 2).length (by rw [List.length_drop];omega) (l.drop 2) rfl t' k' hi (by rw [List.length_drop];omega)]
    simp only [Option.map_some,e1,e2]
  rw [if_neg a2] at h
  cases hs:quotedS l q with
  | none=>rw [hs] at h;cases h
  | some ck=>
   obtain ⟨c,j⟩:=ck
   have hok:=quotedS_ok l q c j hq hs
   rw [hs] at h
   simp only [] at h
   cases hi:item (l.drop j) q with
   | none=>rw [hi] at h;cases h
   | some x=>
    obtain ⟨t',k'⟩:=x
    have hlen:=item_len q hq _ _ _ _ hi
    rw [List.length_drop] at hlen
    have hl:1<l.length:=by omega
    rw [hi] at h;injection h with h;injection h with e1 e2
    simp only [] at e1 e2
    rw [r0,hr1 hl,if_neg a1,if_neg a2,quotedS_app l R q c j hq hs]
    simp only []
    rw [List.drop_append_of_le_length (by omega),ih (l.drop j).length (by rw [List.length_drop];omega) (l.drop j) rfl t' k' hi (by rw [List.length_drop];omega)]
    simp only [Option.map_some,e1,e2]
theorem numBase_app (t R:List UInt8) (h:1<t.length):numBase (t++R) 0=numBase t 0:=by
 unfold numBase;rw [raw_app1 _ _ _ (by omega),raw_app1 _ _ _ h]
theorem numBase_ok (t:List UInt8) (h:0<numBase t 0):∃b:Nat,okBase b∧numBase t 0=(b:Int):=by
 unfold numBase at h ⊢
 split
 ·split
  ·exact ⟨16,.inr (.inr (.inr rfl)),rfl⟩
  split
  ·exact ⟨8,.inr (.inl rfl),rfl⟩
  split
  ·exact ⟨2,.inl rfl,rfl⟩
  ·rename_i a b c d;rw [if_pos a,if_neg b,if_neg c,if_neg d] at h;exact absurd h (by decide)
 ·rename_i a;rw [if_neg a] at h;exact absurd h (by decide)
theorem numR_app (t R:List UInt8) (h0:0<t.length) (he:(numR t t 0).err=0) (hE:(numR t t 0).end_=t.length) (hG:NoGlue t R):numR (t++R) (t++R) 0=numR t t 0:=by
 have r0:rawAt (t++R) 0=rawAt t 0:=raw_app1 _ _ _ h0
 by_cases c1:rawAt t 0=48∧rawAt t (0+1)=39
 ·have n1:=rawAt_neg t (0+1)
  have hl:1<t.length:=by omega
  unfold numR at he hE ⊢
  rw [if_pos c1] at he hE ⊢
  rw [r0,raw_app1 _ _ _ (by omega),if_pos c1,List.drop_append_of_le_length (by omega)]
  cases hq:quotedS (t.drop (0+2)) 39 with
  | none=>rw [hq] at he;exact absurd he (by show ¬(7:Int)=0;decide)
  | some ck=>rw [quotedS_app _ _ _ _ _ (by decide) hq]
 by_cases c2:0<numBase t 0∧0<span (isDig (numBase t 0)) (t.drop (0+2))
 ·have hl:2<t.length:=by have:=span_le (isDig (numBase t 0)) (t.drop (0+2));rw [List.length_drop] at this;omega
  obtain ⟨b,hb,hbb⟩:=numBase_ok t c2.1
  have e1:(intR (numBase t 0) ((t.drop (0+2)).take (span (isDig (numBase t 0)) (t.drop (0+2)))) ((0:Nat):Int) ((0:Nat)+2+span (isDig (numBase t 0)) (t.drop (0+2))))=numR t t 0:=by
   unfold numR;rw [if_neg c1,if_pos c2]
  rw [←e1] at he hE
  have hspan:span (isDig (numBase t 0)) (t.drop (0+2))=(t.drop (0+2)).length:=by
   rw [(int_end _ _ _ _ he).2] at hE;rw [List.length_drop];omega
  have hev:=span_full _ _ hspan
  have hpos:0<(t.drop (0+2)).length:=by rw [List.length_drop];omega
  have hlast:=last_every _ _ hev hpos
  rw [raw_last_drop t (0+2) (by omega),hbb] at hlast
  have hstop:=dig_stop b hb _ (hG.a (dig_alnum b hb _ hlast))
  rw [←hbb] at hstop
  have hspan2:=span_app _ _ R hev hstop
  rw [←e1]
  unfold numR
  rw [r0,raw_app1 _ _ _ (show 0+1<t.length by omega),if_neg c1,numBase_app t R (by omega),List.drop_append_of_le_length (by omega),hspan2,if_pos ⟨c2.1,hpos⟩,List.take_left,hspan,List.take_length]
 ·have e1:intR 10 ((t.drop 0).take (span (isDig 10) (t.drop 0))) ((0:Nat):Int) ((0:Nat)+span (isDig 10) (t.drop 0))=numR t t 0:=by
   unfold numR;rw [if_neg c1,if_neg c2]
  rw [←e1] at he hE
  simp only [List.drop_zero] at he hE e1
  have hspan:span (isDig 10) t=t.length:=by
   rw [(int_end _ _ _ _ he).2] at hE;omega
  have hev:=span_full _ _ hspan
  have hlast:=last_every _ _ hev h0
  have hb10:okBase 10:=.inr (.inr (.inl rfl))
  have hal:=dig_alnum 10 hb10 _ hlast
  have hR:=hG.a hal
  have hstop:=dig_stop 10 hb10 _ hR
  have hspan2:span (isDig 10) (t++R)=t.length:=span_app _ _ R hev hstop
  have hdec:=fun k hk=>dec_head t hev k hk
  have x1:¬(rawAt (t++R) 0=48∧rawAt (t++R) (0+1)=39):=by
   rintro ⟨y1,y2⟩
   by_cases hl:1<t.length
   ·have:=hdec 1 hl
    rw [raw_app1 _ _ _ (by omega)] at y2
    rw [Nat.zero_add] at y2;omega
   ·have hl1:t.length=1:=by omega
    have:=raw_app2 t R
    rw [hl1] at this
    rw [Nat.zero_add,this] at y2
    rw [r0] at y1
    exact hG.z (raw_take1 t hl1 48 y1) y2
  have x2:numBase (t++R) 0=0:=by
   unfold numBase
   by_cases y1:rawAt (t++R) 0=48
   ·rw [if_pos y1]
    have y2:¬(rawAt (t++R) (0+1)=120)∧¬(rawAt (t++R) (0+1)=111)∧¬(rawAt (t++R) (0+1)=98):=by
     by_cases hl:1<t.length
     ·have:=hdec 1 hl
      rw [raw_app1 _ _ _ (by omega)]
      rw [Nat.zero_add];omega
     ·have hl1:t.length=1:=by omega
      have h2:=raw_app2 t R
      rw [hl1] at h2
      rw [Nat.zero_add,h2]
      refine ⟨fun h=>?_,fun h=>?_,fun h=>?_⟩ <;> (rw [h] at hR;exact absurd hR (by decide +kernel))
    rw [if_neg y2.1,if_neg y2.2.1,if_neg y2.2.2]
   ·rw [if_neg y1]
  rw [←e1]
  unfold numR
  rw [if_neg x1,x2,if_neg (fun h=>absurd h.1 (by decide))]
  simp only [List.drop_zero,hspan2,hspan,List.take_left,List.take_length]
theorem tok_more (t R:List UInt8) (h0:0<t.length) (he:(tokR t t 0).err=0) (hk:¬(tokR t t 0).kind=7) (hE:(tokR t t 0).end_=t.length) (hG:NoGlue t R):tokR (t++R) (t++R) 0=tokR t t 0:=by
 have r0:rawAt (t++R) 0=rawAt t 0:=raw_app1 _ _ _ h0
 unfold tokR at he hk hE ⊢
 by_cases a0:rawAt t 0=47∧rawAt t (0+1)=42
 ·rw [if_pos a0] at he;exact absurd he (by decide)
 rw [if_neg a0] at he hk hE ⊢
 have b0:¬(rawAt (t++R) 0=47∧rawAt (t++R) (0+1)=42):=by
  rintro ⟨y1,y2⟩
  rw [r0] at y1
  by_cases hl:1<t.length
  ·rw [raw_app1 _ _ _ (by omega)] at y2;exact a0 ⟨y1,y2⟩
  ·have hl1:t.length=1:=by omega
   have h2:=raw_app2 t R
   rw [hl1] at h2
   rw [Nat.zero_add,h2] at y2
   have h3:=hG.s
   rw [hl1,y1,y2] at h3
   exact absurd (h3 (by decide +kernel)) (by decide +kernel)
 rw [if_neg b0,r0]
 by_cases a1:cls (rawAt t 0)=2∨cls (rawAt t 0)=3
 ·rw [if_pos a1] at he hk hE ⊢
  rw [if_pos a1]
  unfold wordR at he hE ⊢
  simp only [List.drop_zero] at he hE ⊢
  have hspan:span alnum t=t.length:=by rw [(named_end _ _ _ _ he).2.1] at hE;omega
  have hev:=span_full _ _ hspan
  have hspan2:=span_app _ _ R hev (hG.a (last_every _ _ hev h0))
  rw [r0,hspan2,hspan,List.take_left,List.take_length]
 rw [if_neg a1] at he hk hE ⊢
 rw [if_neg a1]
 by_cases a2:cls (rawAt t 0)=4
 ·rw [if_pos a2] at he hk hE ⊢
  rw [if_pos a2]
  exact numR_app t R h0 he hE hG
 rw [if_neg a2] at he hk hE ⊢
 rw [if_neg a2]
 by_cases a3:cls (rawAt t 0)=5
 ·rw [if_pos a3] at he hk hE ⊢
  rw [if_pos a3]
  by_cases b1:rawAt t 0=46∧endNext (rawAt t (0+1))=true
  ·unfold symR at hk;rw [if_pos b1] at hk;exact absurd rfl hk
  have e1:namedR 1 (t.take (span isSym t)) ((0:Nat):Int) ((0:Nat)+span isSym t)=symR t 0:=by unfold symR;rw [if_neg b1];simp only [List.drop_zero]
  rw [←e1] at he hE ⊢
  have hspan:span isSym t=t.length:=by rw [(named_end _ _ _ _ he).2.1] at hE;omega
  have hev:=span_full _ _ hspan
  have hspan2:=span_app _ _ R hev (hG.s (last_every _ _ hev h0))
  have b2:¬(rawAt (t++R) 0=46∧endNext (rawAt (t++R) (0+1))=true):=by
   rintro ⟨y1,y2⟩
   rw [r0] at y1
   by_cases hl:1<t.length
   ·rw [raw_app1 _ _ _ (by omega)] at y2;exact b1 ⟨y1,y2⟩
   ·exact b1 ⟨y1,by rw [rawAt_out _ _ (by omega)];decide +kernel⟩
  unfold symR
  rw [if_neg b2]
  simp only [List.drop_zero]
  rw [hspan2,hspan,List.take_left,List.take_length]
 rw [if_neg a3] at he hk hE ⊢
 rw [if_neg a3]
 by_cases a4:cls (rawAt t 0)=6
 ·rw [if_pos a4] at he hk hE ⊢
  rw [if_pos a4]
  unfold soloR at he hE ⊢
  simp only [List.drop_zero] at he hE ⊢
  have hl:1=t.length:=by rw [(named_end _ _ _ _ he).2.1] at hE;omega
  rw [r0,hl,List.take_left,List.take_length]
 rw [if_neg a4] at he hk hE ⊢
 rw [if_neg a4]
 by_cases a5:cls (rawAt t 0)=7
 ·rw [if_pos a5] at he hk hE ⊢
  rw [if_pos a5]
  have hdrop:(t++R).drop (0+1)=t.drop (0+1)++R:=List.drop_append_of_le_length (by omega)
  have key:∀q:Int,(q=34∨q=39)→rawAt t 0=q→∀s k,item (t.drop (0+1)) q=some (s,k)→k+1+1=t.length→item ((t++R).drop (0+1)) q=some (s,k):=by
   intro q hq hh s k hi hl
   have hq2:0≤q∧q≤255:=by omega
   have h3:=item_last q hq2 _ _ _ _ hi
   rw [rawAt_drop] at h3
   have h4:rawAt t (t.length-1)=q:=by rw [←h3];congr 1;omega
   have h5:¬rawAt R 0=q:=fun h=>hG.q (by rw [h4];rcases hq with rfl|rfl <;> decide +kernel) (by rw [h4,h])
   rw [hdrop]
   exact item_app q hq2 R h5 _ _ rfl s k hi (by rw [List.length_drop];omega)
  unfold quoteR at he hE ⊢
  rw [r0]
  by_cases c1:rawAt t 0=34
  ·rw [if_pos c1] at he hE ⊢
   rw [if_pos c1]
   cases hi:item (t.drop (0+1)) 34 with
   | none=>rw [hi] at he;exact absurd he (by show ¬(7:Int)=0;decide)
   | some x=>
    obtain ⟨s,k⟩:=x
    rw [hi] at hE
    rw [key 34 (.inl rfl) c1 s k hi (by have:((0:Nat):Int)+1+(k:Int)+1=t.length:=hE;omega)]
  rw [if_neg c1] at he hE ⊢
  rw [if_neg c1]
  by_cases c2:rawAt t 0=39
  ·rw [if_pos c2] at he hE ⊢
   rw [if_pos c2]
   cases hi:item (t.drop (0+1)) 39 with
   | none=>rw [hi] at he;exact absurd he (by show ¬(7:Int)=0;decide)
   | some x=>
    obtain ⟨s,k⟩:=x
    rw [hi] at he hE
    have:((0:Nat):Int)+1+(k:Int)+1=t.length:=by rw [←hE];exact (named_end _ _ _ _ he).2.1.symm
    rw [key 39 (.inr rfl) c2 s k hi (by omega)]
  ·rw [if_neg c2] at he;exact absurd he (by decide)
 ·rw [if_neg a5] at he;exact absurd he (by decide)
theorem skip_more (t R:List UInt8) (h0:0<t.length) (hs:skipN t=0) (he:(tokR t t 0).err=0) (hG:NoGlue t R):skipN (t++R)=0:=by
 have r0:rawAt (t++R) 0=rawAt t 0:=raw_app1 _ _ _ h0
 have n1:t.isEmpty=false:=by cases t with | nil=>simp at h0 | cons=>rfl
 have n2:(t++R).isEmpty=false:=by cases t with | nil=>simp at h0 | cons=>rfl
 rw [skipN_eq,n2,if_neg (by decide),r0]
 rw [skipN_eq,n1,if_neg (by decide)] at hs
 by_cases a1:cls (rawAt t 0)=1
 ·rw [if_pos a1] at hs;omega
 rw [if_neg a1] at hs ⊢
 by_cases a2:rawAt t 0=37
 ·rw [if_pos a2] at hs
  have:=span_pos notNl t h0 (by rw [a2];rfl)
  omega
 rw [if_neg a2] at hs ⊢
 by_cases a3:rawAt t 0=47∧rawAt (t++R) 1=42
 ·by_cases hl:1<t.length
  ·have a4:rawAt t 0=47∧rawAt t 1=42:=⟨a3.1,by rw [←raw_app1 t R 1 hl];exact a3.2⟩
   unfold tokR at he
   rw [if_pos a4] at he;exact absurd he (by decide)
  ·have hl1:t.length=1:=by omega
   have h2:=raw_app2 t R
   rw [hl1] at h2
   have h3:=hG.s
   rw [hl1,a3.1,←h2,a3.2] at h3
   exact absurd (h3 (by decide +kernel)) (by decide +kernel)
 ·rw [if_neg a3]
structure TokText (t:List UInt8):Prop where
 pos:0<t.length
 skip:skipN t=0
 err:(tokR t t 0).err=0
 kind:¬(tokR t t 0).kind=7
 fin:(tokR t t 0).end_=t.length
theorem glue_parts (t u:List UInt8) (ht:0<t.length) (hu:0<u.length) (h:glueN t u=false) (R:List UInt8) (hR:rawAt R 0=rawAt u 0):NoGlue t R:=by
 have e1:t.isEmpty=false:=by cases t with | nil=>simp at ht | cons=>rfl
 have e2:u.isEmpty=false:=by cases u with | nil=>simp at hu | cons=>rfl
 unfold glueN at h
 rw [e1,e2] at h
 simp only [Bool.not_false,Bool.true_and,Bool.or_eq_false_iff,Bool.and_eq_false_iff] at h
 obtain ⟨h1,h2,h3,h4⟩:=h
 refine ⟨fun x=>?_,fun x=>?_,fun x y=>?_,fun x y=>?_⟩
 ·rw [hR];rcases h1 with h1 | h1
  ·rw [x] at h1;cases h1
  ·exact h1
 ·rw [hR];rcases h2 with h2 | h2
  ·rw [x] at h2;cases h2
  ·exact h2
 ·rw [hR] at y
  rcases h3 with h3 | h3
  ·rw [y] at h3;simp at h3
  ·rw [x] at h3;simp at h3
 ·rw [hR] at y
  rcases h4 with h4 | h4
  ·rw [x] at h4;simp at h4
  ·rw [y] at h4;simp at h4
theorem glue_space (t R:List UInt8) (hR:rawAt R 0=32):NoGlue t R where
 a:=fun _=>by rw [hR];decide +kernel
 s:=fun _=>by rw [hR];decide +kernel
 q:=fun h e=>by rw [e,hR] at h;exact absurd h (by decide +kernel)
 z:=fun _=>by rw [hR];decide
theorem skip_32 (x:List UInt8):skipN (32::x)=1+skipN x:=by
 rw [skipN_eq,rawAt_cons]
 simp only [List.isEmpty_cons,Bool.false_eq_true,if_false]
 rw [if_pos (by decide +kernel)];rfl
theorem shL_ok0 (n:Int) (r:LexR) (h:r.err=0):shL n r=⟨r.kind,r.text,r.n,r.at_+n,r.end_+n,0⟩:=by unfold shL;rw [if_pos h]
theorem next_sep (pre sep t R:List UInt8) (hs:sep=[]∨sep=[32]) (hT:TokText t) (hG:NoGlue t R) :
  nextR (pre++(sep++(t++R))) (pre++(sep++(t++R))) pre.length=⟨shL ((pre.length+sep.length:Nat):Int) (tokR t t 0),decide (0<sep.length),0⟩:=by
 have h1:=skip_more t R hT.pos hT.skip hT.err hG
 have h2:=tok_more t R hT.pos hT.err hT.kind hT.fin hG
 have h3:skipN ((pre++(sep++(t++R))).drop pre.length)=sep.length:=by
  rw [List.drop_left]
  rcases hs with rfl|rfl
  ·exact h1
  ·show skipN (32::(t++R))=1
   rw [skip_32,h1]
 have h4:tokR (pre++(sep++(t++R))) (pre++(sep++(t++R))) (pre.length+sep.length)=shL ((pre.length+sep.length:Nat):Int) (tokR t t 0):=by
  have:=tok_app (pre++sep) (t++R) 0
  rw [h2,List.length_append,Nat.add_zero,List.append_assoc] at this
  exact this
 have h5:(shL ((pre.length+sep.length:Nat):Int) (tokR t t 0)).err=0:=by rw [shL_ok0 _ _ hT.err]
 have hp:=hT.pos
 unfold nextR
 simp only [h3]
 rw [h4,if_neg (by simp only [List.length_append];omega),if_pos h5]
 congr 1
 rw [decide_eq_decide];omega
abbrev CI:=Bool×List UInt8
def spB (s:Bool):List UInt8:=if s=true then [32] else []
theorem spB_cases (s:Bool):spB s=[]∨spB s=[32]:=by cases s <;> simp [spB]
def ctext:List CI→List UInt8
 | []=>[]
 | x::l=>spB x.1++(x.2++ctext l)
def ctoks:Nat→List CI→List NextR
 | _,[]=>[]
 | a,x::l=>⟨shL ((a+(spB x.1).length:Nat):Int) (tokR x.2 x.2 0),x.1,0⟩::ctoks (a+(spB x.1).length+x.2.length) l
def cend (a:Nat) (s:Bool):NextR:=⟨⟨7,[46],0,(a+(spB s).length:Nat),(a+(spB s).length:Nat)+1,0⟩,s,0⟩
def Chn:List CI→Bool→Prop
 | [],_=>True
 | [x],s=>s=false→glueN x.2 [46]=false
 | x::y::l,s=>(y.1=false→glueN x.2 y.2=false)∧Chn (y::l) s
theorem Chn.tl {x:CI} {l:List CI} {s:Bool} (h:Chn (x::l) s):Chn l s:=by
 cases l with
 | nil=>trivial
 | cons y l=>exact h.2
structure DotOk (R:List UInt8):Prop where
 tok:tokR (46::R) (46::R) 0=⟨7,[46],0,0,1,0⟩
 skip:skipN (46::R)=0
theorem dotOk_nil:DotOk []:=⟨rfl,by decide +kernel⟩
theorem chn_rest {R:List UInt8} {x:CI}:∀{l:List CI} {s:Bool},(∀y∈x::l,TokText y.2)→Chn (x::l) s→NoGlue x.2 (ctext l++(spB s++46::R))
 | [],s,hT,h=>by
  cases s
  ·exact glue_parts x.2 [46] (hT x (List.mem_cons_self ..)).pos (by decide) (h rfl) _ rfl
  ·exact glue_space _ _ rfl
 | y::l,s,hT,h=>by
  rcases y with ⟨b,t⟩
  cases b
  ·have ht:=(hT (false,t) (List.mem_cons_of_mem _ (List.mem_cons_self ..))).pos
   refine glue_parts x.2 t (hT x (List.mem_cons_self ..)).pos ht (h.1 rfl) _ ?_
   show rawAt ((t++ctext l)++_) 0=rawAt t 0
   rw [List.append_assoc,raw_app1 _ _ _ ht]
  ·exact glue_space _ _ rfl
theorem next_cend {R:List UInt8} (hR:DotOk R) (pre:List UInt8) (s:Bool):nextR (pre++(spB s++46::R)) (pre++(spB s++46::R)) pre.length=cend pre.length s:=by
 have h3:skipN ((pre++(spB s++46::R)).drop pre.length)=(spB s).length:=by
  rw [List.drop_left]
  cases s
  ·exact hR.skip
  ·show skipN (32::(46::R))=1
   rw [skip_32,hR.skip]
 have h4:tokR (pre++(spB s++46::R)) (pre++(spB s++46::R)) (pre.length+(spB s).length)=⟨7,[46],0,(pre.length+(spB s).length:Nat),(pre.length+(spB s).length:Nat)+1,0⟩:=by
  have:=tok_app (pre++spB s) (46::R) 0
  rw [hR.tok,shL_ok0 _ _ rfl,List.length_append,List.append_assoc,Nat.add_zero] at this
  refine this.trans ?_
  simp;omega
 unfold nextR
 simp only [h3]
 rw [h4,if_neg (by simp only [List.length_append,List.length_cons];omega),if_pos rfl]
 unfold cend
 congr 1
 cases s
 ·simp [spB]
 ·simp [spB]
theorem all_ck {R:List UInt8} (hR:DotOk R):∀(l:List CI) (s:Bool) (pre:List UInt8) (acc:List NextR) (f:Nat),(∀x∈l,TokText x.2)→Chn l s→l.length<f →
  allF f (pre++(ctext l++(spB s++46::R))) (pre++(ctext l++(spB s++46::R))) pre.length acc=⟨acc++(ctoks pre.length l++[cend (pre.length+(ctext l).length) s]),0,0⟩
 | [],s,pre,acc,0,_,_,h=>absurd h (by simp)
 | [],s,pre,acc,f+1,_,_,_=>by
  rw [ctext,List.nil_append,allF_succ,next_cend hR]
  rw [if_neg (by unfold cend;simp),if_neg (by unfold cend;simp),if_pos (show (cend pre.length s).r.kind=7 from rfl)]
  rfl
 | x::l,s,pre,acc,0,_,_,h=>absurd h (by simp)
 | x::l,s,pre,acc,f+1,hT,hC,hf=>by
  have ht:=hT x (List.mem_cons_self ..)
  have hG:=chn_rest (R:=R) hT hC
  have e1:pre++(ctext (x::l)++(spB s++46::R))=pre++(spB x.1++(x.2++(ctext l++(spB s++46::R)))):=by
   rw [ctext];simp only [List.append_assoc]
  have e2:pre++(ctext (x::l)++(spB s++46::R))=(pre++spB x.1++x.2)++(ctext l++(spB s++46::R)):=by
   rw [e1];simp only [List.append_assoc]
  have hn:=next_sep pre (spB x.1) x.2 _ (spB_cases x.1) ht hG
  rw [←e1] at hn
  have hd:decide (0<(spB x.1).length)=x.1:=by cases x.1 <;> simp [spB]
  rw [hd] at hn
  have ho:=shL_ok0 ((pre.length+(spB x.1).length:Nat):Int) (tokR x.2 x.2 0) ht.err
  rw [allF_succ,hn,ho]
  simp only []
  rw [if_neg (by simp),if_neg (by simp),if_neg ht.kind]
  have e3:((tokR x.2 x.2 0).end_+((pre.length+(spB x.1).length:Nat):Int)).toNat=(pre++spB x.1++x.2).length:=by
   rw [ht.fin];simp only [List.length_append];omega
  rw [e3,e2,all_ck hR l s (pre++spB x.1++x.2) _ f (fun u hu=>hT u (List.mem_cons_of_mem _ hu)) hC.tl (by simpa using hf)]
  have e4:(pre++spB x.1++x.2).length=pre.length+(spB x.1).length+x.2.length:=by simp only [List.length_append]
  have e5:pre.length+(spB x.1).length+x.2.length+(ctext l).length=pre.length+(ctext (x::l)).length:=by
   rw [ctext];simp only [List.length_append];omega
  rw [ctoks,ho,e4,e5]
  simp
theorem ctext_pos:∀(l:List CI),(∀x∈l,TokText x.2)→l.length≤(ctext l).length
 | [],_=>by simp [ctext]
 | x::l,h=>by
  have h1:=(h x (List.mem_cons_self ..)).pos
  have h2:=ctext_pos l fun u hu=>h u (List.mem_cons_of_mem _ hu)
  rw [ctext,List.length_append,List.length_append,List.length_cons];omega
theorem allR_ck {R:List UInt8} (hR:DotOk R) (l:List CI) (s:Bool) (hT:∀x∈l,TokText x.2) (hC:Chn l s) :
  allR (ctext l++(spB s++46::R)) (ctext l++(spB s++46::R)) 0=⟨ctoks 0 l++[cend (ctext l).length s],0,0⟩:=by
 have h1:=ctext_pos l hT
 have:=all_ck hR l s [] [] ((ctext l++(spB s++46::R)).length+1) hT hC (by rw [List.length_append];simp;omega)
 simp only [List.nil_append,List.length_nil,Nat.zero_add] at this
 exact this
end Hb
namespace Hb
open Go
theorem dg_fin:∀d:Nat,d<10→(UInt8.ofNat (48+d)).toNat=48+d∧isDig 10 ((UInt8.ofNat (48+d)).toNat:Int)=true∧(digV ((UInt8.ofNat (48+d)).toNat:Int) 10).toNat=d:=by decide +kernel
def isDec (b:UInt8):Prop:=48≤b.toNat∧b.toNat≤57∧isDig 10 (b.toNat:Int)=true
theorem dec_ok (u:Nat):natOf 10 (Lib.decDigits u)=u∧(∀b∈Lib.decDigits u,isDec b)∧0<(Lib.decDigits u).length:=by
 induction u using Nat.strongRecOn with
 | _ u ih=>
  rw [Lib.decDigits]
  by_cases h:u<10
  ·obtain ⟨h1,h2,h3⟩:=dg_fin u h
   rw [dif_pos h]
   refine ⟨?_,?_,by simp⟩
   ·rw [←List.nil_append [UInt8.ofNat (48+u)],natOf_snoc,h3];simp [natOf]
   ·intro b hb
    rw [List.mem_singleton] at hb;subst hb
    exact ⟨by omega,by omega,h2⟩
  ·obtain ⟨h1,h2,h3⟩:=dg_fin (u % 10) (Nat.mod_lt _ (by decide))
   obtain ⟨i1,i2,i3⟩:=ih (u / 10) (by omega)
   rw [dif_neg h]
   refine ⟨?_,?_,by simp⟩
   ·rw [natOf_snoc,h3,i1]
    show u / 10 * 10+u % 10=u
    omega
   ·intro b hb
    rcases List.mem_append.1 hb with hb | hb
    ·exact i2 b hb
    ·rw [List.mem_singleton] at hb;subst hb
     exact ⟨by omega,by omega,h2⟩
theorem span_dec (q:Int→Bool) (rest:List UInt8) (hr:q (rawAt rest 0)=false):∀ds:List UInt8,(∀b∈ds,q (b.toNat:Int)=true)→span q (ds++rest)=ds.length
 | [],_=>by
  match rest,hr with
  | [],_=>rfl
  | b::l,hr=>
   rw [rawAt_cons] at hr
   rw [List.nil_append,span,hr];rfl
 | b::ds,h=>by
  rw [List.cons_append,span,if_pos (h b (List.mem_cons_self ..)),span_dec q rest hr ds fun x hx=>h x (List.mem_cons_of_mem _ hx)]
  rfl
theorem raw_here {T X:List UInt8} {p:Nat} (D:T.drop p=X) (j:Nat):rawAt T (p+j)=rawAt X j:=by rw [←D,rawAt_drop]
theorem cls_dec0:∀n:Nat,n<58→48≤n→cls (n:Int)=4:=by decide +kernel
def NoDec (rest:List UInt8):Prop:=isDig 10 (rawAt rest 0)=false∧¬rawAt rest 0=39∧¬rawAt rest 0=120∧¬rawAt rest 0=111∧¬rawAt rest 0=98
theorem noDec_nil:NoDec []:=by
 have h:rawAt [] 0=-1:=rawAt_out _ _ (by simp)
 unfold NoDec
 rw [h]
 exact ⟨isDig_end 10,by decide,by decide,by decide,by decide⟩
theorem tok_dec {T ds rest:List UInt8} {p:Nat} (D:T.drop p=ds++rest) (h0:0<ds.length) (hd:∀b∈ds,isDec b) (hr:NoDec rest):tokR T T p=intR 10 ds p (p+ds.length)∧cls (rawAt T p)=4:=by
 obtain ⟨b,ds',rfl⟩:∃b ds',ds=b::ds':=by cases ds with
  | nil=>simp at h0
  | cons b ds'=>exact ⟨b,ds',rfl⟩
 have hb:=hd b (List.mem_cons_self ..)
 have r0:rawAt T p=(b.toNat:Int):=by
  have:=raw_here D 0
  rw [List.cons_append,rawAt_cons] at this
  exact this
 have r1:rawAt T (p+1)=rawAt (ds'++rest) 0:=by
  rw [raw_here D 1,List.cons_append,rawAt_succ]
 have n1:¬rawAt T (p+1)=39∧¬rawAt T (p+1)=120∧¬rawAt T (p+1)=111∧¬rawAt T (p+1)=98:=by
  rw [r1]
  cases ds' with
  | nil=>rw [List.nil_append];exact hr.2
  | cons x l=>
   have hx:=hd x (List.mem_cons_of_mem _ (List.mem_cons_self ..))
   rw [List.cons_append,rawAt_cons]
   unfold isDec at hx
   refine ⟨?_,?_,?_,?_⟩ <;> omega
 have hb':=hb
 unfold isDec at hb'
 have hc:cls (b.toNat:Int)=4:=cls_dec0 _ (by omega) (by omega)
 have hB:numBase T p=0:=by
  unfold numBase
  split
  ·rw [if_neg n1.2.1,if_neg n1.2.2.1,if_neg n1.2.2.2]
  ·rfl
 have hs:span (isDig 10) (T.drop p)=(b::ds').length:=by rw [D];exact span_dec _ _ hr.1 _ fun x hx=>(hd x hx).2.2
 refine ⟨?_,by rw [r0];exact hc⟩
 unfold tokR
 rw [r0,if_neg (fun h=>by omega),hc,if_neg (by decide),if_pos rfl]
 unfold numR
 rw [if_neg (fun h=>n1.1 h.2),hB,if_neg (fun h=>absurd h.1 (by decide)),hs,D,List.take_left]
theorem skip_noX {X:List UInt8} (h1:¬cls (rawAt X 0)=1) (h2:¬rawAt X 0=37) (h3:¬rawAt X 0=47):skipN X=0:=by
 rw [skipN_eq]
 by_cases hE:X.isEmpty=true
 ·rw [if_pos hE]
 ·rw [if_neg hE,if_neg h1,if_neg h2,if_neg (fun h=>h3 h.1)]
theorem intR_10 (ds:List UInt8) (u:Nat) (p e:Int) (h:natOf 10 ds=u) (hu:u≤9223372036854775808):Hb.intR 10 ds p e=⟨4,[],if u=9223372036854775808 then -9223372036854775808 else u,p,e,0⟩:=by
 unfold Hb.intR
 rw [h,if_pos hu]
theorem dec_text (u:Nat) (hu:u≤9223372036854775808):TokText (Lib.decDigits u)∧tokR (Lib.decDigits u) (Lib.decDigits u) 0=⟨4,[],if u=9223372036854775808 then -9223372036854775808 else u,0,(Lib.decDigits u).length,0⟩:=by
 obtain ⟨h1,h2,h3⟩:=dec_ok u
 obtain ⟨h4,h5⟩:=tok_dec (T:=Lib.decDigits u) (ds:=Lib.decDigits u) (rest:=[]) (p:=0) (by simp) h3 h2 noDec_nil
 have h6:tokR (Lib.decDigits u) (Lib.decDigits u) 0=⟨4,[],if u=9223372036854775808 then -9223372036854775808 else u,0,(Lib.decDigits u).length,0⟩:=by
  rw [h4,intR_10 _ u _ _ h1 hu];simp
 have hd:∃b l,Lib.decDigits u=b::l∧isDec b:=by
  cases hD:Lib.decDigits u with
  | nil=>rw [hD] at h3;simp at h3
  | cons b l=>exact ⟨b,l,rfl,h2 b (by rw [hD];exact List.mem_cons_self ..)⟩
 obtain ⟨b,l,hD,hb⟩:=hd
 have r0:rawAt (Lib.decDigits u) 0=(b.toNat:Int):=by rw [hD,rawAt_cons]
 unfold isDec at hb
 refine ⟨⟨h3,skip_noX ?_ ?_ ?_,by rw [h6],by rw [h6];show ¬(4:Int)=7;decide,by rw [h6]⟩,h6⟩
 ·rw [h5];decide
 ·rw [r0];omega
 ·rw [r0];omega
theorem dec_last (u:Nat):∃c:Nat,rawAt (Lib.decDigits u) ((Lib.decDigits u).length-1)=(c:Int)∧48≤c∧c≤57:=by
 obtain ⟨_,h2,h3⟩:=dec_ok u
 have hl:(Lib.decDigits u).length-1<(Lib.decDigits u).length:=by omega
 have hb:=h2 _ (List.getElem_mem hl)
 unfold isDec at hb
 refine ⟨((Lib.decDigits u)[(Lib.decDigits u).length-1]).toNat,?_,hb.1,hb.2.1⟩
 rw [rawAt_in _ _ hl,bAt,List.getD_eq_getElem?_getD,List.getElem?_eq_getElem hl]
 rfl
theorem dec_first (u:Nat):∃c:Nat,rawAt (Lib.decDigits u) 0=(c:Int)∧48≤c∧c≤57:=by
 obtain ⟨_,h2,h3⟩:=dec_ok u
 have hb:=h2 _ (List.getElem_mem h3)
 unfold isDec at hb
 refine ⟨((Lib.decDigits u)[0]).toNat,?_,hb.1,hb.2.1⟩
 rw [rawAt_in _ _ h3,bAt,List.getD_eq_getElem?_getD,List.getElem?_eq_getElem h3]
 rfl
theorem dig_facts:∀c:Nat,c<58→48≤c→isSym (c:Int)=false∧¬cls (c:Int)=7∧¬(c:Int)=39:=by decide +kernel
theorem glue_dec (u:Nat) (x:List UInt8) (h1:alnum (rawAt x 0)=false) (h2:¬rawAt x 0=39):glueN (Lib.decDigits u) x=false:=by
 obtain ⟨c,hc,c1,c2⟩:=dec_last u
 obtain ⟨f1,f2,f3⟩:=dig_facts c (by omega) c1
 unfold glueN
 rw [hc,h1,f1]
 have e1:(cls (c:Int)==7)=false:=by simpa using f2
 have e2:(rawAt x 0==39)=false:=by simpa using h2
 rw [e1,e2]
 simp
theorem glue_to_dec (u:Nat) (x:List UInt8) (h1:alnum (rawAt x (x.length-1))=false) (h2:¬cls (rawAt x (x.length-1))=7):glueN x (Lib.decDigits u)=false:=by
 obtain ⟨c,hc,c1,c2⟩:=dec_first u
 obtain ⟨f1,f2,f3⟩:=dig_facts c (by omega) c1
 unfold glueN
 rw [hc,h1,f1]
 have e1:(cls (rawAt x (x.length-1))==7)=false:=by simpa using h2
 have e2:((c:Int)==39)=false:=by simpa using f3
 rw [e1,e2]
 simp
end Hb
namespace Hb
open Go Go.RowKit
inductive Tm where
 | mk (kind num:Int) (name:ByteArray) (args:List Tm)
def Tm.kind:Tm→Int | .mk k _ _ _=>k
def Tm.num:Tm→Int | .mk _ n _ _=>n
def Tm.name:Tm→ByteArray | .mk _ _ s _=>s
def Tm.args:Tm→List Tm | .mk _ _ _ l=>l
theorem Tm.ind {P:Tm→Prop} (h:∀t:Tm,(∀a∈t.args,P a)→P t):∀t,P t :=
 Tm.rec (motive_1:=P) (motive_2:=fun l=>∀a∈l,P a) (fun k n s l ih=>h (.mk k n s l) ih) (fun a ha=>by cases ha) (fun a l h1 h2 b hb=>by
  rcases List.mem_cons.1 hb with rfl | hb
  ·exact h1
  ·exact h2 b hb)
inductive TmsK (K:Nat→Prop) (w:World):Option Addr→List Tm→Prop
 | mk (A:Option Addr) (l:List Tm) (F:Nat→Option Addr) (C:Nat→Nat) (hl:l.length≤maxLen)
  (hc:∀j (hj:j<l.length),∃b off,A=some ⟨b,off,none⟩∧K b∧w.cell? ⟨b,off+j * 4,none⟩=some (.int .i64 l[j].kind)∧w.cell? ⟨b,off+j * 4+1,none⟩=some (.int .i64 l[j].num)∧w.cell? ⟨b,off+j * 4+2,none⟩=some (.string l[j].name)∧w.cell? ⟨b,off+j * 4+3,none⟩=some (.slice (F j) l[j].args.length (C j)))
  (hs:∀j (hj:j<l.length),TmsK K w (F j) l[j].args):TmsK K w A l
theorem TmsK.len {K:Nat→Prop} {w:World} {A:Option Addr} {l:List Tm} (h:TmsK K w A l):l.length≤maxLen:=by cases h;assumption
theorem TmsK.get {K:Nat→Prop} {w:World} {A:Option Addr} {l:List Tm} (h:TmsK K w A l) (j:Nat) (hj:j<l.length) :
  ∃b off A' cap',A=some ⟨b,off,none⟩∧K b∧w.cell? ⟨b,off+j * 4,none⟩=some (.int .i64 l[j].kind)∧w.cell? ⟨b,off+j * 4+1,none⟩=some (.int .i64 l[j].num)∧w.cell? ⟨b,off+j * 4+2,none⟩=some (.string l[j].name)∧w.cell? ⟨b,off+j * 4+3,none⟩=some (.slice A' l[j].args.length cap')∧TmsK K w A' l[j].args:=by
 cases h with
 | mk A l F C hl hc hs=>
  obtain ⟨b,off,e,hb,c0,c1,c2,c3⟩:=hc j hj
  exact ⟨b,off,F j,C j,e,hb,c0,c1,c2,c3,hs j hj⟩
theorem TmsK.keep {K K':Nat→Prop} {w w':World} {A:Option Addr} {l:List Tm} (h:TmsK K w A l) (hB:∀b,K b→w'.heap[b]? = w.heap[b]?) (hK:∀b,K b→K' b):TmsK K' w' A l:=by
 induction h with
 | mk A l F C hl hc _ ih=>
  refine .mk A l F C hl (fun j hj=>?_) ih
  obtain ⟨b,off,e,hb,c0,c1,c2,c3⟩:=hc j hj
  have hw:∀o,w'.cell? ⟨b,o,none⟩=w.cell? ⟨b,o,none⟩:=fun o=>World.cell?_of_block (hB b hb)
  exact ⟨b,off,e,hK b hb,(hw _).trans c0,(hw _).trans c1,(hw _).trans c2,(hw _).trans c3⟩
theorem TmsK.nil {K:Nat→Prop} {w:World} {A:Option Addr}:TmsK K w A []:=.mk A [] (fun _=>.none) (fun _=>0) (by decide) (fun j hj=>absurd hj (by simp)) (fun j hj=>absurd hj (by simp))
def TmsAt (B:Nat) (w:World) (A:Option Addr) (l:List Tm):Prop:=TmsK (fun b=>b<B) w A l
theorem TmsAt.len {B:Nat} {w:World} {A:Option Addr} {l:List Tm} (h:TmsAt B w A l):l.length≤maxLen:=TmsK.len h
theorem TmsAt.get {B:Nat} {w:World} {A:Option Addr} {l:List Tm} (h:TmsAt B w A l) (j:Nat) (hj:j<l.length) :
  ∃b off A' cap',A=some ⟨b,off,none⟩∧b<B∧w.cell? ⟨b,off+j * 4,none⟩=some (.int .i64 l[j].kind)∧w.cell? ⟨b,off+j * 4+1,none⟩=some (.int .i64 l[j].num)∧w.cell? ⟨b,off+j * 4+2,none⟩=some (.string l[j].name)∧w.cell? ⟨b,off+j * 4+3,none⟩=some (.slice A' l[j].args.length cap')∧TmsAt B w A' l[j].args:=TmsK.get h j hj
theorem TmsAt.keep {B:Nat} {w w':World} {A:Option Addr} {l:List Tm} (h:TmsAt B w A l) (hB:Below B w w'):TmsAt B w' A l:=TmsK.keep h (fun b hb=>hB.block b hb) (fun _ h=>h)
theorem TmsAt.mono {B B':Nat} {w:World} {A:Option Addr} {l:List Tm} (h:TmsAt B w A l) (hB:B≤B'):TmsAt B' w A l:=TmsK.keep h (fun _ _=>rfl) (fun _ h=>Nat.lt_of_lt_of_le h hB)
theorem TmsK.at {K:Nat→Prop} {w:World} {A:Option Addr} {l:List Tm} (h:TmsK K w A l) (hK:∀b,K b→b<w.heap.size):TmsAt w.heap.size w A l:=TmsK.keep h (fun _ _=>rfl) hK
def tmV (t:Tm) (A:Option Addr) (cap:Nat):Value:=.agg #[.int .i64 t.kind,.int .i64 t.num,.string t.name,.slice A t.args.length cap]
def Tm.nodes:Tm→Nat
 | .mk _ _ _ l=>1+(l.attach.map fun ⟨a,_⟩=>a.nodes).sum
theorem Tm.nodes_eq (t:Tm):t.nodes=1+(t.args.map Tm.nodes).sum:=by
 cases t with
 | mk k n s l=>unfold Tm.nodes Tm.args;simp
def nodeOk (t:Tm):Bool :=
 if t.kind=0 then decide (0≤t.num)&&decide (t.num≤1099511627776)&&t.name.toList==[]&&t.args.length==0
 else if t.kind=1 then t.name.toList==[]&&t.args.length==0
 else if t.kind=2 then t.num==0&&decide (t.name.size≤100)&&t.args.length==0
 else if t.kind=3 then t.num==0&&decide (t.name.size≤100)&&decide (0<t.args.length)&&decide (t.args.length≤8)
 else false
def Tm.allOk:Tm→Bool
 | .mk k n s l=>nodeOk (.mk k n s l)&&l.attach.all fun ⟨a,_⟩=>a.allOk
theorem Tm.allOk_eq (t:Tm):t.allOk=(nodeOk t&&t.args.all Tm.allOk):=by
 cases t with
 | mk k n s l=> 
  have h:l.attach.all (fun x=>x.1.allOk)=(l.attach.map Subtype.val).all Tm.allOk:=by rw [List.all_map];rfl
  rw [List.attach_map_subtype_val] at h
  unfold Tm.allOk
  show (_&&l.attach.all fun x=>x.1.allOk)=(nodeOk _&&l.all Tm.allOk)
  rw [h]
def validT (t:Tm):Bool:=decide (t.nodes≤2000)&&t.allOk
structure Only (g:Nat) (w w':World):Prop where
 os:w'.os=w.os
 tape:w'.tape=w.tape
 output:w'.output=w.output
 size:w.heap.size≤w'.heap.size
 block:∀k,k<w.heap.size→k≠g→w'.heap[k]? = w.heap[k]?
theorem Only.refl (g:Nat) (w:World):Only g w w:=⟨rfl,rfl,rfl,Nat.le_refl _,fun _ _ _=>rfl⟩
theorem Only.trans {g:Nat} {a b c:World} (h:Only g a b) (k:Only g b c):Only g a c :=
 ⟨k.os.trans h.os,k.tape.trans h.tape,k.output.trans h.output,Nat.le_trans h.size k.size,fun i hi hg=>(k.block i (Nat.lt_of_lt_of_le hi h.size) hg).trans (h.block i hi hg)⟩
theorem Only.of {g:Nat} {a b:World} (h:Below a.heap.size a b):Only g a b:=⟨h.os,h.tape,h.output,h.size,fun k hk _=>h.block k hk⟩
theorem Only.below {g B:Nat} {a b:World} (h:Only g a b) (hB:B≤g) (hs:B≤a.heap.size):Below B a b:=⟨h.os,h.tape,h.output,h.size,fun k hk=>h.block k (by omega) (by omega)⟩
theorem Only.cell {g:Nat} {a b:World} (h:Only g a b) {p:Addr} (hp:p.block<a.heap.size) (hg:p.block≠g):b.cell? p=a.cell? p:=World.cell?_of_block (h.block _ hp hg)
theorem Only.set (g o:Nat) (w:World) (v:Value):Only g w (w.setCell ⟨g,o,none⟩ v):=⟨rfl,rfl,rfl,by simp,fun k _ hk=>heap_setCell_other w ⟨g,o,none⟩ k v (fun e=>hk (by simp [e]))⟩
theorem Only.alloc (g:Nat) (w:World) (o:Obj):Only g w (w.alloc o):=.of ((Below.refl _ _).alloc (Nat.le_refl _) o)
theorem tl_loopO (s:ByteArray):∀(d i:Nat) (r:List UInt8),s.size-i=d→ByteArray.toList.loop s i r=r.reverse++s.data.toList.drop i
 | 0,i,r,h=>by
  unfold ByteArray.toList.loop
  rw [if_neg (by omega),List.drop_of_length_le (by simp;omega)];simp
 | d+1,i,r,h=>by
  have hi:i<s.size:=by omega
  have hi':i<s.data.toList.length:=by simpa using hi
  unfold ByteArray.toList.loop
  rw [if_pos hi,tl_loopO s d (i+1) _ (by omega),List.drop_eq_getElem_cons hi']
  simp [ByteArray.get!,hi]
  first | rfl | (have:s.data[i]! = s.data[i]:=getElem!_pos s.data i hi;simp [this]) | skip
theorem tl_dataO (s:ByteArray):s.toList=s.data.toList:=by
 unfold ByteArray.toList
 rw [tl_loopO s _ 0 [] rfl];simp
structure OpR where
 name:ByteArray
 typ:Int
 prec:Int
deriving Inhabited,DecidableEq
def opCells (o:OpR):List Value:=[.string o.name,.int .i64 o.typ,.int .i64 o.prec]
def opV (o:OpR):Value:=.agg #[.string o.name,.int .i64 o.typ,.int .i64 o.prec]
def clsOp (t:Int):Int:=if t<1 then 0 else if t≤3 then 2 else if t≤5 then 1 else if t≤7 then 3 else 0
def cmpS (a b:ByteArray):Int:=if Op.bytesLess a.toList b.toList=true then -1 else if (!a.toList==b.toList)=true then 1 else 0
def cmpN (a b:Int):Int:=if a<b then -1 else if b<a then 1 else 0
def orI (a b:Int):Int:=if a=0 then b else a
def cmpOp (a b:OpR):Int:=orI (cmpS a.name b.name) (cmpN (clsOp a.typ) (clsOp b.typ))
def isN (o:OpR) (l:List UInt8):Bool:=o.name.toList==l
def opOk (o:OpR):Bool :=
 if decide (100<(o.name.size:Int))||(clsOp o.typ==0||(decide (o.prec<1)||decide (1200<o.prec))) then false
 else if isN o [91,93]||isN o [123,125] then false
 else if isN o [44] then o.typ==2&&o.prec==1000
 else if isN o [124] then clsOp o.typ==2&&decide (1001≤o.prec)
 else true
def opLt (a b:OpR):Bool:=decide (cmpOp a b<0) && !(a.name.toList==b.name.toList&&clsOp a.typ==2)
def okJ (l:List OpR) (j:Nat):Bool:=opOk (l.getD j default)&&(j==0||opLt (l.getD (j-1) default) (l.getD j default))
def opsValid (l:List OpR):Bool:=decide (l.length≤100)&&(List.range l.length).all (okJ l)
theorem opsValid_no (l:List OpR) (k:Nat) (hk:k<l.length) (h:okJ l k=false):opsValid l=false:=by
 unfold opsValid
 rw [Bool.and_eq_false_iff]
 refine .inr ?_
 rw [List.all_eq_false]
 exact ⟨k,List.mem_range.2 hk,by simp [h]⟩
theorem opsValid_long (l:List OpR) (h:100<l.length):opsValid l=false:=by
 unfold opsValid
 rw [Bool.and_eq_false_iff]
 exact .inl (by simpa using h)
theorem opsValid_yes (l:List OpR) (hn:l.length≤100) (h:∀j,j<l.length→okJ l j=true):opsValid l=true:=by
 unfold opsValid
 rw [Bool.and_eq_true,List.all_eq_true]
 exact ⟨by simpa using hn,fun j hj=>h j (List.mem_range.1 hj)⟩
theorem opsValid_at (l:List OpR) (h:opsValid l=true):l.length≤100∧∀j,j<l.length→okJ l j=true:=by
 unfold opsValid at h
 rw [Bool.and_eq_true,List.all_eq_true] at h
 exact ⟨by simpa using h.1,fun j hj=>h.2 j (List.mem_range.2 hj)⟩
theorem getD_at (l:List OpR) (j:Nat) (h:j<l.length):l.getD j default=l[j]:=by rw [List.getD_eq_getElem?_getD,List.getElem?_eq_getElem h];rfl
def befOp (a b:OpR):Bool:=if (a.name.toList==b.name.toList)=true then decide (clsOp a.typ<clsOp b.typ) else Op.bytesLess a.name.toList b.name.toList
theorem cmpN_neg (a b:Int):cmpN a b<0↔a<b:=by unfold cmpN;grind
theorem bytesLess_irrefl:∀(l:List UInt8),Op.bytesLess l l=false:=by
 intro l
 rw [Go.Proofs.bytesLess_eq]
 simp
theorem befOp_cmp (a b:OpR):befOp a b=decide (cmpOp a b<0):=by
 unfold befOp cmpOp orI cmpS
 by_cases h:a.name.toList=b.name.toList
 ·rw [h,bytesLess_irrefl]
  simp [cmpN_neg]
 ·have h2:(a.name.toList==b.name.toList)=false:=by simpa using h
  rw [h2]
  cases h3:Op.bytesLess a.name.toList b.name.toList <;> simp
end Hb
namespace Hb
theorem cls_at (t:Int):(t<1∧clsOp t=0)∨(8≤t∧clsOp t=0)∨(t=1∧clsOp t=2)∨(t=2∧clsOp t=2)∨(t=3∧clsOp t=2)∨(t=4∧clsOp t=1)∨(t=5∧clsOp t=1)∨(t=6∧clsOp t=3)∨(t=7∧clsOp t=3):=by
 unfold clsOp
 grind
end Hb
namespace Go.Proofs.YtbojljpldcijgaaGreatDoor
open Go.RowKit Hb
set_option maxRecDepth 100000
theorem nan_str (a:ByteArray) (w:World):Calls Tryz.prog 107 #[.string a] w fun e w'=>e=.returned (.bool false)∧w'=w:=by
 go_enter Tryz.func107,Tryz.ntmps107
 go_wp2_with fail
 go_ret
 exact ⟨rfl,rfl⟩
theorem nan_int (a:Int) (w:World):Calls Tryz.prog 108 #[.int .i64 a] w fun e w'=>e=.returned (.bool false)∧w'=w:=by
 go_enter Tryz.func108,Tryz.ntmps108
 go_wp2_with fail
 go_ret
 exact ⟨rfl,rfl⟩
theorem cmp_str (a b:ByteArray) (w:World):Calls Tryz.prog 72 #[.string a,.string b] w fun e w'=>e=.returned (.int .i64 (cmpS a b))∧w'=w:=by
 go_enter Tryz.func72,Tryz.ntmps72
 go_wp2_with (first | (go_at_call 107;first | ((with_reducible refine (nan_str a _).mono ?_);rintro e w1 ⟨rfl,rfl⟩) | ((with_reducible refine (nan_str b _).mono ?_);rintro e w1 ⟨rfl,rfl⟩)))
 all_goals go_ret
 all_goals refine ⟨ret_int ?_,rfl⟩
 all_goals unfold cmpS
 all_goals simp_all
theorem cmp_int (a b:Int) (w:World):Calls Tryz.prog 73 #[.int .i64 a,.int .i64 b] w fun e w'=>e=.returned (.int .i64 (cmpN a b))∧w'=w:=by
 go_enter Tryz.func73,Tryz.ntmps73
 go_wp2_with (first | (go_at_call 108;first | ((with_reducible refine (nan_int a _).mono ?_);rintro e w1 ⟨rfl,rfl⟩) | ((with_reducible refine (nan_int b _).mono ?_);rintro e w1 ⟨rfl,rfl⟩)))
 all_goals go_ret
 all_goals refine ⟨ret_int ?_,rfl⟩
 all_goals unfold cmpN
 all_goals grind
theorem op_class_up (t:Int) (w:World):Calls Tryz.prog 53 #[.int .i64 t] w fun e w'=>e=.returned (.int .i64 (clsOp t))∧Below w.heap.size w w'∧w.drawn≤w'.drawn:=by
 rcases cls_at t with ⟨h,e⟩ | ⟨h,e⟩ | ⟨rfl,e⟩ | ⟨rfl,e⟩ | ⟨rfl,e⟩ | ⟨rfl,e⟩ | ⟨rfl,e⟩ | ⟨rfl,e⟩ | ⟨rfl,e⟩
 all_goals rw [e]
 all_goals clear e
 all_goals go_enter Tryz.func53,Tryz.ntmps53
 all_goals go_wp2_with fail
 all_goals go_ret
 all_goals exact ⟨rfl,(Below.refl _ _).alloc (Nat.le_refl _) _,Nat.le_refl _⟩
theorem op_class (t:Int) (w:World):Calls Tryz.prog 53 #[.int .i64 t] w fun e w'=>e=.returned (.int .i64 (clsOp t))∧Below w.heap.size w w' :=
 (op_class_up t w).mono fun _ _ ⟨he,hb,_⟩=>⟨he,hb⟩
theorem cmp_or (a b:Int) (w:World) (W:World) (e:TypeId) (hW:W=w.alloc (.cells #[.int .i64 a,.int .i64 b] e)):Calls Tryz.prog 71 #[.slice (some ⟨w.heap.size,0,none⟩) 2 2] W fun e w'=>e=.returned (.int .i64 (orI a b))∧w'=W:=by
 have c0:W.cell? ⟨w.heap.size,0,none⟩=some (.int .i64 a):=by rw [hW];exact World.cell?_alloc_new _ _ _ 0
 have c1:W.cell? ⟨w.heap.size,1,none⟩=some (.int .i64 b):=by rw [hW];exact World.cell?_alloc_new _ _ _ 1
 clear hW
 by_cases d0:a=0
 ·subst d0
  by_cases d1:b=0
  ·subst d1
   go_enter Tryz.func71,Tryz.ntmps71
   go_wp2_with fail
   refine wp_loop_rounds 3 ?_
   rw [rounds_succ]
   go_wp2_with fail
   rw [rounds_succ]
   go_wp2_with fail
   rw [rounds_succ]
   go_wp2_with fail
   go_ret
   exact ⟨ret_int rfl,rfl⟩
  ·have b1:(b==0)=false:=by simpa using d1
   have e1:orI 0 b=b:=rfl
   go_enter Tryz.func71,Tryz.ntmps71
   go_wp2_with fail
   refine wp_loop_rounds 2 ?_
   rw [rounds_succ]
   go_wp2_with fail
   rw [rounds_succ]
   go_wp2_with fail
   go_ret
   exact ⟨ret_int e1.symm,rfl⟩
 ·have b1:(a==0)=false:=by simpa using d0
  have e1:orI a b=a:=if_neg d0
  go_enter Tryz.func71,Tryz.ntmps71
  go_wp2_with fail
  refine wp_loop_rounds 1 ?_
  rw [rounds_succ]
  go_wp2_with fail
  go_ret
  exact ⟨ret_int e1.symm,rfl⟩
end Go.Proofs.YtbojljpldcijgaaGreatDoor
namespace Hb
open Go Go.RowKit
structure CmpHeld (w0 w:World) (a b:OpR):Prop where
 bel:Below w0.heap.size w0 w
 lt:w0.heap.size+1<w.heap.size
 dr:w0.drawn≤w.drawn
 a0:w.cell? ⟨w0.heap.size,0,none⟩=some (.string a.name)
 a1:w.cell? ⟨w0.heap.size,1,none⟩=some (.int .i64 a.typ)
 b0:w.cell? ⟨w0.heap.size+1,0,none⟩=some (.string b.name)
 b1:w.cell? ⟨w0.heap.size+1,1,none⟩=some (.int .i64 b.typ)
section
variable {w0 w w':World} {a b:OpR}
theorem CmpHeld.keep (h:CmpHeld w0 w a b):w.cell? ⟨w0.heap.size,0,none⟩=some (.string a.name)∧w.cell? ⟨w0.heap.size,1,none⟩=some (.int .i64 a.typ)∧w.cell? ⟨w0.heap.size+1,0,none⟩=some (.string b.name)∧w.cell? ⟨w0.heap.size+1,1,none⟩=some (.int .i64 b.typ)∧CmpHeld w0 w a b:=⟨h.a0,h.a1,h.b0,h.b1,h⟩
theorem CmpHeld.of (h:w.cell? ⟨w0.heap.size,0,none⟩=some (.string a.name)∧w.cell? ⟨w0.heap.size,1,none⟩=some (.int .i64 a.typ)∧w.cell? ⟨w0.heap.size+1,0,none⟩=some (.string b.name)∧w.cell? ⟨w0.heap.size+1,1,none⟩=some (.int .i64 b.typ)∧CmpHeld w0 w a b):CmpHeld w0 w a b:=h.2.2.2.2
theorem CmpHeld.call (hB:Below w.heap.size w w') (hD:w.drawn≤w'.drawn) (h:CmpHeld w0 w a b):CmpHeld w0 w' a b where
 bel:=h.bel.trans (hB.mono (by have:=h.lt;omega))
 lt:=Nat.lt_of_lt_of_le h.lt hB.size
 dr:=Nat.le_trans h.dr hD
 a0:=(hB.cell (p:=⟨_,_,none⟩) (by have:=h.lt;show w0.heap.size<_;omega)).trans h.a0
 a1:=(hB.cell (p:=⟨_,_,none⟩) (by have:=h.lt;show w0.heap.size<_;omega)).trans h.a1
 b0:=(hB.cell (p:=⟨_,_,none⟩) h.lt).trans h.b0
 b1:=(hB.cell (p:=⟨_,_,none⟩) h.lt).trans h.b1
theorem CmpHeld.drew (h:CmpHeld w0 w a b):CmpHeld w0 w.drew a b:=h.call (Below.refl w.heap.size w).drew (Nat.le_succ _)
theorem CmpHeld.alloc (h:CmpHeld w0 w a b) (o:Obj):CmpHeld w0 (w.alloc o) a b:=h.call ((Below.refl w.heap.size w).alloc (Nat.le_refl _) o) (Nat.le_refl _)
theorem CmpHeld.start (w:World) (a b:OpR) (e:TypeId):CmpHeld w ((w.alloc (.cells #[.string a.name,.int .i64 a.typ,.int .i64 a.prec] e)).alloc (.cells #[.string b.name,.int .i64 b.typ,.int .i64 b.prec] e)) a b where
 bel:=((Below.refl _ _).alloc (Nat.le_refl _) _).alloc (by simp) _
 lt:=by simp
 dr:=Nat.le_refl _
 a0:=(World.grownBy_alloc _ _ none).cell (World.cell?_alloc_new _ _ _ 0) (by simp)
 a1:=(World.grownBy_alloc _ _ none).cell (World.cell?_alloc_new _ _ _ 1) (by simp)
 b0:=by
  rw [show w.heap.size+1=(w.alloc (.cells #[.string a.name,.int .i64 a.typ,.int .i64 a.prec] e)).heap.size by simp]
  exact World.cell?_alloc_new _ _ _ 0
 b1:=by
  rw [show w.heap.size+1=(w.alloc (.cells #[.string a.name,.int .i64 a.typ,.int .i64 a.prec] e)).heap.size by simp]
  exact World.cell?_alloc_new _ _ _ 1
end
end Hb
namespace Go.Proofs.YtbojljpldcijgaaGreatDoor
open Go.RowKit Hb
set_option maxRecDepth 100000
set_option maxHeartbeats 1600000 in
theorem op_compare_up (a b : OpR) (w : World) : Calls Tryz.prog 46 #[opV a, opV b] w fun e w' => e = .returned (.int .i64 (cmpOp a b)) ∧ Below w.heap.size w w' ∧ w.drawn ≤ w'.drawn := by
 unfold opV
 have HK := zq (show cmpOp a b = orI (cmpS a.name b.name) (cmpN (clsOp a.typ) (clsOp b.typ)) from rfl)
 have H1 := CmpHeld.start w a b 102
 go_enter Tryz.func46, Tryz.ntmps46
 go_wp2_with fail
 go_region_held3 (fun w' => w'.cell? ⟨w.heap.size, 0, none⟩ = some (.string a.name) ∧ w'.cell? ⟨w.heap.size, 1, none⟩ = some (.int .i64 a.typ) ∧ w'.cell? ⟨w.heap.size + 1, 0, none⟩ = some (.string b.name) ∧ w'.cell? ⟨w.heap.size + 1, 1, none⟩ = some (.int .i64 b.typ) ∧ CmpHeld w w' a b)
  (first | with_reducible exact H1.drew.keep | with_reducible exact CmpHeld.keep (CmpHeld.of (by with_reducible assumption)) | with_reducible exact CmpHeld.keep (CmpHeld.call (by with_reducible assumption) (by with_reducible assumption) (CmpHeld.of (by with_reducible assumption))) | with_reducible exact CmpHeld.keep (CmpHeld.alloc (CmpHeld.of (by with_reducible assumption)) _))
  (first
   | (go_at_call 72; (with_reducible refine (cmp_str a.name b.name _).mono ?_); rintro e w2 ⟨rfl, rfl⟩)
   | (go_at_call 53; first | ((with_reducible refine (op_class_up a.typ _).mono ?_); rintro e w2 ⟨rfl, hB2, hD2⟩) | ((with_reducible refine (op_class_up b.typ _).mono ?_); rintro e w2 ⟨rfl, hB2, hD2⟩))
   | (go_at_call 73; (with_reducible refine (cmp_int (clsOp a.typ) (clsOp b.typ) _).mono ?_); rintro e w2 ⟨rfl, rfl⟩)
   | (go_at_call 71; (with_reducible refine (cmp_or (cmpS a.name b.name) (cmpN (clsOp a.typ) (clsOp b.typ)) _ _ _ rfl).mono ?_); rintro e w2 ⟨rfl, rfl⟩))
 all_goals go_wp2_with fail
 all_goals go_ret
 all_goals exact ⟨ret_int HK.out.symm, CmpHeld.bel (CmpHeld.of (by with_reducible assumption)), CmpHeld.dr (CmpHeld.of (by with_reducible assumption))⟩
theorem op_compare (a b:OpR) (w:World):Calls Tryz.prog 46 #[opV a,opV b] w fun e w'=>e=.returned (.int .i64 (cmpOp a b))∧Below w.heap.size w w' :=
 (op_compare_up a b w).mono fun _ _ ⟨he,hb,_⟩=>⟨he,hb⟩
end Go.Proofs.YtbojljpldcijgaaGreatDoor
namespace Hb
open Go Go.RowKit
structure BoxAt (w0 w:World) (o:OpR):Prop where
 bel:Below w0.heap.size w0 w
 lt:w0.heap.size<w.heap.size
 c0:w.cell? ⟨w0.heap.size,0,none⟩=some (.string o.name)
 c1:w.cell? ⟨w0.heap.size,1,none⟩=some (.int .i64 o.typ)
 c2:w.cell? ⟨w0.heap.size,2,none⟩=some (.int .i64 o.prec)
theorem BoxAt.call {w0 w w':World} {o:OpR} (h:BoxAt w0 w o) (hB:Below w.heap.size w w'):BoxAt w0 w' o where
 bel:=h.bel.trans (hB.mono (Nat.le_of_lt h.lt))
 lt:=Nat.lt_of_lt_of_le h.lt hB.size
 c0:=(hB.cell (p:=⟨_,_,none⟩) h.lt).trans h.c0
 c1:=(hB.cell (p:=⟨_,_,none⟩) h.lt).trans h.c1
 c2:=(hB.cell (p:=⟨_,_,none⟩) h.lt).trans h.c2
theorem BoxAt.start (w:World) (o:OpR) (e:TypeId):BoxAt w (w.alloc (.cells #[.string o.name,.int .i64 o.typ,.int .i64 o.prec] e)) o where
 bel:=(Below.refl _ _).alloc (Nat.le_refl _) _
 lt:=by simp
 c0:=World.cell?_alloc_new _ _ _ 0
 c1:=World.cell?_alloc_new _ _ _ 1
 c2:=World.cell?_alloc_new _ _ _ 2
end Hb
namespace Go.Proofs.YtbojljpldcijgaaGreatDoor
open Go.RowKit Hb
set_option maxRecDepth 100000
theorem op_class_box {w0 w:World} {o:OpR} (h:BoxAt w0 w o) (t:Int):Calls Tryz.prog 53 #[.int .i64 t] w fun e w'=>e=.returned (.int .i64 (clsOp t))∧BoxAt w0 w' o :=
 (op_class t w).mono fun _ _ ⟨he,hb⟩=>⟨he,h.call hb⟩
set_option maxHeartbeats 1600000 in
theorem op_valid (o:OpR) (w:World):Calls Tryz.prog 52 #[opV o] w fun e w'=>e=.returned (.bool (opOk o))∧Below w.heap.size w w':=by
 have hX:=BoxAt.start w o 102
 have HK:=zq (show opOk o=_ from rfl)
 unfold opV
 go_enter Tryz.func52,Tryz.ntmps52
 go_wp2_with (first | (go_at_call 53;(with_reducible refine (op_class_box (by with_reducible assumption) o.typ).mono ?_);rintro e w2 ⟨rfl,hX2⟩;have c0:=hX2.c0;have c1:=hX2.c1;have c2:=hX2.c2))
 all_goals go_ret
 all_goals refine ⟨ret_bool ?_,BoxAt.bel (o:=o) (by with_reducible assumption)⟩
 all_goals unfold opOk isN
 all_goals grind
end Go.Proofs.YtbojljpldcijgaaGreatDoor
namespace Hb
open Go Go.RowKit
def OpsAt (w:World) (A:Option Addr) (l:List OpR):Prop :=
 ∀j (h:j<l.length),∃b off,A=some ⟨b,off,none⟩∧b<w.heap.size∧w.cell? ⟨b,off+j * 3,none⟩=some (.string l[j].name)∧w.cell? ⟨b,off+j * 3+1,none⟩=some (.int .i64 l[j].typ)∧w.cell? ⟨b,off+j * 3+2,none⟩=some (.int .i64 l[j].prec)
theorem OpsAt.below {w w':World} {A:Option Addr} {l:List OpR} (h:OpsAt w A l) (hb:Below w.heap.size w w'):OpsAt w' A l:=fun j hj=>by
 obtain ⟨b,off,e,hlt,c0,c1,c2⟩:=h j hj
 exact ⟨b,off,e,Nat.lt_of_lt_of_le hlt hb.size,(hb.cell (p:=⟨b,_,none⟩) hlt).trans c0,(hb.cell (p:=⟨b,_,none⟩) hlt).trans c1,(hb.cell (p:=⟨b,_,none⟩) hlt).trans c2⟩
end Hb
namespace Hb
theorem okJ_1 (l:List OpR) (k:Nat) (hk:k<l.length) (h:opOk l[k]=false):okJ l k=false:=by unfold okJ;rw [getD_at l k hk,h];rfl
theorem okJ_0 (l:List OpR) (k:Nat) (hk:k<l.length) (h0:k=0) (h:opOk l[k]=true):okJ l k=true:=by subst h0;unfold okJ;rw [getD_at l 0 hk,h];rfl
theorem okJ_s (l:List OpR) (k:Nat) (hk:k<l.length) (h0:0<k) (h:opOk l[k]=true):okJ l k=opLt (l[k-1]'(by omega)) l[k]:=by
 unfold okJ;rw [getD_at l k hk,getD_at l (k-1) (by omega),h]
 have:(k==0)=false:=by simp;omega
 rw [this];rfl
end Hb
namespace Go.Proofs.YtbojljpldcijgaaGreatDoor
open Go.RowKit Hb
set_option maxRecDepth 100000
set_option maxHeartbeats 3200000 in
theorem ops_valid (A:Option Addr) (n cap:Nat) (l:List OpR) (w:World) (hn:n=l.length) (hm:n≤400) (hp:OpsAt w A l) :
  Calls Tryz.prog 35 #[.slice A n cap] w fun e w'=>e=.returned (.bool (opsValid l))∧Below w.heap.size w w':=by
 by_cases c1:100<n
 ·have b1:decide ((100:Int)<n)=true:=by simp;omega
  have HV:=zq (opsValid_long l (by omega))
  clear hn hp c1
  go_enter Tryz.func35,Tryz.ntmps35
  go_wp2_with fail
  go_ret
  exact ⟨ret_bool HV.out.symm,Below.refl _ _⟩
 have b1:decide ((100:Int)<n)=false:=by simp;omega
 have h100:n≤100:=by omega
 have HN:=zq hn
 have HP:=zq hp
 clear hn hp c1
 go_enter Tryz.func35,Tryz.ntmps35
 go_wp2_with fail
 go_loopw [11] (fun i wr=>∃k:Nat,k≤n∧i=.int .i64 k∧Below w.heap.size w wr∧Hid (∀j,j<k→okJ l j=true)) (fun i _=>n-(intOf i).toNat)
 case atStart=>exact ⟨0,Nat.zero_le _,rfl,Below.refl _ _,fun j hj=>absurd hj (by omega)⟩
 case round=>
  obtain ⟨k,hk,rfl,hB,HA⟩:=hrel
  by_cases hlt:k<n
  ·have hbs:=hB.size
   have hkl:k<l.length:=by have:=HN.out;omega
   obtain ⟨b,off,rfl,hb,c0,c1,c2⟩:=(HP.out.below hB) k hkl
   have hprev:0<k→wr.cell? ⟨b,off+(k-1) * 3,none⟩=some (.string (l[k-1]'(by omega)).name)∧wr.cell? ⟨b,off+(k-1) * 3+1,none⟩=some (.int .i64 (l[k-1]'(by omega)).typ)∧wr.cell? ⟨b,off+(k-1) * 3+2,none⟩=some (.int .i64 (l[k-1]'(by omega)).prec):=fun h0=>by
    obtain ⟨b',off',e',_,d0,d1,d2⟩:=(HP.out.below hB) (k-1) (by omega)
    injection e' with e'
    injection e' with e1 e2 _
    subst e1 e2
    exact ⟨d0,d1,d2⟩
   have HPr:=zq hprev
   have J1:=zq (okJ_1 l k hkl)
   have J0:=zq (okJ_0 l k hkl)
   have JS:=zq (okJ_s l k hkl)
   have HNO:=zq (opsValid_no l k hkl)
   generalize l[k]=o at *
   have hX:=BoxAt.start wr o 102
   clear hprev
   cases hok:opOk o
   ·have HO:=zq hok
    have HW:=zq (op_valid o (wr.alloc (.cells #[.string o.name,.int .i64 o.typ,.int .i64 o.prec] 102)))
    rw [hok] at HW
    clear hok
    unfold opV at HW
    go_wp2_with fail
    refine HW.out.mono ?_;rintro e w1 ⟨rfl,hB1⟩
    go_wp2_with fail
    go_ret
    exact ⟨ret_bool (HNO.out (J1.out HO.out)).symm,hB.trans ((hX.call hB1).bel.mono hbs)⟩
   ·have HO:=zq hok
    have HW:=zq (op_valid o (wr.alloc (.cells #[.string o.name,.int .i64 o.typ,.int .i64 o.prec] 102)))
    rw [hok] at HW
    clear hok
    unfold opV at HW
    by_cases h0:k=0
    ·have b0:((k:Int)==0)=true:=by simp [h0]
     have HJ:=zq (J0.out h0 HO.out)
     clear h0
     go_wp2_with fail
     refine HW.out.mono ?_;rintro e w1 ⟨rfl,hB1⟩
     go_wp2_with fail
     go_roundw
     case rel=>exact ⟨k+1,by omega,by go_num,hB.trans ((hX.call hB1).bel.mono hbs),fun j hj=>by
       rcases Nat.lt_or_ge j k with h | h
       ·exact HA.out j h
       ·have:j=k:=by omega
        subst this;exact HJ.out⟩
     case measure=>simp [intOf] <;> omega
    ·have b0:((k:Int)==0)=false:=by simpa using h0
     have h0':0<k:=by omega
     have HJ:=zq (JS.out h0' HO.out)
     obtain ⟨d0,d1,d2⟩:=HPr.out h0'
     generalize l[k-1]'(by omega)=p at *
     clear h0
     go_wp2_with fail
     refine HW.out.mono ?_;rintro e w1 ⟨rfl,hB1⟩
     have hX1:=hX.call hB1
     have xl:=hX1.lt
     have x0:=hX1.c0
     have x1:=hX1.c1
     have x2:=hX1.c2
     have d0':=(hX1.bel.cell (p:=⟨b,off+(k-1) * 3,none⟩) hb).trans d0
     have d1':=(hX1.bel.cell (p:=⟨b,off+(k-1) * 3+1,none⟩) hb).trans d1
     have d2':=(hX1.bel.cell (p:=⟨b,off+(k-1) * 3+2,none⟩) hb).trans d2
     clear d0 d1 d2
     go_wp2_with fail
     refine (op_compare p o _).mono ?_;rintro e w2 ⟨rfl,hB2⟩
     have hY:=(BoxAt.start w1 p 102).call hB2
     have hX2:=(hX1.call ((Below.refl w1.heap.size w1).alloc (Nat.le_refl _) (.cells #[.string p.name,.int .i64 p.typ,.int .i64 p.prec] 102))).call hB2
     have y0:=hY.c0
     have y1:=hY.c1
     have z0:=hX2.c0
     have hB3:=hB.trans (hX2.bel.mono hbs)
     clear x0 x1 x2 d0' d1' d2' hB2
     have hcase:(decide (0≤cmpOp p o)=true∧Hid (opLt p o=false))∨(decide (0≤cmpOp p o)=false∧(p.name.toList==o.name.toList)=false∧Hid (opLt p o=true))∨(decide (0≤cmpOp p o)=false∧(p.name.toList==o.name.toList)=true∧(clsOp p.typ==2)=true∧Hid (opLt p o=false))∨(decide (0≤cmpOp p o)=false∧(p.name.toList==o.name.toList)=true∧(clsOp p.typ==2)=false∧Hid (opLt p o=true)):=by
      unfold Hid opLt
      grind
     rcases hcase with ⟨e1,HL⟩ | ⟨e1,e2,HL⟩ | ⟨e1,e2,e3,HL⟩ | ⟨e1,e2,e3,HL⟩
     ·go_wp2_with fail
      go_ret
      exact ⟨ret_bool (HNO.out (HJ.out.trans HL.out)).symm,hB3⟩
     ·have e2':¬p.name.toList=o.name.toList:=by simpa using e2
      go_wp2_with fail
      go_roundw
      case rel=>exact ⟨k+1,by omega,by go_num,hB3,fun j hj=>by
       rcases Nat.lt_or_ge j k with h | h
       ·exact HA.out j h
       ·have:j=k:=by omega
        subst this;exact HJ.out.trans HL.out⟩
      case measure=>simp [intOf] <;> omega
     ·have e2':p.name.toList=o.name.toList:=by simpa using e2
      have e3':clsOp p.typ=2:=by simpa using e3
      go_wp2_with fail
      refine (op_class_box hX2 p.typ).mono ?_;rintro e w3 ⟨rfl,hX3⟩
      go_wp2_with fail
      go_ret
      exact ⟨ret_bool (HNO.out (HJ.out.trans HL.out)).symm,hB.trans (hX3.bel.mono hbs)⟩
     ·have e2':p.name.toList=o.name.toList:=by simpa using e2
      have e3':¬clsOp p.typ=2:=by simpa using e3
      go_wp2_with fail
      refine (op_class_box hX2 p.typ).mono ?_;rintro e w3 ⟨rfl,hX3⟩
      go_wp2_with fail
      go_roundw
      case rel=>exact ⟨k+1,by omega,by go_num,hB.trans (hX3.bel.mono hbs),fun j hj=>by
       rcases Nat.lt_or_ge j k with h | h
       ·exact HA.out j h
       ·have:j=k:=by omega
        subst this;exact HJ.out.trans HL.out⟩
      case measure=>simp [intOf] <;> omega
  ·obtain rfl:k=n:=by omega
   have HY:=zq (opsValid_yes l (by have:=HN.out;omega) (fun j hj=>HA.out j (by have:=HN.out;omega)))
   go_wp2_with fail
   go_ret
   exact ⟨ret_bool HY.out.symm,hB⟩
end Go.Proofs.YtbojljpldcijgaaGreatDoor
