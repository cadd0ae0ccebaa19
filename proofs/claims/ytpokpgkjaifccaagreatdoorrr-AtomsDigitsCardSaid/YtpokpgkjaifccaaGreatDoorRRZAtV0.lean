/- Atoms, plain: integers read from decimal texts. -/
import Derived.Test.YtpokpgkjaifccaaGreatDoorRRH01
import Derived.Test.YtpokpgkjaifccaaGreatDoorRRH28
namespace Hb
open Go Go.RowKit
theorem dg_fin:∀d:Nat,d<10→(UInt8.ofNat (48+d)).toNat=48+d∧isDig 10 ((UInt8.ofNat (48+d)).toNat:Int)=true∧(digV ((UInt8.ofNat (48+d)).toNat:Int) 10).toNat=d:=by decide +kernel
def isDec (b:UInt8):Prop:=48≤b.toNat∧b.toNat≤57∧isDig 10 (b.toNat:Int)=true
theorem dec_ok (u:Nat):natOf 10 (Lib.decDigits u)=u∧(∀b∈Lib.decDigits u,isDec b)∧0<(Lib.decDigits u).length:=by
 induction u using Nat.strongRecOn with
 | _ u ih=>
  rw [Lib.decDigits]
  by_cases h:u<10
  ·obtain ⟨h1,h2,h3⟩:=dg_fin u h
   rw [dif_pos h]
   refine ⟨?_,?_,by simp⟩
   ·rw [←List.nil_append [UInt8.ofNat (48+u)],natOf_snoc,h3];simp [natOf]
   ·intro b hb
    rw [List.mem_singleton] at hb;subst hb
    exact ⟨by omega,by omega,h2⟩
  ·obtain ⟨h1,h2,h3⟩:=dg_fin (u % 10) (Nat.mod_lt _ (by decide))
   obtain ⟨i1,i2,i3⟩:=ih (u / 10) (by omega)
   rw [dif_neg h]
   refine ⟨?_,?_,by simp⟩
   ·rw [natOf_snoc,h3,i1]
    show u / 10 * 10+u % 10=u
    omega
   ·intro b hb
    rcases List.mem_append.1 hb with hb | hb
    ·exact i2 b hb
    ·rw [List.mem_singleton] at hb;subst hb
     exact ⟨by omega,by omega,h2⟩
theorem span_app (q:Int→Bool) (rest:List UInt8) (hr:q (rawAt rest 0)=false):∀ds:List UInt8,(∀b∈ds,q (b.toNat:Int)=true)→span q (ds++rest)=ds.length
 | [],_=>by
  match rest,hr with
  | [],_=>rfl
  | b::l,hr=>
   rw [rawAt_cons] at hr
   rw [List.nil_append,span,hr];rfl
 | b::ds,h=>by
  rw [List.cons_append,span,if_pos (h b (List.mem_cons_self ..)),span_app q rest hr ds fun x hx=>h x (List.mem_cons_of_mem _ hx)]
  rfl
theorem raw_here {T X:List UInt8} {p:Nat} (D:T.drop p=X) (j:Nat):rawAt T (p+j)=rawAt X j:=by rw [←D,rawAt_drop]
theorem cls_dec0:∀n:Nat,n<58→48≤n→cls (n:Int)=4:=by decide +kernel
def NoDec (rest:List UInt8):Prop:=isDig 10 (rawAt rest 0)=false∧¬rawAt rest 0=39∧¬rawAt rest 0=120∧¬rawAt rest 0=111∧¬rawAt rest 0=98
theorem noDec_nil:NoDec []:=by
 have h:rawAt [] 0=-1:=rawAt_out _ _ (by simp)
 unfold NoDec
 rw [h]
 exact ⟨isDig_end 10,by decide,by decide,by decide,by decide⟩
theorem noDec_cons (c:UInt8) (l:List UInt8) (h:¬(48≤c.toNat∧c.toNat≤57)) (h1:¬c.toNat=39) (h2:¬c.toNat=120) (h3:¬c.toNat=111) (h4:¬c.toNat=98):NoDec (c::l):=by
 unfold NoDec
 rw [rawAt_cons]
 refine ⟨?_,by omega,by omega,by omega,by omega⟩
 unfold isDig
 rw [digOk_dgt _ _ (by decide) (by decide),decide_eq_false_iff_not]
 unfold dgt
 have:=c.toNat_lt
 grind
theorem tok_dec {T ds rest:List UInt8} {p:Nat} (D:T.drop p=ds++rest) (h0:0<ds.length) (hd:∀b∈ds,isDec b) (hr:NoDec rest):tokR T T p=intR 10 ds p (p+ds.length)∧cls (rawAt T p)=4:=by
 obtain ⟨b,ds',rfl⟩:∃b ds',ds=b::ds':=by cases ds with
  | nil=>simp at h0
  | cons b ds'=>exact ⟨b,ds',rfl⟩
 have hb:=hd b (List.mem_cons_self ..)
 have r0:rawAt T p=(b.toNat:Int):=by
  have:=raw_here D 0
  rw [List.cons_append,rawAt_cons] at this
  exact this
 have r1:rawAt T (p+1)=rawAt (ds'++rest) 0:=by
  rw [raw_here D 1,List.cons_append,rawAt_succ]
 have n1:¬rawAt T (p+1)=39∧¬rawAt T (p+1)=120∧¬rawAt T (p+1)=111∧¬rawAt T (p+1)=98:=by
  rw [r1]
  cases ds' with
  | nil=>rw [List.nil_append];exact hr.2
  | cons x l=>
   have hx:=hd x (List.mem_cons_of_mem _ (List.mem_cons_self ..))
   rw [List.cons_append,rawAt_cons]
   unfold isDec at hx
   refine ⟨?_,?_,?_,?_⟩ <;> omega
 have hb':=hb
 unfold isDec at hb'
 have hc:cls (b.toNat:Int)=4:=cls_dec0 _ (by omega) (by omega)
 have hB:numBase T p=0:=by
  unfold numBase
  split
  ·rw [if_neg n1.2.1,if_neg n1.2.2.1,if_neg n1.2.2.2]
  ·rfl
 have hs:span (isDig 10) (T.drop p)=(b::ds').length:=by rw [D];exact span_app _ _ hr.1 _ fun x hx=>(hd x hx).2.2
 refine ⟨?_,by rw [r0];exact hc⟩
 unfold tokR
 rw [r0,if_neg (fun h=>by omega),hc,if_neg (by decide),if_pos rfl]
 unfold numR
 rw [if_neg (fun h=>n1.1 h.2),hB,if_neg (fun h=>absurd h.1 (by decide)),hs,D,List.take_left]
theorem skip_noX {X:List UInt8} (h1:¬cls (rawAt X 0)=1) (h2:¬rawAt X 0=37) (h3:¬rawAt X 0=47):skipN X=0:=by
 rw [skipN_eq]
 by_cases hE:X.isEmpty=true
 ·rw [if_pos hE]
 ·rw [if_neg hE,if_neg h1,if_neg h2,if_neg (fun h=>h3 h.1)]
theorem skip_sp (X:List UInt8):∀k:Nat,skipN (List.replicate k 32++X)=k+skipN X
 | 0=>by simp
 | k+1=>by
  rw [List.replicate_succ,List.cons_append,skipN_eq,rawAt_cons]
  simp only [List.isEmpty_cons,Bool.false_eq_true,if_false,List.drop_succ_cons,List.drop_zero]
  rw [if_pos (show cls (((32:UInt8).toNat:Nat):Int)=1 by decide +kernel),skip_sp X k]
  omega
theorem next_at {T:List UInt8} {a k:Nat} {r:LexR} (hk:skipN (T.drop a)=k) (hl:¬a+k=T.length) (ht:tokR T T (a+k)=r) (he:r.err=0):nextR T T a=⟨r,decide (a<a+k),0⟩:=by
 unfold nextR
 simp only [hk,ht]
 rw [if_neg hl,if_pos he]
theorem cvt_id0 (l:List UInt8):cvt (convT []) l=l:=by
 unfold cvt convT
 simp
end Hb
namespace Go.Proofs.YtpokpgkjaifccaaGreatDoorRR
open Go.RowKit Hb Go.Shelf
set_option maxRecDepth 100000
theorem nx_text (T:List UInt8) (a:Nat) (hT:T.length≤16384) (ha:a≤T.length):nxA ⟨T.toArray⟩ (a:Int)=nextR T T a:=by
 unfold nxA nextTop
 have h:okArgs T (a:Int) []=true:=by
  unfold okArgs
  have hp:pvalid []=true:=by decide +kernel
  rw [hp,decide_eq_true hT,decide_eq_true (by omega:(0:Int)≤a),decide_eq_true (by omega:(a:Int)≤(T.length:Int))]
  rfl
 have e:(⟨T.toArray⟩:ByteArray).data.toList=T:=by simp
 rw [e,if_pos h,cvt_id0,Int.toNat_natCast]
theorem intR_10 (ds:List UInt8) (u:Nat) (p e:Int) (h:natOf 10 ds=u) (hu:u≤9223372036854775808):Hb.intR 10 ds p e=⟨4,[],if u=9223372036854775808 then -9223372036854775808 else u,p,e,0⟩:=by
 unfold Hb.intR
 rw [h,if_pos hu]
theorem nx_dec (T pre rest:List UInt8) (u k a:Nat) (hT:T.length≤16384) (he:T=pre++(List.replicate k 32++(Lib.decDigits u++rest))) (ha:a=pre.length) (hu:u≤9223372036854775808) (hr:NoDec rest) :
  nxA ⟨T.toArray⟩ (a:Int)=⟨⟨4,[],if u=9223372036854775808 then -9223372036854775808 else u,(a+k:Nat),(a+k:Nat)+(Lib.decDigits u).length,0⟩,decide (a<a+k),0⟩:=by
 obtain ⟨h1,h2,h3⟩:=dec_ok u
 have hl:T.length=a+(k+((Lib.decDigits u).length+rest.length)):=by rw [he,ha];simp
 have hda:T.drop a=List.replicate k 32++(Lib.decDigits u++rest):=by rw [he,ha,List.drop_left]
 have hdp:T.drop (a+k)=Lib.decDigits u++rest:=by
  rw [←List.drop_drop,hda,List.drop_append,List.length_replicate,Nat.sub_self,List.drop_zero,List.drop_of_length_le (by simp),List.nil_append]
 obtain ⟨ht,hc⟩:=tok_dec hdp h3 h2 hr
 have hsk:skipN (T.drop a)=k:=by
  rw [hda,skip_sp]
  have r0:rawAt (Lib.decDigits u++rest) 0=rawAt T (a+k):=(raw_here hdp 0).symm
  have:skipN (Lib.decDigits u++rest)=0:=skip_noX (by rw [r0,hc];decide) (fun h=>by rw [r0] at h;rw [h] at hc;revert hc;decide +kernel) (fun h=>by rw [r0] at h;rw [h] at hc;revert hc;decide +kernel)
  omega
 rw [nx_text T a hT (by omega),next_at hsk (by omega) (ht.trans (intR_10 _ u _ _ h1 hu)) rfl]
theorem nx_minus (T X:List UInt8) (k:Nat) (hT:T.length≤16384) (he:T=List.replicate k 32++45::X) (hX:isSym (rawAt X 0)=false) :
  nxA ⟨T.toArray⟩ 0=⟨⟨1,[45],0,k,(k:Int)+1,0⟩,decide (0<k),0⟩:=by
 have hl:T.length=k+(X.length+1):=by rw [he];simp
 have hdp:T.drop k=45::X:=by
  rw [he,List.drop_append,List.length_replicate,Nat.sub_self,List.drop_zero,List.drop_of_length_le (by simp),List.nil_append]
 have r0:rawAt T k=45:=by
  have:=raw_here hdp 0
  rw [rawAt_cons] at this
  exact this
 have hs:span isSym (T.drop k)=1:=by
  rw [hdp]
  exact span_app isSym X hX [45] (fun b hb=>by rw [List.mem_singleton] at hb;subst hb;decide +kernel)
 have ht:tokR T T k=⟨1,[45],0,k,(k:Int)+1,0⟩:=by
  have hc:cls 45=5:=by decide +kernel
  unfold tokR
  rw [r0,hc,if_neg (fun h=>absurd h.1 (by decide)),if_neg (by decide),if_neg (by decide),if_pos rfl]
  unfold symR
  rw [r0,if_neg (fun h=>absurd h.1 (by decide)),hs,hdp]
  rfl
 have hsk:skipN (T.drop 0)=k:=by
  rw [List.drop_zero,he,skip_sp]
  have r:rawAt (45::X) 0=45:=rawAt_cons _ _
  have:skipN (45::X)=0:=skip_noX (by rw [r];decide +kernel) (by rw [r];decide) (by rw [r];decide)
  omega
 have:=nx_text T 0 hT (Nat.zero_le _)
 rw [show ((0:Nat):Int)=0 from rfl] at this
 rw [this,next_at (r:=⟨1,[45],0,k,(k:Int)+1,0⟩) hsk (by omega) ((congrArg (tokR T T) (Nat.zero_add k)).trans ht) rfl,Nat.zero_add]
theorem sz_arr (T:List UInt8):(⟨T.toArray⟩:ByteArray).size=T.length:=rfl
theorem int_pos (u k : Nat) (rest T : List UInt8) (he : T = List.replicate k 32 ++ (Lib.decDigits u ++ rest)) (hT : T.length ≤ 16384) (hu : u ≤ 9223372036854775807) (hr : NoDec rest) :
    integerA ⟨T.toArray⟩ = if rest = [] then .inr (u : Int) else .inl (bsT ((k : Int) + (Lib.decDigits u).length)) := by
  have h := nx_dec T [] rest u k 0 hT he rfl (by omega) hr
  rw [if_neg (by omega), Nat.zero_add, show ((0 : Nat) : Int) = 0 from rfl] at h
  have hl : T.length = k + ((Lib.decDigits u).length + rest.length) := by rw [he]; simp
  unfold integerA
  rw [h]
  simp only []
  rw [if_neg (by simp), if_neg (fun x => absurd x.1 (by decide)), if_neg (fun x => by
    rcases x with x | x
    · exact x trivial
    · have : (u : Int) < 0 := x
      omega), sz_arr, hl]
  by_cases hn : rest = []
  · subst hn
    rw [if_neg (by simp), if_pos rfl]
  · have := List.length_pos_iff.2 hn
    rw [if_pos (by omega), if_neg hn]
theorem int_neg (u k:Nat) (rest T:List UInt8) (he:T=List.replicate k 32++(45::(Lib.decDigits u++rest))) (hT:T.length≤16384) (hu:u≤9223372036854775808) (hr:NoDec rest) :
  integerA ⟨T.toArray⟩=if rest=[] then .inr (-(u:Int)) else .inl (bsT ((k:Int)+(1+(Lib.decDigits u).length:Nat))):=by
 obtain ⟨_,h2,h3⟩:=dec_ok u
 have hsy:isSym (rawAt (Lib.decDigits u++rest) 0)=false:=by
  obtain ⟨b,l,hb⟩:∃b l,Lib.decDigits u=b::l:=by cases hq:Lib.decDigits u with
   | nil=>rw [hq] at h3;simp at h3
   | cons b l=>exact ⟨b,l,rfl⟩
  have hd:=h2 b (by rw [hb];exact List.mem_cons_self ..)
  rw [hb,List.cons_append,rawAt_cons]
  unfold isDec at hd
  unfold isSym
  rw [cls_dec0 _ (by omega) (by omega)];rfl
 have h:=nx_minus T _ k hT he hsy
 have hq:=nx_dec T (List.replicate k 32++[45]) rest u 0 (k+1) hT (by rw [he];simp) (by simp) hu hr
 have hl:T.length=k+(1+((Lib.decDigits u).length+rest.length)):=by rw [he];simp;omega
 unfold integerA
 rw [h]
 simp only []
 rw [if_neg (by simp),if_pos ⟨trivial,trivial⟩,show ((k:Int)+1)=((k+1:Nat):Int) by omega,hq]
 simp only []
 rw [if_neg (by simp),if_neg (by simp),sz_arr,hl]
 by_cases hn:rest=[]
 ·subst hn
  rw [if_neg (by simp;omega),if_pos rfl]
  congr 1
  by_cases hm:u=9223372036854775808
  ·subst hm;rw [if_pos rfl];decide +kernel
  ·rw [if_neg hm];exact IntWalk.wrap64_in _ (by omega)
 ·have:=List.length_pos_iff.2 hn
  rw [if_pos (by omega),if_neg hn]
  congr 2
  omega
theorem int_gap (u k:Nat) (T:List UInt8) (he:T=List.replicate k 32++(45::32::Lib.decDigits u)) (hT:T.length≤16384) (hu:u≤9223372036854775808) :
  integerA ⟨T.toArray⟩=.inl (bsT ((k:Int)+2)):=by
 have h:=nx_minus T _ k hT he (by rw [rawAt_cons];decide +kernel)
 have hq:=nx_dec T (List.replicate k 32++[45]) [] u 1 (k+1) hT (by rw [he];simp) (by simp) hu noDec_nil
 unfold integerA
 rw [h]
 simp only []
 rw [if_neg (by simp),if_pos ⟨trivial,trivial⟩,show ((k:Int)+1)=((k+1:Nat):Int) by omega,hq]
 simp only []
 rw [if_neg (by simp),if_pos (.inr (by simp))]
 congr 2
theorem int_text (m:Int) (hm:I64 m) (k:Nat) (hk:k≤5) (rest:List UInt8) (hl:rest.length≤9) (hr:NoDec rest) :
  integerA ⟨(List.replicate k 32++(Lib.itoa m++rest)).toArray⟩=if rest=[] then .inr m else .inl (bsT ((k:Int)+(Lib.itoa m).length)):=by
 have hlen:=Lib.itoa_length_le m hm.1 hm.2
 have h16:(List.replicate k 32++(Lib.itoa m++rest):List UInt8).length≤16384:=by simp;omega
 by_cases hneg:m<0
 ·obtain ⟨u,rfl⟩:∃u:Nat,m=-(u:Int):=⟨m.natAbs,by omega⟩
  have hu:u≤9223372036854775808:=by have:=hm.1;omega
  have e:=int_neg u k rest _ (by rw [Lib.itoa_neg u (by omega),List.cons_append]) h16 hu hr
  rw [e,Lib.itoa_neg u (by omega),List.length_cons,Nat.add_comm]
 ·obtain ⟨u,rfl⟩:∃u:Nat,m=u:=⟨m.toNat,by omega⟩
  have hu:u≤9223372036854775807:=by have:=hm.2;omega
  have e:=int_pos u k rest _ (by rw [Lib.itoa_nonneg]) h16 hu hr
  rw [e,Lib.itoa_nonneg]
end Go.Proofs.YtpokpgkjaifccaaGreatDoorRR
