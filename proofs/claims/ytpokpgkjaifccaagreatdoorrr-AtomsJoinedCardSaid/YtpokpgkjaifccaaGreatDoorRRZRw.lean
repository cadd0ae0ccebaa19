/- Words for a law's drawn region: a term that a call makes. -/
import Derived.Test.YtpokpgkjaifccaaGreatDoorRRH01
import Derived.Test.YtpokpgkjaifccaaGreatDoorRRH14
import Derived.Test.YtpokpgkjaifccaaGreatDoorRRH26
namespace Hb
open Go Go.RowKit
def vcTx (x:Tm):List Value→(Nat→Prop)→World→Prop | [v],N,X=>∃a c,v=.agg #[.int .i64 x.kind,.int .i64 x.num,.string x.name,.slice a x.args.length c]∧TmsK N X a x.args | _,_,_=>False
def rTx (A:List Nat) (j:Nat) (x:Tm):ROp:=rCall A [j] (vpTm x) (vcTx x) fun vs _ _ _ _ h hk hN _=>match vs,h with | [_],⟨a,c,e,ht⟩=>⟨a,c,e,row_stab ht hk hN⟩
def vpAns (n:Nat):List Value→Prop | [v]=>∃a c,v=.tuple #[.slice a n c,.agg #[.int .i64 0,.int .i64 0,.string ⟨#[]⟩,.slice none 0 0],.int .i64 0] | _=>False
def vcAns (n:Nat) (l:List Tm):List Value→(Nat→Prop)→World→Prop | [v],N,X=>∃a c,v=.tuple #[.slice a n c,.agg #[.int .i64 0,.int .i64 0,.string ⟨#[]⟩,.slice none 0 0],.int .i64 0]∧TmsK N X a l | _,_,_=>False
def rAns (A:List Nat) (j n:Nat) (l:List Tm):ROp:=rCall A [j] (vpAns n) (vcAns n l) fun vs _ _ _ _ h hk hN _=>match vs,h with | [_],⟨a,c,e,ht⟩=>⟨a,c,e,row_stab ht hk hN⟩
def isZero (vs:List Value):Prop:=vs=[.int .i64 0,.int .i64 0,.string ⟨#[]⟩,.slice none 0 0]
theorem TmsK.offS {K K':Nat→Prop} {w:World} {A:Option Addr} {l:List Tm} (h:TmsK K w A l) (hn:NoV l) (hb:∀b,K b→K' b∨∃vs,Bk w b vs∧isZero vs):TmsK K' w A l:=by
 induction h with
 | mk A l F C hl hc _ ih=>
  cases hn with
  | mk _ h1 h2=>
   refine .mk A l F C hl (fun j hj=>?_) (fun j hj=>ih j hj (h2 j hj))
   obtain ⟨b,off,e,hk,c0,c1,c2,c3⟩:=hc j hj
   refine ⟨b,off,e,?_,c0,c1,c2,c3⟩
   rcases hb b hk with hb | ⟨vs,hg,hz⟩
   ·exact hb
   ·exfalso
    unfold isZero at hz
    subst hz
    by_cases h4:off+j * 4+2<4
    ·have h5:off+j * 4=0∨off+j * 4=1:=by omega
     rcases h5 with h5 | h5
     ·rw [h5] at c0
      rw [hg.c 0 _ rfl] at c0
      injection c0 with c0
      injection c0 with _ c0
      exact h1 j hj c0.symm
     ·rw [h5] at c2
      rw [hg.c 3 _ rfl] at c2
      injection c2 with c2
      cases c2
    ·rw [hg.cellNone _ (by simp;omega)] at c2
     cases c2
theorem ans_new {BP:List Value→Prop} {B:Nat} {w0 X w':World} {N N':Nat→Prop} {A:Option Addr} {l:List Tm} (hBP:∀vs,BP vs→isZero vs) (hC:AtC BP B w0 X N) (hB:Below X.heap.size X w') (h:TmsAt w'.heap.size w' A l) (hn:NoV l) (h1:∀b,N b→N' b) (h2:∀b,X.heap.size≤b→b<w'.heap.size→N' b):TmsK N' w' A l :=
 TmsK.offS h hn fun b hb=>by
  by_cases hX:X.heap.size≤b
  ·exact .inl (h2 b hX hb)
  ·by_cases hN:N b
   ·exact .inl (h1 b hN)
   ·obtain ⟨vs,hk,hz⟩:=hC.bx b (by omega) hN
    exact .inr ⟨vs,hk.call hB,hBP vs hz⟩
end Hb
