/- Parts of the proof. -/
import Derived.Test.YtgapnafkelokaaaGreatDoorR16
import Derived.RegionTactic
import Derived.Deep.RegionWith
import Derived.BigRegion
import Derived.Test.YtgapnafkelokaaaGreatDoorR02
import Derived.Test.YtgapnafkelokaaaGreatDoorR01
import Derived.Test.YtgapnafkelokaaaGreatDoorProg
import Derived.Lib.Strings
import Derived.Test.YtgapnafkelokaaaGreatDoorR04
set_option maxHeartbeats 12800000
set_option maxRecDepth 100000
open Go renaming Calls -> aG, World -> aj, bodyPost_ret -> aw
open Go.Ending renaming returned -> av
open Go.IntKind renaming i64 -> ae, i64 -> eN
open Go.IntWalk renaming wrap64_in -> dZ
open Go.Proofs.Tryz renaming func106 -> il, ntmps106 -> gD, prog -> ah, results106 -> fz
open Go.RowKit renaming Below -> ay
open Go.RowKit.Below renaming refl -> ak
open Go.Value renaming int -> ab, int -> fK, pointer -> ax, tuple -> aF
open Go.World renaming setCell -> fI
open Int renaming toNat_natCast -> aD
open List renaming drop_drop -> cI, length_drop -> aI
open Nat renaming add_zero -> bq, eq_zero_or_pos -> im, le_of_lt -> fG, le_refl -> ag, lt_of_lt_of_le -> aB, zero_le -> bj
namespace Go.Proofs.YtgapnafkelokaaaGreatDoor
open Go.RowKit Hb
def Tok6 (w:aj) (g:Nat):Prop:=(∀o,w.frozen? ⟨g,o,none⟩=false)/\∃v0 v1 v2 v3 v4 v5,w.cell? ⟨g,0,none⟩=some v0/\w.cell? ⟨g,1,none⟩=some v1/\w.cell? ⟨g,2,none⟩=some v2/\w.cell? ⟨g,3,none⟩=some v3/\w.cell? ⟨g,4,none⟩=some v4/\w.cell? ⟨g,5,none⟩=some v5
structure Held (w0 w:aj) (b:Nat) (s:ByteArray) (tab:Int->Int) (p:Int):Prop where
 lex:Lex w b s tab p
 bel:ay w0.heap.size w0 w
 tok:Tok6 w w0.heap.size
 lt:w0.heap.size<w.heap.size
 blt:b<w0.heap.size
section
variable {w0 w w':aj} {b:Nat} {s:ByteArray} {tab:Int->Int} {p:Int}
theorem Held.start (h:Lex w0 b s tab p):Held w0 (w0.alloc eQ) b s tab p:=by
 have a:=(ak w0.heap.size w0).alloc (ag _) eQ
 obtain ⟨c,d,e,f,g,i,j⟩:=ky (ak (w0.alloc eQ).heap.size (w0.alloc eQ)) (by simp)
 exact ⟨h.below a h.lt,a,⟨j,_,_,_,_,_,_,c,d,e,f,g,i⟩,by simp,h.lt⟩
theorem Held.call (a:ay w.heap.size w w') (h:Held w0 w b s tab p):Held w0 w' b s tab p:=by
 obtain ⟨k,l,m,n,q,r,t,c,d,f,g,i,j⟩:=h.tok
 have e:∀o,w'.cell? ⟨w0.heap.size,o,none⟩=w.cell? ⟨w0.heap.size,o,none⟩:=fun o=>a.cell (p:=⟨w0.heap.size,o,none⟩) h.lt
 exact ⟨h.lex.below a h.lex.lt,h.bel.trans (a.mono (fG h.lt)),⟨fun o=>(a.frozen (p:=⟨w0.heap.size,o,none⟩) h.lt).trans (k o),l,m,n,q,r,t,(e 0).trans c,(e 1).trans d,(e 2).trans f,(e 3).trans g,(e 4).trans i,(e 5).trans j⟩,aB h.lt a.size,h.blt⟩
theorem Held.callB {B:Nat} (a:ay B w w') (c:w0.heap.size<B) (h:Held w0 w b s tab p):Held w0 w' b s tab p:=by
 obtain ⟨l,m,n,q,r,t,u,d,f,g,i,j,k⟩:=h.tok
 have e:∀o,w'.cell? ⟨w0.heap.size,o,none⟩=w.cell? ⟨w0.heap.size,o,none⟩:=fun o=>a.cell (p:=⟨w0.heap.size,o,none⟩) c
 exact ⟨h.lex.below a (Nat.lt_trans h.blt c),h.bel.trans (a.mono (fG c)),⟨fun o=>(a.frozen (p:=⟨w0.heap.size,o,none⟩) c).trans (l o),m,n,q,r,t,u,(e 0).trans d,(e 1).trans f,(e 2).trans g,(e 3).trans i,(e 4).trans j,(e 5).trans k⟩,aB h.lt a.size,h.blt⟩
theorem Held.drew (h:Held w0 w b s tab p):Held w0 w.drew b s tab p:=Held.call ((ak _ w).drew) h
theorem Held.ca (h:Held w0 w b s tab p):w.cell? ⟨b,257,none⟩=some (ab ae p):=h.lex.ca
theorem mq (w:aj) (a:Addr) (v:Value) (q:Addr):(w.setCell a v).frozen? q=w.frozen? q:=by
 unfold World.frozen? fI
 simp only [Array.getElem?_modify]
 by_cases h:a.block=q.block
 ·rw [if_pos h]
  cases w.heap[q.block]? with
  | none=>rfl
  | some o=>cases o <;> rfl
 ·rw [if_neg h]
theorem Held.set (h:Held w0 w b s tab p) (o:Nat) (v:Value):Held w0 (w.setCell ⟨w0.heap.size,o,none⟩ v) b s tab p:=by
 obtain ⟨A,B,C,D,E,F,G,q,r,t,x,y,z⟩:=h.tok
 have c:(w.setCell ⟨w0.heap.size,o,none⟩ v).heap.size=w.heap.size:=by simp [fI]
 have e:∀(k:Nat) (u:Value),w.cell? ⟨w0.heap.size,k,none⟩=some u->∃u',(w.setCell ⟨w0.heap.size,o,none⟩ v).cell? ⟨w0.heap.size,k,none⟩=some u':=fun k u d=>by
  by_cases a:o=k
  ·subst a;exact ⟨v,World.cell?_setCell_same w _ v d⟩
  ·exact ⟨u,(World.cell?_setCell_other w _ _ v (by intro n;injection n with _ h2 _;exact a h2)).trans d⟩
 obtain ⟨u0,f⟩:=e 0 _ q
 obtain ⟨u1,g⟩:=e 1 _ r
 obtain ⟨u2,i⟩:=e 2 _ t
 obtain ⟨u3,j⟩:=e 3 _ x
 obtain ⟨u4,l⟩:=e 4 _ y
 obtain ⟨u5,m⟩:=e 5 _ z
 exact ⟨h.lex.same (by rw [c];exact ag _) (Below.heap_setCell w _ v b (by have:=h.blt;show b≠w0.heap.size;omega)),h.bel.setCell (p:=⟨w0.heap.size,o,none⟩) (ag _) v,⟨fun k=>(mq _ _ _ _).trans (A k),u0,u1,u2,u3,u4,u5,f,g,i,j,l,m⟩,by rw [c];exact h.lt,h.blt⟩
theorem Held.sets (h:Held w0 w b s tab p) (a c d e f g:Value):Held w0 ((((((w.setCell ⟨w0.heap.size,0,none⟩ a).setCell ⟨w0.heap.size,1,none⟩ c).setCell ⟨w0.heap.size,2,none⟩ d).setCell ⟨w0.heap.size,3,none⟩ e).setCell ⟨w0.heap.size,4,none⟩ f).setCell ⟨w0.heap.size,5,none⟩ g) b s tab p :=
 (((((h.set 0 a).set 1 c).set 2 d).set 3 e).set 4 f).set 5 g
theorem Held.keep (h:Held w0 w b s tab p):w.cell? ⟨b,257,none⟩=some (ab ae p)/\Held w0 w b s tab p:=⟨h.ca,h⟩
end
theorem EW (b:Nat) (s:ByteArray) (tab:Int->Int) (p:Nat) (w:aj) (h:Lex w b s tab p) (I:p<s.size) :
  aG ah 108 #[ax (some ⟨b,0,none⟩)] w fun e w'=>fR (qx (cD tab s.data.toList) p) e/\ay w.heap.size w w':=by
 have J:=h.sz
 have d:=Held.start h
 have G:=h.lt
 have E:=h.ca
 clear h
 have F:Hid ((cD tab s.data.toList).length=s.size):=by show _=_;rw [dx];simp
 generalize k:cD tab s.data.toList=M at *
 have i:=zq k
 clear k
 have n:=zq (show qx M p=dz (lD (au M p)) ((M.drop p).take 1) p (p+1) from rfl)
 have hd:((au M p==33)=true\/((au M p==33)=false/\(au M p==59)=true))\/((au M p==33)=false/\(au M p==59)=false):=by grind
 rcases hd with (a | ⟨a,c⟩) | ⟨a,c⟩
 all_goals
  have D:∃q,Hid (lD (au M p)=q)/\(q=1\/q=6):=⟨_,rfl,by unfold lD;split <;> simp⟩
  go_enter Tryz.func108,Tryz.ntmps108
  go_wp2_with fail
  refine (bf _ _ _ _ _ _ d.lex (by omega)).mono ?_;rintro e T ⟨rfl,j⟩;rw [aD,i.out]
  have m:=Held.call j d
  clear d j
  go_wp2_with fail
  have K:IntKind.i64.wrap ((p:Int)+1)=(p:Int)+1:=IntWalk.i64_in _ (by omega)
  go_region_held3 (fun w'=>w'.cell? ⟨b,257,none⟩=some (ab ae p)/\Held w w' b s tab p) (first | with_reducible exact m.drew.keep | with_reducible exact Held.keep (Held.call (by with_reducible assumption) (And.right (by with_reducible assumption))) | with_reducible exact Held.keep (Held.sets (And.right (by with_reducible assumption)) _ _ _ _ _ _))
   (first
    | (go_at_call 148;((with_reducible refine (iW b s tab p p (p+1) _ ?_ ?_ ?_ ?_).mono ?_);(· with_reducible exact Held.lex (And.right (by with_reducible assumption)));(· omega);(· omega);(· omega);rintro e C ⟨rfl,f⟩;rw [aD,i.out,show ((p:Int)+1-p).toNat=1 by omega]))
    | (go_at_call 147;((with_reducible refine (lO b s tab p _ _ _ _ ?_ ?_).mono ?_);(· with_reducible exact Held.lex (And.right (by with_reducible assumption)));(· have:=List.length_take_le 1 (M.drop p);simp;omega);rintro e C ⟨g,f⟩;generalize l:dz _ _ _ _=r at g;have o:=zq l;clear l;unfold fR bN at g;subst g;obtain ⟨L,N,O,P,Q,R,S,u,x,y,z,A,B⟩:=(Held.call f (And.right (by with_reducible assumption))).tok;have H:=(Held.call f (And.right (by with_reducible assumption))).lt)))
  go_wp2_with fail
  refine aw (v:=bN r) (by simp [bN,results,Tryz.results108,go_sem,u,x,y,z,A,B]) rfl ⟨?_,Held.bel (And.right (by with_reducible assumption))⟩
  have t:=o.out
  rw [n.out,<-t]
  unfold lD;first | (rw [if_pos (by simpa using Or.inl (by simpa using a))];rfl) | (rw [if_pos (by simp at c;exact Or.inr c)];rfl) | (rw [if_neg (by simp at a c;omega)];rfl)
theorem sC (c:Int) (w:aj) (a:0<=c) (b:c<=255) :
  aG ah 208 #[ab .u8 c] w fun e w'=>e=av (ab ae (pq c))/\w=w':=by
 go_enter Tryz.func208,Tryz.ntmps208
 go_wp2
 all_goals (go_ret;exact ⟨cT (by unfold pq;grind),rfl⟩)
def oe (a:Int) (ds:List UInt8):Int:=if cL a ds<=9223372036854775808 then -(cL a ds:Int) else 0
def og (a:Int) (ds:List UInt8):Int:=if cL a ds<=9223372036854775808 then 0 else 10
theorem ow (s:ByteArray) (base:Int) (ds:List UInt8) (w:aj) (b:s.data.toList=45::ds) (X:0<ds.length) (a4:ds.length<=16384) (J:2<=base) (g:base<=36)
  (D:∀k,k<ds.length->pq (ie ds k)<base) :
  aG ah 181 #[.string s,ab ae base] w fun e w'=>e=av (aF #[ab ae (oe base ds),ab ae (og base ds)])/\w=w':=by
 have j:s.size=ds.length+1:=by rw [<-size_data,b];rfl
 have a2:1<s.size:=by omega
 have T:0<s.size:=by omega
 have r:=jU s 0 T
 have t:ie s.data.toList 0=45:=by rw [b];rfl
 rw [t] at r
 have Z:=zq b
 have o:=zq D
 have G:=zq j
 have a3:s.size<=16385:=by omega
 have m:(s.extract 1 s.size).data.toList=ds:=by rw [Lib.extract_data,b];simp [j]
 have S:(s.extract 1 s.size).toList.isEmpty=false:=by
  rw [Go.ByteArray.toList_eq,m];cases ds <;> simp at X |-
 have f:=zq m
 clear b D t j m
 go_enter Tryz.func181,Tryz.ntmps181
 go_wp2
 generalize hd:s.extract 1 s.size=d at *
 have A:d.size=ds.length:=by rw [<-size_data,f.out]
 have B:s.size-1=d.size:=by have:=G.out;omega
 rw [B]
 have c:=zq A
 have a0:d.size<=16384:=by omega
 clear hd A B r S
 go_loop [4,31] (fun n i=>∃k:Nat,k<=d.size/\i=ab ae k/\n=ab ae 0) (fun _ i=>d.size-(intOf i).toNat)
 case atStart=>exact ⟨0,bj _,rfl,rfl⟩
 case round=>
  obtain ⟨k,hk,rfl,rfl⟩:=hrel
  by_cases U:k<d.size
  ·have K:=jU d k U
   rw [f.out] at K
   have M:=jj ds k
   have P:=jG ds k
   have z:pq (ie ds k)<base:=o.out k (by have:=c.out;omega)
   go_wp2_with (go_at_call 208;refine (sC _ _ M P).mono ?_;rintro e w' ⟨rfl,rfl⟩)
   go_round
   case rel=>exact ⟨k+1,by omega,by go_num,rfl⟩
   case measure=>simp [intOf];omega
  ·go_wp2_with fail
   go_loop [4,43] (fun n i=>∃k:Nat,k<=d.size/\i=ab ae k/\n=ab ae (-(cL base (ds.take k):Int))/\cL base (ds.take k)<=9223372036854775808) (fun _ i=>d.size-(intOf i).toNat)
   case atStart=>exact ⟨0,bj _,rfl,rfl,by simp [cL]⟩
   case round=>
    obtain ⟨a,a1,rfl,rfl,l⟩:=hrel
    by_cases V:a<d.size
    ·have L:=jU d a V
     rw [f.out] at L
     have O:=jj ds a
     have Q:=jG ds a
     have C:a<ds.length:=by have:=c.out;omega
     have z:=o.out a C
     have y:=Fx (ie ds a)
     have R:=Fy (ie ds a)
     have q:=zq (show (cL base (ds.take (a+1)):Int)=cL base (ds.take a) * base+pq (ie ds a) by
      rw [sj base ds a C,yj _ _ J g z]
      push_cast
      rw [Int.toNat_of_nonneg (by omega),Int.toNat_of_nonneg y])
     have F:=zq (oq base (by omega) ds (a+1))
     have p:=zq (zk (cL base (ds.take a)) (pq (ie ds a)) base (by omega) y R)
     generalize x:cL base (ds.take a)=N at *
     have Y:=zq x
     clear x
     go_wp2_with (go_at_call 208;refine (sC _ _ O Q).mono ?_;rintro e w' ⟨rfl,rfl⟩)
     ·have W:=p.out.1 (by assumption)
      go_ret2
      refine ⟨uV ?_,rfl⟩
      have g:=q.out
      have u:=F.out
      have v:¬cL base ds<=9223372036854775808:=by omega
      unfold oe og
      rw [if_neg v,if_neg v]
      rfl
     ·have W:(N:Int) * base+pq (ie ds a)<=9223372036854775808:=by
       have u:=p.out.2
       rcases Int.lt_or_le 9223372036854775808 ((N:Int) * base+pq (ie ds a)) with h | h
       ·have:=u h;omega
       ·exact h
      have a5:0<=(N:Int) * base:=Int.mul_nonneg (by omega) (by omega)
      have H:wrap64 (-(N:Int) * base)=-((N:Int) * base):=by rw [Int.neg_mul];exact dZ _ (by omega)
      have I:wrap64 (-((N:Int) * base)-pq (ie ds a))=-((N:Int) * base)-pq (ie ds a):=dZ _ (by omega)
      rw [H,I]
      have g:=q.out
      go_round
      case rel=>exact ⟨a+1,by omega,by go_num,congrArg (fK eN) (by omega),by omega⟩
      case measure=>simp [intOf];omega
    ·have E:=zq (show ds.take a=ds from List.take_of_length_le (by have:=c.out;omega))
     rw [E.out] at l |-
     go_wp2
     go_ret2
     refine ⟨uV ?_,rfl⟩
     unfold oe og
     rw [if_pos l,if_pos l]
     rfl
theorem hJ (b:Nat) (s:ByteArray) (tab:Int->Int) (d i a:Int) (w:aj) (h:Lex w b s tab d) (f:0<=i) :
  aG ah 150 #[ax (some ⟨b,0,none⟩),ab ae i,ab ae a] w fun e w'=>e=av (ab ae (i+bW (bY a) ((cD tab s.data.toList).drop i.toNat)))/\ay w.heap.size w w':=by
 have c:=(ak w.heap.size w).alloc (ag _) (.cells #[ab ae a] 3)
 have L:=zq (h.below c h.lt)
 clear h
 go_enter Tryz.func150,Tryz.ntmps150
 go_wp2_with fail
 refine (Gw b s tab d i a w.heap.size _ L.out f (by simp) (by simp)).mono ?_;rintro e j ⟨rfl,g⟩
 go_wp2_with fail
 go_ret
 exact ⟨cT rfl,c.trans (g.mono (by simp))⟩
theorem EC (a:Int) (ds:List UInt8) (h:cL a ds<=9223372036854775808):oe a ds=-(cL a ds:Int)/\og a ds=0:=by unfold oe og;rw [if_pos h,if_pos h];exact ⟨rfl,rfl⟩
theorem ED (a:Int) (ds:List UInt8) (h:¬cL a ds<=9223372036854775808):oe a ds=0/\og a ds=10:=by unfold oe og;rw [if_neg h,if_neg h];exact ⟨rfl,rfl⟩
theorem jp (b:Nat) (s:ByteArray) (tab:Int->Int) (p a c:Int) (t:List UInt8) (w:aj) (h:Lex w b s tab p) (n:0<t.length) (o:t.length<=16384) (l:2<=a) (m:a<=36)
  (r:∀k,k<t.length->pq (ie t k)<a) :
  aG ah 151 #[ax (some ⟨b,0,none⟩),.string ⟨t.toArray⟩,ab ae a,ab ae c] w fun e w'=>fR (intR a t p c) e/\ay w.heap.size w w':=by
 have y:=Held.start h
 have D:=h.lt
 have A:=h.ca
 clear h
 have j:=zq r
 clear r
 by_cases f:cL a t<=9223372036854775808
 ·have d:=zq (EC a t f)
  by_cases i:cL a t=9223372036854775808
  ·have g:=zq (show intR a t p c=⟨4,[],-9223372036854775808,p,c,0⟩ by unfold intR;rw [if_pos f,if_pos i])
   have x:=zq i
   clear f i
   go_enter Tryz.func151,Tryz.ntmps151
   go_wp2_with fail
   refine (ow _ a t _ (by simp) n o l m j.out).mono ?_;rintro e u ⟨rfl,rfl⟩;rw [d.out.1,d.out.2,x.out]
   go_wp2_with fail
   refine aw (v:=bN ⟨4,[],-9223372036854775808,p,c,0⟩) (by simp [bN,results,Tryz.results151,go_sem]) rfl ⟨?_,(ak _ _).alloc (ag _) _⟩
   rw [g.out];rfl
  ·have g:=zq (show intR a t p c=⟨4,[],cL a t,p,c,0⟩ by unfold intR;rw [if_pos f,if_neg i])
   have B:((-(cL a t:Int)) == -9223372036854775808)=false:=by simp;omega
   have C:((-(cL a t:Int)) != -9223372036854775808)=true:=by simp;omega
   have E:(cL a t:Int)<=9223372036854775807:=by omega
   clear i
   generalize q:cL a t=N at *
   have z:=zq q
   clear q
   go_enter Tryz.func151,Tryz.ntmps151
   go_wp2_with fail
   refine (ow _ a t _ (by simp) n o l m j.out).mono ?_;rintro e u ⟨rfl,rfl⟩;rw [d.out.1,d.out.2]
   go_wp2_with fail
   refine aw (v:=bN ⟨4,[],(N:Int),p,c,0⟩) (by simp [bN,results,Tryz.results151,go_sem]) rfl ⟨?_,(ak _ _).alloc (ag _) _⟩
   rw [g.out];rfl
 ·have d:=zq (ED a t f)
  have g:=zq (show intR a t p c=dD 7 by unfold intR;rw [if_neg f])
  clear f
  go_enter Tryz.func151,Tryz.ntmps151
  go_wp2_with fail
  refine (ow _ a t _ (by simp) n o l m j.out).mono ?_;rintro e u ⟨rfl,rfl⟩;rw [d.out.1,d.out.2]
  go_wp2_with fail
  refine aw (v:=bN (dD 7)) (by simp [bN,dD,results,Tryz.results151,go_sem]) rfl ⟨?_,(ak _ _).alloc (ag _) _⟩
  rw [g.out];rfl
def QRes (r:Option (Int×Nat)) (i:Int) (e:Ending):Prop :=
 match r with
 | some (c,k)=>e=av (aF #[ab ae c,ab ae (i+k),.bool true])
 | none=>∃c n,e=av (aF #[ab ae c,ab ae n,.bool false])
theorem QRes.no {r:Option (Int×Nat)} {i c n:Int} (h:r=none):QRes r i (av (aF #[ab ae c,ab ae n,.bool false])):=by subst h;exact ⟨c,n,rfl⟩
theorem QRes.yes {r:Option (Int×Nat)} {i c n:Int} {k:Nat} (h:r=some (c,k)) (a:n=i+k):QRes r i (av (aF #[ab ae c,ab ae n,.bool true])):=by subst h;subst a;rfl
theorem eE (b:Nat) (s:ByteArray) (tab:Int->Int) (b0 i q:Int) (w:aj) (h:Lex w b s tab b0) (h0:0<=i) (hi:i<=20000) :
  aG ah 149 #[ax (some ⟨b,0,none⟩),ab ae i,ab ae q] w fun e w'=>QRes (cy (s.data.toList.drop i.toNat) q) i e/\w=w':=by
 obtain ⟨k,rfl⟩:=Int.eq_ofNat_of_zero_le h0
 have L:=zq h
 clear h
 rw [aD]
 have r0:au (s.data.toList.drop k) 0=au s.data.toList k:=by rw [bT,bq]
 have r1:au (s.data.toList.drop k) 1=au s.data.toList (k+1):=bT _ _ _
 have J:=zq r0
 have R:=zq r1
 clear r0 r1
 generalize hM:s.data.toList=M at *
 have d:=zq hM
 clear hM
 by_cases G:au M k<0\/au M k=10
 ·have f:=zq (show cy (M.drop k) q=none by unfold cy;rw [J.out,if_pos G])
  have hd:decide (au M k<0)=true\/(decide (au M k<0)=false/\(au M k==10)=true):=by grind
  clear G
  rcases hd with d1 | ⟨d1,d2⟩
  all_goals
   go_enter Tryz.func149,Tryz.ntmps149
   go_wp2_with fail
   refine (bB _ _ _ _ _ _ L.out (by omega)).mono ?_;rintro e a ⟨rfl,rfl⟩;rw [aD,d.out]
   go_wp2_with fail
   go_ret3
   exact ⟨QRes.no f.out,rfl⟩
 have d1:decide (au M k<0)=false:=by simp;omega
 have d2:(au M k==10)=false:=by simp;omega
 by_cases H:au M k=q
 ·have b2:(au M k==q)=true:=by simp [H]
  have U:=zq G
  have O:=zq H
  clear G H
  by_cases r:au M (k+1)=q
  ·have b3:(au M (k+1)==q)=true:=by simp [r]
   have f:=zq (show cy (M.drop k) q=some (q,2) by unfold cy;rw [J.out,R.out,if_neg U.out,if_pos O.out,if_pos r])
   clear r
   go_enter Tryz.func149,Tryz.ntmps149
   go_wp2_with fail
   refine (bB _ _ _ _ _ _ L.out (by omega)).mono ?_;rintro e a ⟨rfl,rfl⟩;rw [aD,d.out]
   go_wp2_with fail
   refine (bB _ _ _ _ _ _ L.out (by omega)).mono ?_;rintro e a ⟨rfl,rfl⟩;rw [show ((k:Int)+1).toNat=k+1 by omega,d.out]
   go_wp2_with fail
   go_ret3
   exact ⟨QRes.yes (f.out.trans (by rw [O.out])) rfl,rfl⟩
  ·have b3:(au M (k+1)==q)=false:=by simp [r]
   have f:=zq (show cy (M.drop k) q=none by unfold cy;rw [J.out,R.out,if_neg U.out,if_pos O.out,if_neg r])
   clear r
   go_enter Tryz.func149,Tryz.ntmps149
   go_wp2_with fail
   refine (bB _ _ _ _ _ _ L.out (by omega)).mono ?_;rintro e a ⟨rfl,rfl⟩;rw [aD,d.out]
   go_wp2_with fail
   refine (bB _ _ _ _ _ _ L.out (by omega)).mono ?_;rintro e a ⟨rfl,rfl⟩;rw [show ((k:Int)+1).toNat=k+1 by omega,d.out]
   go_wp2_with fail
   go_ret3
   exact ⟨QRes.no f.out,rfl⟩
 have b2:(au M k==q)=false:=by simp [H]
 by_cases r:au M k=92
 ·have b3:(au M k != 92)=false:=by simp [r]
  have U:=zq G
  have O:=zq H
  have A3:=zq r
  clear G H r
  cases a4:kX (au M (k+1))
  ·have P:=zq a4
   clear a4
   have HF:∃o:Nat,∃y:Int,Hid (eS (M.drop k)=o)/\Hid (jE (M.drop k)=y)/\(((au M (k+1)==120)=true/\o=2/\y=16)\/((au M (k+1)==120)=false/\o=1/\y=8)):=by
    refine ⟨_,_,rfl,rfl,?_⟩
    unfold eS jE;rw [R.out]
    by_cases h:au M (k+1)=120 <;> simp [h]
   obtain ⟨o,y,E,a8,b1⟩:=HF
   have b7:2<=y/\y<=36:=by omega
   have b8:1<=o/\o<=2:=by omega
   have u:Hid (fv (M.drop k)=bW (bY y) (M.drop (k+o))):=by show _=_;unfold fv;rw [E.out,a8.out,cI]
   have F:Hid (iU (M.drop k)=cL y ((M.drop (k+o)).take (bW (bY y) (M.drop (k+o))))):=by show _=_;unfold iU;rw [u.out,E.out,a8.out,cI]
   have W:Hid (∀j,au (M.drop k) (o+j)=au M (k+o+j)):=fun j=>by rw [bT,Nat.add_assoc]
   generalize a9:bW (bY y) (M.drop (k+o))=D at *
   have I:=zq a9
   clear a9
   have A:Hid (au (M.drop k) 0=92):=J.out.trans A3.out
   have B:Hid (¬au (M.drop k) 0=q):=fun h=>O.out (J.out.symm.trans h)
   have C:Hid (kX (au (M.drop k) 1)=false):=by show _=_;rw [R.out];exact P.out
   have b6:D<=20000:=by
    have l:=fD (bY y) (M.drop (k+o));rw [I.out] at l
    have X:M.length<=16384:=by rw [<-d.out];have:=L.out.sz;simp;omega
    have h3:(M.drop (k+o)).length<=M.length:=by simp
    omega
   rcases b1 with ⟨x1,rfl,rfl⟩ | ⟨x1,rfl,rfl⟩
   ·have a5:=W
    clear W
    go_enter Tryz.func149,Tryz.ntmps149
    go_wp2_with fail
    refine (bB _ _ _ _ _ _ L.out (by omega)).mono ?_;rintro e a ⟨rfl,rfl⟩;rw [aD,d.out]
    go_wp2_with fail
    refine (bB _ _ _ _ _ _ L.out (by omega)).mono ?_;rintro e a ⟨rfl,rfl⟩;rw [show ((k:Int)+1).toNat=k+1 by omega,d.out]
    go_wp2_with fail
    refine (kR _ _).mono ?_;rintro e a ⟨rfl,rfl⟩;rw [P.out]
    go_wp2_with fail
    go_loop [14,15] (fun n e=>∃j:Nat,j<=D/\e=ab ae (k+2+j:Nat)/\n=ab ae (cL 16 ((M.drop (k+2)).take j))/\cL 16 ((M.drop (k+2)).take j)<=5000) (fun _ e=>k+2+D-(intOf e).toNat)
    case atStart=>exact ⟨0,bj _,by go_num,rfl,by simp [cL]⟩
    case round=>
     obtain ⟨j,hj,rfl,rfl,hn⟩:=hrel
     have Y:=zq (oq 16 (by decide) ((M.drop (k+2)).take D) j)
     have a0:=zq (show ((M.drop (k+2)).take D).take j=(M.drop (k+2)).take j by rw [List.take_take,Nat.min_eq_left hj])
     by_cases T:j<D
     ·have x:=zq (sk 16 (by decide) (by decide) (M.drop (k+2)) j (by rw [I.out];exact T))
      have Z:=zq (bT M (k+2) j)
      have g:=zq ((lB (bY 16) (M.drop (k+2)) j (by rw [I.out];exact T)).1)
      rw [Z.out] at x g
      have b4:=x.out.2.1
      have b5:=x.out.2.2
      have Q:=zq x.out.1
      clear x
      by_cases z:cL 16 ((M.drop (k+2)).take j)<=255
      ·generalize c:cL 16 ((M.drop (k+2)).take j)=N at *
       have v:=zq c
       clear c
       go_wp2_with fail
       refine (bB _ _ _ _ _ _ L.out (by omega)).mono ?_;rintro e a ⟨rfl,rfl⟩;rw [show ((k:Int)+2+j).toNat=k+2+j by omega,d.out]
       go_wp2_with fail
       refine (ev _ _ _).mono ?_;rintro e a ⟨rfl,rfl⟩;rw [show gG (au M (k+2+j)) 16=true from g.out]
       generalize S:nL (au M (k+2+j)) 16=V at *
       have HV:=zq S
       clear S
       go_wp2_with fail
       go_round
       case rel=>exact ⟨j+1,by omega,by go_num,congrArg (fK eN) Q.out.symm,by have:=Q.out;omega⟩
       case measure=>simp [intOf];omega
      ·have f:=zq (jt (M.drop k) q A.out B.out C.out (fun m=>z (by
        have l:=m.2.1
        rw [F.out] at l
        have X:=Y.out
        rw [a0.out] at X
        omega)))
       have K:0<j:=by
        rcases im j with h | h
        ·subst h;exact absurd (by simp [cL]) z
        ·exact h
       generalize c:cL 16 ((M.drop (k+2)).take j)=N at *
       have v:=zq c
       clear c
       go_wp2_with fail
       refine (bB _ _ _ _ _ _ L.out (by omega)).mono ?_;rintro e a ⟨rfl,rfl⟩;rw [show ((k:Int)+2+j).toNat=k+2+j by omega,d.out]
       go_wp2_with fail
       refine (ev _ _ _).mono ?_;rintro e a ⟨rfl,rfl⟩;rw [show gG (au M (k+2+j)) 16=true from g.out]
       go_wp2_with fail
       go_ret3
       exact ⟨QRes.no f.out,rfl⟩
     ·obtain rfl:j=D:=by omega
      have g:=zq (pL (bY 16) (qa 16) (M.drop (k+2)))
      rw [I.out,bT] at g
      by_cases K:0<j
      ·by_cases z:cL 16 ((M.drop (k+2)).take j)<=255
       ·have p:=a5.out j
        by_cases t:au M (k+2+j)=92
        ·have a7:(au M (k+2+j)==92)=true:=by simp [t]
         have f:=zq (uq (M.drop k) q A.out B.out C.out ⟨by rw [u.out];exact K,by rw [F.out];exact z,by rw [E.out,u.out,p,t]⟩)
         have a6:=zq p
         clear t p
         generalize c:cL 16 ((M.drop (k+2)).take j)=N at *
         have v:=zq c
         clear c
         go_wp2_with fail
         refine (bB _ _ _ _ _ _ L.out (by omega)).mono ?_;rintro e a ⟨rfl,rfl⟩;rw [show ((k:Int)+2+j).toNat=k+2+j by omega,d.out]
         go_wp2_with fail
         refine (ev _ _ _).mono ?_;rintro e a ⟨rfl,rfl⟩;rw [show gG (au M (k+2+j)) 16=false from g.out]
         go_wp2_with fail
         refine (bB _ _ _ _ _ _ L.out (by omega)).mono ?_;rintro e a ⟨rfl,rfl⟩;rw [show ((k:Int)+2+j).toNat=k+2+j by omega,d.out]
         go_wp2_with fail
         go_ret3
         exact ⟨QRes.yes (f.out.trans (by rw [F.out,E.out,u.out])) (by omega),rfl⟩
        ·have a7:(au M (k+2+j)==92)=false:=by simp [t]
         have f:=zq (jt (M.drop k) q A.out B.out C.out (fun m=>t (by have:=m.2.2;rw [E.out,u.out,p] at this;exact this)))
         have a6:=zq p
         clear t p
         generalize c:cL 16 ((M.drop (k+2)).take j)=N at *
         have v:=zq c
         clear c
         go_wp2_with fail
         refine (bB _ _ _ _ _ _ L.out (by omega)).mono ?_;rintro e a ⟨rfl,rfl⟩;rw [show ((k:Int)+2+j).toNat=k+2+j by omega,d.out]
         go_wp2_with fail
         refine (ev _ _ _).mono ?_;rintro e a ⟨rfl,rfl⟩;rw [show gG (au M (k+2+j)) 16=false from g.out]
         go_wp2_with fail
         refine (bB _ _ _ _ _ _ L.out (by omega)).mono ?_;rintro e a ⟨rfl,rfl⟩;rw [show ((k:Int)+2+j).toNat=k+2+j by omega,d.out]
         go_wp2_with fail
         go_ret3
         exact ⟨QRes.no f.out,rfl⟩
       ·have f:=zq (jt (M.drop k) q A.out B.out C.out (fun m=>z (by have l:=m.2.1;rw [F.out] at l;exact l)))
        generalize c:cL 16 ((M.drop (k+2)).take j)=N at *
        have v:=zq c
        clear c
        go_wp2_with fail
        refine (bB _ _ _ _ _ _ L.out (by omega)).mono ?_;rintro e a ⟨rfl,rfl⟩;rw [show ((k:Int)+2+j).toNat=k+2+j by omega,d.out]
        go_wp2_with fail
        refine (ev _ _ _).mono ?_;rintro e a ⟨rfl,rfl⟩;rw [show gG (au M (k+2+j)) 16=false from g.out]
        go_wp2_with fail
        go_ret3
        exact ⟨QRes.no f.out,rfl⟩
      ·have f:=zq (jt (M.drop k) q A.out B.out C.out (fun m=>K (by have l:=m.1;rw [u.out] at l;exact l)))
       generalize c:cL 16 ((M.drop (k+2)).take j)=N at *
       have v:=zq c
       clear c
       go_wp2_with fail
       refine (bB _ _ _ _ _ _ L.out (by omega)).mono ?_;rintro e a ⟨rfl,rfl⟩;rw [show ((k:Int)+2+j).toNat=k+2+j by omega,d.out]
       go_wp2_with fail
       refine (ev _ _ _).mono ?_;rintro e a ⟨rfl,rfl⟩;rw [show gG (au M (k+2+j)) 16=false from g.out]
       go_wp2_with fail
       go_ret3
       exact ⟨QRes.no f.out,rfl⟩
   ·have a5:=W
    clear W
    go_enter Tryz.func149,Tryz.ntmps149
    go_wp2_with fail
    refine (bB _ _ _ _ _ _ L.out (by omega)).mono ?_;rintro e a ⟨rfl,rfl⟩;rw [aD,d.out]
    go_wp2_with fail
    refine (bB _ _ _ _ _ _ L.out (by omega)).mono ?_;rintro e a ⟨rfl,rfl⟩;rw [show ((k:Int)+1).toNat=k+1 by omega,d.out]
    go_wp2_with fail
    refine (kR _ _).mono ?_;rintro e a ⟨rfl,rfl⟩;rw [P.out]
    go_wp2_with fail
    go_loop [14,15] (fun n e=>∃j:Nat,j<=D/\e=ab ae (k+1+j:Nat)/\n=ab ae (cL 8 ((M.drop (k+1)).take j))/\cL 8 ((M.drop (k+1)).take j)<=5000) (fun _ e=>k+1+D-(intOf e).toNat)
    case atStart=>exact ⟨0,bj _,by go_num,rfl,by simp [cL]⟩
    case round=>
     obtain ⟨j,hj,rfl,rfl,hn⟩:=hrel
     have Y:=zq (oq 8 (by decide) ((M.drop (k+1)).take D) j)
     have a0:=zq (show ((M.drop (k+1)).take D).take j=(M.drop (k+1)).take j by rw [List.take_take,Nat.min_eq_left hj])
     by_cases T:j<D
     ·have x:=zq (sk 8 (by decide) (by decide) (M.drop (k+1)) j (by rw [I.out];exact T))
      have Z:=zq (bT M (k+1) j)
      have g:=zq ((lB (bY 8) (M.drop (k+1)) j (by rw [I.out];exact T)).1)
      rw [Z.out] at x g
      have b4:=x.out.2.1
      have b5:=x.out.2.2
      have Q:=zq x.out.1
      clear x
      by_cases z:cL 8 ((M.drop (k+1)).take j)<=255
      ·generalize c:cL 8 ((M.drop (k+1)).take j)=N at *
       have v:=zq c
       clear c
       go_wp2_with fail
       refine (bB _ _ _ _ _ _ L.out (by omega)).mono ?_;rintro e a ⟨rfl,rfl⟩;rw [show ((k:Int)+1+j).toNat=k+1+j by omega,d.out]
       go_wp2_with fail
       refine (ev _ _ _).mono ?_;rintro e a ⟨rfl,rfl⟩;rw [show gG (au M (k+1+j)) 8=true from g.out]
       generalize S:nL (au M (k+1+j)) 8=V at *
       have HV:=zq S
       clear S
       go_wp2_with fail
       go_round
       case rel=>exact ⟨j+1,by omega,by go_num,congrArg (fK eN) Q.out.symm,by have:=Q.out;omega⟩
       case measure=>simp [intOf];omega
      ·have f:=zq (jt (M.drop k) q A.out B.out C.out (fun m=>z (by
        have l:=m.2.1
        rw [F.out] at l
        have X:=Y.out
        rw [a0.out] at X
        omega)))
       have K:0<j:=by
        rcases im j with h | h
        ·subst h;exact absurd (by simp [cL]) z
        ·exact h
       generalize c:cL 8 ((M.drop (k+1)).take j)=N at *
       have v:=zq c
       clear c
       go_wp2_with fail
       refine (bB _ _ _ _ _ _ L.out (by omega)).mono ?_;rintro e a ⟨rfl,rfl⟩;rw [show ((k:Int)+1+j).toNat=k+1+j by omega,d.out]
       go_wp2_with fail
       refine (ev _ _ _).mono ?_;rintro e a ⟨rfl,rfl⟩;rw [show gG (au M (k+1+j)) 8=true from g.out]
       go_wp2_with fail
       go_ret3
       exact ⟨QRes.no f.out,rfl⟩
     ·obtain rfl:j=D:=by omega
      have g:=zq (pL (bY 8) (qa 8) (M.drop (k+1)))
      rw [I.out,bT] at g
      by_cases K:0<j
      ·by_cases z:cL 8 ((M.drop (k+1)).take j)<=255
       ·have p:=a5.out j
        by_cases t:au M (k+1+j)=92
        ·have a7:(au M (k+1+j)==92)=true:=by simp [t]
         have f:=zq (uq (M.drop k) q A.out B.out C.out ⟨by rw [u.out];exact K,by rw [F.out];exact z,by rw [E.out,u.out,p,t]⟩)
         have a6:=zq p
         clear t p
         generalize c:cL 8 ((M.drop (k+1)).take j)=N at *
         have v:=zq c
         clear c
         go_wp2_with fail
         refine (bB _ _ _ _ _ _ L.out (by omega)).mono ?_;rintro e a ⟨rfl,rfl⟩;rw [show ((k:Int)+1+j).toNat=k+1+j by omega,d.out]
         go_wp2_with fail
         refine (ev _ _ _).mono ?_;rintro e a ⟨rfl,rfl⟩;rw [show gG (au M (k+1+j)) 8=false from g.out]
         go_wp2_with fail
         refine (bB _ _ _ _ _ _ L.out (by omega)).mono ?_;rintro e a ⟨rfl,rfl⟩;rw [show ((k:Int)+1+j).toNat=k+1+j by omega,d.out]
         go_wp2_with fail
         go_ret3
         exact ⟨QRes.yes (f.out.trans (by rw [F.out,E.out,u.out])) (by omega),rfl⟩
        ·have a7:(au M (k+1+j)==92)=false:=by simp [t]
         have f:=zq (jt (M.drop k) q A.out B.out C.out (fun m=>t (by have:=m.2.2;rw [E.out,u.out,p] at this;exact this)))
         have a6:=zq p
         clear t p
         generalize c:cL 8 ((M.drop (k+1)).take j)=N at *
         have v:=zq c
         clear c
         go_wp2_with fail
         refine (bB _ _ _ _ _ _ L.out (by omega)).mono ?_;rintro e a ⟨rfl,rfl⟩;rw [show ((k:Int)+1+j).toNat=k+1+j by omega,d.out]
         go_wp2_with fail
         refine (ev _ _ _).mono ?_;rintro e a ⟨rfl,rfl⟩;rw [show gG (au M (k+1+j)) 8=false from g.out]
         go_wp2_with fail
         refine (bB _ _ _ _ _ _ L.out (by omega)).mono ?_;rintro e a ⟨rfl,rfl⟩;rw [show ((k:Int)+1+j).toNat=k+1+j by omega,d.out]
         go_wp2_with fail
         go_ret3
         exact ⟨QRes.no f.out,rfl⟩
       ·have f:=zq (jt (M.drop k) q A.out B.out C.out (fun m=>z (by have l:=m.2.1;rw [F.out] at l;exact l)))
        generalize c:cL 8 ((M.drop (k+1)).take j)=N at *
        have v:=zq c
        clear c
        go_wp2_with fail
        refine (bB _ _ _ _ _ _ L.out (by omega)).mono ?_;rintro e a ⟨rfl,rfl⟩;rw [show ((k:Int)+1+j).toNat=k+1+j by omega,d.out]
        go_wp2_with fail
        refine (ev _ _ _).mono ?_;rintro e a ⟨rfl,rfl⟩;rw [show gG (au M (k+1+j)) 8=false from g.out]
        go_wp2_with fail
        go_ret3
        exact ⟨QRes.no f.out,rfl⟩
      ·have f:=zq (jt (M.drop k) q A.out B.out C.out (fun m=>K (by have l:=m.1;rw [u.out] at l;exact l)))
       generalize c:cL 8 ((M.drop (k+1)).take j)=N at *
       have v:=zq c
       clear c
       go_wp2_with fail
       refine (bB _ _ _ _ _ _ L.out (by omega)).mono ?_;rintro e a ⟨rfl,rfl⟩;rw [show ((k:Int)+1+j).toNat=k+1+j by omega,d.out]
       go_wp2_with fail
       refine (ev _ _ _).mono ?_;rintro e a ⟨rfl,rfl⟩;rw [show gG (au M (k+1+j)) 8=false from g.out]
       go_wp2_with fail
       go_ret3
       exact ⟨QRes.no f.out,rfl⟩
  ·have P:=zq a4
   have f:=zq (show cy (M.drop k) q=some (ts (au M (k+1)),2) by unfold cy;rw [J.out,R.out,if_neg U.out,if_neg O.out,if_neg (fun h=>h A3.out),if_pos a4])
   clear a4
   go_enter Tryz.func149,Tryz.ntmps149
   go_wp2_with fail
   refine (bB _ _ _ _ _ _ L.out (by omega)).mono ?_;rintro e a ⟨rfl,rfl⟩;rw [aD,d.out]
   go_wp2_with fail
   refine (bB _ _ _ _ _ _ L.out (by omega)).mono ?_;rintro e a ⟨rfl,rfl⟩;rw [show ((k:Int)+1).toNat=k+1 by omega,d.out]
   go_wp2_with fail
   refine (kR _ _).mono ?_;rintro e a ⟨rfl,rfl⟩;rw [P.out]
   go_wp2_with fail
   go_ret3
   exact ⟨QRes.yes f.out rfl,rfl⟩
 ·have b3:(au M k != 92)=true:=by simp [r]
  have f:=zq (show cy (M.drop k) q=some (au M k,1) by unfold cy;rw [J.out,if_neg G,if_neg H,if_pos r])
  clear G H r
  go_enter Tryz.func149,Tryz.ntmps149
  go_wp2_with fail
  refine (bB _ _ _ _ _ _ L.out (by omega)).mono ?_;rintro e a ⟨rfl,rfl⟩;rw [aD,d.out]
  go_wp2_with fail
  go_ret3
  exact ⟨QRes.yes f.out rfl,rfl⟩
theorem Be (c n:Int) (h:n=(if c=120 then 16 else if c=111 then 8 else if c=98 then 2 else 0)):((c==120)=true/\n=16)\/((c==120)=false/\(c==111)=true/\n=8)\/((c==120)=false/\(c==111)=false/\(c==98)=true/\n=2)\/((c==120)=false/\(c==111)=false/\(c==98)=false/\n=0):=by
 by_cases a:c=120
 ·left;simp [a] at h |-;exact h
 by_cases b:c=111
 ·right;left;simp [b] at h |-;exact h
 by_cases d:c=98
 ·right;right;left;simp [d] at h |-;exact h
 ·right;right;right;simp [a,b,d] at h |-;exact h
theorem FL (l:List UInt8) (n k:Nat) (h:k<n):ie (l.take n) k=ie l k:=by
 unfold ie;simp only [List.getD_eq_getElem?_getD,List.getElem?_take_of_lt h]
theorem kC (base:Int) (c:2<=base) (d:base<=36) (l:List UInt8) (k:Nat) (e:k<(l.take (bW (bY base) l)).length):pq (ie (l.take (bW (bY base) l)) k)<base:=by
 have b:k<bW (bY base) l:=by simp at e;omega
 obtain ⟨a,f⟩:=lB _ _ _ b
 rw [eU _ _ f] at a
 unfold bY at a
 rw [kD _ _ c d] at a
 rw [FL _ _ _ b]
 simpa using a
theorem jS (a:Int) (l:List UInt8):(l.take (bW (bY a) l)).length=bW (bY a) l:=by
 have:=fD (bY a) l
 rw [List.length_take,Nat.min_eq_left this]
theorem zw (b:Nat) (s:ByteArray) (tab:Int->Int) (p:Nat) (w:aj) (h:Lex w b s tab p) (hp:p<s.size) (a7:bY 10 (au (cD tab s.data.toList) p)=true) :
  aG ah 106 #[ax (some ⟨b,0,none⟩)] w fun e w'=>fR (jh (cD tab s.data.toList) s.data.toList p) e/\ay w.heap.size w w':=by
 have m:=Held.start h
 have a9:=h.lt
 have ca:=h.ca
 have b3:=h.sz
 clear h
 have Y:Hid ((cD tab s.data.toList).length=s.size):=by show _=_;rw [dx];simp
 generalize hM:cD tab s.data.toList=M at *
 have g:=zq hM
 clear hM
 have b0:1<=bW (bY 10) (M.drop p):=kH _ _ (by simp;have:=Y.out;omega) (by rw [bT,bq];exact a7)
 clear a7
 by_cases L:au M p=48
 ·have b1:(au M p==48)=true:=by simp [L]
  by_cases T:au M (p+1)=39
  ·have b2:(au M (p+1)==39)=true:=by simp [T]
   cases hq:cy (s.data.toList.drop (p+2)) 39 with
   | none=>
    have N:=zq (show jh M s.data.toList p=dD 7 by unfold jh;rw [if_pos ⟨L,T⟩,hq])
    have HQ:=zq hq
    clear L T hq
    go_enter il,gD
    go_wp2_with fail
    refine (bf _ _ _ _ _ _ m.lex (by omega)).mono ?_;rintro e w1 ⟨rfl,q⟩;rw [aD,g.out]
    have a:=Held.call q m
    have K:=a.lex.ca
    go_wp2_with fail
    refine (bf _ _ _ _ _ _ a.lex (by omega)).mono ?_;rintro e w2 ⟨rfl,t⟩;rw [show ((p:Int)+1).toNat=p+1 by omega,g.out]
    have d:=Held.call t a
    have U:=d.lex.ca
    clear q t a K m
    go_wp2_with fail
    refine (eE _ _ _ _ _ _ _ d.lex (by omega) (by omega)).mono ?_;rintro e w3 ⟨f,rfl⟩;rw [show ((p:Int)+2).toNat=p+2 by omega,HQ.out] at f
    obtain ⟨x,y,rfl⟩:=f
    obtain ⟨t6,v0,v1,v2,v3,v4,v5,E,F,G,H,I,J⟩:=d.tok
    have Z:=d.lt
    go_wp2_with fail
    refine aw (v:=bN (dD 7)) (by simp [bN,dD,results,fz,go_sem,E,F,G,H,I,J]) rfl ⟨?_,(d.sets _ _ _ _ _ _).bel⟩
    rw [N.out];rfl
   | some ck=>
    obtain ⟨c,k⟩:=ck
    have N:=zq (show jh M s.data.toList p=⟨4,[],c,p,p+2+k,0⟩ by unfold jh;rw [if_pos ⟨L,T⟩,hq])
    have HQ:=zq hq
    clear L T hq
    go_enter il,gD
    go_wp2_with fail
    refine (bf _ _ _ _ _ _ m.lex (by omega)).mono ?_;rintro e w1 ⟨rfl,q⟩;rw [aD,g.out]
    have a:=Held.call q m
    have K:=a.lex.ca
    go_wp2_with fail
    refine (bf _ _ _ _ _ _ a.lex (by omega)).mono ?_;rintro e w2 ⟨rfl,t⟩;rw [show ((p:Int)+1).toNat=p+1 by omega,g.out]
    have d:=Held.call t a
    have U:=d.lex.ca
    clear q t a K m
    go_wp2_with fail
    refine (eE _ _ _ _ _ _ _ d.lex (by omega) (by omega)).mono ?_;rintro e w3 ⟨f,rfl⟩;rw [show ((p:Int)+2).toNat=p+2 by omega,HQ.out] at f
    unfold QRes at f
    simp only [] at f
    subst f
    obtain ⟨t6,v0,v1,v2,v3,v4,v5,E,F,G,H,I,J⟩:=d.tok
    have Z:=d.lt
    go_wp2_with fail
    refine aw (v:=bN ⟨4,[],c,p,p+2+k,0⟩) (by simp [bN,results,fz,go_sem,E,F,G,H,I,J]) rfl ⟨?_,(d.sets _ _ _ _ _ _).bel⟩
    rw [N.out];rfl
  ·have b2:(au M (p+1)==39)=false:=by simp [T]
   by_cases X:0<cd M p/\0<bW (bY (cd M p)) (M.drop (p+2))
   ·have N:=zq (show jh M s.data.toList p=intR (cd M p) ((M.drop (p+2)).take (bW (bY (cd M p)) (M.drop (p+2)))) p (p+2+bW (bY (cd M p)) (M.drop (p+2))) by unfold jh;rw [if_neg (fun h=>T h.2),if_pos X])
    have HN:=zq (show cd M p=(if au M (p+1)=120 then 16 else if au M (p+1)=111 then 8 else if au M (p+1)=98 then 2 else 0) by unfold cd;rw [if_pos L])
    have a5:((au M (p+1)==120)=true/\cd M p=16)\/((au M (p+1)==120)=false/\(au M (p+1)==111)=true/\cd M p=8)\/((au M (p+1)==120)=false/\(au M (p+1)==111)=false/\(au M (p+1)==98)=true/\cd M p=2):=by
     have h2:=X.1
     rcases Be _ _ HN.out with h | h | h | h
     ·exact .inl h
     ·exact .inr (.inl h)
     ·exact .inr (.inr h)
     ·exact absurd h.2.2.2 (by omega)
    have h3:=X.2
    clear L T X HN
    have a6:2<=cd M p/\cd M p<=36:=by omega
    generalize a4:cd M p=bs at *
    have a8:=zq a4
    clear a4
    have S:=fD (bY bs) (M.drop (p+2))
    rw [aI,Y.out] at S
    have u:=zq (jS bs (M.drop (p+2)))
    have P:=zq (kC bs a6.1 a6.2 (M.drop (p+2)))
    generalize B:bW (bY bs) (M.drop (p+2))=D at *
    have O:=zq B
    clear B
    rcases a5 with ⟨x1,rfl⟩ | ⟨x1,x2,rfl⟩ | ⟨x1,x2,x3,rfl⟩
    all_goals
     go_enter il,gD
     go_wp2_with fail
     refine (bf _ _ _ _ _ _ m.lex (by omega)).mono ?_;rintro e w1 ⟨rfl,q⟩;rw [aD,g.out]
     have a:=Held.call q m
     have K:=a.lex.ca
     go_wp2_with fail
     refine (bf _ _ _ _ _ _ a.lex (by omega)).mono ?_;rintro e w2 ⟨rfl,t⟩;rw [show ((p:Int)+1).toNat=p+1 by omega,g.out]
     have d:=Held.call t a
     have U:=d.lex.ca
     clear q t a K m
     go_wp2_with fail
     refine (hJ _ _ _ _ _ _ _ d.lex (by omega)).mono ?_;rintro e W ⟨rfl,l⟩;rw [show ((p:Int)+2).toNat=p+2 by omega,g.out,O.out]
     have i:=Held.call l d
     have R:=i.lex.ca
     go_wp2_with fail
     refine (iW _ _ _ _ _ _ _ i.lex (by omega) (by omega) (by omega)).mono ?_;rintro e wB ⟨rfl,z⟩;rw [show ((p:Int)+2).toNat=p+2 by omega,g.out,show ((p:Int)+2+D-(p+2)).toNat=D by omega]
     have n:=Held.call z i
     go_wp2_with fail
     refine (jp _ _ _ _ _ _ _ _ n.lex (by rw [u.out];omega) (by rw [u.out];omega) (by decide) (by decide) P.out).mono ?_;rintro e wC ⟨f,A⟩
     have o:=Held.call A n
     generalize C:intR _ _ _ _=r at f
     have Q:=zq C
     clear C l z A i n d U R
     unfold fR bN at f;subst f
     obtain ⟨t6,v0,v1,v2,v3,v4,v5,E,F,G,H,I,J⟩:=o.tok
     have Z:=o.lt
     go_wp2_with fail
     refine aw (v:=bN r) (by simp [bN,results,fz,go_sem,E,F,G,H,I,J]) rfl ⟨?_,(o.sets _ _ _ _ _ _).bel⟩
     rw [N.out,Q.out];rfl
   ·have N:=zq (show jh M s.data.toList p=intR 10 ((M.drop p).take (bW (bY 10) (M.drop p))) p (p+bW (bY 10) (M.drop p)) by unfold jh;rw [if_neg (fun h=>T h.2),if_neg X])
    have HN:=zq (show cd M p=(if au M (p+1)=120 then 16 else if au M (p+1)=111 then 8 else if au M (p+1)=98 then 2 else 0) by unfold cd;rw [if_pos L])
    have a5:((au M (p+1)==120)=true/\cd M p=16)\/((au M (p+1)==120)=false/\(au M (p+1)==111)=true/\cd M p=8)\/((au M (p+1)==120)=false/\(au M (p+1)==111)=false/\(au M (p+1)==98)=true/\cd M p=2)\/((au M (p+1)==120)=false/\(au M (p+1)==111)=false/\(au M (p+1)==98)=false/\cd M p=0):=Be _ _ HN.out
    have A3:=zq X
    clear L T X HN
    generalize a4:cd M p=bs at *
    have a8:=zq a4
    clear a4
    rcases a5 with ⟨x1,rfl⟩ | ⟨x1,x2,rfl⟩ | ⟨x1,x2,x3,rfl⟩ | ⟨x1,x2,x3,rfl⟩
    ·have a0:=zq (show bW (bY 16) (M.drop (p+2))=0 by have:=A3.out;omega)
     go_enter il,gD
     go_wp2_with fail
     refine (bf _ _ _ _ _ _ m.lex (by omega)).mono ?_;rintro e w1 ⟨rfl,q⟩;rw [aD,g.out]
     have a:=Held.call q m
     have K:=a.lex.ca
     go_wp2_with fail
     refine (bf _ _ _ _ _ _ a.lex (by omega)).mono ?_;rintro e w2 ⟨rfl,t⟩;rw [show ((p:Int)+1).toNat=p+1 by omega,g.out]
     have d:=Held.call t a
     have U:=d.lex.ca
     clear q t a K m
     go_wp2_with fail
     refine (hJ _ _ _ _ _ _ _ d.lex (by omega)).mono ?_;rintro e W ⟨rfl,l⟩;rw [show ((p:Int)+2).toNat=p+2 by omega,g.out,show bW (bY 16) (M.drop (p+2))=0 from a0.out]
     have j:=Held.call l d
     clear l d U
     have cm:=j.lex.ca
     go_wp2_with fail
     have S:=fD (bY 10) (M.drop p)
     rw [aI,Y.out] at S
     have u:=zq (jS 10 (M.drop p))
     have P:=zq (kC 10 (by decide) (by decide) (M.drop p))
     have V:=j.lex.ca
     generalize B:bW (bY 10) (M.drop p)=D at *
     have O:=zq B
     clear B
     go_wp2_with fail
     refine (hJ _ _ _ _ _ _ _ j.lex (by omega)).mono ?_;rintro e W ⟨rfl,l⟩;rw [aD,g.out,O.out]
     have i:=Held.call l j
     have R:=i.lex.ca
     go_wp2_with fail
     refine (iW _ _ _ _ _ _ _ i.lex (by omega) (by omega) (by omega)).mono ?_;rintro e wB ⟨rfl,z⟩;rw [aD,g.out,show ((p:Int)+D-p).toNat=D by omega]
     have n:=Held.call z i
     go_wp2_with fail
     refine (jp _ _ _ _ _ _ _ _ n.lex (by rw [u.out];omega) (by rw [u.out];omega) (by decide) (by decide) P.out).mono ?_;rintro e wC ⟨f,A⟩
     have o:=Held.call A n
     generalize C:intR _ _ _ _=r at f
     have Q:=zq C
     clear C l z A i n j V R
     unfold fR bN at f;subst f
     obtain ⟨t6,v0,v1,v2,v3,v4,v5,E,F,G,H,I,J⟩:=o.tok
     have Z:=o.lt
     go_wp2_with fail
     refine aw (v:=bN r) (by simp [bN,results,fz,go_sem,E,F,G,H,I,J]) rfl ⟨?_,(o.sets _ _ _ _ _ _).bel⟩
     rw [N.out,Q.out];rfl
    ·have a0:=zq (show bW (bY 8) (M.drop (p+2))=0 by have:=A3.out;omega)
     go_enter il,gD
     go_wp2_with fail
     refine (bf _ _ _ _ _ _ m.lex (by omega)).mono ?_;rintro e w1 ⟨rfl,q⟩;rw [aD,g.out]
     have a:=Held.call q m
     have K:=a.lex.ca
     go_wp2_with fail
     refine (bf _ _ _ _ _ _ a.lex (by omega)).mono ?_;rintro e w2 ⟨rfl,t⟩;rw [show ((p:Int)+1).toNat=p+1 by omega,g.out]
     have d:=Held.call t a
     have U:=d.lex.ca
     clear q t a K m
     go_wp2_with fail
     refine (hJ _ _ _ _ _ _ _ d.lex (by omega)).mono ?_;rintro e W ⟨rfl,l⟩;rw [show ((p:Int)+2).toNat=p+2 by omega,g.out,show bW (bY 8) (M.drop (p+2))=0 from a0.out]
     have j:=Held.call l d
     clear l d U
     have cm:=j.lex.ca
     go_wp2_with fail
     have S:=fD (bY 10) (M.drop p)
     rw [aI,Y.out] at S
     have u:=zq (jS 10 (M.drop p))
     have P:=zq (kC 10 (by decide) (by decide) (M.drop p))
     have V:=j.lex.ca
     generalize B:bW (bY 10) (M.drop p)=D at *
     have O:=zq B
     clear B
     go_wp2_with fail
     refine (hJ _ _ _ _ _ _ _ j.lex (by omega)).mono ?_;rintro e W ⟨rfl,l⟩;rw [aD,g.out,O.out]
     have i:=Held.call l j
     have R:=i.lex.ca
     go_wp2_with fail
     refine (iW _ _ _ _ _ _ _ i.lex (by omega) (by omega) (by omega)).mono ?_;rintro e wB ⟨rfl,z⟩;rw [aD,g.out,show ((p:Int)+D-p).toNat=D by omega]
     have n:=Held.call z i
     go_wp2_with fail
     refine (jp _ _ _ _ _ _ _ _ n.lex (by rw [u.out];omega) (by rw [u.out];omega) (by decide) (by decide) P.out).mono ?_;rintro e wC ⟨f,A⟩
     have o:=Held.call A n
     generalize C:intR _ _ _ _=r at f
     have Q:=zq C
     clear C l z A i n j V R
     unfold fR bN at f;subst f
     obtain ⟨t6,v0,v1,v2,v3,v4,v5,E,F,G,H,I,J⟩:=o.tok
     have Z:=o.lt
     go_wp2_with fail
     refine aw (v:=bN r) (by simp [bN,results,fz,go_sem,E,F,G,H,I,J]) rfl ⟨?_,(o.sets _ _ _ _ _ _).bel⟩
     rw [N.out,Q.out];rfl
    ·have a0:=zq (show bW (bY 2) (M.drop (p+2))=0 by have:=A3.out;omega)
     go_enter il,gD
     go_wp2_with fail
     refine (bf _ _ _ _ _ _ m.lex (by omega)).mono ?_;rintro e w1 ⟨rfl,q⟩;rw [aD,g.out]
     have a:=Held.call q m
     have K:=a.lex.ca
     go_wp2_with fail
     refine (bf _ _ _ _ _ _ a.lex (by omega)).mono ?_;rintro e w2 ⟨rfl,t⟩;rw [show ((p:Int)+1).toNat=p+1 by omega,g.out]
     have d:=Held.call t a
     have U:=d.lex.ca
     clear q t a K m
     go_wp2_with fail
     refine (hJ _ _ _ _ _ _ _ d.lex (by omega)).mono ?_;rintro e W ⟨rfl,l⟩;rw [show ((p:Int)+2).toNat=p+2 by omega,g.out,show bW (bY 2) (M.drop (p+2))=0 from a0.out]
     have j:=Held.call l d
     clear l d U
     have cm:=j.lex.ca
     go_wp2_with fail
     have S:=fD (bY 10) (M.drop p)
     rw [aI,Y.out] at S
     have u:=zq (jS 10 (M.drop p))
     have P:=zq (kC 10 (by decide) (by decide) (M.drop p))
     have V:=j.lex.ca
     generalize B:bW (bY 10) (M.drop p)=D at *
     have O:=zq B
     clear B
     go_wp2_with fail
     refine (hJ _ _ _ _ _ _ _ j.lex (by omega)).mono ?_;rintro e W ⟨rfl,l⟩;rw [aD,g.out,O.out]
     have i:=Held.call l j
     have R:=i.lex.ca
     go_wp2_with fail
     refine (iW _ _ _ _ _ _ _ i.lex (by omega) (by omega) (by omega)).mono ?_;rintro e wB ⟨rfl,z⟩;rw [aD,g.out,show ((p:Int)+D-p).toNat=D by omega]
     have n:=Held.call z i
     go_wp2_with fail
     refine (jp _ _ _ _ _ _ _ _ n.lex (by rw [u.out];omega) (by rw [u.out];omega) (by decide) (by decide) P.out).mono ?_;rintro e wC ⟨f,A⟩
     have o:=Held.call A n
     generalize C:intR _ _ _ _=r at f
     have Q:=zq C
     clear C l z A i n j V R
     unfold fR bN at f;subst f
     obtain ⟨t6,v0,v1,v2,v3,v4,v5,E,F,G,H,I,J⟩:=o.tok
     have Z:=o.lt
     go_wp2_with fail
     refine aw (v:=bN r) (by simp [bN,results,fz,go_sem,E,F,G,H,I,J]) rfl ⟨?_,(o.sets _ _ _ _ _ _).bel⟩
     rw [N.out,Q.out];rfl
    ·have Hq:True:=trivial
     go_enter il,gD
     go_wp2_with fail
     refine (bf _ _ _ _ _ _ m.lex (by omega)).mono ?_;rintro e w1 ⟨rfl,q⟩;rw [aD,g.out]
     have a:=Held.call q m
     have K:=a.lex.ca
     go_wp2_with fail
     refine (bf _ _ _ _ _ _ a.lex (by omega)).mono ?_;rintro e w2 ⟨rfl,t⟩;rw [show ((p:Int)+1).toNat=p+1 by omega,g.out]
     have d:=Held.call t a
     have U:=d.lex.ca
     clear q t a K m
     go_wp2_with fail
     have j:=d
     clear d
     have S:=fD (bY 10) (M.drop p)
     rw [aI,Y.out] at S
     have u:=zq (jS 10 (M.drop p))
     have P:=zq (kC 10 (by decide) (by decide) (M.drop p))
     have V:=j.lex.ca
     generalize B:bW (bY 10) (M.drop p)=D at *
     have O:=zq B
     clear B
     refine (hJ _ _ _ _ _ _ _ j.lex (by omega)).mono ?_;rintro e W ⟨rfl,l⟩;rw [aD,g.out,O.out]
     have i:=Held.call l j
     have R:=i.lex.ca
     go_wp2_with fail
     refine (iW _ _ _ _ _ _ _ i.lex (by omega) (by omega) (by omega)).mono ?_;rintro e wB ⟨rfl,z⟩;rw [aD,g.out,show ((p:Int)+D-p).toNat=D by omega]
     have n:=Held.call z i
     go_wp2_with fail
     refine (jp _ _ _ _ _ _ _ _ n.lex (by rw [u.out];omega) (by rw [u.out];omega) (by decide) (by decide) P.out).mono ?_;rintro e wC ⟨f,A⟩
     have o:=Held.call A n
     generalize C:intR _ _ _ _=r at f
     have Q:=zq C
     clear C l z A i n j V R
     unfold fR bN at f;subst f
     obtain ⟨t6,v0,v1,v2,v3,v4,v5,E,F,G,H,I,J⟩:=o.tok
     have Z:=o.lt
     go_wp2_with fail
     refine aw (v:=bN r) (by simp [bN,results,fz,go_sem,E,F,G,H,I,J]) rfl ⟨?_,(o.sets _ _ _ _ _ _).bel⟩
     rw [N.out,Q.out];rfl
 ·have b1:(au M p==48)=false:=by simp [L]
  have N:=zq (show jh M s.data.toList p=intR 10 ((M.drop p).take (bW (bY 10) (M.drop p))) p (p+bW (bY 10) (M.drop p)) by unfold jh;rw [if_neg (fun h=>L h.1),if_neg (fun h=>absurd h.1 (by unfold cd;rw [if_neg L];decide))])
  clear L
  go_enter il,gD
  go_wp2_with fail
  refine (bf _ _ _ _ _ _ m.lex (by omega)).mono ?_;rintro e w1 ⟨rfl,q⟩;rw [aD,g.out]
  have a:=Held.call q m
  have K:=a.lex.ca
  go_wp2_with fail
  have j:=a
  clear a
  have S:=fD (bY 10) (M.drop p)
  rw [aI,Y.out] at S
  have u:=zq (jS 10 (M.drop p))
  have P:=zq (kC 10 (by decide) (by decide) (M.drop p))
  have V:=j.lex.ca
  generalize B:bW (bY 10) (M.drop p)=D at *
  have O:=zq B
  clear B
  refine (hJ _ _ _ _ _ _ _ j.lex (by omega)).mono ?_;rintro e W ⟨rfl,l⟩;rw [aD,g.out,O.out]
  have i:=Held.call l j
  have R:=i.lex.ca
  go_wp2_with fail
  refine (iW _ _ _ _ _ _ _ i.lex (by omega) (by omega) (by omega)).mono ?_;rintro e wB ⟨rfl,z⟩;rw [aD,g.out,show ((p:Int)+D-p).toNat=D by omega]
  have n:=Held.call z i
  go_wp2_with fail
  refine (jp _ _ _ _ _ _ _ _ n.lex (by rw [u.out];omega) (by rw [u.out];omega) (by decide) (by decide) P.out).mono ?_;rintro e wC ⟨f,A⟩
  have o:=Held.call A n
  generalize C:intR _ _ _ _=r at f
  have Q:=zq C
  clear C l z A i n j V R
  unfold fR bN at f;subst f
  obtain ⟨t6,v0,v1,v2,v3,v4,v5,E,F,G,H,I,J⟩:=o.tok
  have Z:=o.lt
  go_wp2_with fail
  refine aw (v:=bN r) (by simp [bN,results,fz,go_sem,E,F,G,H,I,J]) rfl ⟨?_,(o.sets _ _ _ _ _ _).bel⟩
  rw [N.out,Q.out];rfl
end Go.Proofs.YtgapnafkelokaaaGreatDoor
