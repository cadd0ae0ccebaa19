/- Parts of the proof. -/
import Derived.Test.YtlikcjbjibhjgaaGreatDoorR16
import Derived.RegionTactic
import Derived.Deep.RegionWith
import Derived.BigRegion
import Derived.Test.YtlikcjbjibhjgaaGreatDoorR02
import Derived.Test.YtlikcjbjibhjgaaGreatDoorR01
import Derived.Test.YtlikcjbjibhjgaaGreatDoorProg
import Derived.Lib.Strings
import Derived.Test.YtlikcjbjibhjgaaGreatDoorR04
set_option maxHeartbeats 12800000
set_option maxRecDepth 100000
open Go renaming Calls -> aJ, World -> ai, bodyPost_ret -> ay
open Go.Ending renaming returned -> aw
open Go.IntKind renaming i64 -> ae, i64 -> gg
open Go.IntWalk renaming wrap64_in -> fg
open Go.Proofs.Tryz renaming ntmps84 -> iO, prog -> ah, results84 -> go
open Go.RowKit renaming Below -> ax
open Go.RowKit.Below renaming refl -> aj
open Go.Value renaming int -> ab, int -> fK, pointer -> au, tuple -> aK
open Go.World renaming setCell -> gf
open Int renaming toNat_natCast -> aD
open List renaming drop_drop -> ci, length_drop -> aH
open Nat renaming add_zero -> bv, eq_zero_or_pos -> gq, le_of_lt -> fd, le_refl -> ag, lt_of_lt_of_le -> aC, zero_le -> bp
namespace Go.Proofs.YtlikcjbjibhjgaaGreatDoor
open Go.RowKit Hb
def Tok6 (w:ai) (g:Nat):Prop:=(∀o,w.frozen? ⟨g,o,none⟩=false)/\∃v0 v1 v2 v3 v4 v5,w.cell? ⟨g,0,none⟩=some v0/\w.cell? ⟨g,1,none⟩=some v1/\w.cell? ⟨g,2,none⟩=some v2/\w.cell? ⟨g,3,none⟩=some v3/\w.cell? ⟨g,4,none⟩=some v4/\w.cell? ⟨g,5,none⟩=some v5
structure Held (w0 w:ai) (b:Nat) (s:ByteArray) (tab:Int->Int) (p:Int):Prop where
 lex:Lex w b s tab p
 bel:ax w0.heap.size w0 w
 tok:Tok6 w w0.heap.size
 lt:w0.heap.size<w.heap.size
 blt:b<w0.heap.size
section
variable {w0 w w':ai} {b:Nat} {s:ByteArray} {tab:Int->Int} {p:Int}
theorem Held.start (h:Lex w0 b s tab p):Held w0 (w0.alloc fm) b s tab p:=by
 have a:=(aj w0.heap.size w0).alloc (ag _) fm
 obtain ⟨c,d,e,f,g,i,j⟩:=lp (aj (w0.alloc fm).heap.size (w0.alloc fm)) (by simp)
 exact ⟨h.below a h.lt,a,⟨j,_,_,_,_,_,_,c,d,e,f,g,i⟩,by simp,h.lt⟩
theorem Held.call (a:ax w.heap.size w w') (h:Held w0 w b s tab p):Held w0 w' b s tab p:=by
 obtain ⟨k,l,m,n,q,r,t,c,d,f,g,i,j⟩:=h.tok
 have e:∀o,w'.cell? ⟨w0.heap.size,o,none⟩=w.cell? ⟨w0.heap.size,o,none⟩:=fun o=>a.cell (p:=⟨w0.heap.size,o,none⟩) h.lt
 exact ⟨h.lex.below a h.lex.lt,h.bel.trans (a.mono (fd h.lt)),⟨fun o=>(a.frozen (p:=⟨w0.heap.size,o,none⟩) h.lt).trans (k o),l,m,n,q,r,t,(e 0).trans c,(e 1).trans d,(e 2).trans f,(e 3).trans g,(e 4).trans i,(e 5).trans j⟩,aC h.lt a.size,h.blt⟩
theorem Held.callB {B:Nat} (a:ax B w w') (c:w0.heap.size<B) (h:Held w0 w b s tab p):Held w0 w' b s tab p:=by
 obtain ⟨l,m,n,q,r,t,u,d,f,g,i,j,k⟩:=h.tok
 have e:∀o,w'.cell? ⟨w0.heap.size,o,none⟩=w.cell? ⟨w0.heap.size,o,none⟩:=fun o=>a.cell (p:=⟨w0.heap.size,o,none⟩) c
 exact ⟨h.lex.below a (Nat.lt_trans h.blt c),h.bel.trans (a.mono (fd c)),⟨fun o=>(a.frozen (p:=⟨w0.heap.size,o,none⟩) c).trans (l o),m,n,q,r,t,u,(e 0).trans d,(e 1).trans f,(e 2).trans g,(e 3).trans i,(e 4).trans j,(e 5).trans k⟩,aC h.lt a.size,h.blt⟩
theorem Held.drew (h:Held w0 w b s tab p):Held w0 w.drew b s tab p:=Held.call ((aj _ w).drew) h
theorem Held.ca (h:Held w0 w b s tab p):w.cell? ⟨b,257,none⟩=some (ab ae p):=h.lex.ca
theorem nk (w:ai) (a:Addr) (v:Value) (q:Addr):(w.setCell a v).frozen? q=w.frozen? q:=by
 unfold World.frozen? gf
 simp only [Array.getElem?_modify]
 by_cases h:a.block=q.block
 ·rw [if_pos h]
  cases w.heap[q.block]? with
  | none=>rfl
  | some o=>cases o <;> rfl
 ·rw [if_neg h]
theorem Held.set (h:Held w0 w b s tab p) (o:Nat) (v:Value):Held w0 (w.setCell ⟨w0.heap.size,o,none⟩ v) b s tab p:=by
 obtain ⟨A,B,C,D,E,F,G,q,r,t,x,y,z⟩:=h.tok
 have c:(w.setCell ⟨w0.heap.size,o,none⟩ v).heap.size=w.heap.size:=by simp [gf]
 have e:∀(k:Nat) (u:Value),w.cell? ⟨w0.heap.size,k,none⟩=some u->∃u',(w.setCell ⟨w0.heap.size,o,none⟩ v).cell? ⟨w0.heap.size,k,none⟩=some u':=fun k u d=>by
  by_cases a:o=k
  ·subst a;exact ⟨v,World.cell?_setCell_same w _ v d⟩
  ·exact ⟨u,(World.cell?_setCell_other w _ _ v (by intro n;injection n with _ h2 _;exact a h2)).trans d⟩
 obtain ⟨u0,f⟩:=e 0 _ q
 obtain ⟨u1,g⟩:=e 1 _ r
 obtain ⟨u2,i⟩:=e 2 _ t
 obtain ⟨u3,j⟩:=e 3 _ x
 obtain ⟨u4,l⟩:=e 4 _ y
 obtain ⟨u5,m⟩:=e 5 _ z
 exact ⟨h.lex.same (by rw [c];exact ag _) (Below.heap_setCell w _ v b (by have:=h.blt;show b≠w0.heap.size;omega)),h.bel.setCell (p:=⟨w0.heap.size,o,none⟩) (ag _) v,⟨fun k=>(nk _ _ _ _).trans (A k),u0,u1,u2,u3,u4,u5,f,g,i,j,l,m⟩,by rw [c];exact h.lt,h.blt⟩
theorem Held.sets (h:Held w0 w b s tab p) (a c d e f g:Value):Held w0 ((((((w.setCell ⟨w0.heap.size,0,none⟩ a).setCell ⟨w0.heap.size,1,none⟩ c).setCell ⟨w0.heap.size,2,none⟩ d).setCell ⟨w0.heap.size,3,none⟩ e).setCell ⟨w0.heap.size,4,none⟩ f).setCell ⟨w0.heap.size,5,none⟩ g) b s tab p :=
 (((((h.set 0 a).set 1 c).set 2 d).set 3 e).set 4 f).set 5 g
theorem Held.keep (h:Held w0 w b s tab p):w.cell? ⟨b,257,none⟩=some (ab ae p)/\Held w0 w b s tab p:=⟨h.ca,h⟩
end
theorem Ip (b:Nat) (s:ByteArray) (tab:Int->Int) (p:Nat) (w:ai) (h:Lex w b s tab p) (I:p<s.size) :
  aJ ah 86 #[au (some ⟨b,0,none⟩)] w fun e w'=>gj (rZ (cU tab s.data.toList) p) e/\ax w.heap.size w w':=by
 have J:=h.sz
 have d:=Held.start h
 have G:=h.lt
 have E:=h.ca
 clear h
 have F:Hid ((cU tab s.data.toList).length=s.size):=by show _=_;rw [dK];simp
 generalize k:cU tab s.data.toList=M at *
 have i:=zq k
 clear k
 have n:=zq (show rZ M p=dM (mA (av M p)) ((M.drop p).take 1) p (p+1) from rfl)
 have hd:((av M p==33)=true\/((av M p==33)=false/\(av M p==59)=true))\/((av M p==33)=false/\(av M p==59)=false):=by grind
 rcases hd with (a | ⟨a,c⟩) | ⟨a,c⟩
 all_goals
  have D:∃q,Hid (mA (av M p)=q)/\(q=1\/q=6):=⟨_,rfl,by unfold mA;split <;> simp⟩
  go_enter Tryz.func86,Tryz.ntmps86
  go_wp2_with fail
  refine (bt _ _ _ _ _ _ d.lex (by omega)).mono ?_;rintro e T ⟨rfl,j⟩;rw [aD,i.out]
  have m:=Held.call j d
  clear d j
  go_wp2_with fail
  have K:IntKind.i64.wrap ((p:Int)+1)=(p:Int)+1:=IntWalk.i64_in _ (by omega)
  go_region_held3 (fun w'=>w'.cell? ⟨b,257,none⟩=some (ab ae p)/\Held w w' b s tab p) (first | with_reducible exact m.drew.keep | with_reducible exact Held.keep (Held.call (by with_reducible assumption) (And.right (by with_reducible assumption))) | with_reducible exact Held.keep (Held.sets (And.right (by with_reducible assumption)) _ _ _ _ _ _))
   (first
    | (go_at_call 119;((with_reducible refine (jC b s tab p p (p+1) _ ?_ ?_ ?_ ?_).mono ?_);(· with_reducible exact Held.lex (And.right (by with_reducible assumption)));(· omega);(· omega);(· omega);rintro e C ⟨rfl,f⟩;rw [aD,i.out,show ((p:Int)+1-p).toNat=1 by omega]))
    | (go_at_call 118;((with_reducible refine (mL b s tab p _ _ _ _ ?_ ?_).mono ?_);(· with_reducible exact Held.lex (And.right (by with_reducible assumption)));(· have:=List.length_take_le 1 (M.drop p);simp;omega);rintro e C ⟨g,f⟩;generalize l:dM _ _ _ _=r at g;have o:=zq l;clear l;unfold gj bV at g;subst g;obtain ⟨L,N,O,P,Q,R,S,u,x,y,z,A,B⟩:=(Held.call f (And.right (by with_reducible assumption))).tok;have H:=(Held.call f (And.right (by with_reducible assumption))).lt)))
  go_wp2_with fail
  refine ay (v:=bV r) (by simp [bV,results,Tryz.results86,go_sem,u,x,y,z,A,B]) rfl ⟨?_,Held.bel (And.right (by with_reducible assumption))⟩
  have t:=o.out
  rw [n.out,<-t]
  unfold mA;first | (rw [if_pos (by simpa using Or.inl (by simpa using a))];rfl) | (rw [if_pos (by simp at c;exact Or.inr c)];rfl) | (rw [if_neg (by simp at a c;omega)];rfl)
theorem ue (c:Int) (w:ai) (a:0<=c) (b:c<=255) :
  aJ ah 182 #[ab .u8 c] w fun e w'=>e=aw (ab ae (qK c))/\w=w':=by
 go_enter Tryz.func182,Tryz.ntmps182
 go_wp2
 all_goals (go_ret;exact ⟨dn (by unfold qK;grind),rfl⟩)
def pF (a:Int) (ds:List UInt8):Int:=if db a ds<=9223372036854775808 then -(db a ds:Int) else 0
def pG (a:Int) (ds:List UInt8):Int:=if db a ds<=9223372036854775808 then 0 else 10
theorem pN (s:ByteArray) (base:Int) (ds:List UInt8) (w:ai) (b:s.data.toList=45::ds) (X:0<ds.length) (a4:ds.length<=16384) (J:2<=base) (g:base<=36)
  (D:∀k,k<ds.length->qK (iK ds k)<base) :
  aJ ah 161 #[.string s,ab ae base] w fun e w'=>e=aw (aK #[ab ae (pF base ds),ab ae (pG base ds)])/\w=w':=by
 have j:s.size=ds.length+1:=by rw [<-size_data,b];rfl
 have a2:1<s.size:=by omega
 have T:0<s.size:=by omega
 have r:=kA s 0 T
 have t:iK s.data.toList 0=45:=by rw [b];rfl
 rw [t] at r
 have Z:=zq b
 have o:=zq D
 have G:=zq j
 have a3:s.size<=16385:=by omega
 have m:(s.extract 1 s.size).data.toList=ds:=by rw [Lib.extract_data,b];simp [j]
 have S:(s.extract 1 s.size).toList.isEmpty=false:=by
  rw [Go.ByteArray.toList_eq,m];cases ds <;> simp at X |-
 have f:=zq m
 clear b D t j m
 go_enter Tryz.func161,Tryz.ntmps161
 go_wp2
 generalize hd:s.extract 1 s.size=d at *
 have A:d.size=ds.length:=by rw [<-size_data,f.out]
 have B:s.size-1=d.size:=by have:=G.out;omega
 rw [B]
 have c:=zq A
 have a0:d.size<=16384:=by omega
 clear hd A B r S
 go_loop [4,31] (fun n i=>∃k:Nat,k<=d.size/\i=ab ae k/\n=ab ae 0) (fun _ i=>d.size-(intOf i).toNat)
 case atStart=>exact ⟨0,bp _,rfl,rfl⟩
 case round=>
  obtain ⟨k,hk,rfl,rfl⟩:=hrel
  by_cases U:k<d.size
  ·have K:=kA d k U
   rw [f.out] at K
   have M:=jR ds k
   have P:=kh ds k
   have z:qK (iK ds k)<base:=o.out k (by have:=c.out;omega)
   go_wp2_with (go_at_call 182;refine (ue _ _ M P).mono ?_;rintro e w' ⟨rfl,rfl⟩)
   go_round
   case rel=>exact ⟨k+1,by omega,by go_num,rfl⟩
   case measure=>simp [intOf];omega
  ·go_wp2_with fail
   go_loop [4,43] (fun n i=>∃k:Nat,k<=d.size/\i=ab ae k/\n=ab ae (-(db base (ds.take k):Int))/\db base (ds.take k)<=9223372036854775808) (fun _ i=>d.size-(intOf i).toNat)
   case atStart=>exact ⟨0,bp _,rfl,rfl,by simp [db]⟩
   case round=>
    obtain ⟨a,a1,rfl,rfl,l⟩:=hrel
    by_cases V:a<d.size
    ·have L:=kA d a V
     rw [f.out] at L
     have O:=jR ds a
     have Q:=kh ds a
     have C:a<ds.length:=by have:=c.out;omega
     have z:=o.out a C
     have y:=IN (iK ds a)
     have R:=IP (iK ds a)
     have q:=zq (show (db base (ds.take (a+1)):Int)=db base (ds.take a) * base+qK (iK ds a) by
      rw [tR base ds a C,Ah _ _ J g z]
      push_cast
      rw [Int.toNat_of_nonneg (by omega),Int.toNat_of_nonneg y])
     have F:=zq (pM base (by omega) ds (a+1))
     have p:=zq (Bq (db base (ds.take a)) (qK (iK ds a)) base (by omega) y R)
     generalize x:db base (ds.take a)=N at *
     have Y:=zq x
     clear x
     go_wp2_with (go_at_call 182;refine (ue _ _ O Q).mono ?_;rintro e w' ⟨rfl,rfl⟩)
     ·have W:=p.out.1 (by assumption)
      go_ret2
      refine ⟨xh ?_,rfl⟩
      have g:=q.out
      have u:=F.out
      have v:¬db base ds<=9223372036854775808:=by omega
      unfold pF pG
      rw [if_neg v,if_neg v]
      rfl
     ·have W:(N:Int) * base+qK (iK ds a)<=9223372036854775808:=by
       have u:=p.out.2
       rcases Int.lt_or_le 9223372036854775808 ((N:Int) * base+qK (iK ds a)) with h | h
       ·have:=u h;omega
       ·exact h
      have a5:0<=(N:Int) * base:=Int.mul_nonneg (by omega) (by omega)
      have H:wrap64 (-(N:Int) * base)=-((N:Int) * base):=by rw [Int.neg_mul];exact fg _ (by omega)
      have I:wrap64 (-((N:Int) * base)-qK (iK ds a))=-((N:Int) * base)-qK (iK ds a):=fg _ (by omega)
      rw [H,I]
      have g:=q.out
      go_round
      case rel=>exact ⟨a+1,by omega,by go_num,congrArg (fK gg) (by omega),by omega⟩
      case measure=>simp [intOf];omega
    ·have E:=zq (show ds.take a=ds from List.take_of_length_le (by have:=c.out;omega))
     rw [E.out] at l |-
     go_wp2
     go_ret2
     refine ⟨xh ?_,rfl⟩
     unfold pF pG
     rw [if_pos l,if_pos l]
     rfl
theorem iG (b:Nat) (s:ByteArray) (tab:Int->Int) (d i a:Int) (w:ai) (h:Lex w b s tab d) (f:0<=i) :
  aJ ah 121 #[au (some ⟨b,0,none⟩),ab ae i,ab ae a] w fun e w'=>e=aw (ab ae (i+ch (cq a) ((cU tab s.data.toList).drop i.toNat)))/\ax w.heap.size w w':=by
 have c:=(aj w.heap.size w).alloc (ag _) (.cells #[ab ae a] 3)
 have L:=zq (h.below c h.lt)
 clear h
 go_enter Tryz.func121,Tryz.ntmps121
 go_wp2_with fail
 refine (JR b s tab d i a w.heap.size _ L.out f (by simp) (by simp)).mono ?_;rintro e j ⟨rfl,g⟩
 go_wp2_with fail
 go_ret
 exact ⟨dn rfl,c.trans (g.mono (by simp))⟩
theorem Ht (a:Int) (ds:List UInt8) (h:db a ds<=9223372036854775808):pF a ds=-(db a ds:Int)/\pG a ds=0:=by unfold pF pG;rw [if_pos h,if_pos h];exact ⟨rfl,rfl⟩
theorem Hu (a:Int) (ds:List UInt8) (h:¬db a ds<=9223372036854775808):pF a ds=0/\pG a ds=10:=by unfold pF pG;rw [if_neg h,if_neg h];exact ⟨rfl,rfl⟩
theorem jT (b:Nat) (s:ByteArray) (tab:Int->Int) (p a c:Int) (t:List UInt8) (w:ai) (h:Lex w b s tab p) (n:0<t.length) (o:t.length<=16384) (l:2<=a) (m:a<=36)
  (r:∀k,k<t.length->qK (iK t k)<a) :
  aJ ah 122 #[au (some ⟨b,0,none⟩),.string ⟨t.toArray⟩,ab ae a,ab ae c] w fun e w'=>gj (intR a t p c) e/\ax w.heap.size w w':=by
 have y:=Held.start h
 have D:=h.lt
 have A:=h.ca
 clear h
 have j:=zq r
 clear r
 by_cases f:db a t<=9223372036854775808
 ·have d:=zq (Ht a t f)
  by_cases i:db a t=9223372036854775808
  ·have g:=zq (show intR a t p c=⟨4,[],-9223372036854775808,p,c,0⟩ by unfold intR;rw [if_pos f,if_pos i])
   have x:=zq i
   clear f i
   go_enter Tryz.func122,Tryz.ntmps122
   go_wp2_with fail
   refine (pN _ a t _ (by simp) n o l m j.out).mono ?_;rintro e u ⟨rfl,rfl⟩;rw [d.out.1,d.out.2,x.out]
   go_wp2_with fail
   refine ay (v:=bV ⟨4,[],-9223372036854775808,p,c,0⟩) (by simp [bV,results,Tryz.results122,go_sem]) rfl ⟨?_,(aj _ _).alloc (ag _) _⟩
   rw [g.out];rfl
  ·have g:=zq (show intR a t p c=⟨4,[],db a t,p,c,0⟩ by unfold intR;rw [if_pos f,if_neg i])
   have B:((-(db a t:Int)) == -9223372036854775808)=false:=by simp;omega
   have C:((-(db a t:Int)) != -9223372036854775808)=true:=by simp;omega
   have E:(db a t:Int)<=9223372036854775807:=by omega
   clear i
   generalize q:db a t=N at *
   have z:=zq q
   clear q
   go_enter Tryz.func122,Tryz.ntmps122
   go_wp2_with fail
   refine (pN _ a t _ (by simp) n o l m j.out).mono ?_;rintro e u ⟨rfl,rfl⟩;rw [d.out.1,d.out.2]
   go_wp2_with fail
   refine ay (v:=bV ⟨4,[],(N:Int),p,c,0⟩) (by simp [bV,results,Tryz.results122,go_sem]) rfl ⟨?_,(aj _ _).alloc (ag _) _⟩
   rw [g.out];rfl
 ·have d:=zq (Hu a t f)
  have g:=zq (show intR a t p c=dR 7 by unfold intR;rw [if_neg f])
  clear f
  go_enter Tryz.func122,Tryz.ntmps122
  go_wp2_with fail
  refine (pN _ a t _ (by simp) n o l m j.out).mono ?_;rintro e u ⟨rfl,rfl⟩;rw [d.out.1,d.out.2]
  go_wp2_with fail
  refine ay (v:=bV (dR 7)) (by simp [bV,dR,results,Tryz.results122,go_sem]) rfl ⟨?_,(aj _ _).alloc (ag _) _⟩
  rw [g.out];rfl
def QRes (r:Option (Int×Nat)) (i:Int) (e:Ending):Prop :=
 match r with
 | some (c,k)=>e=aw (aK #[ab ae c,ab ae (i+k),.bool true])
 | none=>∃c n,e=aw (aK #[ab ae c,ab ae n,.bool false])
theorem QRes.no {r:Option (Int×Nat)} {i c n:Int} (h:r=none):QRes r i (aw (aK #[ab ae c,ab ae n,.bool false])):=by subst h;exact ⟨c,n,rfl⟩
theorem QRes.yes {r:Option (Int×Nat)} {i c n:Int} {k:Nat} (h:r=some (c,k)) (a:n=i+k):QRes r i (aw (aK #[ab ae c,ab ae n,.bool true])):=by subst h;subst a;rfl
theorem fb (b:Nat) (s:ByteArray) (tab:Int->Int) (b0 i q:Int) (w:ai) (h:Lex w b s tab b0) (h0:0<=i) (hi:i<=20000) :
  aJ ah 120 #[au (some ⟨b,0,none⟩),ab ae i,ab ae q] w fun e w'=>QRes (cO (s.data.toList.drop i.toNat) q) i e/\w=w':=by
 obtain ⟨k,rfl⟩:=Int.eq_ofNat_of_zero_le h0
 have L:=zq h
 clear h
 rw [aD]
 have r0:av (s.data.toList.drop k) 0=av s.data.toList k:=by rw [bZ,bv]
 have r1:av (s.data.toList.drop k) 1=av s.data.toList (k+1):=bZ _ _ _
 have J:=zq r0
 have R:=zq r1
 clear r0 r1
 generalize hM:s.data.toList=M at *
 have d:=zq hM
 clear hM
 by_cases G:av M k<0\/av M k=10
 ·have f:=zq (show cO (M.drop k) q=none by unfold cO;rw [J.out,if_pos G])
  have hd:decide (av M k<0)=true\/(decide (av M k<0)=false/\(av M k==10)=true):=by grind
  clear G
  rcases hd with d1 | ⟨d1,d2⟩
  all_goals
   go_enter Tryz.func120,Tryz.ntmps120
   go_wp2_with fail
   refine (bK _ _ _ _ _ _ L.out (by omega)).mono ?_;rintro e a ⟨rfl,rfl⟩;rw [aD,d.out]
   go_wp2_with fail
   go_ret3
   exact ⟨QRes.no f.out,rfl⟩
 have d1:decide (av M k<0)=false:=by simp;omega
 have d2:(av M k==10)=false:=by simp;omega
 by_cases H:av M k=q
 ·have b2:(av M k==q)=true:=by simp [H]
  have U:=zq G
  have O:=zq H
  clear G H
  by_cases r:av M (k+1)=q
  ·have b3:(av M (k+1)==q)=true:=by simp [r]
   have f:=zq (show cO (M.drop k) q=some (q,2) by unfold cO;rw [J.out,R.out,if_neg U.out,if_pos O.out,if_pos r])
   clear r
   go_enter Tryz.func120,Tryz.ntmps120
   go_wp2_with fail
   refine (bK _ _ _ _ _ _ L.out (by omega)).mono ?_;rintro e a ⟨rfl,rfl⟩;rw [aD,d.out]
   go_wp2_with fail
   refine (bK _ _ _ _ _ _ L.out (by omega)).mono ?_;rintro e a ⟨rfl,rfl⟩;rw [show ((k:Int)+1).toNat=k+1 by omega,d.out]
   go_wp2_with fail
   go_ret3
   exact ⟨QRes.yes (f.out.trans (by rw [O.out])) rfl,rfl⟩
  ·have b3:(av M (k+1)==q)=false:=by simp [r]
   have f:=zq (show cO (M.drop k) q=none by unfold cO;rw [J.out,R.out,if_neg U.out,if_pos O.out,if_neg r])
   clear r
   go_enter Tryz.func120,Tryz.ntmps120
   go_wp2_with fail
   refine (bK _ _ _ _ _ _ L.out (by omega)).mono ?_;rintro e a ⟨rfl,rfl⟩;rw [aD,d.out]
   go_wp2_with fail
   refine (bK _ _ _ _ _ _ L.out (by omega)).mono ?_;rintro e a ⟨rfl,rfl⟩;rw [show ((k:Int)+1).toNat=k+1 by omega,d.out]
   go_wp2_with fail
   go_ret3
   exact ⟨QRes.no f.out,rfl⟩
 have b2:(av M k==q)=false:=by simp [H]
 by_cases r:av M k=92
 ·have b3:(av M k != 92)=false:=by simp [r]
  have U:=zq G
  have O:=zq H
  have A3:=zq r
  clear G H r
  cases a4:lP (av M (k+1))
  ·have P:=zq a4
   clear a4
   have HF:∃o:Nat,∃y:Int,Hid (fo (M.drop k)=o)/\Hid (ke (M.drop k)=y)/\(((av M (k+1)==120)=true/\o=2/\y=16)\/((av M (k+1)==120)=false/\o=1/\y=8)):=by
    refine ⟨_,_,rfl,rfl,?_⟩
    unfold fo ke;rw [R.out]
    by_cases h:av M (k+1)=120 <;> simp [h]
   obtain ⟨o,y,E,a8,b1⟩:=HF
   have b7:2<=y/\y<=36:=by omega
   have b8:1<=o/\o<=2:=by omega
   have u:Hid (fQ (M.drop k)=ch (cq y) (M.drop (k+o))):=by show _=_;unfold fQ;rw [E.out,a8.out,ci]
   have F:Hid (jA (M.drop k)=db y ((M.drop (k+o)).take (ch (cq y) (M.drop (k+o))))):=by show _=_;unfold jA;rw [u.out,E.out,a8.out,ci]
   have W:Hid (∀j,av (M.drop k) (o+j)=av M (k+o+j)):=fun j=>by rw [bZ,Nat.add_assoc]
   generalize a9:ch (cq y) (M.drop (k+o))=D at *
   have I:=zq a9
   clear a9
   have A:Hid (av (M.drop k) 0=92):=J.out.trans A3.out
   have B:Hid (¬av (M.drop k) 0=q):=fun h=>O.out (J.out.symm.trans h)
   have C:Hid (lP (av (M.drop k) 1)=false):=by show _=_;rw [R.out];exact P.out
   have b6:D<=20000:=by
    have l:=fW (cq y) (M.drop (k+o));rw [I.out] at l
    have X:M.length<=16384:=by rw [<-d.out];have:=L.out.sz;simp;omega
    have h3:(M.drop (k+o)).length<=M.length:=by simp
    omega
   rcases b1 with ⟨x1,rfl,rfl⟩ | ⟨x1,rfl,rfl⟩
   ·have a5:=W
    clear W
    go_enter Tryz.func120,Tryz.ntmps120
    go_wp2_with fail
    refine (bK _ _ _ _ _ _ L.out (by omega)).mono ?_;rintro e a ⟨rfl,rfl⟩;rw [aD,d.out]
    go_wp2_with fail
    refine (bK _ _ _ _ _ _ L.out (by omega)).mono ?_;rintro e a ⟨rfl,rfl⟩;rw [show ((k:Int)+1).toNat=k+1 by omega,d.out]
    go_wp2_with fail
    refine (lK _ _).mono ?_;rintro e a ⟨rfl,rfl⟩;rw [P.out]
    go_wp2_with fail
    go_loop [14,15] (fun n e=>∃j:Nat,j<=D/\e=ab ae (k+2+j:Nat)/\n=ab ae (db 16 ((M.drop (k+2)).take j))/\db 16 ((M.drop (k+2)).take j)<=5000) (fun _ e=>k+2+D-(intOf e).toNat)
    case atStart=>exact ⟨0,bp _,by go_num,rfl,by simp [db]⟩
    case round=>
     obtain ⟨j,hj,rfl,rfl,hn⟩:=hrel
     have Y:=zq (pM 16 (by decide) ((M.drop (k+2)).take D) j)
     have a0:=zq (show ((M.drop (k+2)).take D).take j=(M.drop (k+2)).take j by rw [List.take_take,Nat.min_eq_left hj])
     by_cases T:j<D
     ·have x:=zq (tS 16 (by decide) (by decide) (M.drop (k+2)) j (by rw [I.out];exact T))
      have Z:=zq (bZ M (k+2) j)
      have g:=zq ((my (cq 16) (M.drop (k+2)) j (by rw [I.out];exact T)).1)
      rw [Z.out] at x g
      have b4:=x.out.2.1
      have b5:=x.out.2.2
      have Q:=zq x.out.1
      clear x
      by_cases z:db 16 ((M.drop (k+2)).take j)<=255
      ·generalize c:db 16 ((M.drop (k+2)).take j)=N at *
       have v:=zq c
       clear c
       go_wp2_with fail
       refine (bK _ _ _ _ _ _ L.out (by omega)).mono ?_;rintro e a ⟨rfl,rfl⟩;rw [show ((k:Int)+2+j).toNat=k+2+j by omega,d.out]
       go_wp2_with fail
       refine (eY _ _ _).mono ?_;rintro e a ⟨rfl,rfl⟩;rw [show ii (av M (k+2+j)) 16=true from g.out]
       generalize S:pb (av M (k+2+j)) 16=V at *
       have HV:=zq S
       clear S
       go_wp2_with fail
       go_round
       case rel=>exact ⟨j+1,by omega,by go_num,congrArg (fK gg) Q.out.symm,by have:=Q.out;omega⟩
       case measure=>simp [intOf];omega
      ·have f:=zq (jX (M.drop k) q A.out B.out C.out (fun m=>z (by
        have l:=m.2.1
        rw [F.out] at l
        have X:=Y.out
        rw [a0.out] at X
        omega)))
       have K:0<j:=by
        rcases gq j with h | h
        ·subst h;exact absurd (by simp [db]) z
        ·exact h
       generalize c:db 16 ((M.drop (k+2)).take j)=N at *
       have v:=zq c
       clear c
       go_wp2_with fail
       refine (bK _ _ _ _ _ _ L.out (by omega)).mono ?_;rintro e a ⟨rfl,rfl⟩;rw [show ((k:Int)+2+j).toNat=k+2+j by omega,d.out]
       go_wp2_with fail
       refine (eY _ _ _).mono ?_;rintro e a ⟨rfl,rfl⟩;rw [show ii (av M (k+2+j)) 16=true from g.out]
       go_wp2_with fail
       go_ret3
       exact ⟨QRes.no f.out,rfl⟩
     ·obtain rfl:j=D:=by omega
      have g:=zq (rq (cq 16) (rI 16) (M.drop (k+2)))
      rw [I.out,bZ] at g
      by_cases K:0<j
      ·by_cases z:db 16 ((M.drop (k+2)).take j)<=255
       ·have p:=a5.out j
        by_cases t:av M (k+2+j)=92
        ·have a7:(av M (k+2+j)==92)=true:=by simp [t]
         have f:=zq (vV (M.drop k) q A.out B.out C.out ⟨by rw [u.out];exact K,by rw [F.out];exact z,by rw [E.out,u.out,p,t]⟩)
         have a6:=zq p
         clear t p
         generalize c:db 16 ((M.drop (k+2)).take j)=N at *
         have v:=zq c
         clear c
         go_wp2_with fail
         refine (bK _ _ _ _ _ _ L.out (by omega)).mono ?_;rintro e a ⟨rfl,rfl⟩;rw [show ((k:Int)+2+j).toNat=k+2+j by omega,d.out]
         go_wp2_with fail
         refine (eY _ _ _).mono ?_;rintro e a ⟨rfl,rfl⟩;rw [show ii (av M (k+2+j)) 16=false from g.out]
         go_wp2_with fail
         refine (bK _ _ _ _ _ _ L.out (by omega)).mono ?_;rintro e a ⟨rfl,rfl⟩;rw [show ((k:Int)+2+j).toNat=k+2+j by omega,d.out]
         go_wp2_with fail
         go_ret3
         exact ⟨QRes.yes (f.out.trans (by rw [F.out,E.out,u.out])) (by omega),rfl⟩
        ·have a7:(av M (k+2+j)==92)=false:=by simp [t]
         have f:=zq (jX (M.drop k) q A.out B.out C.out (fun m=>t (by have:=m.2.2;rw [E.out,u.out,p] at this;exact this)))
         have a6:=zq p
         clear t p
         generalize c:db 16 ((M.drop (k+2)).take j)=N at *
         have v:=zq c
         clear c
         go_wp2_with fail
         refine (bK _ _ _ _ _ _ L.out (by omega)).mono ?_;rintro e a ⟨rfl,rfl⟩;rw [show ((k:Int)+2+j).toNat=k+2+j by omega,d.out]
         go_wp2_with fail
         refine (eY _ _ _).mono ?_;rintro e a ⟨rfl,rfl⟩;rw [show ii (av M (k+2+j)) 16=false from g.out]
         go_wp2_with fail
         refine (bK _ _ _ _ _ _ L.out (by omega)).mono ?_;rintro e a ⟨rfl,rfl⟩;rw [show ((k:Int)+2+j).toNat=k+2+j by omega,d.out]
         go_wp2_with fail
         go_ret3
         exact ⟨QRes.no f.out,rfl⟩
       ·have f:=zq (jX (M.drop k) q A.out B.out C.out (fun m=>z (by have l:=m.2.1;rw [F.out] at l;exact l)))
        generalize c:db 16 ((M.drop (k+2)).take j)=N at *
        have v:=zq c
        clear c
        go_wp2_with fail
        refine (bK _ _ _ _ _ _ L.out (by omega)).mono ?_;rintro e a ⟨rfl,rfl⟩;rw [show ((k:Int)+2+j).toNat=k+2+j by omega,d.out]
        go_wp2_with fail
        refine (eY _ _ _).mono ?_;rintro e a ⟨rfl,rfl⟩;rw [show ii (av M (k+2+j)) 16=false from g.out]
        go_wp2_with fail
        go_ret3
        exact ⟨QRes.no f.out,rfl⟩
      ·have f:=zq (jX (M.drop k) q A.out B.out C.out (fun m=>K (by have l:=m.1;rw [u.out] at l;exact l)))
       generalize c:db 16 ((M.drop (k+2)).take j)=N at *
       have v:=zq c
       clear c
       go_wp2_with fail
       refine (bK _ _ _ _ _ _ L.out (by omega)).mono ?_;rintro e a ⟨rfl,rfl⟩;rw [show ((k:Int)+2+j).toNat=k+2+j by omega,d.out]
       go_wp2_with fail
       refine (eY _ _ _).mono ?_;rintro e a ⟨rfl,rfl⟩;rw [show ii (av M (k+2+j)) 16=false from g.out]
       go_wp2_with fail
       go_ret3
       exact ⟨QRes.no f.out,rfl⟩
   ·have a5:=W
    clear W
    go_enter Tryz.func120,Tryz.ntmps120
    go_wp2_with fail
    refine (bK _ _ _ _ _ _ L.out (by omega)).mono ?_;rintro e a ⟨rfl,rfl⟩;rw [aD,d.out]
    go_wp2_with fail
    refine (bK _ _ _ _ _ _ L.out (by omega)).mono ?_;rintro e a ⟨rfl,rfl⟩;rw [show ((k:Int)+1).toNat=k+1 by omega,d.out]
    go_wp2_with fail
    refine (lK _ _).mono ?_;rintro e a ⟨rfl,rfl⟩;rw [P.out]
    go_wp2_with fail
    go_loop [14,15] (fun n e=>∃j:Nat,j<=D/\e=ab ae (k+1+j:Nat)/\n=ab ae (db 8 ((M.drop (k+1)).take j))/\db 8 ((M.drop (k+1)).take j)<=5000) (fun _ e=>k+1+D-(intOf e).toNat)
    case atStart=>exact ⟨0,bp _,by go_num,rfl,by simp [db]⟩
    case round=>
     obtain ⟨j,hj,rfl,rfl,hn⟩:=hrel
     have Y:=zq (pM 8 (by decide) ((M.drop (k+1)).take D) j)
     have a0:=zq (show ((M.drop (k+1)).take D).take j=(M.drop (k+1)).take j by rw [List.take_take,Nat.min_eq_left hj])
     by_cases T:j<D
     ·have x:=zq (tS 8 (by decide) (by decide) (M.drop (k+1)) j (by rw [I.out];exact T))
      have Z:=zq (bZ M (k+1) j)
      have g:=zq ((my (cq 8) (M.drop (k+1)) j (by rw [I.out];exact T)).1)
      rw [Z.out] at x g
      have b4:=x.out.2.1
      have b5:=x.out.2.2
      have Q:=zq x.out.1
      clear x
      by_cases z:db 8 ((M.drop (k+1)).take j)<=255
      ·generalize c:db 8 ((M.drop (k+1)).take j)=N at *
       have v:=zq c
       clear c
       go_wp2_with fail
       refine (bK _ _ _ _ _ _ L.out (by omega)).mono ?_;rintro e a ⟨rfl,rfl⟩;rw [show ((k:Int)+1+j).toNat=k+1+j by omega,d.out]
       go_wp2_with fail
       refine (eY _ _ _).mono ?_;rintro e a ⟨rfl,rfl⟩;rw [show ii (av M (k+1+j)) 8=true from g.out]
       generalize S:pb (av M (k+1+j)) 8=V at *
       have HV:=zq S
       clear S
       go_wp2_with fail
       go_round
       case rel=>exact ⟨j+1,by omega,by go_num,congrArg (fK gg) Q.out.symm,by have:=Q.out;omega⟩
       case measure=>simp [intOf];omega
      ·have f:=zq (jX (M.drop k) q A.out B.out C.out (fun m=>z (by
        have l:=m.2.1
        rw [F.out] at l
        have X:=Y.out
        rw [a0.out] at X
        omega)))
       have K:0<j:=by
        rcases gq j with h | h
        ·subst h;exact absurd (by simp [db]) z
        ·exact h
       generalize c:db 8 ((M.drop (k+1)).take j)=N at *
       have v:=zq c
       clear c
       go_wp2_with fail
       refine (bK _ _ _ _ _ _ L.out (by omega)).mono ?_;rintro e a ⟨rfl,rfl⟩;rw [show ((k:Int)+1+j).toNat=k+1+j by omega,d.out]
       go_wp2_with fail
       refine (eY _ _ _).mono ?_;rintro e a ⟨rfl,rfl⟩;rw [show ii (av M (k+1+j)) 8=true from g.out]
       go_wp2_with fail
       go_ret3
       exact ⟨QRes.no f.out,rfl⟩
     ·obtain rfl:j=D:=by omega
      have g:=zq (rq (cq 8) (rI 8) (M.drop (k+1)))
      rw [I.out,bZ] at g
      by_cases K:0<j
      ·by_cases z:db 8 ((M.drop (k+1)).take j)<=255
       ·have p:=a5.out j
        by_cases t:av M (k+1+j)=92
        ·have a7:(av M (k+1+j)==92)=true:=by simp [t]
         have f:=zq (vV (M.drop k) q A.out B.out C.out ⟨by rw [u.out];exact K,by rw [F.out];exact z,by rw [E.out,u.out,p,t]⟩)
         have a6:=zq p
         clear t p
         generalize c:db 8 ((M.drop (k+1)).take j)=N at *
         have v:=zq c
         clear c
         go_wp2_with fail
         refine (bK _ _ _ _ _ _ L.out (by omega)).mono ?_;rintro e a ⟨rfl,rfl⟩;rw [show ((k:Int)+1+j).toNat=k+1+j by omega,d.out]
         go_wp2_with fail
         refine (eY _ _ _).mono ?_;rintro e a ⟨rfl,rfl⟩;rw [show ii (av M (k+1+j)) 8=false from g.out]
         go_wp2_with fail
         refine (bK _ _ _ _ _ _ L.out (by omega)).mono ?_;rintro e a ⟨rfl,rfl⟩;rw [show ((k:Int)+1+j).toNat=k+1+j by omega,d.out]
         go_wp2_with fail
         go_ret3
         exact ⟨QRes.yes (f.out.trans (by rw [F.out,E.out,u.out])) (by omega),rfl⟩
        ·have a7:(av M (k+1+j)==92)=false:=by simp [t]
         have f:=zq (jX (M.drop k) q A.out B.out C.out (fun m=>t (by have:=m.2.2;rw [E.out,u.out,p] at this;exact this)))
         have a6:=zq p
         clear t p
         generalize c:db 8 ((M.drop (k+1)).take j)=N at *
         have v:=zq c
         clear c
         go_wp2_with fail
         refine (bK _ _ _ _ _ _ L.out (by omega)).mono ?_;rintro e a ⟨rfl,rfl⟩;rw [show ((k:Int)+1+j).toNat=k+1+j by omega,d.out]
         go_wp2_with fail
         refine (eY _ _ _).mono ?_;rintro e a ⟨rfl,rfl⟩;rw [show ii (av M (k+1+j)) 8=false from g.out]
         go_wp2_with fail
         refine (bK _ _ _ _ _ _ L.out (by omega)).mono ?_;rintro e a ⟨rfl,rfl⟩;rw [show ((k:Int)+1+j).toNat=k+1+j by omega,d.out]
         go_wp2_with fail
         go_ret3
         exact ⟨QRes.no f.out,rfl⟩
       ·have f:=zq (jX (M.drop k) q A.out B.out C.out (fun m=>z (by have l:=m.2.1;rw [F.out] at l;exact l)))
        generalize c:db 8 ((M.drop (k+1)).take j)=N at *
        have v:=zq c
        clear c
        go_wp2_with fail
        refine (bK _ _ _ _ _ _ L.out (by omega)).mono ?_;rintro e a ⟨rfl,rfl⟩;rw [show ((k:Int)+1+j).toNat=k+1+j by omega,d.out]
        go_wp2_with fail
        refine (eY _ _ _).mono ?_;rintro e a ⟨rfl,rfl⟩;rw [show ii (av M (k+1+j)) 8=false from g.out]
        go_wp2_with fail
        go_ret3
        exact ⟨QRes.no f.out,rfl⟩
      ·have f:=zq (jX (M.drop k) q A.out B.out C.out (fun m=>K (by have l:=m.1;rw [u.out] at l;exact l)))
       generalize c:db 8 ((M.drop (k+1)).take j)=N at *
       have v:=zq c
       clear c
       go_wp2_with fail
       refine (bK _ _ _ _ _ _ L.out (by omega)).mono ?_;rintro e a ⟨rfl,rfl⟩;rw [show ((k:Int)+1+j).toNat=k+1+j by omega,d.out]
       go_wp2_with fail
       refine (eY _ _ _).mono ?_;rintro e a ⟨rfl,rfl⟩;rw [show ii (av M (k+1+j)) 8=false from g.out]
       go_wp2_with fail
       go_ret3
       exact ⟨QRes.no f.out,rfl⟩
  ·have P:=zq a4
   have f:=zq (show cO (M.drop k) q=some (uP (av M (k+1)),2) by unfold cO;rw [J.out,R.out,if_neg U.out,if_neg O.out,if_neg (fun h=>h A3.out),if_pos a4])
   clear a4
   go_enter Tryz.func120,Tryz.ntmps120
   go_wp2_with fail
   refine (bK _ _ _ _ _ _ L.out (by omega)).mono ?_;rintro e a ⟨rfl,rfl⟩;rw [aD,d.out]
   go_wp2_with fail
   refine (bK _ _ _ _ _ _ L.out (by omega)).mono ?_;rintro e a ⟨rfl,rfl⟩;rw [show ((k:Int)+1).toNat=k+1 by omega,d.out]
   go_wp2_with fail
   refine (lK _ _).mono ?_;rintro e a ⟨rfl,rfl⟩;rw [P.out]
   go_wp2_with fail
   go_ret3
   exact ⟨QRes.yes f.out rfl,rfl⟩
 ·have b3:(av M k != 92)=true:=by simp [r]
  have f:=zq (show cO (M.drop k) q=some (av M k,1) by unfold cO;rw [J.out,if_neg G,if_neg H,if_pos r])
  clear G H r
  go_enter Tryz.func120,Tryz.ntmps120
  go_wp2_with fail
  refine (bK _ _ _ _ _ _ L.out (by omega)).mono ?_;rintro e a ⟨rfl,rfl⟩;rw [aD,d.out]
  go_wp2_with fail
  go_ret3
  exact ⟨QRes.yes f.out rfl,rfl⟩
theorem DF (c n:Int) (h:n=(if c=120 then 16 else if c=111 then 8 else if c=98 then 2 else 0)):((c==120)=true/\n=16)\/((c==120)=false/\(c==111)=true/\n=8)\/((c==120)=false/\(c==111)=false/\(c==98)=true/\n=2)\/((c==120)=false/\(c==111)=false/\(c==98)=false/\n=0):=by
 by_cases a:c=120
 ·left;simp [a] at h |-;exact h
 by_cases b:c=111
 ·right;left;simp [b] at h |-;exact h
 by_cases d:c=98
 ·right;right;left;simp [d] at h |-;exact h
 ·right;right;right;simp [a,b,d] at h |-;exact h
theorem Ja (l:List UInt8) (n k:Nat) (h:k<n):iK (l.take n) k=iK l k:=by
 unfold iK;simp only [List.getD_eq_getElem?_getD,List.getElem?_take_of_lt h]
theorem lv (base:Int) (c:2<=base) (d:base<=36) (l:List UInt8) (k:Nat) (e:k<(l.take (ch (cq base) l)).length):qK (iK (l.take (ch (cq base) l)) k)<base:=by
 have b:k<ch (cq base) l:=by simp at e;omega
 obtain ⟨a,f⟩:=my _ _ _ b
 rw [fq _ _ f] at a
 unfold cq at a
 rw [lx _ _ c d] at a
 rw [Ja _ _ _ b]
 simpa using a
theorem kx (a:Int) (l:List UInt8):(l.take (ch (cq a) l)).length=ch (cq a) l:=by
 have:=fW (cq a) l
 rw [List.length_take,Nat.min_eq_left this]
theorem BF (b:Nat) (s:ByteArray) (tab:Int->Int) (p:Nat) (w:ai) (h:Lex w b s tab p) (hp:p<s.size) (a7:cq 10 (av (cU tab s.data.toList) p)=true) :
  aJ ah 84 #[au (some ⟨b,0,none⟩)] w fun e w'=>gj (jP (cU tab s.data.toList) s.data.toList p) e/\ax w.heap.size w w':=by
 have m:=Held.start h
 have a9:=h.lt
 have ca:=h.ca
 have b3:=h.sz
 clear h
 have Y:Hid ((cU tab s.data.toList).length=s.size):=by show _=_;rw [dK];simp
 generalize hM:cU tab s.data.toList=M at *
 have g:=zq hM
 clear hM
 have b0:1<=ch (cq 10) (M.drop p):=lC _ _ (by simp;have:=Y.out;omega) (by rw [bZ,bv];exact a7)
 clear a7
 by_cases L:av M p=48
 ·have b1:(av M p==48)=true:=by simp [L]
  by_cases T:av M (p+1)=39
  ·have b2:(av M (p+1)==39)=true:=by simp [T]
   cases hq:cO (s.data.toList.drop (p+2)) 39 with
   | none=>
    have N:=zq (show jP M s.data.toList p=dR 7 by unfold jP;rw [if_pos ⟨L,T⟩,hq])
    have HQ:=zq hq
    clear L T hq
    go_enter Tryz.func84,iO
    go_wp2_with fail
    refine (bt _ _ _ _ _ _ m.lex (by omega)).mono ?_;rintro e w1 ⟨rfl,q⟩;rw [aD,g.out]
    have a:=Held.call q m
    have K:=a.lex.ca
    go_wp2_with fail
    refine (bt _ _ _ _ _ _ a.lex (by omega)).mono ?_;rintro e w2 ⟨rfl,t⟩;rw [show ((p:Int)+1).toNat=p+1 by omega,g.out]
    have d:=Held.call t a
    have U:=d.lex.ca
    clear q t a K m
    go_wp2_with fail
    refine (fb _ _ _ _ _ _ _ d.lex (by omega) (by omega)).mono ?_;rintro e w3 ⟨f,rfl⟩;rw [show ((p:Int)+2).toNat=p+2 by omega,HQ.out] at f
    obtain ⟨x,y,rfl⟩:=f
    obtain ⟨t6,v0,v1,v2,v3,v4,v5,E,F,G,H,I,J⟩:=d.tok
    have Z:=d.lt
    go_wp2_with fail
    refine ay (v:=bV (dR 7)) (by simp [bV,dR,results,go,go_sem,E,F,G,H,I,J]) rfl ⟨?_,(d.sets _ _ _ _ _ _).bel⟩
    rw [N.out];rfl
   | some ck=>
    obtain ⟨c,k⟩:=ck
    have N:=zq (show jP M s.data.toList p=⟨4,[],c,p,p+2+k,0⟩ by unfold jP;rw [if_pos ⟨L,T⟩,hq])
    have HQ:=zq hq
    clear L T hq
    go_enter Tryz.func84,iO
    go_wp2_with fail
    refine (bt _ _ _ _ _ _ m.lex (by omega)).mono ?_;rintro e w1 ⟨rfl,q⟩;rw [aD,g.out]
    have a:=Held.call q m
    have K:=a.lex.ca
    go_wp2_with fail
    refine (bt _ _ _ _ _ _ a.lex (by omega)).mono ?_;rintro e w2 ⟨rfl,t⟩;rw [show ((p:Int)+1).toNat=p+1 by omega,g.out]
    have d:=Held.call t a
    have U:=d.lex.ca
    clear q t a K m
    go_wp2_with fail
    refine (fb _ _ _ _ _ _ _ d.lex (by omega) (by omega)).mono ?_;rintro e w3 ⟨f,rfl⟩;rw [show ((p:Int)+2).toNat=p+2 by omega,HQ.out] at f
    unfold QRes at f
    simp only [] at f
    subst f
    obtain ⟨t6,v0,v1,v2,v3,v4,v5,E,F,G,H,I,J⟩:=d.tok
    have Z:=d.lt
    go_wp2_with fail
    refine ay (v:=bV ⟨4,[],c,p,p+2+k,0⟩) (by simp [bV,results,go,go_sem,E,F,G,H,I,J]) rfl ⟨?_,(d.sets _ _ _ _ _ _).bel⟩
    rw [N.out];rfl
  ·have b2:(av M (p+1)==39)=false:=by simp [T]
   by_cases X:0<cF M p/\0<ch (cq (cF M p)) (M.drop (p+2))
   ·have N:=zq (show jP M s.data.toList p=intR (cF M p) ((M.drop (p+2)).take (ch (cq (cF M p)) (M.drop (p+2)))) p (p+2+ch (cq (cF M p)) (M.drop (p+2))) by unfold jP;rw [if_neg (fun h=>T h.2),if_pos X])
    have HN:=zq (show cF M p=(if av M (p+1)=120 then 16 else if av M (p+1)=111 then 8 else if av M (p+1)=98 then 2 else 0) by unfold cF;rw [if_pos L])
    have a5:((av M (p+1)==120)=true/\cF M p=16)\/((av M (p+1)==120)=false/\(av M (p+1)==111)=true/\cF M p=8)\/((av M (p+1)==120)=false/\(av M (p+1)==111)=false/\(av M (p+1)==98)=true/\cF M p=2):=by
     have h2:=X.1
     rcases DF _ _ HN.out with h | h | h | h
     ·exact .inl h
     ·exact .inr (.inl h)
     ·exact .inr (.inr h)
     ·exact absurd h.2.2.2 (by omega)
    have h3:=X.2
    clear L T X HN
    have a6:2<=cF M p/\cF M p<=36:=by omega
    generalize a4:cF M p=bs at *
    have a8:=zq a4
    clear a4
    have S:=fW (cq bs) (M.drop (p+2))
    rw [aH,Y.out] at S
    have u:=zq (kx bs (M.drop (p+2)))
    have P:=zq (lv bs a6.1 a6.2 (M.drop (p+2)))
    generalize B:ch (cq bs) (M.drop (p+2))=D at *
    have O:=zq B
    clear B
    rcases a5 with ⟨x1,rfl⟩ | ⟨x1,x2,rfl⟩ | ⟨x1,x2,x3,rfl⟩
    all_goals
     go_enter Tryz.func84,iO
     go_wp2_with fail
     refine (bt _ _ _ _ _ _ m.lex (by omega)).mono ?_;rintro e w1 ⟨rfl,q⟩;rw [aD,g.out]
     have a:=Held.call q m
     have K:=a.lex.ca
     go_wp2_with fail
     refine (bt _ _ _ _ _ _ a.lex (by omega)).mono ?_;rintro e w2 ⟨rfl,t⟩;rw [show ((p:Int)+1).toNat=p+1 by omega,g.out]
     have d:=Held.call t a
     have U:=d.lex.ca
     clear q t a K m
     go_wp2_with fail
     refine (iG _ _ _ _ _ _ _ d.lex (by omega)).mono ?_;rintro e W ⟨rfl,l⟩;rw [show ((p:Int)+2).toNat=p+2 by omega,g.out,O.out]
     have i:=Held.call l d
     have R:=i.lex.ca
     go_wp2_with fail
     refine (jC _ _ _ _ _ _ _ i.lex (by omega) (by omega) (by omega)).mono ?_;rintro e wB ⟨rfl,z⟩;rw [show ((p:Int)+2).toNat=p+2 by omega,g.out,show ((p:Int)+2+D-(p+2)).toNat=D by omega]
     have n:=Held.call z i
     go_wp2_with fail
     refine (jT _ _ _ _ _ _ _ _ n.lex (by rw [u.out];omega) (by rw [u.out];omega) (by decide) (by decide) P.out).mono ?_;rintro e wC ⟨f,A⟩
     have o:=Held.call A n
     generalize C:intR _ _ _ _=r at f
     have Q:=zq C
     clear C l z A i n d U R
     unfold gj bV at f;subst f
     obtain ⟨t6,v0,v1,v2,v3,v4,v5,E,F,G,H,I,J⟩:=o.tok
     have Z:=o.lt
     go_wp2_with fail
     refine ay (v:=bV r) (by simp [bV,results,go,go_sem,E,F,G,H,I,J]) rfl ⟨?_,(o.sets _ _ _ _ _ _).bel⟩
     rw [N.out,Q.out];rfl
   ·have N:=zq (show jP M s.data.toList p=intR 10 ((M.drop p).take (ch (cq 10) (M.drop p))) p (p+ch (cq 10) (M.drop p)) by unfold jP;rw [if_neg (fun h=>T h.2),if_neg X])
    have HN:=zq (show cF M p=(if av M (p+1)=120 then 16 else if av M (p+1)=111 then 8 else if av M (p+1)=98 then 2 else 0) by unfold cF;rw [if_pos L])
    have a5:((av M (p+1)==120)=true/\cF M p=16)\/((av M (p+1)==120)=false/\(av M (p+1)==111)=true/\cF M p=8)\/((av M (p+1)==120)=false/\(av M (p+1)==111)=false/\(av M (p+1)==98)=true/\cF M p=2)\/((av M (p+1)==120)=false/\(av M (p+1)==111)=false/\(av M (p+1)==98)=false/\cF M p=0):=DF _ _ HN.out
    have A3:=zq X
    clear L T X HN
    generalize a4:cF M p=bs at *
    have a8:=zq a4
    clear a4
    rcases a5 with ⟨x1,rfl⟩ | ⟨x1,x2,rfl⟩ | ⟨x1,x2,x3,rfl⟩ | ⟨x1,x2,x3,rfl⟩
    ·have a0:=zq (show ch (cq 16) (M.drop (p+2))=0 by have:=A3.out;omega)
     go_enter Tryz.func84,iO
     go_wp2_with fail
     refine (bt _ _ _ _ _ _ m.lex (by omega)).mono ?_;rintro e w1 ⟨rfl,q⟩;rw [aD,g.out]
     have a:=Held.call q m
     have K:=a.lex.ca
     go_wp2_with fail
     refine (bt _ _ _ _ _ _ a.lex (by omega)).mono ?_;rintro e w2 ⟨rfl,t⟩;rw [show ((p:Int)+1).toNat=p+1 by omega,g.out]
     have d:=Held.call t a
     have U:=d.lex.ca
     clear q t a K m
     go_wp2_with fail
     refine (iG _ _ _ _ _ _ _ d.lex (by omega)).mono ?_;rintro e W ⟨rfl,l⟩;rw [show ((p:Int)+2).toNat=p+2 by omega,g.out,show ch (cq 16) (M.drop (p+2))=0 from a0.out]
     have j:=Held.call l d
     clear l d U
     have cm:=j.lex.ca
     go_wp2_with fail
     have S:=fW (cq 10) (M.drop p)
     rw [aH,Y.out] at S
     have u:=zq (kx 10 (M.drop p))
     have P:=zq (lv 10 (by decide) (by decide) (M.drop p))
     have V:=j.lex.ca
     generalize B:ch (cq 10) (M.drop p)=D at *
     have O:=zq B
     clear B
     go_wp2_with fail
     refine (iG _ _ _ _ _ _ _ j.lex (by omega)).mono ?_;rintro e W ⟨rfl,l⟩;rw [aD,g.out,O.out]
     have i:=Held.call l j
     have R:=i.lex.ca
     go_wp2_with fail
     refine (jC _ _ _ _ _ _ _ i.lex (by omega) (by omega) (by omega)).mono ?_;rintro e wB ⟨rfl,z⟩;rw [aD,g.out,show ((p:Int)+D-p).toNat=D by omega]
     have n:=Held.call z i
     go_wp2_with fail
     refine (jT _ _ _ _ _ _ _ _ n.lex (by rw [u.out];omega) (by rw [u.out];omega) (by decide) (by decide) P.out).mono ?_;rintro e wC ⟨f,A⟩
     have o:=Held.call A n
     generalize C:intR _ _ _ _=r at f
     have Q:=zq C
     clear C l z A i n j V R
     unfold gj bV at f;subst f
     obtain ⟨t6,v0,v1,v2,v3,v4,v5,E,F,G,H,I,J⟩:=o.tok
     have Z:=o.lt
     go_wp2_with fail
     refine ay (v:=bV r) (by simp [bV,results,go,go_sem,E,F,G,H,I,J]) rfl ⟨?_,(o.sets _ _ _ _ _ _).bel⟩
     rw [N.out,Q.out];rfl
    ·have a0:=zq (show ch (cq 8) (M.drop (p+2))=0 by have:=A3.out;omega)
     go_enter Tryz.func84,iO
     go_wp2_with fail
     refine (bt _ _ _ _ _ _ m.lex (by omega)).mono ?_;rintro e w1 ⟨rfl,q⟩;rw [aD,g.out]
     have a:=Held.call q m
     have K:=a.lex.ca
     go_wp2_with fail
     refine (bt _ _ _ _ _ _ a.lex (by omega)).mono ?_;rintro e w2 ⟨rfl,t⟩;rw [show ((p:Int)+1).toNat=p+1 by omega,g.out]
     have d:=Held.call t a
     have U:=d.lex.ca
     clear q t a K m
     go_wp2_with fail
     refine (iG _ _ _ _ _ _ _ d.lex (by omega)).mono ?_;rintro e W ⟨rfl,l⟩;rw [show ((p:Int)+2).toNat=p+2 by omega,g.out,show ch (cq 8) (M.drop (p+2))=0 from a0.out]
     have j:=Held.call l d
     clear l d U
     have cm:=j.lex.ca
     go_wp2_with fail
     have S:=fW (cq 10) (M.drop p)
     rw [aH,Y.out] at S
     have u:=zq (kx 10 (M.drop p))
     have P:=zq (lv 10 (by decide) (by decide) (M.drop p))
     have V:=j.lex.ca
     generalize B:ch (cq 10) (M.drop p)=D at *
     have O:=zq B
     clear B
     go_wp2_with fail
     refine (iG _ _ _ _ _ _ _ j.lex (by omega)).mono ?_;rintro e W ⟨rfl,l⟩;rw [aD,g.out,O.out]
     have i:=Held.call l j
     have R:=i.lex.ca
     go_wp2_with fail
     refine (jC _ _ _ _ _ _ _ i.lex (by omega) (by omega) (by omega)).mono ?_;rintro e wB ⟨rfl,z⟩;rw [aD,g.out,show ((p:Int)+D-p).toNat=D by omega]
     have n:=Held.call z i
     go_wp2_with fail
     refine (jT _ _ _ _ _ _ _ _ n.lex (by rw [u.out];omega) (by rw [u.out];omega) (by decide) (by decide) P.out).mono ?_;rintro e wC ⟨f,A⟩
     have o:=Held.call A n
     generalize C:intR _ _ _ _=r at f
     have Q:=zq C
     clear C l z A i n j V R
     unfold gj bV at f;subst f
     obtain ⟨t6,v0,v1,v2,v3,v4,v5,E,F,G,H,I,J⟩:=o.tok
     have Z:=o.lt
     go_wp2_with fail
     refine ay (v:=bV r) (by simp [bV,results,go,go_sem,E,F,G,H,I,J]) rfl ⟨?_,(o.sets _ _ _ _ _ _).bel⟩
     rw [N.out,Q.out];rfl
    ·have a0:=zq (show ch (cq 2) (M.drop (p+2))=0 by have:=A3.out;omega)
     go_enter Tryz.func84,iO
     go_wp2_with fail
     refine (bt _ _ _ _ _ _ m.lex (by omega)).mono ?_;rintro e w1 ⟨rfl,q⟩;rw [aD,g.out]
     have a:=Held.call q m
     have K:=a.lex.ca
     go_wp2_with fail
     refine (bt _ _ _ _ _ _ a.lex (by omega)).mono ?_;rintro e w2 ⟨rfl,t⟩;rw [show ((p:Int)+1).toNat=p+1 by omega,g.out]
     have d:=Held.call t a
     have U:=d.lex.ca
     clear q t a K m
     go_wp2_with fail
     refine (iG _ _ _ _ _ _ _ d.lex (by omega)).mono ?_;rintro e W ⟨rfl,l⟩;rw [show ((p:Int)+2).toNat=p+2 by omega,g.out,show ch (cq 2) (M.drop (p+2))=0 from a0.out]
     have j:=Held.call l d
     clear l d U
     have cm:=j.lex.ca
     go_wp2_with fail
     have S:=fW (cq 10) (M.drop p)
     rw [aH,Y.out] at S
     have u:=zq (kx 10 (M.drop p))
     have P:=zq (lv 10 (by decide) (by decide) (M.drop p))
     have V:=j.lex.ca
     generalize B:ch (cq 10) (M.drop p)=D at *
     have O:=zq B
     clear B
     go_wp2_with fail
     refine (iG _ _ _ _ _ _ _ j.lex (by omega)).mono ?_;rintro e W ⟨rfl,l⟩;rw [aD,g.out,O.out]
     have i:=Held.call l j
     have R:=i.lex.ca
     go_wp2_with fail
     refine (jC _ _ _ _ _ _ _ i.lex (by omega) (by omega) (by omega)).mono ?_;rintro e wB ⟨rfl,z⟩;rw [aD,g.out,show ((p:Int)+D-p).toNat=D by omega]
     have n:=Held.call z i
     go_wp2_with fail
     refine (jT _ _ _ _ _ _ _ _ n.lex (by rw [u.out];omega) (by rw [u.out];omega) (by decide) (by decide) P.out).mono ?_;rintro e wC ⟨f,A⟩
     have o:=Held.call A n
     generalize C:intR _ _ _ _=r at f
     have Q:=zq C
     clear C l z A i n j V R
     unfold gj bV at f;subst f
     obtain ⟨t6,v0,v1,v2,v3,v4,v5,E,F,G,H,I,J⟩:=o.tok
     have Z:=o.lt
     go_wp2_with fail
     refine ay (v:=bV r) (by simp [bV,results,go,go_sem,E,F,G,H,I,J]) rfl ⟨?_,(o.sets _ _ _ _ _ _).bel⟩
     rw [N.out,Q.out];rfl
    ·have Hq:True:=trivial
     go_enter Tryz.func84,iO
     go_wp2_with fail
     refine (bt _ _ _ _ _ _ m.lex (by omega)).mono ?_;rintro e w1 ⟨rfl,q⟩;rw [aD,g.out]
     have a:=Held.call q m
     have K:=a.lex.ca
     go_wp2_with fail
     refine (bt _ _ _ _ _ _ a.lex (by omega)).mono ?_;rintro e w2 ⟨rfl,t⟩;rw [show ((p:Int)+1).toNat=p+1 by omega,g.out]
     have d:=Held.call t a
     have U:=d.lex.ca
     clear q t a K m
     go_wp2_with fail
     have j:=d
     clear d
     have S:=fW (cq 10) (M.drop p)
     rw [aH,Y.out] at S
     have u:=zq (kx 10 (M.drop p))
     have P:=zq (lv 10 (by decide) (by decide) (M.drop p))
     have V:=j.lex.ca
     generalize B:ch (cq 10) (M.drop p)=D at *
     have O:=zq B
     clear B
     refine (iG _ _ _ _ _ _ _ j.lex (by omega)).mono ?_;rintro e W ⟨rfl,l⟩;rw [aD,g.out,O.out]
     have i:=Held.call l j
     have R:=i.lex.ca
     go_wp2_with fail
     refine (jC _ _ _ _ _ _ _ i.lex (by omega) (by omega) (by omega)).mono ?_;rintro e wB ⟨rfl,z⟩;rw [aD,g.out,show ((p:Int)+D-p).toNat=D by omega]
     have n:=Held.call z i
     go_wp2_with fail
     refine (jT _ _ _ _ _ _ _ _ n.lex (by rw [u.out];omega) (by rw [u.out];omega) (by decide) (by decide) P.out).mono ?_;rintro e wC ⟨f,A⟩
     have o:=Held.call A n
     generalize C:intR _ _ _ _=r at f
     have Q:=zq C
     clear C l z A i n j V R
     unfold gj bV at f;subst f
     obtain ⟨t6,v0,v1,v2,v3,v4,v5,E,F,G,H,I,J⟩:=o.tok
     have Z:=o.lt
     go_wp2_with fail
     refine ay (v:=bV r) (by simp [bV,results,go,go_sem,E,F,G,H,I,J]) rfl ⟨?_,(o.sets _ _ _ _ _ _).bel⟩
     rw [N.out,Q.out];rfl
 ·have b1:(av M p==48)=false:=by simp [L]
  have N:=zq (show jP M s.data.toList p=intR 10 ((M.drop p).take (ch (cq 10) (M.drop p))) p (p+ch (cq 10) (M.drop p)) by unfold jP;rw [if_neg (fun h=>L h.1),if_neg (fun h=>absurd h.1 (by unfold cF;rw [if_neg L];decide))])
  clear L
  go_enter Tryz.func84,iO
  go_wp2_with fail
  refine (bt _ _ _ _ _ _ m.lex (by omega)).mono ?_;rintro e w1 ⟨rfl,q⟩;rw [aD,g.out]
  have a:=Held.call q m
  have K:=a.lex.ca
  go_wp2_with fail
  have j:=a
  clear a
  have S:=fW (cq 10) (M.drop p)
  rw [aH,Y.out] at S
  have u:=zq (kx 10 (M.drop p))
  have P:=zq (lv 10 (by decide) (by decide) (M.drop p))
  have V:=j.lex.ca
  generalize B:ch (cq 10) (M.drop p)=D at *
  have O:=zq B
  clear B
  refine (iG _ _ _ _ _ _ _ j.lex (by omega)).mono ?_;rintro e W ⟨rfl,l⟩;rw [aD,g.out,O.out]
  have i:=Held.call l j
  have R:=i.lex.ca
  go_wp2_with fail
  refine (jC _ _ _ _ _ _ _ i.lex (by omega) (by omega) (by omega)).mono ?_;rintro e wB ⟨rfl,z⟩;rw [aD,g.out,show ((p:Int)+D-p).toNat=D by omega]
  have n:=Held.call z i
  go_wp2_with fail
  refine (jT _ _ _ _ _ _ _ _ n.lex (by rw [u.out];omega) (by rw [u.out];omega) (by decide) (by decide) P.out).mono ?_;rintro e wC ⟨f,A⟩
  have o:=Held.call A n
  generalize C:intR _ _ _ _=r at f
  have Q:=zq C
  clear C l z A i n j V R
  unfold gj bV at f;subst f
  obtain ⟨t6,v0,v1,v2,v3,v4,v5,E,F,G,H,I,J⟩:=o.tok
  have Z:=o.lt
  go_wp2_with fail
  refine ay (v:=bV r) (by simp [bV,results,go,go_sem,E,F,G,H,I,J]) rfl ⟨?_,(o.sets _ _ _ _ _ _).bel⟩
  rw [N.out,Q.out];rfl
end Go.Proofs.YtlikcjbjibhjgaaGreatDoor
