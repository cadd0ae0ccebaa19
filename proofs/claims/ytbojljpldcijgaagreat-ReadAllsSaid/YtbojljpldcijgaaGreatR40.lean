/- Parts of the proof. -/
import Derived.Test.YtbojljpldcijgaaGreatR01
import Derived.Test.YtbojljpldcijgaaGreatR39
import Derived.RegionTactic
import Derived.BigRegion
import Derived.Test.YtbojljpldcijgaaGreatR36
import Derived.Test.YtbojljpldcijgaaGreatR05
import Derived.Laws.Tables
import Derived.Laws.CopyOwn
import Derived.Test.YtbojljpldcijgaaGreatR02
import Derived.Test.YtbojljpldcijgaaGreatR06
set_option maxHeartbeats 12800000
set_option maxRecDepth 100000
open Bool renaming and_eq_true -> bN
open Go renaming Calls -> aU, World -> au, bodyPost_ret -> aw, execOp -> aL, maxLen -> bF, wpList -> cq
open Go.IntKind renaming i64 -> ab
open Go.IntWalk renaming u8_in -> cP
open Go.Proofs.Tryz renaming func104 -> db, ntmps104 -> cM, prog -> am, results104 -> cj, underlying168 -> aZ, underlying5 -> bA, underlying9 -> bo
open Go.RowKit renaming Below -> aB
open Go.RowKit.Below renaming alloc -> cR, heap_setCell -> cW, refl -> ap, setCell -> ch
open Go.Sem renaming run_bind -> fE
open Go.Value renaming bool -> av, int -> aa, oneCell' -> fl, pointer -> ar, string -> ac, tuple -> aJ
open Go.World renaming setCell -> bw
open Int renaming eq_ofNat_of_zero_le -> bU
open List renaming length_append -> bC, length_drop -> aN
open Nat renaming le_refl -> ae, le_trans -> aQ, lt_of_lt_of_le -> aA, zero_le -> bc
namespace Go.Proofs.YtbojljpldcijgaaGreat
open Go.RowKit Hb
theorem pj (s:ByteArray) (a:Int->Int) (S:ex a) (p:Nat) (hp:p<s.size) (a4:s.size<=16384) (a5:(ak (ba a s.data.toList) p==46)=true) (k2:(cls (ak (ba a s.data.toList) p)==2)=false) (k3:(cls (ak (ba a s.data.toList) p)==3)=false) (k5:(cls (ak (ba a s.data.toList) p)==5)=true) (d1:decide (ak (ba a s.data.toList) (p+1)<0)=false) (d2:(ak (ba a s.data.toList) (p+1)==37)=false) (d3:(cls (ak (ba a s.data.toList) (p+1))==1)=false) (hl:100<(((ba a s.data.toList).drop p).take (br cJ ((ba a s.data.toList).drop p))).length) (w:au) :
  aU am 104 #[eK s a,aa ab p] w fun e w'=>dL (cY 2) e/\aB w.heap.size w w':=by
 have f:=zq S
 clear S
 have R:Hid ((ba a s.data.toList).length=s.size):=by show _=_;rw [bL];simp
 generalize O:ba a s.data.toList=M at *
 have d:=zq O
 clear O
 have Y:0<=ak M p:=by have:=bX M p;have:=R.out;omega
 have Z:=dS M p
 have b3:IntKind.u8.wrap (ak M p)=ak M p:=cP _ (by omega)
 have a2:=bS cL (M.drop p)
 have a3:=bS cJ (M.drop p)
 rw [aN,R.out] at a2 a3
 have b2:decide ((100:Int)<(((M.drop p).take (br cJ (M.drop p))).length:Int))=true:=decide_eq_true (by omega)
 clear hl
 go_enter db,cM
 go_wp2_with (first | (refine bb rfl _ s a rfl rfl ?_;intro b k n b1 q;have g:=n.below ((ap _ _).alloc (ae _) aX) n.lt;unfold aX at g) | (with_reducible refine aG ?_;refine aq rfl _ rfl rfl g ?_))
 refine (aO s a M d f _ p (by omega) _).mono ?_;rintro e w2 ⟨rfl,l⟩
 have a1:=q.size
 have a6:=n.lt
 have c:=g.below l g.lt
 have m:aB (k.alloc aX).heap.size (k.alloc aX) w2:=l
 have a7:k.heap.size<w2.heap.size:=aA (by simp) l.size
 have a8:k.heap.size<w2.heap.size+1:=by omega
 obtain ⟨z,A,B,C,D,E,T⟩:=bR m (by simp)
 have V:aB w.heap.size w w2:=(q.alloc a1 aX).trans (m.mono (by simp;omega))
 clear q l g
 go_wp2_with fail
 refine (dv _ _).mono ?_;rintro e w3 ⟨rfl,rfl⟩
 have a0:=fun w'=>dQ (P:=am) 168 9 5 aZ bA bo (ak M p) Y Z w'
 go_wp2_with (first | (with_reducible refine aG ?_;refine aq rfl _ rfl rfl (c.below (ce (ap w2.heap.size w2) (ae _) _ _) c.lt) ?_) | (with_reducible refine aR ?_;refine ax _ rfl rfl (c.below (ce (ap w2.heap.size w2) (ae _) _ _) c.lt) rfl ?_))
 refine (aO s a M d f _ (p+1) (by omega) _).mono ?_;rintro e w4 ⟨rfl,r⟩
 have h:=Txt.below (c.below (ce (ap w2.heap.size w2) (ae _) _ _) c.lt) r (by simp;have:=c.lt;omega)
 go_wp2_with (first | (with_reducible refine aG ?_;refine aq rfl _ rfl rfl h ?_) | (with_reducible refine aR ?_;refine ax _ rfl rfl h rfl ?_))
 refine (aO s a M d f _ (p+1) (by omega) _).mono ?_;rintro e w5 ⟨rfl,t⟩
 have i:=h.below t h.lt
 go_wp2_with (first | (with_reducible refine aG ?_;refine aq rfl _ rfl rfl i ?_) | (with_reducible refine aR ?_;refine ax _ rfl rfl i rfl ?_))
 refine (aO s a M d f _ (p+1) (by omega) _).mono ?_;rintro e w6 ⟨rfl,u⟩
 have o:=i.below u i.lt
 have y:=ip (ae _) r t u
 go_wp2_with fail
 refine (gQ _ _).mono ?_;rintro e w9 ⟨rfl,rfl⟩
 obtain ⟨F,G,H,I,J,K,L,U⟩:=dE y
 have j:aB w2.heap.size w2 w6:=(ce (ap w2.heap.size w2) (ae _) _ _).trans (y.mono (by simp;omega))
 go_wp2_with (first | (with_reducible refine aG ?_;refine aq rfl _ rfl rfl (o.same (by simp [bw]) (cW _ _ _ _ (by have:=c.lt;dsimp only;omega))) ?_) | (with_reducible refine aR ?_;refine ax _ rfl rfl (o.same (by simp [bw]) (cW _ _ _ _ (by have:=c.lt;dsimp only;omega))) rfl ?_))
 refine (ko s a f.out p a4 (by omega) _).mono ?_;rintro e w4' ⟨rfl,x⟩;rw [d.out]
 obtain ⟨k0,k1,b4,b5,b6,b7,k6,kl⟩:=rr F G H I J K L U x
 clear F G H I J K L
 have N:aB w2.heap.size w2 w4':=(j.setCell (p:=⟨_,_,none⟩) (by dsimp only;omega) _).trans (x.mono (by rw [pn];omega))
 clear j x y r t u h i o
 have j:=N
 clear N
 clear z A B C D E T
 obtain ⟨z,A,B,C,D,E,T⟩:=bR (m.trans (j.mono (by simp;omega))) (by simp)
 generalize Q:(M.drop p).take (br cJ (M.drop p))=X at *
 have HX:=zq Q
 clear Q
 clear m c a0
 have W:=V.trans (j.mono (by omega))
 have b0:w2.heap.size<=w4'.heap.size:=by omega
 have a9:k.heap.size<w4'.heap.size:=by omega
 go_wp2_with fail
 refine aw (v:=bq (cY 2)) (by simp [bq,cY,results,cj,go_sem,z,A,B,C,D,E]) rfl ⟨rfl,by repeat (first | with_reducible exact W | with_reducible refine ch ?_ (by dsimp only;omega) _ | with_reducible refine cR ?_ (by simp [bw];omega) _)⟩
theorem wH (s:ByteArray) (a:Int->Int) (S:ex a) (p:Nat) (hp:p<s.size) (a5:s.size<=16384) (a6:(ak (ba a s.data.toList) p==46)=true) (k2:(cls (ak (ba a s.data.toList) p)==2)=false) (k3:(cls (ak (ba a s.data.toList) p)==3)=false) (k5:(cls (ak (ba a s.data.toList) p)==5)=true) (d1:decide (ak (ba a s.data.toList) (p+1)<0)=false) (d2:(ak (ba a s.data.toList) (p+1)==37)=false) (d3:(cls (ak (ba a s.data.toList) (p+1))==1)=false) (hl:¬100<(((ba a s.data.toList).drop p).take (br cJ ((ba a s.data.toList).drop p))).length) (w:au) :
  aU am 104 #[eK s a,aa ab p] w fun e w'=>dL ⟨1,(((ba a s.data.toList).drop p).take (br cJ ((ba a s.data.toList).drop p))),0,p,p+br cJ ((ba a s.data.toList).drop p),0⟩ e/\aB w.heap.size w w':=by
 have f:=zq S
 clear S
 have R:Hid ((ba a s.data.toList).length=s.size):=by show _=_;rw [bL];simp
 generalize O:ba a s.data.toList=M at *
 have d:=zq O
 clear O
 have Z:0<=ak M p:=by have:=bX M p;have:=R.out;omega
 have a0:=dS M p
 have b4:IntKind.u8.wrap (ak M p)=ak M p:=cP _ (by omega)
 have a3:=bS cL (M.drop p)
 have a4:=bS cJ (M.drop p)
 rw [aN,R.out] at a3 a4
 have b3:decide ((100:Int)<(((M.drop p).take (br cJ (M.drop p))).length:Int))=false:=decide_eq_false (by omega)
 clear hl
 go_enter db,cM
 go_wp2_with (first | (refine bb rfl _ s a rfl rfl ?_;intro b k n b2 q;have g:=n.below ((ap _ _).alloc (ae _) aX) n.lt;unfold aX at g) | (with_reducible refine aG ?_;refine aq rfl _ rfl rfl g ?_))
 refine (aO s a M d f _ p (by omega) _).mono ?_;rintro e w2 ⟨rfl,l⟩
 have a2:=q.size
 have a7:=n.lt
 have c:=g.below l g.lt
 have m:aB (k.alloc aX).heap.size (k.alloc aX) w2:=l
 have a8:k.heap.size<w2.heap.size:=aA (by simp) l.size
 have a9:k.heap.size<w2.heap.size+1:=by omega
 obtain ⟨z,A,B,C,D,E,T⟩:=bR m (by simp)
 have W:aB w.heap.size w w2:=(q.alloc a2 aX).trans (m.mono (by simp;omega))
 clear q l g
 go_wp2_with fail
 refine (dv _ _).mono ?_;rintro e w3 ⟨rfl,rfl⟩
 have a1:=fun w'=>dQ (P:=am) 168 9 5 aZ bA bo (ak M p) Z a0 w'
 go_wp2_with (first | (with_reducible refine aG ?_;refine aq rfl _ rfl rfl (c.below (ce (ap w2.heap.size w2) (ae _) _ _) c.lt) ?_) | (with_reducible refine aR ?_;refine ax _ rfl rfl (c.below (ce (ap w2.heap.size w2) (ae _) _ _) c.lt) rfl ?_))
 refine (aO s a M d f _ (p+1) (by omega) _).mono ?_;rintro e w4 ⟨rfl,r⟩
 have h:=Txt.below (c.below (ce (ap w2.heap.size w2) (ae _) _ _) c.lt) r (by simp;have:=c.lt;omega)
 go_wp2_with (first | (with_reducible refine aG ?_;refine aq rfl _ rfl rfl h ?_) | (with_reducible refine aR ?_;refine ax _ rfl rfl h rfl ?_))
 refine (aO s a M d f _ (p+1) (by omega) _).mono ?_;rintro e w5 ⟨rfl,t⟩
 have i:=h.below t h.lt
 go_wp2_with (first | (with_reducible refine aG ?_;refine aq rfl _ rfl rfl i ?_) | (with_reducible refine aR ?_;refine ax _ rfl rfl i rfl ?_))
 refine (aO s a M d f _ (p+1) (by omega) _).mono ?_;rintro e w6 ⟨rfl,u⟩
 have o:=i.below u i.lt
 have y:=ip (ae _) r t u
 go_wp2_with fail
 refine (gQ _ _).mono ?_;rintro e w9 ⟨rfl,rfl⟩
 obtain ⟨F,G,H,I,J,K,L,V⟩:=dE y
 have j:aB w2.heap.size w2 w6:=(ce (ap w2.heap.size w2) (ae _) _ _).trans (y.mono (by simp;omega))
 go_wp2_with (first | (with_reducible refine aG ?_;refine aq rfl _ rfl rfl (o.same (by simp [bw]) (cW _ _ _ _ (by have:=c.lt;dsimp only;omega))) ?_) | (with_reducible refine aR ?_;refine ax _ rfl rfl (o.same (by simp [bw]) (cW _ _ _ _ (by have:=c.lt;dsimp only;omega))) rfl ?_))
 refine (ko s a f.out p a5 (by omega) _).mono ?_;rintro e w4' ⟨rfl,x⟩;rw [d.out]
 obtain ⟨k0,k1,b5,b6,b7,b8,k6,kl⟩:=rr F G H I J K L V x
 clear F G H I J K L
 have N:aB w2.heap.size w2 w4':=(j.setCell (p:=⟨_,_,none⟩) (by dsimp only;omega) _).trans (x.mono (by rw [pn];omega))
 clear j x y r t u h i o
 have j:=N
 clear N
 clear z A B C D E T
 obtain ⟨z,A,B,C,D,E,T⟩:=bR (m.trans (j.mono (by simp;omega))) (by simp)
 generalize Q:(M.drop p).take (br cJ (M.drop p))=X at *
 have U:=zq Q
 clear Q
 clear m c a1
 have Y:=W.trans (j.mono (by omega))
 have b1:w2.heap.size<=w4'.heap.size:=by omega
 have b0:k.heap.size<w4'.heap.size:=by omega
 go_wp2_with fail
 refine aw (v:=bq ⟨1,X,0,p,p+br cJ (M.drop p),0⟩) (by simp [bq,results,cj,go_sem,z,A,B,C,D,E]) rfl ⟨by rw [U.out];rfl,by repeat (first | with_reducible exact Y | with_reducible refine ch ?_ (by dsimp only;omega) _ | with_reducible refine cR ?_ (by simp [bw];omega) _)⟩
theorem rH (s:ByteArray) (a:Int->Int) (G:ex a) (p:Nat) (X:p<s.size) (a3:s.size<=16384) (a4:(ak (ba a s.data.toList) p==46)=false) (k2:(cls (ak (ba a s.data.toList) p)==2)=false) (k3:(cls (ak (ba a s.data.toList) p)==3)=false) (k5:(cls (ak (ba a s.data.toList) p)==5)=false) (k4:(cls (ak (ba a s.data.toList) p)==4)=true) (Y:((ew (ba a s.data.toList) s.data.toList p).err==0)=true) (w:au) :
  aU am 104 #[eK s a,aa ab p] w fun e w'=>dL (ew (ba a s.data.toList) s.data.toList p) e/\aB w.heap.size w w':=by
 have A:=zq G
 clear G
 have F:Hid ((ba a s.data.toList).length=s.size):=by show _=_;rw [bL];simp
 generalize D:ba a s.data.toList=M at *
 have z:=zq D
 clear D
 have U:0<=ak M p:=by have:=bX M p;have:=F.out;omega
 have V:=dS M p
 have b1:IntKind.u8.wrap (ak M p)=ak M p:=cP _ (by omega)
 have a1:=bS cL (M.drop p)
 have a2:=bS cJ (M.drop p)
 rw [aN,F.out] at a1 a2
 have a0:=zq (pG M s.data.toList p)
 go_enter db,cM
 go_wp2_with (first | (refine bb rfl _ s a rfl rfl ?_;intro b f l b0 m;have c:=l.below ((ap _ _).alloc (ae _) aX) l.lt;unfold aX at c) | (with_reducible refine aG ?_;refine aq rfl _ rfl rfl c ?_))
 refine (aO s a M z A _ p (by omega) _).mono ?_;rintro e w2 ⟨rfl,i⟩
 have Z:=m.size
 have a5:=l.lt
 have d:=c.below i c.lt
 have j:aB (f.alloc aX).heap.size (f.alloc aX) w2:=i
 have a6:f.heap.size<w2.heap.size:=aA (by simp) i.size
 have a7:f.heap.size<w2.heap.size+1:=by omega
 obtain ⟨q,r,t,u,x,y,H⟩:=bR j (by simp)
 have S:aB w.heap.size w w2:=(m.alloc Z aX).trans (j.mono (by simp;omega))
 clear m i c
 go_wp2_with fail
 refine (dv _ _).mono ?_;rintro e w3 ⟨rfl,rfl⟩
 have W:=fun w'=>dQ (P:=am) 168 9 5 aZ bA bo (ak M p) U V w'
 go_wp2_with (first | (with_reducible refine aG ?_;refine aq rfl _ rfl rfl (d.below (ce (ap w2.heap.size w2) (ae _) _ _) d.lt) ?_) | (with_reducible refine aR ?_;refine ax _ rfl rfl (d.below (ce (ap w2.heap.size w2) (ae _) _ _) d.lt) rfl ?_))
 refine (oj s a A.out p X a3 _).mono ?_;rintro e w4 ⟨⟨n,k,rfl,o⟩,B⟩;rw [z.out] at o |-
 have I:=zq o
 clear o
 generalize E:ew M s.data.toList p=R at *
 have J:=zq E
 clear E
 obtain ⟨g0,g1,g2,g3,g4,g5,g6,gl⟩:=dE B
 have C:aB w2.heap.size w2 w4:=(ce (ap w2.heap.size w2) (ae _) _ _).trans (B.mono (by simp;omega))
 clear q r t u x y H
 obtain ⟨q,r,t,u,x,y,H⟩:=bR (j.trans (C.mono (by simp;omega))) (by simp)
 clear j d W
 have T:=S.trans (C.mono (by omega))
 have a9:w2.heap.size<=w4.heap.size:=by omega
 have a8:f.heap.size<w4.heap.size:=by omega
 go_wp2_with fail
 refine aw (v:=bq ⟨4,[],n,p,k,0⟩) (by simp [bq,results,cj,go_sem,q,r,t,u,x,y]) rfl ⟨by
  rw [J.out]
  have g:R.err=0:=by simpa using Y
  obtain ⟨K,L⟩:=I.out g
  rcases a0.out with ⟨_,N,O,Q⟩ | h
  ·show _=Ending.returned (bq R);unfold bq;rw [N,O,Q,K,L,g]
  ·rw [h] at g;exact absurd g (by decide),by repeat (first | with_reducible exact T | with_reducible refine ch ?_ (by dsimp only;omega) _ | with_reducible refine cR ?_ (by simp [bw];omega) _)⟩
theorem rI (s:ByteArray) (a:Int->Int) (G:ex a) (p:Nat) (Q:p<s.size) (W:s.size<=16384) (Y:(ak (ba a s.data.toList) p==46)=false) (k2:(cls (ak (ba a s.data.toList) p)==2)=false) (k3:(cls (ak (ba a s.data.toList) p)==3)=false) (k5:(cls (ak (ba a s.data.toList) p)==5)=false) (k4:(cls (ak (ba a s.data.toList) p)==4)=true) (F:((ew (ba a s.data.toList) s.data.toList p).err==0)=false) (w:au) :
  aU am 104 #[eK s a,aa ab p] w fun e w'=>dL (ew (ba a s.data.toList) s.data.toList p) e/\aB w.heap.size w w':=by
 have z:=zq G
 clear G
 have E:Hid ((ba a s.data.toList).length=s.size):=by show _=_;rw [bL];simp
 generalize C:ba a s.data.toList=M at *
 have y:=zq C
 clear C
 have L:0<=ak M p:=by have:=bX M p;have:=E.out;omega
 have N:=dS M p
 have a6:IntKind.u8.wrap (ak M p)=ak M p:=cP _ (by omega)
 have U:=bS cL (M.drop p)
 have V:=bS cJ (M.drop p)
 rw [aN,E.out] at U V
 have T:=zq (pG M s.data.toList p)
 go_enter db,cM
 go_wp2_with (first | (refine bb rfl _ s a rfl rfl ?_;intro b f j a5 l;have c:=j.below ((ap _ _).alloc (ae _) aX) j.lt;unfold aX at c) | (with_reducible refine aG ?_;refine aq rfl _ rfl rfl c ?_))
 refine (aO s a M y z _ p (by omega) _).mono ?_;rintro e w2 ⟨rfl,g⟩
 have S:=l.size
 have a0:=j.lt
 have d:=c.below g c.lt
 have i:aB (f.alloc aX).heap.size (f.alloc aX) w2:=g
 have a1:f.heap.size<w2.heap.size:=aA (by simp) g.size
 have a2:f.heap.size<w2.heap.size+1:=by omega
 obtain ⟨o,q,r,t,u,x,H⟩:=bR i (by simp)
 have J:aB w.heap.size w w2:=(l.alloc S aX).trans (i.mono (by simp;omega))
 clear l g c
 go_wp2_with fail
 refine (dv _ _).mono ?_;rintro e w3 ⟨rfl,rfl⟩
 have O:=fun w'=>dQ (P:=am) 168 9 5 aZ bA bo (ak M p) L N w'
 go_wp2_with (first | (with_reducible refine aG ?_;refine aq rfl _ rfl rfl (d.below (ce (ap w2.heap.size w2) (ae _) _ _) d.lt) ?_) | (with_reducible refine aR ?_;refine ax _ rfl rfl (d.below (ce (ap w2.heap.size w2) (ae _) _ _) d.lt) rfl ?_))
 refine (oj s a z.out p Q W _).mono ?_;rintro e w4 ⟨⟨n,k,rfl,m⟩,A⟩;rw [y.out] at m |-
 have X:=zq m
 clear m
 generalize D:ew M s.data.toList p=R at *
 have I:=zq D
 clear D
 obtain ⟨Z,g1,g2,g3,g4,g5,g6,gl⟩:=dE A
 have B:aB w2.heap.size w2 w4:=(ce (ap w2.heap.size w2) (ae _) _ _).trans (A.mono (by simp;omega))
 clear o q r t u x H
 obtain ⟨o,q,r,t,u,x,H⟩:=bR (i.trans (B.mono (by simp;omega))) (by simp)
 clear i d O
 have K:=J.trans (B.mono (by omega))
 have a4:w2.heap.size<=w4.heap.size:=by omega
 have a3:f.heap.size<w4.heap.size:=by omega
 go_wp2_with fail
 refine aw (v:=bq (cY 7)) (by simp [bq,cY,results,cj,go_sem,o,q,r,t,u,x]) rfl ⟨by
  rw [I.out]
  rcases T.out with ⟨h,_⟩ | h
  ·rw [h] at F;cases F
  ·rw [h];rfl,by repeat (first | with_reducible exact K | with_reducible refine ch ?_ (by dsimp only;omega) _ | with_reducible refine cR ?_ (by simp [bw];omega) _)⟩
theorem rE (s:ByteArray) (a:Int->Int) (A:ex a) (p:Nat) (K:p<s.size) (Q:s.size<=16384) (T:(ak (ba a s.data.toList) p==46)=false) (k2:(cls (ak (ba a s.data.toList) p)==2)=false) (k3:(cls (ak (ba a s.data.toList) p)==3)=false) (k5:(cls (ak (ba a s.data.toList) p)==5)=false) (k4:(cls (ak (ba a s.data.toList) p)==4)=false) (S:(ak (ba a s.data.toList) p==33)=false) (U:(ak (ba a s.data.toList) p==59)=false) (k6:(cls (ak (ba a s.data.toList) p)==6)=false) (E:(ak (ba a s.data.toList) p==39)=true) (hk:mv s.data.toList p (ak (ba a s.data.toList) p)=false) (w:au) :
  aU am 104 #[eK s a,aa ab p] w fun e w'=>dL (cY 7) e/\aB w.heap.size w w':=by
 have D:=zq A
 clear A
 have y:Hid ((ba a s.data.toList).length=s.size):=by show _=_;rw [bL];simp
 generalize u:ba a s.data.toList=M at *
 have C:=zq u
 clear u
 have H:0<=ak M p:=by have:=bX M p;have:=y.out;omega
 have I:=dS M p
 have a6:IntKind.u8.wrap (ak M p)=ak M p:=cP _ (by omega)
 have N:=bS cL (M.drop p)
 have O:=bS cJ (M.drop p)
 rw [aN,y.out] at N O
 have z:ak M p=39\/ak M p=34:=by left;simpa using E
 go_enter db,cM
 go_wp2_with (first | (refine bb rfl _ s a rfl rfl ?_;intro b f i a5 j;have c:=i.below ((ap _ _).alloc (ae _) aX) i.lt;unfold aX at c) | (with_reducible refine aG ?_;refine aq rfl _ rfl rfl c ?_))
 refine (aO s a M C D _ p (by omega) _).mono ?_;rintro e w2 ⟨rfl,g⟩
 have L:=j.size
 have a0:=i.lt
 have d:=c.below g c.lt
 have h:aB (f.alloc aX).heap.size (f.alloc aX) w2:=g
 have a1:f.heap.size<w2.heap.size:=aA (by simp) g.size
 have a2:f.heap.size<w2.heap.size+1:=by omega
 obtain ⟨k,l,m,n,o,q,B⟩:=bR h (by simp)
 have F:aB w.heap.size w w2:=(j.alloc L aX).trans (h.mono (by simp;omega))
 clear j g c
 go_wp2_with fail
 refine (dv _ _).mono ?_;rintro e w3 ⟨rfl,rfl⟩
 have J:=fun w'=>dQ (P:=am) 168 9 5 aZ bA bo (ak M p) H I w'
 go_wp2_with (first | (with_reducible refine aG ?_;refine aq rfl _ rfl rfl (d.below (ce (ap w2.heap.size w2) (ae _) _ _) d.lt) ?_) | (with_reducible refine aR ?_;refine ax _ rfl rfl (d.below (ce (ap w2.heap.size w2) (ae _) _ _) d.lt) rfl ?_))
 refine (kJ s a p K (ak M p) z Q _).mono ?_;rintro e w4 ⟨rfl,r⟩
 obtain ⟨V,W,Y,Z,g4,g5,g6,gl⟩:=dE r
 have t:aB w2.heap.size w2 w4:=(ce (ap w2.heap.size w2) (ae _) _ _).trans (r.mono (by simp;omega))
 clear k l m n o q B
 obtain ⟨k,l,m,n,o,q,B⟩:=bR (h.trans (t.mono (by simp;omega))) (by simp)
 clear z
 generalize x:jD s.data.toList p (ak M p)=X at *
 have R:=zq x
 clear x
 clear h d J
 have G:=F.trans (t.mono (by omega))
 have a4:w2.heap.size<=w4.heap.size:=by omega
 have a3:f.heap.size<w4.heap.size:=by omega
 go_wp2_with fail
 refine aw (v:=bq (cY 7)) (by simp [bq,cY,results,cj,go_sem,k,l,m,n,o,q]) rfl ⟨rfl,by repeat (first | with_reducible exact G | with_reducible refine ch ?_ (by dsimp only;omega) _ | with_reducible refine cR ?_ (by simp [bw];omega) _)⟩
theorem rD (s:ByteArray) (a:Int->Int) (A:ex a) (p:Nat) (N:p<s.size) (S:s.size<=16384) (U:(ak (ba a s.data.toList) p==46)=false) (k2:(cls (ak (ba a s.data.toList) p)==2)=false) (k3:(cls (ak (ba a s.data.toList) p)==3)=false) (k5:(cls (ak (ba a s.data.toList) p)==5)=false) (k4:(cls (ak (ba a s.data.toList) p)==4)=false) (T:(ak (ba a s.data.toList) p==33)=false) (V:(ak (ba a s.data.toList) p==59)=false) (k6:(cls (ak (ba a s.data.toList) p)==6)=false) (F:(ak (ba a s.data.toList) p==39)=true) (hk:mv s.data.toList p (ak (ba a s.data.toList) p)=true) (L:¬100<(jD s.data.toList p (ak (ba a s.data.toList) p)).length) (w:au) :
  aU am 104 #[eK s a,aa ab p] w fun e w'=>dL ⟨2,jD s.data.toList p (ak (ba a s.data.toList) p),0,p,ny s.data.toList p (ak (ba a s.data.toList) p),0⟩ e/\aB w.heap.size w w':=by
 have D:=zq A
 clear A
 have y:Hid ((ba a s.data.toList).length=s.size):=by show _=_;rw [bL];simp
 generalize u:ba a s.data.toList=M at *
 have C:=zq u
 clear u
 have I:0<=ak M p:=by have:=bX M p;have:=y.out;omega
 have J:=dS M p
 have a7:IntKind.u8.wrap (ak M p)=ak M p:=cP _ (by omega)
 have Q:=bS cL (M.drop p)
 have R:=bS cJ (M.drop p)
 rw [aN,y.out] at Q R
 have a6:decide ((100:Int)<((jD s.data.toList p (ak M p)).length:Int))=false:=decide_eq_false (by omega)
 clear L
 have z:ak M p=39\/ak M p=34:=by left;simpa using F
 go_enter db,cM
 go_wp2_with (first | (refine bb rfl _ s a rfl rfl ?_;intro b f i a5 j;have c:=i.below ((ap _ _).alloc (ae _) aX) i.lt;unfold aX at c) | (with_reducible refine aG ?_;refine aq rfl _ rfl rfl c ?_))
 refine (aO s a M C D _ p (by omega) _).mono ?_;rintro e w2 ⟨rfl,g⟩
 have O:=j.size
 have a0:=i.lt
 have d:=c.below g c.lt
 have h:aB (f.alloc aX).heap.size (f.alloc aX) w2:=g
 have a1:f.heap.size<w2.heap.size:=aA (by simp) g.size
 have a2:f.heap.size<w2.heap.size+1:=by omega
 obtain ⟨k,l,m,n,o,q,B⟩:=bR h (by simp)
 have G:aB w.heap.size w w2:=(j.alloc O aX).trans (h.mono (by simp;omega))
 clear j g c
 go_wp2_with fail
 refine (dv _ _).mono ?_;rintro e w3 ⟨rfl,rfl⟩
 have K:=fun w'=>dQ (P:=am) 168 9 5 aZ bA bo (ak M p) I J w'
 go_wp2_with (first | (with_reducible refine aG ?_;refine aq rfl _ rfl rfl (d.below (ce (ap w2.heap.size w2) (ae _) _ _) d.lt) ?_) | (with_reducible refine aR ?_;refine ax _ rfl rfl (d.below (ce (ap w2.heap.size w2) (ae _) _ _) d.lt) rfl ?_))
 refine (kJ s a p N (ak M p) z S _).mono ?_;rintro e w4 ⟨rfl,r⟩
 obtain ⟨W,Y,Z,g3,g4,g5,g6,gl⟩:=dE r
 have t:aB w2.heap.size w2 w4:=(ce (ap w2.heap.size w2) (ae _) _ _).trans (r.mono (by simp;omega))
 clear k l m n o q B
 obtain ⟨k,l,m,n,o,q,B⟩:=bR (h.trans (t.mono (by simp;omega))) (by simp)
 clear z
 generalize x:jD s.data.toList p (ak M p)=X at *
 have E:=zq x
 clear x
 clear h d K
 have H:=G.trans (t.mono (by omega))
 have a4:w2.heap.size<=w4.heap.size:=by omega
 have a3:f.heap.size<w4.heap.size:=by omega
 go_wp2_with fail
 refine aw (v:=bq ⟨2,X,0,p,ny s.data.toList p (ak M p),0⟩) (by simp [bq,results,cj,go_sem,k,l,m,n,o,q]) rfl ⟨by rw [E.out];rfl,by repeat (first | with_reducible exact H | with_reducible refine ch ?_ (by dsimp only;omega) _ | with_reducible refine cR ?_ (by simp [bw];omega) _)⟩
theorem ph (s:ByteArray) (a:Int->Int) (A:ex a) (p:Nat) (L:p<s.size) (R:s.size<=16384) (U:(ak (ba a s.data.toList) p==46)=false) (k2:(cls (ak (ba a s.data.toList) p)==2)=false) (k3:(cls (ak (ba a s.data.toList) p)==3)=false) (k5:(cls (ak (ba a s.data.toList) p)==5)=false) (k4:(cls (ak (ba a s.data.toList) p)==4)=false) (T:(ak (ba a s.data.toList) p==33)=false) (V:(ak (ba a s.data.toList) p==59)=false) (k6:(cls (ak (ba a s.data.toList) p)==6)=false) (E:(ak (ba a s.data.toList) p==39)=true) (hk:mv s.data.toList p (ak (ba a s.data.toList) p)=true) (K:100<(jD s.data.toList p (ak (ba a s.data.toList) p)).length) (w:au) :
  aU am 104 #[eK s a,aa ab p] w fun e w'=>dL (cY 2) e/\aB w.heap.size w w':=by
 have D:=zq A
 clear A
 have y:Hid ((ba a s.data.toList).length=s.size):=by show _=_;rw [bL];simp
 generalize u:ba a s.data.toList=M at *
 have C:=zq u
 clear u
 have H:0<=ak M p:=by have:=bX M p;have:=y.out;omega
 have I:=dS M p
 have a7:IntKind.u8.wrap (ak M p)=ak M p:=cP _ (by omega)
 have O:=bS cL (M.drop p)
 have Q:=bS cJ (M.drop p)
 rw [aN,y.out] at O Q
 have a6:decide ((100:Int)<((jD s.data.toList p (ak M p)).length:Int))=true:=decide_eq_true (by omega)
 clear K
 have z:ak M p=39\/ak M p=34:=by left;simpa using E
 go_enter db,cM
 go_wp2_with (first | (refine bb rfl _ s a rfl rfl ?_;intro b f i a5 j;have c:=i.below ((ap _ _).alloc (ae _) aX) i.lt;unfold aX at c) | (with_reducible refine aG ?_;refine aq rfl _ rfl rfl c ?_))
 refine (aO s a M C D _ p (by omega) _).mono ?_;rintro e w2 ⟨rfl,g⟩
 have N:=j.size
 have a0:=i.lt
 have d:=c.below g c.lt
 have h:aB (f.alloc aX).heap.size (f.alloc aX) w2:=g
 have a1:f.heap.size<w2.heap.size:=aA (by simp) g.size
 have a2:f.heap.size<w2.heap.size+1:=by omega
 obtain ⟨k,l,m,n,o,q,B⟩:=bR h (by simp)
 have F:aB w.heap.size w w2:=(j.alloc N aX).trans (h.mono (by simp;omega))
 clear j g c
 go_wp2_with fail
 refine (dv _ _).mono ?_;rintro e w3 ⟨rfl,rfl⟩
 have J:=fun w'=>dQ (P:=am) 168 9 5 aZ bA bo (ak M p) H I w'
 go_wp2_with (first | (with_reducible refine aG ?_;refine aq rfl _ rfl rfl (d.below (ce (ap w2.heap.size w2) (ae _) _ _) d.lt) ?_) | (with_reducible refine aR ?_;refine ax _ rfl rfl (d.below (ce (ap w2.heap.size w2) (ae _) _ _) d.lt) rfl ?_))
 refine (kJ s a p L (ak M p) z R _).mono ?_;rintro e w4 ⟨rfl,r⟩
 obtain ⟨W,Y,Z,g3,g4,g5,g6,gl⟩:=dE r
 have t:aB w2.heap.size w2 w4:=(ce (ap w2.heap.size w2) (ae _) _ _).trans (r.mono (by simp;omega))
 clear k l m n o q B
 obtain ⟨k,l,m,n,o,q,B⟩:=bR (h.trans (t.mono (by simp;omega))) (by simp)
 clear z
 generalize x:jD s.data.toList p (ak M p)=X at *
 have S:=zq x
 clear x
 clear h d J
 have G:=F.trans (t.mono (by omega))
 have a4:w2.heap.size<=w4.heap.size:=by omega
 have a3:f.heap.size<w4.heap.size:=by omega
 go_wp2_with fail
 refine aw (v:=bq (cY 2)) (by simp [bq,cY,results,cj,go_sem,k,l,m,n,o,q]) rfl ⟨rfl,by repeat (first | with_reducible exact G | with_reducible refine ch ?_ (by dsimp only;omega) _ | with_reducible refine cR ?_ (by simp [bw];omega) _)⟩
theorem rG (s:ByteArray) (a:Int->Int) (A:ex a) (p:Nat) (K:p<s.size) (Q:s.size<=16384) (U:(ak (ba a s.data.toList) p==46)=false) (k2:(cls (ak (ba a s.data.toList) p)==2)=false) (k3:(cls (ak (ba a s.data.toList) p)==3)=false) (k5:(cls (ak (ba a s.data.toList) p)==5)=false) (k4:(cls (ak (ba a s.data.toList) p)==4)=false) (S:(ak (ba a s.data.toList) p==33)=false) (V:(ak (ba a s.data.toList) p==59)=false) (k6:(cls (ak (ba a s.data.toList) p)==6)=false) (T:(ak (ba a s.data.toList) p==39)=false) (E:(ak (ba a s.data.toList) p==34)=true) (hk:mv s.data.toList p (ak (ba a s.data.toList) p)=false) (w:au) :
  aU am 104 #[eK s a,aa ab p] w fun e w'=>dL (cY 7) e/\aB w.heap.size w w':=by
 have D:=zq A
 clear A
 have y:Hid ((ba a s.data.toList).length=s.size):=by show _=_;rw [bL];simp
 generalize u:ba a s.data.toList=M at *
 have C:=zq u
 clear u
 have H:0<=ak M p:=by have:=bX M p;have:=y.out;omega
 have I:=dS M p
 have a6:IntKind.u8.wrap (ak M p)=ak M p:=cP _ (by omega)
 have N:=bS cL (M.drop p)
 have O:=bS cJ (M.drop p)
 rw [aN,y.out] at N O
 have z:ak M p=39\/ak M p=34:=by right;simpa using E
 go_enter db,cM
 go_wp2_with (first | (refine bb rfl _ s a rfl rfl ?_;intro b f i a5 j;have c:=i.below ((ap _ _).alloc (ae _) aX) i.lt;unfold aX at c) | (with_reducible refine aG ?_;refine aq rfl _ rfl rfl c ?_))
 refine (aO s a M C D _ p (by omega) _).mono ?_;rintro e w2 ⟨rfl,g⟩
 have L:=j.size
 have a0:=i.lt
 have d:=c.below g c.lt
 have h:aB (f.alloc aX).heap.size (f.alloc aX) w2:=g
 have a1:f.heap.size<w2.heap.size:=aA (by simp) g.size
 have a2:f.heap.size<w2.heap.size+1:=by omega
 obtain ⟨k,l,m,n,o,q,B⟩:=bR h (by simp)
 have F:aB w.heap.size w w2:=(j.alloc L aX).trans (h.mono (by simp;omega))
 clear j g c
 go_wp2_with fail
 refine (dv _ _).mono ?_;rintro e w3 ⟨rfl,rfl⟩
 have J:=fun w'=>dQ (P:=am) 168 9 5 aZ bA bo (ak M p) H I w'
 go_wp2_with (first | (with_reducible refine aG ?_;refine aq rfl _ rfl rfl (d.below (ce (ap w2.heap.size w2) (ae _) _ _) d.lt) ?_) | (with_reducible refine aR ?_;refine ax _ rfl rfl (d.below (ce (ap w2.heap.size w2) (ae _) _ _) d.lt) rfl ?_))
 refine (kJ s a p K (ak M p) z Q _).mono ?_;rintro e w4 ⟨rfl,r⟩
 obtain ⟨W,Y,Z,g3,g4,g5,g6,gl⟩:=dE r
 have t:aB w2.heap.size w2 w4:=(ce (ap w2.heap.size w2) (ae _) _ _).trans (r.mono (by simp;omega))
 clear k l m n o q B
 obtain ⟨k,l,m,n,o,q,B⟩:=bR (h.trans (t.mono (by simp;omega))) (by simp)
 clear z
 generalize x:jD s.data.toList p (ak M p)=X at *
 have R:=zq x
 clear x
 clear h d J
 have G:=F.trans (t.mono (by omega))
 have a4:w2.heap.size<=w4.heap.size:=by omega
 have a3:f.heap.size<w4.heap.size:=by omega
 go_wp2_with fail
 refine aw (v:=bq (cY 7)) (by simp [bq,cY,results,cj,go_sem,k,l,m,n,o,q]) rfl ⟨rfl,by repeat (first | with_reducible exact G | with_reducible refine ch ?_ (by dsimp only;omega) _ | with_reducible refine cR ?_ (by simp [bw];omega) _)⟩
theorem rF (s:ByteArray) (a:Int->Int) (A:ex a) (p:Nat) (N:p<s.size) (S:s.size<=16384) (V:(ak (ba a s.data.toList) p==46)=false) (k2:(cls (ak (ba a s.data.toList) p)==2)=false) (k3:(cls (ak (ba a s.data.toList) p)==3)=false) (k5:(cls (ak (ba a s.data.toList) p)==5)=false) (k4:(cls (ak (ba a s.data.toList) p)==4)=false) (T:(ak (ba a s.data.toList) p==33)=false) (W:(ak (ba a s.data.toList) p==59)=false) (k6:(cls (ak (ba a s.data.toList) p)==6)=false) (U:(ak (ba a s.data.toList) p==39)=false) (F:(ak (ba a s.data.toList) p==34)=true) (hk:mv s.data.toList p (ak (ba a s.data.toList) p)=true) (L:¬100<(jD s.data.toList p (ak (ba a s.data.toList) p)).length) (w:au) :
  aU am 104 #[eK s a,aa ab p] w fun e w'=>dL ⟨5,jD s.data.toList p (ak (ba a s.data.toList) p),0,p,ny s.data.toList p (ak (ba a s.data.toList) p),0⟩ e/\aB w.heap.size w w':=by
 have D:=zq A
 clear A
 have y:Hid ((ba a s.data.toList).length=s.size):=by show _=_;rw [bL];simp
 generalize u:ba a s.data.toList=M at *
 have C:=zq u
 clear u
 have I:0<=ak M p:=by have:=bX M p;have:=y.out;omega
 have J:=dS M p
 have a7:IntKind.u8.wrap (ak M p)=ak M p:=cP _ (by omega)
 have Q:=bS cL (M.drop p)
 have R:=bS cJ (M.drop p)
 rw [aN,y.out] at Q R
 have a6:decide ((100:Int)<((jD s.data.toList p (ak M p)).length:Int))=false:=decide_eq_false (by omega)
 clear L
 have z:ak M p=39\/ak M p=34:=by right;simpa using F
 go_enter db,cM
 go_wp2_with (first | (refine bb rfl _ s a rfl rfl ?_;intro b f i a5 j;have c:=i.below ((ap _ _).alloc (ae _) aX) i.lt;unfold aX at c) | (with_reducible refine aG ?_;refine aq rfl _ rfl rfl c ?_))
 refine (aO s a M C D _ p (by omega) _).mono ?_;rintro e w2 ⟨rfl,g⟩
 have O:=j.size
 have a0:=i.lt
 have d:=c.below g c.lt
 have h:aB (f.alloc aX).heap.size (f.alloc aX) w2:=g
 have a1:f.heap.size<w2.heap.size:=aA (by simp) g.size
 have a2:f.heap.size<w2.heap.size+1:=by omega
 obtain ⟨k,l,m,n,o,q,B⟩:=bR h (by simp)
 have G:aB w.heap.size w w2:=(j.alloc O aX).trans (h.mono (by simp;omega))
 clear j g c
 go_wp2_with fail
 refine (dv _ _).mono ?_;rintro e w3 ⟨rfl,rfl⟩
 have K:=fun w'=>dQ (P:=am) 168 9 5 aZ bA bo (ak M p) I J w'
 go_wp2_with (first | (with_reducible refine aG ?_;refine aq rfl _ rfl rfl (d.below (ce (ap w2.heap.size w2) (ae _) _ _) d.lt) ?_) | (with_reducible refine aR ?_;refine ax _ rfl rfl (d.below (ce (ap w2.heap.size w2) (ae _) _ _) d.lt) rfl ?_))
 refine (kJ s a p N (ak M p) z S _).mono ?_;rintro e w4 ⟨rfl,r⟩
 obtain ⟨Y,Z,g2,g3,g4,g5,g6,gl⟩:=dE r
 have t:aB w2.heap.size w2 w4:=(ce (ap w2.heap.size w2) (ae _) _ _).trans (r.mono (by simp;omega))
 clear k l m n o q B
 obtain ⟨k,l,m,n,o,q,B⟩:=bR (h.trans (t.mono (by simp;omega))) (by simp)
 clear z
 generalize x:jD s.data.toList p (ak M p)=X at *
 have E:=zq x
 clear x
 clear h d K
 have H:=G.trans (t.mono (by omega))
 have a4:w2.heap.size<=w4.heap.size:=by omega
 have a3:f.heap.size<w4.heap.size:=by omega
 go_wp2_with fail
 refine aw (v:=bq ⟨5,X,0,p,ny s.data.toList p (ak M p),0⟩) (by simp [bq,results,cj,go_sem,k,l,m,n,o,q]) rfl ⟨by rw [E.out];rfl,by repeat (first | with_reducible exact H | with_reducible refine ch ?_ (by dsimp only;omega) _ | with_reducible refine cR ?_ (by simp [bw];omega) _)⟩
theorem pi (s:ByteArray) (a:Int->Int) (A:ex a) (p:Nat) (N:p<s.size) (S:s.size<=16384) (V:(ak (ba a s.data.toList) p==46)=false) (k2:(cls (ak (ba a s.data.toList) p)==2)=false) (k3:(cls (ak (ba a s.data.toList) p)==3)=false) (k5:(cls (ak (ba a s.data.toList) p)==5)=false) (k4:(cls (ak (ba a s.data.toList) p)==4)=false) (T:(ak (ba a s.data.toList) p==33)=false) (W:(ak (ba a s.data.toList) p==59)=false) (k6:(cls (ak (ba a s.data.toList) p)==6)=false) (U:(ak (ba a s.data.toList) p==39)=false) (F:(ak (ba a s.data.toList) p==34)=true) (hk:mv s.data.toList p (ak (ba a s.data.toList) p)=true) (L:100<(jD s.data.toList p (ak (ba a s.data.toList) p)).length) (w:au) :
  aU am 104 #[eK s a,aa ab p] w fun e w'=>dL ⟨5,jD s.data.toList p (ak (ba a s.data.toList) p),0,p,ny s.data.toList p (ak (ba a s.data.toList) p),0⟩ e/\aB w.heap.size w w':=by
 have D:=zq A
 clear A
 have y:Hid ((ba a s.data.toList).length=s.size):=by show _=_;rw [bL];simp
 generalize u:ba a s.data.toList=M at *
 have C:=zq u
 clear u
 have I:0<=ak M p:=by have:=bX M p;have:=y.out;omega
 have J:=dS M p
 have a7:IntKind.u8.wrap (ak M p)=ak M p:=cP _ (by omega)
 have Q:=bS cL (M.drop p)
 have R:=bS cJ (M.drop p)
 rw [aN,y.out] at Q R
 have a6:decide ((100:Int)<((jD s.data.toList p (ak M p)).length:Int))=true:=decide_eq_true (by omega)
 clear L
 have z:ak M p=39\/ak M p=34:=by right;simpa using F
 go_enter db,cM
 go_wp2_with (first | (refine bb rfl _ s a rfl rfl ?_;intro b f i a5 j;have c:=i.below ((ap _ _).alloc (ae _) aX) i.lt;unfold aX at c) | (with_reducible refine aG ?_;refine aq rfl _ rfl rfl c ?_))
 refine (aO s a M C D _ p (by omega) _).mono ?_;rintro e w2 ⟨rfl,g⟩
 have O:=j.size
 have a0:=i.lt
 have d:=c.below g c.lt
 have h:aB (f.alloc aX).heap.size (f.alloc aX) w2:=g
 have a1:f.heap.size<w2.heap.size:=aA (by simp) g.size
 have a2:f.heap.size<w2.heap.size+1:=by omega
 obtain ⟨k,l,m,n,o,q,B⟩:=bR h (by simp)
 have G:aB w.heap.size w w2:=(j.alloc O aX).trans (h.mono (by simp;omega))
 clear j g c
 go_wp2_with fail
 refine (dv _ _).mono ?_;rintro e w3 ⟨rfl,rfl⟩
 have K:=fun w'=>dQ (P:=am) 168 9 5 aZ bA bo (ak M p) I J w'
 go_wp2_with (first | (with_reducible refine aG ?_;refine aq rfl _ rfl rfl (d.below (ce (ap w2.heap.size w2) (ae _) _ _) d.lt) ?_) | (with_reducible refine aR ?_;refine ax _ rfl rfl (d.below (ce (ap w2.heap.size w2) (ae _) _ _) d.lt) rfl ?_))
 refine (kJ s a p N (ak M p) z S _).mono ?_;rintro e w4 ⟨rfl,r⟩
 obtain ⟨Y,Z,g2,g3,g4,g5,g6,gl⟩:=dE r
 have t:aB w2.heap.size w2 w4:=(ce (ap w2.heap.size w2) (ae _) _ _).trans (r.mono (by simp;omega))
 clear k l m n o q B
 obtain ⟨k,l,m,n,o,q,B⟩:=bR (h.trans (t.mono (by simp;omega))) (by simp)
 clear z
 generalize x:jD s.data.toList p (ak M p)=X at *
 have E:=zq x
 clear x
 clear h d K
 have H:=G.trans (t.mono (by omega))
 have a4:w2.heap.size<=w4.heap.size:=by omega
 have a3:f.heap.size<w4.heap.size:=by omega
 go_wp2_with fail
 refine aw (v:=bq ⟨5,X,0,p,ny s.data.toList p (ak M p),0⟩) (by simp [bq,results,cj,go_sem,k,l,m,n,o,q]) rfl ⟨by rw [E.out];rfl,by repeat (first | with_reducible exact H | with_reducible refine ch ?_ (by dsimp only;omega) _ | with_reducible refine cR ?_ (by simp [bw];omega) _)⟩
theorem jQ (c k d:Int) (h:cls c=k) (hd:¬cls d=k):(c==d)=false:=by
 simp only [beq_eq_false_iff_ne,ne_eq]
 intro e;rw [e] at h;exact hd h
theorem xU (M:List UInt8) (p:Nat) (a:p<M.length):(M.drop p).take 1=[(ak M p).toNat.toUInt8]:=by
 have:=iT M p 0 (by omega)
 rw [Nat.zero_add] at this
 rw [this,Nat.add_zero,<-eB M p a];simp
theorem kU (b:Int) (t:List UInt8) (a e:Int) (h:¬100<t.length):dI b t a e=⟨b,t,0,a,e,0⟩:=by unfold dI;rw [if_neg h]
theorem kT (b:Int) (t:List UInt8) (a e:Int) (h:100<t.length):dI b t a e=cY 2:=by unfold dI;rw [if_pos h]
theorem wF (s:ByteArray) (a:Int->Int) (f:ex a) (p:Nat) (c:p<s.size) (d:s.size<=16384) (A:¬(ak (ba a s.data.toList) p=47/\ak (ba a s.data.toList) (p+1)=42)) (w:au) :
  aU am 104 #[eK s a,aa ab p] w fun e w'=>dL (dg (ba a s.data.toList) s.data.toList p) e/\aB w.heap.size w w':=by
 have M:p<(ba a s.data.toList).length:=by rw [bL,ci];exact c
 by_cases D:cls (ak (ba a s.data.toList) p)=2
 ·have k:dg (ba a s.data.toList) s.data.toList p=dI 1 (((ba a s.data.toList).drop p).take (br cL ((ba a s.data.toList).drop p))) p (p+br cL ((ba a s.data.toList).drop p)):=by
   unfold dg;rw [if_neg A,if_pos (.inl D)];unfold oi jU;rw [if_neg (by omega)]
  rw [k]
  by_cases b:100<(((ba a s.data.toList).drop p).take (br cL ((ba a s.data.toList).drop p))).length
  ·rw [kT _ _ _ _ b]
   exact nN s a f p c d (jQ _ 2 46 D (by decide +kernel)) (by simp [D]) b w
  ·rw [kU _ _ _ _ b]
   exact sG s a f p c d (jQ _ 2 46 D (by decide +kernel)) (by simp [D]) b w
 by_cases v:cls (ak (ba a s.data.toList) p)=3
 ·have k:dg (ba a s.data.toList) s.data.toList p=dI 3 (((ba a s.data.toList).drop p).take (br cL ((ba a s.data.toList).drop p))) p (p+br cL ((ba a s.data.toList).drop p)):=by
   unfold dg;rw [if_neg A,if_pos (.inr v)];unfold oi jU;rw [if_pos v]
  rw [k]
  by_cases b:100<(((ba a s.data.toList).drop p).take (br cL ((ba a s.data.toList).drop p))).length
  ·rw [kT _ _ _ _ b]
   exact mE s a f p c d (jQ _ 3 46 v (by decide +kernel)) (by simp [v]) (by simp [v]) b w
  ·rw [kU _ _ _ _ b]
   exact ql s a f p c d (jQ _ 3 46 v (by decide +kernel)) (by simp [v]) (by simp [v]) b w
 by_cases j:cls (ak (ba a s.data.toList) p)=4
 ·have k:dg (ba a s.data.toList) s.data.toList p=ew (ba a s.data.toList) s.data.toList p:=by
   unfold dg;rw [if_neg A,if_neg (by omega),if_pos j]
  rw [k]
  cases hr:((ew (ba a s.data.toList) s.data.toList p).err==0) with
  | true=>exact rH s a f p c d (jQ _ 4 46 j (by decide +kernel)) (by simp [j]) (by simp [j]) (by simp [j]) (by simp [j]) hr w
  | false=>exact rI s a f p c d (jQ _ 4 46 j (by decide +kernel)) (by simp [j]) (by simp [j]) (by simp [j]) (by simp [j]) hr w
 by_cases g:cls (ak (ba a s.data.toList) p)=5
 ·have k:dg (ba a s.data.toList) s.data.toList p=km (ba a s.data.toList) p:=by
   unfold dg;rw [if_neg A,if_neg (by omega),if_neg j,if_pos g]
  rw [k]
  by_cases G:ak (ba a s.data.toList) p=46
  ·have i:(ak (ba a s.data.toList) p==46)=true:=by simp [G]
   cases he:iI (ak (ba a s.data.toList) (p+1)) with
   | true=>
    have E:km (ba a s.data.toList) p=⟨7,[(ak (ba a s.data.toList) p).toNat.toUInt8],0,p,p+1,0⟩:=by
     unfold km;rw [if_pos ⟨G,he⟩,G];rfl
    rw [E]
    unfold iI at he
    cases d1:decide (ak (ba a s.data.toList) (p+1)<0) with
    | true=>exact ul s a f p c d i d1 w
    | false=>
     cases d2:(ak (ba a s.data.toList) (p+1)==37) with
     | true=>exact uk s a f p c d i d1 d2 w
     | false=>exact uj s a f p c d i d1 d2 (by rw [d1,d2] at he;simpa using he) w
   | false=>
    have E:km (ba a s.data.toList) p=dI 1 (((ba a s.data.toList).drop p).take (br cJ ((ba a s.data.toList).drop p))) p (p+br cJ ((ba a s.data.toList).drop p)):=by
     unfold km;rw [if_neg (fun h=>by rw [he] at h;exact absurd h.2 (by decide))]
    rw [E]
    unfold iI at he
    simp only [Bool.or_eq_false_iff] at he
    by_cases b:100<(((ba a s.data.toList).drop p).take (br cJ ((ba a s.data.toList).drop p))).length
    ·rw [kT _ _ _ _ b]
     exact pj s a f p c d i (by simp [g]) (by simp [g]) (by simp [g]) he.1 he.2.1 he.2.2 b w
    ·rw [kU _ _ _ _ b]
     exact wH s a f p c d i (by simp [g]) (by simp [g]) (by simp [g]) he.1 he.2.1 he.2.2 b w
  ·have i:(ak (ba a s.data.toList) p==46)=false:=by simp [G]
   have E:km (ba a s.data.toList) p=dI 1 (((ba a s.data.toList).drop p).take (br cJ ((ba a s.data.toList).drop p))) p (p+br cJ ((ba a s.data.toList).drop p)):=by
    unfold km;rw [if_neg (fun h=>G h.1)]
   rw [E]
   by_cases b:100<(((ba a s.data.toList).drop p).take (br cJ ((ba a s.data.toList).drop p))).length
   ·rw [kT _ _ _ _ b]
    exact pg s a f p c d i (by simp [g]) (by simp [g]) (by simp [g]) b w
   ·rw [kU _ _ _ _ b]
    exact wG s a f p c d i (by simp [g]) (by simp [g]) (by simp [g]) b w
 have l:(cls (ak (ba a s.data.toList) p)==2)=false:=by simp [D]
 have m:(cls (ak (ba a s.data.toList) p)==3)=false:=by simp [v]
 have o:(cls (ak (ba a s.data.toList) p)==4)=false:=by simp [j]
 have q:(cls (ak (ba a s.data.toList) p)==5)=false:=by simp [g]
 have i:(ak (ba a s.data.toList) p==46)=false:=by
  simp only [beq_eq_false_iff_ne,ne_eq];intro e;rw [e] at g;exact g (by decide +kernel)
 by_cases r:cls (ak (ba a s.data.toList) p)=6
 ·have k:dg (ba a s.data.toList) s.data.toList p=⟨ir (ak (ba a s.data.toList) p),[(ak (ba a s.data.toList) p).toNat.toUInt8],0,p,p+1,0⟩:=by
   unfold dg;rw [if_neg A,if_neg (by omega),if_neg j,if_neg g,if_pos r];unfold pl;rw [xU _ _ M,kU _ _ _ _ (by simp)]
  rw [k]
  unfold ir
  by_cases K:ak (ba a s.data.toList) p=33
  ·rw [if_pos (.inl K)]
   exact wI s a f p c d i l m q o (by simp [K]) w
  have n:(ak (ba a s.data.toList) p==33)=false:=by simp [K]
  by_cases L:ak (ba a s.data.toList) p=59
  ·rw [if_pos (.inr L)]
   exact uh s a f p c d i l m q o n (by simp [L]) w
  ·rw [if_neg (by omega)]
   exact ug s a f p c d i l m q o n (by simp [L]) (by simp [r]) w
 have C:(cls (ak (ba a s.data.toList) p)==6)=false:=by simp [r]
 have n:(ak (ba a s.data.toList) p==33)=false:=by
  simp only [beq_eq_false_iff_ne,ne_eq];intro e;rw [e] at r;exact r (by decide +kernel)
 have B:(ak (ba a s.data.toList) p==59)=false:=by
  simp only [beq_eq_false_iff_ne,ne_eq];intro e;rw [e] at r;exact r (by decide +kernel)
 by_cases u:ak (ba a s.data.toList) p=39
 ·have k:dg (ba a s.data.toList) s.data.toList p=ts p (jj (s.data.toList.drop (p+1)) 39):=by
   unfold dg;rw [if_neg A,if_neg (by omega),if_neg j,if_neg g,if_neg r,if_pos (by rw [u];decide +kernel)];unfold gR;rw [if_neg (by omega),if_pos u]
  have y:(ak (ba a s.data.toList) p==39)=true:=by simp [u]
  rw [k]
  cases hi:jj (s.data.toList.drop (p+1)) 39 with
  | none=>exact rE s a f p c d i l m q o n B C y (by rw [u];unfold mv;rw [hi];rfl) w
  | some x=>
   have H:mv s.data.toList p (ak (ba a s.data.toList) p)=true:=by rw [u];unfold mv;rw [hi];rfl
   have z:jD s.data.toList p (ak (ba a s.data.toList) p)=x.1:=by rw [u];unfold jD;rw [hi]
   have I:ny s.data.toList p (ak (ba a s.data.toList) p)=p+1+x.2+1:=by rw [u];unfold ny;rw [hi]
   have J:ts p (some x)=dI 2 x.1 p (p+1+x.2+1):=rfl
   rw [J]
   by_cases b:100<x.1.length
   ·rw [kT _ _ _ _ b]
    exact ph s a f p c d i l m q o n B C y H (by rw [z];exact b) w
   ·rw [kU _ _ _ _ b]
    have:=rD s a f p c d i l m q o n B C y H (by rw [z];exact b) w
    rw [z,I] at this
    simpa using this
 have y:(ak (ba a s.data.toList) p==39)=false:=by simp [u]
 by_cases t:ak (ba a s.data.toList) p=34
 ·have k:dg (ba a s.data.toList) s.data.toList p=lO p (jj (s.data.toList.drop (p+1)) 34):=by
   unfold dg;rw [if_neg A,if_neg (by omega),if_neg j,if_neg g,if_neg r,if_pos (by rw [t];decide +kernel)];unfold gR;rw [if_pos t]
  have F:(ak (ba a s.data.toList) p==34)=true:=by simp [t]
  rw [k]
  cases hi:jj (s.data.toList.drop (p+1)) 34 with
  | none=>exact rG s a f p c d i l m q o n B C y F (by rw [t];unfold mv;rw [hi];rfl) w
  | some x=>
   have H:mv s.data.toList p (ak (ba a s.data.toList) p)=true:=by rw [t];unfold mv;rw [hi];rfl
   have z:jD s.data.toList p (ak (ba a s.data.toList) p)=x.1:=by rw [t];unfold jD;rw [hi]
   have I:ny s.data.toList p (ak (ba a s.data.toList) p)=p+1+x.2+1:=by rw [t];unfold ny;rw [hi]
   have J:lO p (some x)=⟨5,x.1,0,p,p+1+x.2+1,0⟩:=rfl
   rw [J]
   by_cases b:100<x.1.length
   ·have:=pi s a f p c d i l m q o n B C y F H (by rw [z];exact b) w
    rw [z,I] at this
    simpa using this
   ·have:=rF s a f p c d i l m q o n B C y F H (by rw [z];exact b) w
    rw [z,I] at this
    simpa using this
 have F:(ak (ba a s.data.toList) p==34)=false:=by simp [t]
 have k:dg (ba a s.data.toList) s.data.toList p=cY 7:=by
  unfold dg;rw [if_neg A,if_neg (by omega),if_neg j,if_neg g,if_neg r]
  unfold gR;rw [if_neg t,if_neg u];split <;> rfl
 rw [k]
 exact ui s a f p c d i l m q o n B C y F w
theorem uP (m l:List UInt8) (f:m.length=l.length) (a P:Nat) (b:a+cd (m.drop a)=P) (h:ak m P=47/\ak m (P+1)=42):bD m l a=⟨cY 7,false,P⟩:=by
 have c:¬P=l.length:=by
  intro e
  have:=ga m P (by omega)
  rw [h.1] at this;exact absurd this (by decide)
 have d:dg m l P=cY 7:=by unfold dg;rw [if_pos h]
 unfold bD
 simp only [b]
 rw [if_neg c,d];rfl
theorem xo (m l:List UInt8) (a P:Nat) (b:a+cd (m.drop a)=P) (h:P=l.length):bD m l a=⟨cY 14,false,P⟩:=by
 unfold bD;simp only [b];rw [if_pos h]
theorem yM (m l:List UInt8) (a P:Nat) (c:a+cd (m.drop a)=P) (h:¬P=l.length) (r:LexR) (d:dg m l P=r) (b:r.err=0):bD m l a=⟨r,decide (a<P),0⟩:=by
 unfold bD;simp only [c];rw [if_neg h,d,if_pos b]
theorem xn (m l:List UInt8) (a P:Nat) (c:a+cd (m.drop a)=P) (h:¬P=l.length) (r:LexR) (d:dg m l P=r) (b:¬r.err=0):bD m l a=⟨cY r.err,false,P⟩:=by
 unfold bD;simp only [c];rw [if_neg h,d,if_neg b]
theorem xK (s:ByteArray) (g:Int->Int) (X:ex g) (a:Nat) (I:a<=s.size) (F:s.size<=16384) (w:au) :
  aU am 65 #[eK s g,aa ab a] w fun e w'=>fC (bD (ba g s.data.toList) s.data.toList a) e/\aB w.heap.size w w':=by
 have B:=zq X
 clear X
 have a4:Hid ((ba g s.data.toList).length=s.size):=by show _=_;rw [bL];simp
 have W:=fQ ((ba g s.data.toList).drop a)
 rw [aN,a4.out] at W
 have a0:Hid ((ba g s.data.toList).length=s.data.toList.length):=bL _ _
 have R:Hid (s.data.toList.length=s.size):=ci s
 have a2:=zq (wF s g B.out)
 generalize S:ba g s.data.toList=M at *
 have G:=zq S
 clear S
 generalize T:a+cd (M.drop a)=P
 have l:=zq T
 have a6:P<=s.size:=by omega
 clear T W
 cases hg:nD M P with
 | false=>
  have m:=zq (uP M s.data.toList a0.out a P l.out (tE M P hg))
  have A:=zq hg
  clear hg
  go_enter Tryz.func65,Tryz.ntmps65
  go_wp2_with (first | (refine bb rfl _ s g rfl rfl ?_;intro b i j K h;have c:=j.below ((ap _ _).alloc (ae _) aX) j.lt;unfold aX at c) | (with_reducible refine aG ?_;refine aq rfl _ rfl rfl c ?_))
  refine (oR s g B.out a F I _).mono ?_;rintro e w2 ⟨rfl,f⟩;rw [G.out,l.out,A.out]
  have p:=h.size
  have d:aB (i.alloc aX).heap.size (i.alloc aX) w2:=f
  have a3:i.heap.size<w2.heap.size:=aA (by simp) f.size
  obtain ⟨q,t,u,x,y,z,L⟩:=bR d (by simp)
  have o:aB w.heap.size w w2:=(h.alloc p aX).trans (d.mono (by simp;omega))
  clear h f c d
  go_wp2_with fail
  refine aw (v:=cK ⟨cY 7,false,P⟩) (by simp [cK,cY,results,Tryz.results65,go_sem,q,t,u,x,y,z]) rfl ⟨by rw [m.out];rfl,iN o (by omega) _ _ _ _ _ _⟩
 | true=>
  have Z:=zq (vf M P hg)
  have A:=zq hg
  clear hg
  by_cases D:P=s.size
  ·have m:=zq (xo M s.data.toList a P l.out (by rw [R.out];exact D))
   have a1:=zq D
   have d1:decide (s.size<=P)=true:=by simp;omega
   clear D
   go_enter Tryz.func65,Tryz.ntmps65
   go_wp2_with (first | (refine bb rfl _ s g rfl rfl ?_;intro b i j K h;have c:=j.below ((ap _ _).alloc (ae _) aX) j.lt;unfold aX at c) | (with_reducible refine aG ?_;refine aq rfl _ rfl rfl c ?_))
   refine (oR s g B.out a F I _).mono ?_;rintro e w2 ⟨rfl,f⟩;rw [G.out,l.out,A.out]
   have p:=h.size
   have k:=c.below f c.lt
   have H:=k.c0
   have U:=k.lt
   have a7:=j.lt
   have d:aB (i.alloc aX).heap.size (i.alloc aX) w2:=f
   have a3:i.heap.size<w2.heap.size:=aA (by simp) f.size
   obtain ⟨q,t,u,x,y,z,L⟩:=bR d (by simp)
   have o:aB w.heap.size w w2:=(h.alloc p aX).trans (d.mono (by simp;omega))
   clear h f c d
   go_wp2_with fail
   go_region
   go_wp2_with fail
   refine aw (v:=cK ⟨cY 14,false,s.size⟩) (by simp [cK,cY,results,Tryz.results65,go_sem,q,t,u,x,y,z]) rfl ⟨by rw [m.out,a1.out];rfl,(iN o (by omega) _ _ _ _ _ _).drew⟩
  ·have a5:P<s.size:=by omega
   have d1:decide (s.size<=P)=false:=by simp;omega
   have O:Hid (¬P=s.data.toList.length):=by show ¬_;rw [R.out];exact D
   have N:=zq (fun w'=>a2.out P a5 F Z.out w')
   clear D
   generalize V:dg M s.data.toList P=r at *
   have Q:=zq V
   clear V
   by_cases n:r.err=0
   ·have d2:(r.err != 0)=false:=by simp [n]
    have d3:decide ((a:Int)<(P:Int))=decide (a<P):=by simp
    have m:=zq (yM M s.data.toList a P l.out O.out r Q.out n)
    have Y:=zq n
    clear n
    go_enter Tryz.func65,Tryz.ntmps65
    go_wp2_with (first | (refine bb rfl _ s g rfl rfl ?_;intro b i j K h;have c:=j.below ((ap _ _).alloc (ae _) aX) j.lt;unfold aX at c) | (with_reducible refine aG ?_;refine aq rfl _ rfl rfl c ?_))
    refine (oR s g B.out a F I _).mono ?_;rintro e w2 ⟨rfl,f⟩;rw [G.out,l.out,A.out]
    have p:=h.size
    have k:=c.below f c.lt
    have H:=k.c0
    have U:=k.lt
    go_wp2_with (with_reducible refine aG ?_;refine aq rfl _ rfl rfl k ?_)
    refine (N.out _).mono ?_;rintro e w3 ⟨E,C⟩
    unfold dL bq at E;subst E
    have d:aB (i.alloc aX).heap.size (i.alloc aX) w3:=ey (ae _) f C
    have J:i.heap.size<w3.heap.size:=aA (by simp) d.size
    obtain ⟨q,t,u,x,y,z,L⟩:=bR d (by simp)
    have o:aB w.heap.size w w3:=(h.alloc p aX).trans (d.mono (by simp;omega))
    clear h f C c d k H
    go_wp2_with fail
    refine aw (v:=cK ⟨r,decide (a<P),0⟩) (by simp [cK,results,Tryz.results65,go_sem,q,t,u,x,y,z,kY,J,Y.out]) rfl ⟨by rw [m.out];rfl,by repeat (first | with_reducible exact o | with_reducible refine ch ?_ (by dsimp only;omega) _ | with_reducible refine cR ?_ (by simp [bw];omega) _)⟩
   ·have d2:(r.err != 0)=true:=by simp [n]
    have m:=zq (xn M s.data.toList a P l.out O.out r Q.out n)
    clear n
    go_enter Tryz.func65,Tryz.ntmps65
    go_wp2_with (first | (refine bb rfl _ s g rfl rfl ?_;intro b i j K h;have c:=j.below ((ap _ _).alloc (ae _) aX) j.lt;unfold aX at c) | (with_reducible refine aG ?_;refine aq rfl _ rfl rfl c ?_))
    refine (oR s g B.out a F I _).mono ?_;rintro e w2 ⟨rfl,f⟩;rw [G.out,l.out,A.out]
    have p:=h.size
    have k:=c.below f c.lt
    have H:=k.c0
    have U:=k.lt
    go_wp2_with (with_reducible refine aG ?_;refine aq rfl _ rfl rfl k ?_)
    refine (N.out _).mono ?_;rintro e w3 ⟨E,C⟩
    unfold dL bq at E;subst E
    have d:aB (i.alloc aX).heap.size (i.alloc aX) w3:=ey (ae _) f C
    have J:i.heap.size<w3.heap.size:=aA (by simp) d.size
    obtain ⟨q,t,u,x,y,z,L⟩:=bR d (by simp)
    have o:aB w.heap.size w w3:=(h.alloc p aX).trans (d.mono (by simp;omega))
    clear h f C c d k H
    go_wp2_with fail
    refine aw (v:=cK ⟨cY r.err,false,P⟩) (by simp [cK,cY,results,Tryz.results65,go_sem,q,t,u,x,y,z,kY,J]) rfl ⟨by rw [m.out];rfl,by repeat (first | with_reducible exact o | with_reducible refine ch ?_ (by dsimp only;omega) _ | with_reducible refine cR ?_ (by simp [bw];omega) _)⟩
theorem vv (s:ByteArray) (tab:Int->Int) (a:Array Value) (f:a.size=257) (d:a[0]? = some (ac s)) (e:∀c:Nat,c<256->a[1+c]? = some (aa ab (tab c))):a=eL s tab:=by
 apply Array.ext_getElem?
 intro i
 match i with
 | 0=>rw [d,ld]
 | i+1=>
  rw [Nat.add_comm i 1]
  by_cases b:i<256
  ·rw [e i b,kq s tab i b]
  ·rw [Array.getElem?_eq_none (by omega),Array.getElem?_eq_none (by rw [eR];omega)]
theorem pf (s:ByteArray) (a tab':Int->Int) (h:∀c:Nat,c<256->a c=tab' c):eL s a=eL s tab' :=
 vv s tab' _ (eR s a) (ld s a) fun c b=>by rw [kq s a c b,h c b]
theorem rA (s:ByteArray) (a:Int->Int) (k:Nat) (e:k<256) (v:Int):(eL s a).setIfInBounds (1+k) (aa ab v)=eL s (fun x=>if x=k then v else a x):=by
 refine vv s _ _ (by simp [eR]) ?_ fun c b=>?_
 ·rw [Array.getElem?_setIfInBounds_ne (by omega),ld]
 ·by_cases d:c=k
  ·subst d
   rw [Array.getElem?_setIfInBounds_self_of_lt (by rw [eR];omega)];simp
  ·rw [Array.getElem?_setIfInBounds_ne (by omega),kq s a c b];simp [show ¬((c:Int)=(k:Int)) by omega]
theorem Txt.set {w:au} {b:Nat} {s:ByteArray} {a:Int->Int} (h:Txt w b s a) (k:Nat) (c:k<256) (v:Int):Txt (w.setCell ⟨b,1+k,none⟩ (aa ab v)) b s (fun x=>if x=k then v else a x) where
 lt:=by simp [bw];exact h.lt
 blk:=by rw [heap_setCell_same w b (1+k) _ _ _ h.blk,rA s a k c v]
theorem Txt.congr {w:au} {b:Nat} {s:ByteArray} {a tab':Int->Int} (h:Txt w b s a) (e:∀c:Nat,c<256->a c=tab' c):Txt w b s tab':=⟨h.lt,by rw [h.blk,pf s a tab' e]⟩
theorem Txt.fr {w:au} {b:Nat} {s:ByteArray} {a:Int->Int} (h:Txt w b s a) (o:Nat):w.frozen? ⟨b,o,none⟩=false:=by
 unfold World.frozen?;simp only [h.blk];simp
theorem rB (s:ByteArray) (a:Int->Int):(eL s a).all (·.oneCell')=true:=by
 unfold eL
 rw [Array.all_append,bN]
 refine ⟨by simp [fl],?_⟩
 rw [Array.all_eq_true]
 intro i b
 rw [Array.getElem_ofFn];rfl
def rJ:Int->Int:=fun _=>0
theorem xB (w:au):(Instr.alloc 107 true (aJ #[])).run am w=.ok (ar (some ⟨w.heap.size,0,none⟩)) (w.alloc (.cells (eL ⟨#[]⟩ rJ) 107)):=by kernel_rfl
theorem xz (s:ByteArray) (w:au):(Instr.build 107 #[(0,ac s)]).run am w=.ok (eK s rJ) w:=by kernel_rfl
theorem jg {c:Array Oper} {d:List Oper} {o:Oper} {a:Act} {Q:Exit->Act->au->Prop} {w:au} (g:o.guard=none) (i:o.op=.alloc 107)
  (h:∀b w1,Txt w1 b ⟨#[]⟩ rJ->w.heap.size<=b->aB w.heap.size w w1->cq am c Q d (a.put o.dst (ar (some ⟨b,0,none⟩))) w1):cq am c Q (o::d) a w:=by
 refine wpList_plain g fun K f=>?_
 have e:(aL a.eval o).run am w=.ok (.value (ar (some ⟨w.heap.size,0,none⟩))) (w.alloc (.cells (eL ⟨#[]⟩ rJ) 107)):=by
  unfold aL
  rw [i]
  simp only []
  rw [fE,xB]
  rfl
 unfold Oper.wp
 rw [e]
 exact f _ _ (h _ _ ⟨by simp,heap_alloc_new w _⟩ (ae _) ((ap _ _).alloc (ae _) _))
theorem nG {b:Array Oper} {c:List Oper} {o:Oper} {a:Act} {Q:Exit->Act->au->Prop} {w:au} (f:o.guard=none) (x:Operand) (s:ByteArray)
  (i:o.op=.build 107 #[(0,x)]) (j:a.eval x=ac s)
  (h:cq am b Q c (a.put o.dst (eK s rJ)) w):cq am b Q (o::c) a w:=by
 refine wpList_plain f fun K d=>?_
 have e:(aL a.eval o).run am w=.ok (.value (eK s rJ)) w:=by
  unfold aL
  rw [i]
  have g:Array.map (fun x=>(x.fst,a.eval x.snd)) #[(0,x)]=#[(0,ac s)]:=by simp [j]
  simp only [g]
  rw [fE,xz]
  rfl
 unfold Oper.wp
 rw [e]
 exact d _ _ h
theorem jf {d:Array Oper} {e:List Oper} {o:Oper} {a:Act} {Q:Exit->Act->au->Prop} {w:au} (i:o.guard=none) (x y:Operand) {b:Nat} {s p:ByteArray} {c q:Int->Int}
  (l:o.op=.store 107 x y) (m:a.eval x=ar (some ⟨b,0,none⟩)) (n:a.eval y=eK s c) (T:Txt w b p q)
  (h:∀w1,Txt w1 b s c->w1.heap.size=w.heap.size->(∀k,k≠b->w1.heap[k]? = w.heap[k]?)->(∀B w0,aB B w0 w->B<=b->aB B w0 w1)->cq am d Q e (a.put o.dst undef) w1):cq am d Q (o::e) a w :=
 wpList_store_row i _ x y l b (eL s c) m n _ _ T.blk (by rw [oZ,eR]) (by rw [eR,eR]) (rB s c)
  (h _ ⟨by rw [size_setRow];exact T.lt,setRow_heap w b _ _ _ _ T.blk⟩ (size_setRow _ _ _) (fun k j=>setRow_other w b k _ j) fun B w0 f g=>below_setRow f g _)
theorem vq {b:Array Oper} {c:List Oper} {a:Act} {Q:Exit->Act->au->Prop} {w:au} {d t p f x y g} (h:cq am b Q (⟨d,.store 107 x y,t,p,f,g⟩::c) a w):cq am b Q (⟨d,.store 107 x y,t,p,f,g⟩::c) a w:=h
theorem sA {b:Array Oper} {c:List Oper} {a:Act} {Q:Exit->Act->au->Prop} {w:au} {d t p f g} (h:cq am b Q (⟨d,.alloc 107,t,p,f,g⟩::c) a w):cq am b Q (⟨d,.alloc 107,t,p,f,g⟩::c) a w:=h
theorem AE {b:Array Oper} {c:List Oper} {a:Act} {Q:Exit->Act->au->Prop} {w:au} {d t p f g x} (h:cq am b Q (⟨d,.build 107 x,t,p,f,g⟩::c) a w):cq am b Q (⟨d,.build 107 x,t,p,f,g⟩::c) a w:=h
theorem zV (s:ByteArray) (A:Option Addr) (n X:Nat) (l:List (Int×Int)) (w:au) (J:n=l.length) (hm:n<=bF) (L:Pairs w A l) (N:gq l=true) :
  aU am 64 #[ac s,.slice A n X] w fun e w'=>e=.returned (eK s (fj l))/\aB w.heap.size w w':=by
 have P:=zq L
 have B:=zq J
 unfold bF at hm
 have a2:Hid (∀j,j<l.length->(0<=mt l j/\mt l j<=255)/\0<=mm l j/\mm l j<=255):=fun j hj=>by
  have:=nU l N j hj
  unfold kE at this
  simp only [bN] at this
  exact ⟨(iG _).1 this.1,(iG _).1 this.2.1⟩
 clear J L N
 go_enter Tryz.func64,Tryz.ntmps64
 go_wp2_with (first | (with_reducible refine sA ?_;have _m:=o;refine jg rfl rfl ?_;intro b w2 C hb t) | (with_reducible refine sA ?_;refine jg rfl rfl ?_;intro r w1 o hr f) | (with_reducible refine AE ?_;refine nG rfl _ s rfl rfl ?_) | (with_reducible refine vq ?_;refine jf rfl _ _ rfl rfl rfl C ?_;intro w3 T b0 K E))
 have a5:=o.lt
 have R3:Txt w3 r ⟨#[]⟩ rJ:=(o.below t a5).same (by omega) (K r (by omega))
 have a0:=E w.heap.size w (f.trans (t.mono f.size)) (by have:=f.size;omega)
 have G:w.heap.size<=b:=by have:=f.size;omega
 have M:r≠b:=by omega
 clear E K t o C f
 go_loopw [6] (fun i wr=>∃k:Nat,k<=256/\i=aa ab k/\aB w.heap.size w wr/\Txt wr r ⟨#[]⟩ rJ/\Txt wr b s (fun x=>if x<k then x else 0)) (fun i _=>256-(intOf i).toNat)
 case atStart=>exact ⟨0,bc _,rfl,a0,R3,T.congr fun c _=>by rw [if_neg (by omega)];rfl⟩
 case round=>
  obtain ⟨k,hk,rfl,F,R4,d⟩:=hrel
  by_cases H:k<256
  ·have a7:decide ((k:Int)<=255)=true:=by simp;omega
   have Y:=d.ct k H
   have Z:=d.fr (1+k)
   have a3:=d.lt
   have a:=d.set k H k
   have q:=R4.same (w':=wr.setCell ⟨b,1+k,none⟩ (aa ab k)) (by simp [bw]) (cW _ _ _ _ M)
   go_wp2_with fail
   go_roundw
   case rel=>exact ⟨k+1,by omega,by go_num,F.setCell (p:=⟨b,_,none⟩) G _,q,a.congr fun c _=>by grind⟩
   case measure=>simp [intOf];omega
  ·obtain rfl:k=256:=by omega
   have R:Txt wr b s (fj (l.take 0)):=d.congr fun c hc=>by rw [if_pos (by omega)];rfl
   clear d
   go_wp2_with fail
   go_loopw [7] (fun i z=>∃k:Nat,k<=n/\i=aa ab k/\aB w.heap.size w z/\Txt z r ⟨#[]⟩ rJ/\Txt z b s (fj (l.take k))) (fun i _=>n-(intOf i).toNat)
   case atStart=>exact ⟨0,bc _,rfl,F,R4,R⟩
   case round=>
    obtain ⟨k,hk,rfl,u,q,a⟩:=hrel
    by_cases a8:k<n
    ·have g:k<l.length:=by have:=B.out;omega
     obtain ⟨b',b2,rfl,a6,D,W⟩:=(P.out.below u) k g
     rw [li _ _ g] at D
     rw [ng _ _ g] at W
     obtain ⟨⟨O,q1⟩,q2,q3⟩:=a2.out k g
     obtain ⟨m,y⟩:=bU O
     rw [y] at D
     have I:m<256:=by omega
     have h:=zq (mV l k g)
     have Q:=zq y
     clear O q1 y
     have Y:=a.ct m I
     have Z:=a.fr (1+m)
     have a3:=a.lt
     have U:=a.set m I (mm l k)
     have S:=q.same (w':=wr.setCell ⟨b,1+m,none⟩ (aa ab (mm l k))) (by simp [bw]) (cW _ _ _ _ M)
     go_wp2_with fail
     go_region
     go_wp2_with fail
     go_roundw
     case rel=>exact ⟨k+1,by omega,by go_num,(u.setCell (p:=⟨b,_,none⟩) G _).drew,S.same (ae _) rfl,(U.congr fun c _=>by rw [h.out,Q.out];grind).same (ae _) rfl⟩
     case measure=>simp [intOf];omega
    ·have a4:k=l.length:=by have:=B.out;omega
     have h:=zq (show l.take k=l from List.take_of_length_le (by omega))
     rw [h.out] at a
     clear h a4
     go_wp2_with (first | (with_reducible refine aG ?_;refine aq rfl _ rfl rfl a ?_) | (with_reducible refine vq ?_;refine jf rfl _ _ rfl rfl rfl q ?_;intro w9 V b1 a9 a1))
     refine aw (v:=eK s (fj l)) (results_cell_row rfl _ _ r _ _ _ _ rfl V.blk Tryz.underlying107 rfl (by rw [oZ,eR])) rfl ⟨rfl,a1 _ _ u hr⟩
theorem uw (s:ByteArray) (a:Int) (A:Option Addr) (n f:Nat) (l:List (Int×Int)) (w:au) (g:n=l.length) (m:n<=bF) (h:Pairs w A l) :
  aU am 63 #[ac s,aa ab a,.slice A n f] w fun e w'=>e=.returned (av (ll s.data.toList a l))/\aB w.heap.size w w':=by
 have j:=zq (pt A n f l w g m h)
 have i:=zq (show ll s.data.toList a l=(decide ((s.size:Int)<=16384)&&(decide (a ≥ 0)&&(decide (a<=s.size)&&gq l))) by unfold ll;rw [ci,show decide (s.size<=16384)=decide ((s.size:Int)<=16384) from decide_eq_decide.2 (by omega)])
 clear g h
 rw [i.out]
 by_cases o:(s.size:Int)<=16384
 ·have b:decide ((s.size:Int)<=16384)=true:=by simp;omega
  by_cases p:a ≥ 0
  ·have c:decide (a ≥ 0)=true:=by simp;omega
   by_cases q:a<=s.size
   ·have d:decide (a<=s.size)=true:=by simp;omega
    rw [b,c,d]
    go_enter Tryz.func63,Tryz.ntmps63
    go_wp2_with fail
    refine j.out.mono ?_;rintro e r ⟨rfl,k⟩
    go_wp2_with fail
    go_ret
    exact ⟨bY (by simp),k⟩
   ·have d:decide (a<=s.size)=false:=by simp;omega
    rw [b,c,d]
    go_enter Tryz.func63,Tryz.ntmps63
    go_wp2_with fail
    go_ret
    exact ⟨bY (by simp),ap _ _⟩
  ·have c:decide (a ≥ 0)=false:=by simp;omega
   rw [b,c]
   go_enter Tryz.func63,Tryz.ntmps63
   go_wp2_with fail
   go_ret
   exact ⟨bY (by simp),ap _ _⟩
 ·have b:decide ((s.size:Int)<=16384)=false:=by simp;omega
  rw [b]
  go_enter Tryz.func63,Tryz.ntmps63
  go_wp2_with fail
  go_ret
  exact ⟨bY (by simp),ap _ _⟩
theorem uM (s:ByteArray) (a:Int) (l:List (Int×Int)) (h:ll s.data.toList a l=true):mN s a l/\ex (fj l):=by
 have b:=(mP s a l).1 h
 have d:∀j,j<l.length->0<=mm l j/\mm l j<=255:=fun j e=>by
  have:=nU l b.2.2.2 j e
  unfold kE at this
  simp only [bN] at this
  exact (iG _).1 this.2.1
 have c:=pX l d l.length (ae _)
 rw [List.take_length] at c
 exact ⟨b,c⟩
theorem zW (s:ByteArray) (C:Int) (A:Option Addr) (n T:Nat) (l:List (Int×Int)) (w:au) (hn:n=l.length) (hm:n<=bF) (hp:Pairs w A l) :
  aU am 37 #[ac s,aa ab C,.slice A n T] w (zx (jG s.data.toList C l) w):=by
 have Y:=zq hn
 have Z:=zq hp
 clear hn hp
 have a0:=zq (uw s C A n T l w Y.out hm Z.out)
 cases hv:ll s.data.toList C l with
 | false=>
  have N:=zq (show jG s.data.toList C l=⟨[],0,1⟩ by unfold jG;rw [hv];rfl)
  have S:=zq hv
  clear hv
  rw [N.out]
  go_enter Tryz.func37,Tryz.ntmps37
  go_wp2_with fail
  refine a0.out.mono ?_;rintro e w1 ⟨rfl,F⟩;rw [S.out]
  go_wp2_with fail
  refine aw (v:=aJ #[.slice none 0 0,aa ab 0,aa ab 1]) (by simp [results,Tryz.results37,go_sem]) rfl ⟨_,rfl,F,iz _ _ _ _⟩
 | true=>
  obtain ⟨⟨b0,c,U,a2⟩,a3⟩:=uM s C l hv
  obtain ⟨k,hk⟩:=bU c
  subst hk
  have a9:k<=s.size:=by omega
  have N:=zq (show jG s.data.toList k l=lL (ba (fj l) s.data.toList) s.data.toList k by unfold jG;rw [hv];rfl)
  have S:=zq hv
  have HT:=zq a3
  have H4:=zq a2
  have R:Hid (s.data.toList.length=s.size):=ci s
  have a5:Hid ((ba (fj l) s.data.toList).length=s.data.toList.length):=bL _ _
  clear hv a3 a2 c U
  rw [N.out]
  clear N
  go_enter Tryz.func37,Tryz.ntmps37
  go_wp2_with fail
  refine a0.out.mono ?_;rintro e wA ⟨rfl,G⟩;rw [S.out]
  have a6:=zq (Z.out.below G)
  go_wp2_with fail
  refine (zV s A n T l _ Y.out hm a6.out H4.out).mono ?_;rintro e wB ⟨rfl,Q⟩
  go_wp2_with (first | (with_reducible refine sA ?_;refine jg rfl rfl ?_;intro b wC TC hb a1) | (with_reducible refine vq ?_;refine jf rfl _ _ rfl rfl rfl TC ?_;intro w1 L b4 U u))
  have a8:w.heap.size<=b:=by have:=G.size;have:=Q.size;omega
  have F:aB w.heap.size w w1:=u _ _ (G.trans ((Q.mono G.size).trans (a1.mono (aQ G.size Q.size)))) a8
  have a7:=L.lt
  clear G Q a1 u U b4 TC
  go_loopw [1,10] (fun i v wr=>∃a f:Nat,∃t:List NextR,i=aa ab a/\a<=s.size/\s.size-a<f/\t.length<=a/\aB w.heap.size w wr/\w1.heap.size<=wr.heap.size/\Txt wr b s (fj l)/\wr.ownsRow w1.heap.size 76 6 v t.length (ff t)/\Hid (kZ f (ba (fj l) s.data.toList) s.data.toList a t=lL (ba (fj l) s.data.toList) s.data.toList k)) (fun i _ _=>s.size-(intOf i).toNat)
  case atStart=>exact ⟨k,s.size+1,[],rfl,a9,by omega,bc _,F,ae _,L,iz _ _ _ _,by show _=_;unfold lL;rw [R.out]⟩
  case round=>
   obtain ⟨a,f,t,rfl,ha,hf,b6,E,a4,y,B,m⟩:=hrel
   obtain ⟨P,rfl⟩:∃P,f=P+1:=⟨f-1,by omega⟩
   obtain ⟨A',b5,rfl⟩:=fp B
   have K:=E.size
   have z:=np (ba (fj l) s.data.toList) s.data.toList a5.out a (by rw [R.out];exact ha)
   rw [R.out] at z
   have H:=zq (jT P (ba (fj l) s.data.toList) s.data.toList a t)
   have J:=zq (xK s (fj l) HT.out a ha b0 wr)
   generalize hr:bD (ba (fj l) s.data.toList) s.data.toList a=r at *
   clear hr
   by_cases j:r.r.err=14
   ·have b1:(r.r.err==14)=true:=by simp [j]
    cases t with
    | nil=>
     have b2:(r.r.err != 0)=true:=by simp [j]
     have h:=zq (H.out.trans (by rw [if_neg (by simp),if_pos (by omega)]))
     clear z j
     go_wp2_with (with_reducible refine aG ?_;refine aq rfl _ rfl rfl y ?_)
     refine J.out.mono ?_;rintro e q ⟨g,c⟩
     unfold fC cK at g;subst g
     have d:=E.trans (c.mono K)
     go_wp2_with fail
     refine aw (v:=aJ #[.slice none 0 0,aa ab r.where_,aa ab r.r.err]) (by simp [results,Tryz.results37,go_sem]) rfl ⟨_,by rw [<-m.out,h.out],d.alloc d.size _,by rw [<-m.out,h.out];exact iz _ _ _ _⟩
    | cons x xs=>
     have h:=zq (H.out.trans (by rw [if_pos ⟨j,by simp⟩]))
     have b3:decide (0<xs.length+1)=true:=by simp
     clear z j
     go_wp2_with (with_reducible refine aG ?_;refine aq rfl _ rfl rfl y ?_)
     refine J.out.mono ?_;rintro e q ⟨g,c⟩
     unfold fC cK at g;subst g
     have d:=E.trans (c.mono K)
     go_wp2_with fail
     refine aw (v:=aJ #[.slice none 0 0,aa ab r.where_,aa ab 7]) (by simp [results,Tryz.results37,go_sem]) rfl ⟨_,by rw [<-m.out,h.out],d.alloc d.size _,by rw [<-m.out,h.out];exact iz _ _ _ _⟩
   have b1:(r.r.err==14)=false:=by simp [j]
   by_cases o:r.r.err=0
   ·have b2:(r.r.err != 0)=false:=by simp [o]
    obtain ⟨p,en,e1,e2,O,e4,e5,e6,e7⟩:=z o
    by_cases D:r.r.kind=7
    ·have b3:(r.r.kind==7)=true:=by simp [D]
     have h:=zq (H.out.trans (by rw [if_neg (by simp [j]),if_neg (by simpa using o),if_pos D]))
     clear z j o D e1 O e6 e7
     go_wp2_with (with_reducible refine aG ?_;refine aq rfl _ rfl rfl y ?_)
     refine J.out.mono ?_;rintro e q ⟨g,c⟩
     unfold fC cK at g;subst g
     have d:=E.trans (c.mono K)
     have I:=zq ((eH B c (ae _)).alloc (.cells #[aa ab r.r.kind,ac ⟨r.r.text.toArray⟩,aa ab r.r.n,aa ab r.r.at_,aa ab r.r.end_,av r.lay] 76))
     go_wp2_with (at_builtin;go_must (refine eS rfl _ _ 65 76 rfl Tryz.underlying65 _ 6 56 pa rfl (by decide) w1.heap.size _ _ _ rfl _ I.out #[aa ab r.r.kind,ac ⟨r.r.text.toArray⟩,aa ab r.r.n,aa ab r.r.at_,aa ab r.r.end_,av r.lay] rfl (by simp [fl]) rfl (lg _ _) (by omega) (by omega) (by simp;have:=c.size;omega) ?_;intro W w3 V u M;have t0:=M.cell (jC q _ _ _ 0 _ rfl) (lT B c.size);have t4:=M.cell (jC q _ _ _ 4 _ rfl) (lT B c.size);clear I))
     refine aw (v:=aJ #[W,aa ab 0,aa ab 0]) (by simp [results,Tryz.results37,go_sem]) rfl ⟨W,by rw [<-m.out,h.out],(d.alloc d.size _).trans (u.mono F.size),by rw [<-m.out,h.out,iS,bC];exact nh V F.size⟩
    ·have b3:(r.r.kind==7)=false:=by simp [D]
     have h:=zq (H.out.trans (by rw [if_neg (by simp [j]),if_neg (by simpa using o),if_neg D,O,Int.toNat_natCast]))
     have X:=zq O
     clear z j o D e1 O e6 e7
     go_wp2_with (with_reducible refine aG ?_;refine aq rfl _ rfl rfl y ?_)
     refine J.out.mono ?_;rintro e q ⟨g,c⟩
     unfold fC cK at g;subst g
     have d:=E.trans (c.mono K)
     have I:=zq ((eH B c (ae _)).alloc (.cells #[aa ab r.r.kind,ac ⟨r.r.text.toArray⟩,aa ab r.r.n,aa ab r.r.at_,aa ab r.r.end_,av r.lay] 76))
     go_wp2_with (at_builtin;go_must (refine eS rfl _ _ 65 76 rfl Tryz.underlying65 _ 6 56 pa rfl (by decide) w1.heap.size _ _ _ rfl _ I.out #[aa ab r.r.kind,ac ⟨r.r.text.toArray⟩,aa ab r.r.n,aa ab r.r.at_,aa ab r.r.end_,av r.lay] rfl (by simp [fl]) rfl (lg _ _) (by omega) (by omega) (by simp;have:=c.size;omega) ?_;intro W w3 V u M;have t0:=M.cell (jC q _ _ _ 0 _ rfl) (lT B c.size);have t4:=M.cell (jC q _ _ _ 4 _ rfl) (lT B c.size);clear I))
     go_roundw
     case rel=>exact ⟨en,P,t++[r],congrArg (Value.int IntKind.i64) X.out,by omega,by omega,by simp;omega,(d.alloc d.size _).trans (u.mono F.size),aQ a4 (aQ c.size (aQ (by simp) u.size)),(y.below c y.lt).below (((ap w1.heap.size q).alloc (aQ a4 c.size) _).trans u) a7,by rw [iS,bC];exact V,h.out.symm.trans m.out⟩
     case measure=>rw [X.out];simp [intOf];omega
   ·have b2:(r.r.err != 0)=true:=by simp [o]
    have h:=zq (H.out.trans (by rw [if_neg (by simp [j]),if_pos o]))
    clear z j o
    go_wp2_with (with_reducible refine aG ?_;refine aq rfl _ rfl rfl y ?_)
    refine J.out.mono ?_;rintro e q ⟨g,c⟩
    unfold fC cK at g;subst g
    have d:=E.trans (c.mono K)
    go_wp2_with fail
    refine aw (v:=aJ #[.slice none 0 0,aa ab r.where_,aa ab r.r.err]) (by simp [results,Tryz.results37,go_sem]) rfl ⟨_,by rw [<-m.out,h.out],d.alloc d.size _,by rw [<-m.out,h.out];exact iz _ _ _ _⟩
end Go.Proofs.YtbojljpldcijgaaGreat
