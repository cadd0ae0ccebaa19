/- Parts of the proof. -/
import Derived.Test.YtbojljpldcijgaaGreatR01
import Derived.Test.YtbojljpldcijgaaGreatR37
set_option maxHeartbeats 12800000
set_option maxRecDepth 100000
open Go renaming Calls -> aU, World -> au, bodyPost_ret -> aw
open Go.Ending renaming returned -> aD
open Go.IntKind renaming i64 -> ab
open Go.IntWalk renaming u64_in -> bM, u64_quo -> fy
open Go.Proofs.Tryz renaming func151 -> go, ntmps151 -> fK, prog -> am, results151 -> de
open Go.RowKit renaming Below -> aB
open Go.Value renaming bool -> av, bool -> dh, int -> aa, tuple -> aJ
open Nat renaming add_zero -> bj, le_refl -> ae, zero_le -> bc
namespace Go.Proofs.YtbojljpldcijgaaGreat
open Go.RowKit Hb
theorem tz (s:ByteArray) (a:Int->Int) (Q:ex a) (p:Nat) (hp:p<s.size) (a6:s.size<=16384) (h:¬ak (ba a s.data.toList) p=48) (w:au) :
  aU am 151 #[eK s a,aa ab p] w fun e w'=>(∃n k:Int,e=aD (aJ #[aa ab n,aa ab k,av ((ew (ba a s.data.toList) s.data.toList p).err==0)])/\gi (ew (ba a s.data.toList) s.data.toList p) n k)/\aB w.heap.size w w':=by
 have g:=zq Q
 clear Q
 have a1:Hid ((ba a s.data.toList).length=s.size):=by show _=_;rw [bL];simp
 generalize K:ba a s.data.toList=M at *
 have f:=zq K
 clear K
 have r:=zq (show ew M s.data.toList p=fM 10 ((M.drop p).take (br (bJ 10) (M.drop p))) p (p+br (bJ 10) (M.drop p):Nat) by unfold ew;rw [if_neg (fun hh=>h hh.1),if_neg (by unfold cS;rw [if_neg h];omega)];simp)
 have d1:(ak M p==48)=false:=by simp [h]
 clear h
 have U:=zq (gE 10 M (p))
 have R:=zq (gF 10 M (p))
 have W:=zq (jt 10 (by decide) (by decide) M (p))
 have a3:=bS (bJ 10) (M.drop (p))
 generalize hD:br (bJ 10) (M.drop (p))=D at *
 clear hD
 go_enter go,fK
 go_wp2_with (first | (refine bb rfl _ s a rfl rfl ?_;intro b w1 B a4 H) | (with_reducible refine aG ?_;refine aq rfl _ rfl rfl B ?_))
 refine (aO s a M f g _ p (by omega) _).mono ?_;rintro e w2 ⟨rfl,I⟩
 have t:=B.below I B.lt
 have a5:=H.size
 go_wp2_with (first | (with_reducible refine aG ?_;refine aq rfl _ rfl rfl t ?_) | (with_reducible refine aR ?_;refine ax _ rfl rfl t rfl ?_))
 refine (aO s a M f g _ (p) (by omega) _).mono ?_;rintro e w3 ⟨rfl,J⟩
 have Y:=t.below J t.lt
 have a0:aB w.heap.size w w3:=H.trans (ey (by omega) I J)
 go_wp2_with fail
 go_loopw [11,15,16] (fun x sm ft wr=>∃j:Nat,∃S:Int,j<=D/\x=aa ab (p+j:Nat)/\sm=aa .u64 S/\ft=av (decide (bg 10 ((M.drop (p)).take j)<=9223372036854775808))/\0<=S/\S<=9223372036854775808/\Hid (bg 10 ((M.drop (p)).take j)<=9223372036854775808->S=bg 10 ((M.drop (p)).take j))/\aB w.heap.size w wr/\Txt wr b s a) (fun x _ _ _=>s.size-(intOf x).toNat)
 case atStart=>exact ⟨0,0,bc _,by go_num,rfl,rfl,by omega,by omega,fun _=>rfl,a0,Y⟩
 case round=>
  obtain ⟨j,S,hj,rfl,rfl,rfl,L,N,F,l,T⟩:=hrel
  have hs:=l.size
  by_cases P:j<D
  ·obtain ⟨g1,g2⟩:=R.out j P
   rw [a1.out] at g2
   obtain ⟨G,g4,g5⟩:=W.out j P
   have V:=zq (lN 10 (by decide) (M.drop (p)) j)
   have z:=zq G
   clear G
   by_cases d:bg 10 ((M.drop (p)).take j)<=9223372036854775808
   ·have A:=zq (F.out d)
    have C:decide (bg 10 ((M.drop (p)).take j)<=9223372036854775808)=true:=by simp;omega
    have a7:IntKind.u64.wrap (cG (ak M (p+j)) 10)=(cG (ak M (p+j)) 10):=bM _ (by omega)
    have a8:IntKind.u64.wrap (9223372036854775808-(cG (ak M (p+j)) 10))=9223372036854775808-(cG (ak M (p+j)) 10):=bM _ (by omega)
    have a9:IntKind.u64.wrap ((9223372036854775808-(cG (ak M (p+j)) 10)).tdiv 10)=(9223372036854775808-(cG (ak M (p+j)) 10)) / 10:=fy _ _ (by omega)
    by_cases E:bg 10 ((M.drop (p)).take (j+1))<=9223372036854775808
    ·have O:S * 10+(cG (ak M (p+j)) 10)<=9223372036854775808:=by have:=A.out;have:=z.out;omega
     have Z:decide (S<=(9223372036854775808-(cG (ak M (p+j)) 10)) / 10)=true:=by simp;omega
     have b0:IntKind.u64.wrap (S * 10)=S * 10:=bM _ (by omega)
     have b1:IntKind.u64.wrap (S * 10+(cG (ak M (p+j)) 10))=S * 10+(cG (ak M (p+j)) 10):=bM _ (by omega)
     have X:=zq (show S * 10+(cG (ak M (p+j)) 10)=bg 10 ((M.drop (p)).take (j+1)) by have:=A.out;have:=z.out;omega)
     have m:=zq (show true=decide (bg 10 ((M.drop (p)).take (j+1))<=9223372036854775808) by simp;omega)
     clear d E
     go_wp2_with (first | (with_reducible refine aG ?_;refine aq rfl _ rfl rfl T ?_) | (with_reducible refine aR ?_;refine ax _ rfl rfl T rfl ?_))
     refine (aO s a M f g _ (p+j) (by omega) _).mono ?_;rintro e u ⟨rfl,c⟩
     have i:=T.below c T.lt
     go_wp2_with fail
     refine (bG _ _ _).mono ?_;rintro e y ⟨rfl,rfl⟩
     go_wp2_with fail
     go_roundw
     case rel=>exact ⟨j+1,S * 10+(cG (ak M (p+j)) 10),by omega,by go_num,rfl,congrArg dh m.out,by omega,O,fun _=>X.out,l.trans (c.mono (by omega)),i⟩
     case measure=>simp [intOf];omega
    ·have O:¬S * 10+(cG (ak M (p+j)) 10)<=9223372036854775808:=by have:=A.out;have:=z.out;omega
     have Z:decide (S<=(9223372036854775808-(cG (ak M (p+j)) 10)) / 10)=false:=by simp;omega
     have m:=zq (show false=decide (bg 10 ((M.drop (p)).take (j+1))<=9223372036854775808) by simp;omega)
     have q:=zq E
     clear d E
     go_wp2_with (first | (with_reducible refine aG ?_;refine aq rfl _ rfl rfl T ?_) | (with_reducible refine aR ?_;refine ax _ rfl rfl T rfl ?_))
     refine (aO s a M f g _ (p+j) (by omega) _).mono ?_;rintro e u ⟨rfl,c⟩
     have i:=T.below c T.lt
     go_wp2_with fail
     refine (bG _ _ _).mono ?_;rintro e y ⟨rfl,rfl⟩
     go_wp2_with fail
     go_roundw
     case rel=>exact ⟨j+1,S,by omega,by go_num,rfl,congrArg dh m.out,L,N,fun h=>absurd h q.out,l.trans (c.mono (by omega)),i⟩
     case measure=>simp [intOf];omega
   ·have C:decide (bg 10 ((M.drop (p)).take j)<=9223372036854775808)=false:=by simp;omega
    have q:=zq (V.out d)
    have m:=zq (show false=decide (bg 10 ((M.drop (p)).take (j+1))<=9223372036854775808) by have:=q.out;simp;omega)
    clear d
    go_wp2_with (first | (with_reducible refine aG ?_;refine aq rfl _ rfl rfl T ?_) | (with_reducible refine aR ?_;refine ax _ rfl rfl T rfl ?_))
    refine (aO s a M f g _ (p+j) (by omega) _).mono ?_;rintro e u ⟨rfl,c⟩
    have i:=T.below c T.lt
    go_wp2_with fail
    refine (bG _ _ _).mono ?_;rintro e y ⟨rfl,rfl⟩
    go_wp2_with fail
    go_roundw
    case rel=>exact ⟨j+1,S,by omega,by go_num,rfl,congrArg dh m.out,L,N,fun h=>absurd h q.out,l.trans (c.mono (by omega)),i⟩
    case measure=>simp [intOf];omega
  ·obtain rfl:j=D:=by omega
   have a2:=U.out
   by_cases d:bg 10 ((M.drop (p)).take j)<=9223372036854775808
   ·have C:decide (bg 10 ((M.drop (p)).take j)<=9223372036854775808)=true:=by simp;omega
    have o:=zq (kw 10 ((M.drop (p)).take j) p (p+j:Nat) d S (F.out d) (wrap64 S) (by unfold wrap64;omega))
    clear d
    go_wp2_with (first | (with_reducible refine aG ?_;refine aq rfl _ rfl rfl T ?_) | (with_reducible refine aR ?_;refine ax _ rfl rfl T rfl ?_))
    refine (aO s a M f g _ (p+j) (by omega) _).mono ?_;rintro e u ⟨rfl,c⟩
    have i:=T.below c T.lt
    go_wp2_with fail
    refine (bG _ _ _).mono ?_;rintro e y ⟨rfl,rfl⟩
    go_wp2_with fail
    refine aw (v:=aJ #[aa ab (wrap64 S),aa ab (p+j:Nat),av true]) (by simp [results,de,go_sem]) rfl ⟨⟨_,_,by rw [r.out,o.out.1],?_⟩,l.trans (c.mono (by omega))⟩
    rw [r.out];exact o.out.2
   ·have C:decide (bg 10 ((M.drop (p)).take j)<=9223372036854775808)=false:=by simp;omega
    have o:=zq (kx 10 ((M.drop (p)).take j) p (p+j:Nat) d (wrap64 S) (p+j:Nat))
    clear d
    go_wp2_with (first | (with_reducible refine aG ?_;refine aq rfl _ rfl rfl T ?_) | (with_reducible refine aR ?_;refine ax _ rfl rfl T rfl ?_))
    refine (aO s a M f g _ (p+j) (by omega) _).mono ?_;rintro e u ⟨rfl,c⟩
    have i:=T.below c T.lt
    go_wp2_with fail
    refine (bG _ _ _).mono ?_;rintro e y ⟨rfl,rfl⟩
    go_wp2_with fail
    refine aw (v:=aJ #[aa ab (wrap64 S),aa ab (p+j:Nat),av false]) (by simp [results,de,go_sem]) rfl ⟨⟨_,_,by rw [r.out,o.out.1],?_⟩,l.trans (c.mono (by omega))⟩
    rw [r.out];exact o.out.2
theorem qw (s:ByteArray) (a:Int->Int) (u:ex a) (p:Nat) (D:p<s.size) (y:s.size<=16384) (h:ak (ba a s.data.toList) p=48) (g:ak (ba a s.data.toList) (p+1)=39) (w:au) :
  aU am 151 #[eK s a,aa ab p] w fun e w'=>(∃n k:Int,e=aD (aJ #[aa ab n,aa ab k,av ((ew (ba a s.data.toList) s.data.toList p).err==0)])/\gi (ew (ba a s.data.toList) s.data.toList p) n k)/\aB w.heap.size w w':=by
 have l:=zq u
 clear u
 have C:Hid ((ba a s.data.toList).length=s.size):=by show _=_;rw [bL];simp
 generalize t:ba a s.data.toList=M at *
 have j:=zq t
 clear t
 have i:=zq (uN M s.data.toList p h g)
 have z:(ak M p==48)=true:=by simp [h]
 have A:(ak M (p+1)==39)=true:=by simp [g]
 clear h g
 go_enter go,fK
 go_wp2_with (first | (refine bb rfl _ s a rfl rfl ?_;intro b F f B o) | (with_reducible refine aG ?_;refine aq rfl _ rfl rfl f ?_))
 refine (aO s a M j l _ p (by omega) _).mono ?_;rintro e G ⟨rfl,q⟩
 have d:=f.below q f.lt
 have E:=o.size
 go_wp2_with (first | (with_reducible refine aG ?_;refine aq rfl _ rfl rfl d ?_) | (with_reducible refine aR ?_;refine ax _ rfl rfl d rfl ?_))
 refine (aO s a M j l _ (p+1) (by omega) _).mono ?_;rintro e H ⟨rfl,r⟩
 have m:=d.below r d.lt
 go_wp2_with (first | (with_reducible refine aG ?_;refine aq rfl _ rfl rfl m ?_) | (with_reducible refine aR ?_;refine ax _ rfl rfl m rfl ?_))
 refine (jV s a (p+2) (by omega) 39 (.inl rfl) y _).mono ?_;rintro e I ⟨rfl,x⟩
 go_wp2_with fail
 refine aw (v:=aJ #[aa ab (jI s.data.toList (p+2) 39),aa ab (jH s.data.toList (p+2) 39),av (jx s.data.toList (p+2) 39==1)]) (by simp [results,de,go_sem]) rfl ⟨⟨jI s.data.toList (p+2) 39,jH s.data.toList (p+2) 39,?_,?_⟩,o.trans (ip (by omega) q r x)⟩
 ·rw [i.out]
  by_cases c:jx s.data.toList (p+2) 39=1
  ·rw [if_pos c,c];rfl
  ·rw [if_neg c];simp [c,cY]
 ·rw [i.out]
  by_cases c:jx s.data.toList (p+2) 39=1
  ·rw [if_pos c];exact fun _=>⟨rfl,rfl⟩
  ·rw [if_neg c];exact fun h=>absurd h (by show ¬(7:Int)=0;decide)
theorem pP (s:ByteArray) (a:Int->Int) (ht:ex a) (p:Nat) (hp:p<s.size) (b3:s.size<=16384) (h:ak (ba a s.data.toList) p=48) (A:ak (ba a s.data.toList) (p+1)=120) (J:0<br (bJ 16) ((ba a s.data.toList).drop (p+2))) (w:au) :
  aU am 151 #[eK s a,aa ab p] w fun e w'=>(∃n k:Int,e=aD (aJ #[aa ab n,aa ab k,av ((ew (ba a s.data.toList) s.data.toList p).err==0)])/\gi (ew (ba a s.data.toList) s.data.toList p) n k)/\aB w.heap.size w w':=by
 have g:=zq ht
 clear ht
 have a8:Hid ((ba a s.data.toList).length=s.size):=by show _=_;rw [bL];simp
 generalize V:ba a s.data.toList=M at *
 have f:=zq V
 clear V
 have a0:cS M p=16:=by unfold cS;rw [if_pos h,A];rfl
 have r:=zq (show ew M s.data.toList p=fM 16 ((M.drop (p+2)).take (br (bJ 16) (M.drop (p+2)))) p (p+2+br (bJ 16) (M.drop (p+2)):Nat) by unfold ew;rw [if_neg (by omega),a0,if_pos ⟨by decide,J⟩];simp)
 have e3:=(gF 16 M (p+2) 0 J).1
 rw [bj] at e3
 have d1:(ak M p==48)=true:=by simp [h]
 have d2:(ak M (p+1)==39)=false:=by simp [A]
 have x1:(ak M (p+1)==120)=true:=by simp [A]
 clear h A J a0
 have a2:=zq (gE 16 M (p+2))
 have a1:=zq (gF 16 M (p+2))
 have a4:=zq (jt 16 (by decide) (by decide) M (p+2))
 have b0:=bS (bJ 16) (M.drop (p+2))
 generalize hD:br (bJ 16) (M.drop (p+2))=D at *
 clear hD
 go_enter go,fK
 go_wp2_with (first | (refine bb rfl _ s a rfl rfl ?_;intro b w1 G b1 Q) | (with_reducible refine aG ?_;refine aq rfl _ rfl rfl G ?_))
 refine (aO s a M f g _ p (by omega) _).mono ?_;rintro e w2 ⟨rfl,K⟩
 have t:=G.below K G.lt
 have b2:=Q.size
 go_wp2_with (first | (with_reducible refine aG ?_;refine aq rfl _ rfl rfl t ?_) | (with_reducible refine aR ?_;refine ax _ rfl rfl t rfl ?_))
 refine (aO s a M f g _ (p+1) (by omega) _).mono ?_;rintro e w3 ⟨rfl,L⟩
 have u:=t.below L t.lt
 go_wp2_with (first | (with_reducible refine aG ?_;refine aq rfl _ rfl rfl u ?_) | (with_reducible refine aR ?_;refine ax _ rfl rfl u rfl ?_))
 refine (aO s a M f g _ (p) (by omega) _).mono ?_;rintro e w4 ⟨rfl,N⟩
 have y:=u.below N u.lt
 go_wp2_with (first | (with_reducible refine aG ?_;refine aq rfl _ rfl rfl y ?_) | (with_reducible refine aR ?_;refine ax _ rfl rfl y rfl ?_))
 refine (aO s a M f g _ (p+1) (by omega) _).mono ?_;rintro e w5 ⟨rfl,R⟩
 have z:=y.below R y.lt
 go_wp2_with (first | (with_reducible refine aG ?_;refine aq rfl _ rfl rfl z ?_) | (with_reducible refine aR ?_;refine ax _ rfl rfl z rfl ?_))
 refine (aO s a M f g _ (p+2) (by omega) _).mono ?_;rintro e w6 ⟨rfl,U⟩
 have T6:=z.below U z.lt
 go_wp2_with fail
 refine (bG _ _ _).mono ?_;rintro e w7 ⟨rfl,rfl⟩
 have a7:aB w.heap.size w w6:=Q.trans ((ip (ae _) K L N |>.mono (by omega)).trans (ey (by have:=K.size;have:=L.size;have:=N.size;omega) R U))
 go_wp2_with fail
 go_loopw [11,15,16] (fun x sm ft wr=>∃j:Nat,∃S:Int,j<=D/\x=aa ab (p+2+j:Nat)/\sm=aa .u64 S/\ft=av (decide (bg 16 ((M.drop (p+2)).take j)<=9223372036854775808))/\0<=S/\S<=9223372036854775808/\Hid (bg 16 ((M.drop (p+2)).take j)<=9223372036854775808->S=bg 16 ((M.drop (p+2)).take j))/\aB w.heap.size w wr/\Txt wr b s a) (fun x _ _ _=>s.size-(intOf x).toNat)
 case atStart=>exact ⟨0,0,bc _,by go_num,rfl,rfl,by omega,by omega,fun _=>rfl,a7,T6⟩
 case round=>
  obtain ⟨j,S,hj,rfl,rfl,rfl,W,X,O,l,T⟩:=hrel
  have hs:=l.size
  by_cases Z:j<D
  ·obtain ⟨g1,g2⟩:=a1.out j Z
   rw [a8.out] at g2
   obtain ⟨P,g4,g5⟩:=a4.out j Z
   have a3:=zq (lN 16 (by decide) (M.drop (p+2)) j)
   have E:=zq P
   clear P
   by_cases d:bg 16 ((M.drop (p+2)).take j)<=9223372036854775808
   ·have F:=zq (O.out d)
    have H:decide (bg 16 ((M.drop (p+2)).take j)<=9223372036854775808)=true:=by simp;omega
    have b4:IntKind.u64.wrap (cG (ak M (p+2+j)) 16)=(cG (ak M (p+2+j)) 16):=bM _ (by omega)
    have b5:IntKind.u64.wrap (9223372036854775808-(cG (ak M (p+2+j)) 16))=9223372036854775808-(cG (ak M (p+2+j)) 16):=bM _ (by omega)
    have b6:IntKind.u64.wrap ((9223372036854775808-(cG (ak M (p+2+j)) 16)).tdiv 16)=(9223372036854775808-(cG (ak M (p+2+j)) 16)) / 16:=fy _ _ (by omega)
    by_cases I:bg 16 ((M.drop (p+2)).take (j+1))<=9223372036854775808
    ·have Y:S * 16+(cG (ak M (p+2+j)) 16)<=9223372036854775808:=by have:=F.out;have:=E.out;omega
     have a6:decide (S<=(9223372036854775808-(cG (ak M (p+2+j)) 16)) / 16)=true:=by simp;omega
     have b7:IntKind.u64.wrap (S * 16)=S * 16:=bM _ (by omega)
     have b8:IntKind.u64.wrap (S * 16+(cG (ak M (p+2+j)) 16))=S * 16+(cG (ak M (p+2+j)) 16):=bM _ (by omega)
     have a5:=zq (show S * 16+(cG (ak M (p+2+j)) 16)=bg 16 ((M.drop (p+2)).take (j+1)) by have:=F.out;have:=E.out;omega)
     have m:=zq (show true=decide (bg 16 ((M.drop (p+2)).take (j+1))<=9223372036854775808) by simp;omega)
     clear d I
     go_wp2_with (first | (with_reducible refine aG ?_;refine aq rfl _ rfl rfl T ?_) | (with_reducible refine aR ?_;refine ax _ rfl rfl T rfl ?_))
     refine (aO s a M f g _ (p+2+j) (by omega) _).mono ?_;rintro e B ⟨rfl,c⟩
     have i:=T.below c T.lt
     go_wp2_with fail
     refine (bG _ _ _).mono ?_;rintro e C ⟨rfl,rfl⟩
     go_wp2_with fail
     go_roundw
     case rel=>exact ⟨j+1,S * 16+(cG (ak M (p+2+j)) 16),by omega,by go_num,rfl,congrArg dh m.out,by omega,Y,fun _=>a5.out,l.trans (c.mono (by omega)),i⟩
     case measure=>simp [intOf];omega
    ·have Y:¬S * 16+(cG (ak M (p+2+j)) 16)<=9223372036854775808:=by have:=F.out;have:=E.out;omega
     have a6:decide (S<=(9223372036854775808-(cG (ak M (p+2+j)) 16)) / 16)=false:=by simp;omega
     have m:=zq (show false=decide (bg 16 ((M.drop (p+2)).take (j+1))<=9223372036854775808) by simp;omega)
     have q:=zq I
     clear d I
     go_wp2_with (first | (with_reducible refine aG ?_;refine aq rfl _ rfl rfl T ?_) | (with_reducible refine aR ?_;refine ax _ rfl rfl T rfl ?_))
     refine (aO s a M f g _ (p+2+j) (by omega) _).mono ?_;rintro e B ⟨rfl,c⟩
     have i:=T.below c T.lt
     go_wp2_with fail
     refine (bG _ _ _).mono ?_;rintro e C ⟨rfl,rfl⟩
     go_wp2_with fail
     go_roundw
     case rel=>exact ⟨j+1,S,by omega,by go_num,rfl,congrArg dh m.out,W,X,fun h=>absurd h q.out,l.trans (c.mono (by omega)),i⟩
     case measure=>simp [intOf];omega
   ·have H:decide (bg 16 ((M.drop (p+2)).take j)<=9223372036854775808)=false:=by simp;omega
    have q:=zq (a3.out d)
    have m:=zq (show false=decide (bg 16 ((M.drop (p+2)).take (j+1))<=9223372036854775808) by have:=q.out;simp;omega)
    clear d
    go_wp2_with (first | (with_reducible refine aG ?_;refine aq rfl _ rfl rfl T ?_) | (with_reducible refine aR ?_;refine ax _ rfl rfl T rfl ?_))
    refine (aO s a M f g _ (p+2+j) (by omega) _).mono ?_;rintro e B ⟨rfl,c⟩
    have i:=T.below c T.lt
    go_wp2_with fail
    refine (bG _ _ _).mono ?_;rintro e C ⟨rfl,rfl⟩
    go_wp2_with fail
    go_roundw
    case rel=>exact ⟨j+1,S,by omega,by go_num,rfl,congrArg dh m.out,W,X,fun h=>absurd h q.out,l.trans (c.mono (by omega)),i⟩
    case measure=>simp [intOf];omega
  ·obtain rfl:j=D:=by omega
   have a9:=a2.out
   by_cases d:bg 16 ((M.drop (p+2)).take j)<=9223372036854775808
   ·have H:decide (bg 16 ((M.drop (p+2)).take j)<=9223372036854775808)=true:=by simp;omega
    have o:=zq (kw 16 ((M.drop (p+2)).take j) p (p+2+j:Nat) d S (O.out d) (wrap64 S) (by unfold wrap64;omega))
    clear d
    go_wp2_with (first | (with_reducible refine aG ?_;refine aq rfl _ rfl rfl T ?_) | (with_reducible refine aR ?_;refine ax _ rfl rfl T rfl ?_))
    refine (aO s a M f g _ (p+2+j) (by omega) _).mono ?_;rintro e B ⟨rfl,c⟩
    have i:=T.below c T.lt
    go_wp2_with fail
    refine (bG _ _ _).mono ?_;rintro e C ⟨rfl,rfl⟩
    go_wp2_with fail
    refine aw (v:=aJ #[aa ab (wrap64 S),aa ab (p+2+j:Nat),av true]) (by simp [results,de,go_sem]) rfl ⟨⟨_,_,by rw [r.out,o.out.1],?_⟩,l.trans (c.mono (by omega))⟩
    rw [r.out];exact o.out.2
   ·have H:decide (bg 16 ((M.drop (p+2)).take j)<=9223372036854775808)=false:=by simp;omega
    have o:=zq (kx 16 ((M.drop (p+2)).take j) p (p+2+j:Nat) d (wrap64 S) (p+2+j:Nat))
    clear d
    go_wp2_with (first | (with_reducible refine aG ?_;refine aq rfl _ rfl rfl T ?_) | (with_reducible refine aR ?_;refine ax _ rfl rfl T rfl ?_))
    refine (aO s a M f g _ (p+2+j) (by omega) _).mono ?_;rintro e B ⟨rfl,c⟩
    have i:=T.below c T.lt
    go_wp2_with fail
    refine (bG _ _ _).mono ?_;rintro e C ⟨rfl,rfl⟩
    go_wp2_with fail
    refine aw (v:=aJ #[aa ab (wrap64 S),aa ab (p+2+j:Nat),av false]) (by simp [results,de,go_sem]) rfl ⟨⟨_,_,by rw [r.out,o.out.1],?_⟩,l.trans (c.mono (by omega))⟩
    rw [r.out];exact o.out.2
theorem qA (s:ByteArray) (a:Int->Int) (ht:ex a) (p:Nat) (hp:p<s.size) (b3:s.size<=16384) (h:ak (ba a s.data.toList) p=48) (A:ak (ba a s.data.toList) (p+1)=120) (P:¬0<br (bJ 16) ((ba a s.data.toList).drop (p+2))) (w:au) :
  aU am 151 #[eK s a,aa ab p] w fun e w'=>(∃n k:Int,e=aD (aJ #[aa ab n,aa ab k,av ((ew (ba a s.data.toList) s.data.toList p).err==0)])/\gi (ew (ba a s.data.toList) s.data.toList p) n k)/\aB w.heap.size w w':=by
 have g:=zq ht
 clear ht
 have a8:Hid ((ba a s.data.toList).length=s.size):=by show _=_;rw [bL];simp
 generalize V:ba a s.data.toList=M at *
 have f:=zq V
 clear V
 have a0:cS M p=16:=by unfold cS;rw [if_pos h,A];rfl
 have r:=zq (show ew M s.data.toList p=fM 10 ((M.drop p).take (br (bJ 10) (M.drop p))) p (p+br (bJ 10) (M.drop p):Nat) by unfold ew;rw [if_neg (by omega),a0,if_neg (fun hh=>P hh.2)];simp)
 have e3:=gE 16 M (p+2)
 rw [show br (bJ 16) (M.drop (p+2))=0 by omega,bj] at e3
 have d1:(ak M p==48)=true:=by simp [h]
 have d2:(ak M (p+1)==39)=false:=by simp [A]
 have x1:(ak M (p+1)==120)=true:=by simp [A]
 clear h A P a0
 have a2:=zq (gE 10 M (p))
 have a1:=zq (gF 10 M (p))
 have a4:=zq (jt 10 (by decide) (by decide) M (p))
 have b0:=bS (bJ 10) (M.drop (p))
 generalize hD:br (bJ 10) (M.drop (p))=D at *
 clear hD
 go_enter go,fK
 go_wp2_with (first | (refine bb rfl _ s a rfl rfl ?_;intro b w1 G b1 Q) | (with_reducible refine aG ?_;refine aq rfl _ rfl rfl G ?_))
 refine (aO s a M f g _ p (by omega) _).mono ?_;rintro e w2 ⟨rfl,J⟩
 have t:=G.below J G.lt
 have b2:=Q.size
 go_wp2_with (first | (with_reducible refine aG ?_;refine aq rfl _ rfl rfl t ?_) | (with_reducible refine aR ?_;refine ax _ rfl rfl t rfl ?_))
 refine (aO s a M f g _ (p+1) (by omega) _).mono ?_;rintro e w3 ⟨rfl,K⟩
 have u:=t.below K t.lt
 go_wp2_with (first | (with_reducible refine aG ?_;refine aq rfl _ rfl rfl u ?_) | (with_reducible refine aR ?_;refine ax _ rfl rfl u rfl ?_))
 refine (aO s a M f g _ (p) (by omega) _).mono ?_;rintro e w4 ⟨rfl,L⟩
 have y:=u.below L u.lt
 go_wp2_with (first | (with_reducible refine aG ?_;refine aq rfl _ rfl rfl y ?_) | (with_reducible refine aR ?_;refine ax _ rfl rfl y rfl ?_))
 refine (aO s a M f g _ (p+1) (by omega) _).mono ?_;rintro e w5 ⟨rfl,R⟩
 have z:=y.below R y.lt
 go_wp2_with (first | (with_reducible refine aG ?_;refine aq rfl _ rfl rfl z ?_) | (with_reducible refine aR ?_;refine ax _ rfl rfl z rfl ?_))
 refine (aO s a M f g _ (p+2) (by omega) _).mono ?_;rintro e w6 ⟨rfl,U⟩
 have T6:=z.below U z.lt
 go_wp2_with fail
 refine (bG _ _ _).mono ?_;rintro e w7 ⟨rfl,rfl⟩
 have a7:aB w.heap.size w w6:=Q.trans ((ip (ae _) J K L |>.mono (by omega)).trans (ey (by have:=J.size;have:=K.size;have:=L.size;omega) R U))
 go_wp2_with fail
 go_loopw [11,15,16] (fun x sm ft wr=>∃j:Nat,∃S:Int,j<=D/\x=aa ab (p+j:Nat)/\sm=aa .u64 S/\ft=av (decide (bg 10 ((M.drop (p)).take j)<=9223372036854775808))/\0<=S/\S<=9223372036854775808/\Hid (bg 10 ((M.drop (p)).take j)<=9223372036854775808->S=bg 10 ((M.drop (p)).take j))/\aB w.heap.size w wr/\Txt wr b s a) (fun x _ _ _=>s.size-(intOf x).toNat)
 case atStart=>exact ⟨0,0,bc _,by go_num,rfl,rfl,by omega,by omega,fun _=>rfl,a7,T6⟩
 case round=>
  obtain ⟨j,S,hj,rfl,rfl,rfl,W,X,N,l,T⟩:=hrel
  have hs:=l.size
  by_cases Z:j<D
  ·obtain ⟨g1,g2⟩:=a1.out j Z
   rw [a8.out] at g2
   obtain ⟨O,g4,g5⟩:=a4.out j Z
   have a3:=zq (lN 10 (by decide) (M.drop (p)) j)
   have E:=zq O
   clear O
   by_cases d:bg 10 ((M.drop (p)).take j)<=9223372036854775808
   ·have F:=zq (N.out d)
    have H:decide (bg 10 ((M.drop (p)).take j)<=9223372036854775808)=true:=by simp;omega
    have b4:IntKind.u64.wrap (cG (ak M (p+j)) 10)=(cG (ak M (p+j)) 10):=bM _ (by omega)
    have b5:IntKind.u64.wrap (9223372036854775808-(cG (ak M (p+j)) 10))=9223372036854775808-(cG (ak M (p+j)) 10):=bM _ (by omega)
    have b6:IntKind.u64.wrap ((9223372036854775808-(cG (ak M (p+j)) 10)).tdiv 10)=(9223372036854775808-(cG (ak M (p+j)) 10)) / 10:=fy _ _ (by omega)
    by_cases I:bg 10 ((M.drop (p)).take (j+1))<=9223372036854775808
    ·have Y:S * 10+(cG (ak M (p+j)) 10)<=9223372036854775808:=by have:=F.out;have:=E.out;omega
     have a6:decide (S<=(9223372036854775808-(cG (ak M (p+j)) 10)) / 10)=true:=by simp;omega
     have b7:IntKind.u64.wrap (S * 10)=S * 10:=bM _ (by omega)
     have b8:IntKind.u64.wrap (S * 10+(cG (ak M (p+j)) 10))=S * 10+(cG (ak M (p+j)) 10):=bM _ (by omega)
     have a5:=zq (show S * 10+(cG (ak M (p+j)) 10)=bg 10 ((M.drop (p)).take (j+1)) by have:=F.out;have:=E.out;omega)
     have m:=zq (show true=decide (bg 10 ((M.drop (p)).take (j+1))<=9223372036854775808) by simp;omega)
     clear d I
     go_wp2_with (first | (with_reducible refine aG ?_;refine aq rfl _ rfl rfl T ?_) | (with_reducible refine aR ?_;refine ax _ rfl rfl T rfl ?_))
     refine (aO s a M f g _ (p+j) (by omega) _).mono ?_;rintro e B ⟨rfl,c⟩
     have i:=T.below c T.lt
     go_wp2_with fail
     refine (bG _ _ _).mono ?_;rintro e C ⟨rfl,rfl⟩
     go_wp2_with fail
     go_roundw
     case rel=>exact ⟨j+1,S * 10+(cG (ak M (p+j)) 10),by omega,by go_num,rfl,congrArg dh m.out,by omega,Y,fun _=>a5.out,l.trans (c.mono (by omega)),i⟩
     case measure=>simp [intOf];omega
    ·have Y:¬S * 10+(cG (ak M (p+j)) 10)<=9223372036854775808:=by have:=F.out;have:=E.out;omega
     have a6:decide (S<=(9223372036854775808-(cG (ak M (p+j)) 10)) / 10)=false:=by simp;omega
     have m:=zq (show false=decide (bg 10 ((M.drop (p)).take (j+1))<=9223372036854775808) by simp;omega)
     have q:=zq I
     clear d I
     go_wp2_with (first | (with_reducible refine aG ?_;refine aq rfl _ rfl rfl T ?_) | (with_reducible refine aR ?_;refine ax _ rfl rfl T rfl ?_))
     refine (aO s a M f g _ (p+j) (by omega) _).mono ?_;rintro e B ⟨rfl,c⟩
     have i:=T.below c T.lt
     go_wp2_with fail
     refine (bG _ _ _).mono ?_;rintro e C ⟨rfl,rfl⟩
     go_wp2_with fail
     go_roundw
     case rel=>exact ⟨j+1,S,by omega,by go_num,rfl,congrArg dh m.out,W,X,fun h=>absurd h q.out,l.trans (c.mono (by omega)),i⟩
     case measure=>simp [intOf];omega
   ·have H:decide (bg 10 ((M.drop (p)).take j)<=9223372036854775808)=false:=by simp;omega
    have q:=zq (a3.out d)
    have m:=zq (show false=decide (bg 10 ((M.drop (p)).take (j+1))<=9223372036854775808) by have:=q.out;simp;omega)
    clear d
    go_wp2_with (first | (with_reducible refine aG ?_;refine aq rfl _ rfl rfl T ?_) | (with_reducible refine aR ?_;refine ax _ rfl rfl T rfl ?_))
    refine (aO s a M f g _ (p+j) (by omega) _).mono ?_;rintro e B ⟨rfl,c⟩
    have i:=T.below c T.lt
    go_wp2_with fail
    refine (bG _ _ _).mono ?_;rintro e C ⟨rfl,rfl⟩
    go_wp2_with fail
    go_roundw
    case rel=>exact ⟨j+1,S,by omega,by go_num,rfl,congrArg dh m.out,W,X,fun h=>absurd h q.out,l.trans (c.mono (by omega)),i⟩
    case measure=>simp [intOf];omega
  ·obtain rfl:j=D:=by omega
   have a9:=a2.out
   by_cases d:bg 10 ((M.drop (p)).take j)<=9223372036854775808
   ·have H:decide (bg 10 ((M.drop (p)).take j)<=9223372036854775808)=true:=by simp;omega
    have o:=zq (kw 10 ((M.drop (p)).take j) p (p+j:Nat) d S (N.out d) (wrap64 S) (by unfold wrap64;omega))
    clear d
    go_wp2_with (first | (with_reducible refine aG ?_;refine aq rfl _ rfl rfl T ?_) | (with_reducible refine aR ?_;refine ax _ rfl rfl T rfl ?_))
    refine (aO s a M f g _ (p+j) (by omega) _).mono ?_;rintro e B ⟨rfl,c⟩
    have i:=T.below c T.lt
    go_wp2_with fail
    refine (bG _ _ _).mono ?_;rintro e C ⟨rfl,rfl⟩
    go_wp2_with fail
    refine aw (v:=aJ #[aa ab (wrap64 S),aa ab (p+j:Nat),av true]) (by simp [results,de,go_sem]) rfl ⟨⟨_,_,by rw [r.out,o.out.1],?_⟩,l.trans (c.mono (by omega))⟩
    rw [r.out];exact o.out.2
   ·have H:decide (bg 10 ((M.drop (p)).take j)<=9223372036854775808)=false:=by simp;omega
    have o:=zq (kx 10 ((M.drop (p)).take j) p (p+j:Nat) d (wrap64 S) (p+j:Nat))
    clear d
    go_wp2_with (first | (with_reducible refine aG ?_;refine aq rfl _ rfl rfl T ?_) | (with_reducible refine aR ?_;refine ax _ rfl rfl T rfl ?_))
    refine (aO s a M f g _ (p+j) (by omega) _).mono ?_;rintro e B ⟨rfl,c⟩
    have i:=T.below c T.lt
    go_wp2_with fail
    refine (bG _ _ _).mono ?_;rintro e C ⟨rfl,rfl⟩
    go_wp2_with fail
    refine aw (v:=aJ #[aa ab (wrap64 S),aa ab (p+j:Nat),av false]) (by simp [results,de,go_sem]) rfl ⟨⟨_,_,by rw [r.out,o.out.1],?_⟩,l.trans (c.mono (by omega))⟩
    rw [r.out];exact o.out.2
theorem qy (s:ByteArray) (a:Int->Int) (ht:ex a) (p:Nat) (hp:p<s.size) (b3:s.size<=16384) (h:ak (ba a s.data.toList) p=48) (q:ak (ba a s.data.toList) (p+1)=111) (J:0<br (bJ 8) ((ba a s.data.toList).drop (p+2))) (w:au) :
  aU am 151 #[eK s a,aa ab p] w fun e w'=>(∃n k:Int,e=aD (aJ #[aa ab n,aa ab k,av ((ew (ba a s.data.toList) s.data.toList p).err==0)])/\gi (ew (ba a s.data.toList) s.data.toList p) n k)/\aB w.heap.size w w':=by
 have g:=zq ht
 clear ht
 have a8:Hid ((ba a s.data.toList).length=s.size):=by show _=_;rw [bL];simp
 generalize V:ba a s.data.toList=M at *
 have f:=zq V
 clear V
 have a0:cS M p=8:=by unfold cS;rw [if_pos h,q];rfl
 have t:=zq (show ew M s.data.toList p=fM 8 ((M.drop (p+2)).take (br (bJ 8) (M.drop (p+2)))) p (p+2+br (bJ 8) (M.drop (p+2)):Nat) by unfold ew;rw [if_neg (by omega),a0,if_pos ⟨by decide,J⟩];simp)
 have e3:=(gF 8 M (p+2) 0 J).1
 rw [bj] at e3
 have d1:(ak M p==48)=true:=by simp [h]
 have d2:(ak M (p+1)==39)=false:=by simp [q]
 have x1:(ak M (p+1)==120)=false:=by simp [q]
 have x2:(ak M (p+1)==111)=true:=by simp [q]
 clear h q J a0
 have a2:=zq (gE 8 M (p+2))
 have a1:=zq (gF 8 M (p+2))
 have a4:=zq (jt 8 (by decide) (by decide) M (p+2))
 have b0:=bS (bJ 8) (M.drop (p+2))
 generalize hD:br (bJ 8) (M.drop (p+2))=D at *
 clear hD
 go_enter go,fK
 go_wp2_with (first | (refine bb rfl _ s a rfl rfl ?_;intro b w1 G b1 Q) | (with_reducible refine aG ?_;refine aq rfl _ rfl rfl G ?_))
 refine (aO s a M f g _ p (by omega) _).mono ?_;rintro e w2 ⟨rfl,K⟩
 have u:=G.below K G.lt
 have b2:=Q.size
 go_wp2_with (first | (with_reducible refine aG ?_;refine aq rfl _ rfl rfl u ?_) | (with_reducible refine aR ?_;refine ax _ rfl rfl u rfl ?_))
 refine (aO s a M f g _ (p+1) (by omega) _).mono ?_;rintro e w3 ⟨rfl,L⟩
 have y:=u.below L u.lt
 go_wp2_with (first | (with_reducible refine aG ?_;refine aq rfl _ rfl rfl y ?_) | (with_reducible refine aR ?_;refine ax _ rfl rfl y rfl ?_))
 refine (aO s a M f g _ (p) (by omega) _).mono ?_;rintro e w4 ⟨rfl,N⟩
 have z:=y.below N y.lt
 go_wp2_with (first | (with_reducible refine aG ?_;refine aq rfl _ rfl rfl z ?_) | (with_reducible refine aR ?_;refine ax _ rfl rfl z rfl ?_))
 refine (aO s a M f g _ (p+1) (by omega) _).mono ?_;rintro e w5 ⟨rfl,R⟩
 have A:=z.below R z.lt
 go_wp2_with (first | (with_reducible refine aG ?_;refine aq rfl _ rfl rfl A ?_) | (with_reducible refine aR ?_;refine ax _ rfl rfl A rfl ?_))
 refine (aO s a M f g _ (p+2) (by omega) _).mono ?_;rintro e w6 ⟨rfl,U⟩
 have T6:=A.below U A.lt
 go_wp2_with fail
 refine (bG _ _ _).mono ?_;rintro e w7 ⟨rfl,rfl⟩
 have a7:aB w.heap.size w w6:=Q.trans ((ip (ae _) K L N |>.mono (by omega)).trans (ey (by have:=K.size;have:=L.size;have:=N.size;omega) R U))
 go_wp2_with fail
 go_loopw [11,15,16] (fun x sm ft wr=>∃j:Nat,∃S:Int,j<=D/\x=aa ab (p+2+j:Nat)/\sm=aa .u64 S/\ft=av (decide (bg 8 ((M.drop (p+2)).take j)<=9223372036854775808))/\0<=S/\S<=9223372036854775808/\Hid (bg 8 ((M.drop (p+2)).take j)<=9223372036854775808->S=bg 8 ((M.drop (p+2)).take j))/\aB w.heap.size w wr/\Txt wr b s a) (fun x _ _ _=>s.size-(intOf x).toNat)
 case atStart=>exact ⟨0,0,bc _,by go_num,rfl,rfl,by omega,by omega,fun _=>rfl,a7,T6⟩
 case round=>
  obtain ⟨j,S,hj,rfl,rfl,rfl,W,X,O,l,T⟩:=hrel
  have hs:=l.size
  by_cases Z:j<D
  ·obtain ⟨g1,g2⟩:=a1.out j Z
   rw [a8.out] at g2
   obtain ⟨P,g4,g5⟩:=a4.out j Z
   have a3:=zq (lN 8 (by decide) (M.drop (p+2)) j)
   have E:=zq P
   clear P
   by_cases d:bg 8 ((M.drop (p+2)).take j)<=9223372036854775808
   ·have F:=zq (O.out d)
    have H:decide (bg 8 ((M.drop (p+2)).take j)<=9223372036854775808)=true:=by simp;omega
    have b4:IntKind.u64.wrap (cG (ak M (p+2+j)) 8)=(cG (ak M (p+2+j)) 8):=bM _ (by omega)
    have b5:IntKind.u64.wrap (9223372036854775808-(cG (ak M (p+2+j)) 8))=9223372036854775808-(cG (ak M (p+2+j)) 8):=bM _ (by omega)
    have b6:IntKind.u64.wrap ((9223372036854775808-(cG (ak M (p+2+j)) 8)).tdiv 8)=(9223372036854775808-(cG (ak M (p+2+j)) 8)) / 8:=fy _ _ (by omega)
    by_cases I:bg 8 ((M.drop (p+2)).take (j+1))<=9223372036854775808
    ·have Y:S * 8+(cG (ak M (p+2+j)) 8)<=9223372036854775808:=by have:=F.out;have:=E.out;omega
     have a6:decide (S<=(9223372036854775808-(cG (ak M (p+2+j)) 8)) / 8)=true:=by simp;omega
     have b7:IntKind.u64.wrap (S * 8)=S * 8:=bM _ (by omega)
     have b8:IntKind.u64.wrap (S * 8+(cG (ak M (p+2+j)) 8))=S * 8+(cG (ak M (p+2+j)) 8):=bM _ (by omega)
     have a5:=zq (show S * 8+(cG (ak M (p+2+j)) 8)=bg 8 ((M.drop (p+2)).take (j+1)) by have:=F.out;have:=E.out;omega)
     have m:=zq (show true=decide (bg 8 ((M.drop (p+2)).take (j+1))<=9223372036854775808) by simp;omega)
     clear d I
     go_wp2_with (first | (with_reducible refine aG ?_;refine aq rfl _ rfl rfl T ?_) | (with_reducible refine aR ?_;refine ax _ rfl rfl T rfl ?_))
     refine (aO s a M f g _ (p+2+j) (by omega) _).mono ?_;rintro e B ⟨rfl,c⟩
     have i:=T.below c T.lt
     go_wp2_with fail
     refine (bG _ _ _).mono ?_;rintro e C ⟨rfl,rfl⟩
     go_wp2_with fail
     go_roundw
     case rel=>exact ⟨j+1,S * 8+(cG (ak M (p+2+j)) 8),by omega,by go_num,rfl,congrArg dh m.out,by omega,Y,fun _=>a5.out,l.trans (c.mono (by omega)),i⟩
     case measure=>simp [intOf];omega
    ·have Y:¬S * 8+(cG (ak M (p+2+j)) 8)<=9223372036854775808:=by have:=F.out;have:=E.out;omega
     have a6:decide (S<=(9223372036854775808-(cG (ak M (p+2+j)) 8)) / 8)=false:=by simp;omega
     have m:=zq (show false=decide (bg 8 ((M.drop (p+2)).take (j+1))<=9223372036854775808) by simp;omega)
     have r:=zq I
     clear d I
     go_wp2_with (first | (with_reducible refine aG ?_;refine aq rfl _ rfl rfl T ?_) | (with_reducible refine aR ?_;refine ax _ rfl rfl T rfl ?_))
     refine (aO s a M f g _ (p+2+j) (by omega) _).mono ?_;rintro e B ⟨rfl,c⟩
     have i:=T.below c T.lt
     go_wp2_with fail
     refine (bG _ _ _).mono ?_;rintro e C ⟨rfl,rfl⟩
     go_wp2_with fail
     go_roundw
     case rel=>exact ⟨j+1,S,by omega,by go_num,rfl,congrArg dh m.out,W,X,fun h=>absurd h r.out,l.trans (c.mono (by omega)),i⟩
     case measure=>simp [intOf];omega
   ·have H:decide (bg 8 ((M.drop (p+2)).take j)<=9223372036854775808)=false:=by simp;omega
    have r:=zq (a3.out d)
    have m:=zq (show false=decide (bg 8 ((M.drop (p+2)).take (j+1))<=9223372036854775808) by have:=r.out;simp;omega)
    clear d
    go_wp2_with (first | (with_reducible refine aG ?_;refine aq rfl _ rfl rfl T ?_) | (with_reducible refine aR ?_;refine ax _ rfl rfl T rfl ?_))
    refine (aO s a M f g _ (p+2+j) (by omega) _).mono ?_;rintro e B ⟨rfl,c⟩
    have i:=T.below c T.lt
    go_wp2_with fail
    refine (bG _ _ _).mono ?_;rintro e C ⟨rfl,rfl⟩
    go_wp2_with fail
    go_roundw
    case rel=>exact ⟨j+1,S,by omega,by go_num,rfl,congrArg dh m.out,W,X,fun h=>absurd h r.out,l.trans (c.mono (by omega)),i⟩
    case measure=>simp [intOf];omega
  ·obtain rfl:j=D:=by omega
   have a9:=a2.out
   by_cases d:bg 8 ((M.drop (p+2)).take j)<=9223372036854775808
   ·have H:decide (bg 8 ((M.drop (p+2)).take j)<=9223372036854775808)=true:=by simp;omega
    have o:=zq (kw 8 ((M.drop (p+2)).take j) p (p+2+j:Nat) d S (O.out d) (wrap64 S) (by unfold wrap64;omega))
    clear d
    go_wp2_with (first | (with_reducible refine aG ?_;refine aq rfl _ rfl rfl T ?_) | (with_reducible refine aR ?_;refine ax _ rfl rfl T rfl ?_))
    refine (aO s a M f g _ (p+2+j) (by omega) _).mono ?_;rintro e B ⟨rfl,c⟩
    have i:=T.below c T.lt
    go_wp2_with fail
    refine (bG _ _ _).mono ?_;rintro e C ⟨rfl,rfl⟩
    go_wp2_with fail
    refine aw (v:=aJ #[aa ab (wrap64 S),aa ab (p+2+j:Nat),av true]) (by simp [results,de,go_sem]) rfl ⟨⟨_,_,by rw [t.out,o.out.1],?_⟩,l.trans (c.mono (by omega))⟩
    rw [t.out];exact o.out.2
   ·have H:decide (bg 8 ((M.drop (p+2)).take j)<=9223372036854775808)=false:=by simp;omega
    have o:=zq (kx 8 ((M.drop (p+2)).take j) p (p+2+j:Nat) d (wrap64 S) (p+2+j:Nat))
    clear d
    go_wp2_with (first | (with_reducible refine aG ?_;refine aq rfl _ rfl rfl T ?_) | (with_reducible refine aR ?_;refine ax _ rfl rfl T rfl ?_))
    refine (aO s a M f g _ (p+2+j) (by omega) _).mono ?_;rintro e B ⟨rfl,c⟩
    have i:=T.below c T.lt
    go_wp2_with fail
    refine (bG _ _ _).mono ?_;rintro e C ⟨rfl,rfl⟩
    go_wp2_with fail
    refine aw (v:=aJ #[aa ab (wrap64 S),aa ab (p+2+j:Nat),av false]) (by simp [results,de,go_sem]) rfl ⟨⟨_,_,by rw [t.out,o.out.1],?_⟩,l.trans (c.mono (by omega))⟩
    rw [t.out];exact o.out.2
theorem su (s:ByteArray) (a:Int->Int) (ht:ex a) (p:Nat) (hp:p<s.size) (b3:s.size<=16384) (h:ak (ba a s.data.toList) p=48) (q:ak (ba a s.data.toList) (p+1)=111) (P:¬0<br (bJ 8) ((ba a s.data.toList).drop (p+2))) (w:au) :
  aU am 151 #[eK s a,aa ab p] w fun e w'=>(∃n k:Int,e=aD (aJ #[aa ab n,aa ab k,av ((ew (ba a s.data.toList) s.data.toList p).err==0)])/\gi (ew (ba a s.data.toList) s.data.toList p) n k)/\aB w.heap.size w w':=by
 have g:=zq ht
 clear ht
 have a8:Hid ((ba a s.data.toList).length=s.size):=by show _=_;rw [bL];simp
 generalize V:ba a s.data.toList=M at *
 have f:=zq V
 clear V
 have a0:cS M p=8:=by unfold cS;rw [if_pos h,q];rfl
 have t:=zq (show ew M s.data.toList p=fM 10 ((M.drop p).take (br (bJ 10) (M.drop p))) p (p+br (bJ 10) (M.drop p):Nat) by unfold ew;rw [if_neg (by omega),a0,if_neg (fun hh=>P hh.2)];simp)
 have e3:=gE 8 M (p+2)
 rw [show br (bJ 8) (M.drop (p+2))=0 by omega,bj] at e3
 have d1:(ak M p==48)=true:=by simp [h]
 have d2:(ak M (p+1)==39)=false:=by simp [q]
 have x1:(ak M (p+1)==120)=false:=by simp [q]
 have x2:(ak M (p+1)==111)=true:=by simp [q]
 clear h q P a0
 have a2:=zq (gE 10 M (p))
 have a1:=zq (gF 10 M (p))
 have a4:=zq (jt 10 (by decide) (by decide) M (p))
 have b0:=bS (bJ 10) (M.drop (p))
 generalize hD:br (bJ 10) (M.drop (p))=D at *
 clear hD
 go_enter go,fK
 go_wp2_with (first | (refine bb rfl _ s a rfl rfl ?_;intro b w1 G b1 Q) | (with_reducible refine aG ?_;refine aq rfl _ rfl rfl G ?_))
 refine (aO s a M f g _ p (by omega) _).mono ?_;rintro e w2 ⟨rfl,J⟩
 have u:=G.below J G.lt
 have b2:=Q.size
 go_wp2_with (first | (with_reducible refine aG ?_;refine aq rfl _ rfl rfl u ?_) | (with_reducible refine aR ?_;refine ax _ rfl rfl u rfl ?_))
 refine (aO s a M f g _ (p+1) (by omega) _).mono ?_;rintro e w3 ⟨rfl,K⟩
 have y:=u.below K u.lt
 go_wp2_with (first | (with_reducible refine aG ?_;refine aq rfl _ rfl rfl y ?_) | (with_reducible refine aR ?_;refine ax _ rfl rfl y rfl ?_))
 refine (aO s a M f g _ (p) (by omega) _).mono ?_;rintro e w4 ⟨rfl,L⟩
 have z:=y.below L y.lt
 go_wp2_with (first | (with_reducible refine aG ?_;refine aq rfl _ rfl rfl z ?_) | (with_reducible refine aR ?_;refine ax _ rfl rfl z rfl ?_))
 refine (aO s a M f g _ (p+1) (by omega) _).mono ?_;rintro e w5 ⟨rfl,R⟩
 have A:=z.below R z.lt
 go_wp2_with (first | (with_reducible refine aG ?_;refine aq rfl _ rfl rfl A ?_) | (with_reducible refine aR ?_;refine ax _ rfl rfl A rfl ?_))
 refine (aO s a M f g _ (p+2) (by omega) _).mono ?_;rintro e w6 ⟨rfl,U⟩
 have T6:=A.below U A.lt
 go_wp2_with fail
 refine (bG _ _ _).mono ?_;rintro e w7 ⟨rfl,rfl⟩
 have a7:aB w.heap.size w w6:=Q.trans ((ip (ae _) J K L |>.mono (by omega)).trans (ey (by have:=J.size;have:=K.size;have:=L.size;omega) R U))
 go_wp2_with fail
 go_loopw [11,15,16] (fun x sm ft wr=>∃j:Nat,∃S:Int,j<=D/\x=aa ab (p+j:Nat)/\sm=aa .u64 S/\ft=av (decide (bg 10 ((M.drop (p)).take j)<=9223372036854775808))/\0<=S/\S<=9223372036854775808/\Hid (bg 10 ((M.drop (p)).take j)<=9223372036854775808->S=bg 10 ((M.drop (p)).take j))/\aB w.heap.size w wr/\Txt wr b s a) (fun x _ _ _=>s.size-(intOf x).toNat)
 case atStart=>exact ⟨0,0,bc _,by go_num,rfl,rfl,by omega,by omega,fun _=>rfl,a7,T6⟩
 case round=>
  obtain ⟨j,S,hj,rfl,rfl,rfl,W,X,N,l,T⟩:=hrel
  have hs:=l.size
  by_cases Z:j<D
  ·obtain ⟨g1,g2⟩:=a1.out j Z
   rw [a8.out] at g2
   obtain ⟨O,g4,g5⟩:=a4.out j Z
   have a3:=zq (lN 10 (by decide) (M.drop (p)) j)
   have E:=zq O
   clear O
   by_cases d:bg 10 ((M.drop (p)).take j)<=9223372036854775808
   ·have F:=zq (N.out d)
    have H:decide (bg 10 ((M.drop (p)).take j)<=9223372036854775808)=true:=by simp;omega
    have b4:IntKind.u64.wrap (cG (ak M (p+j)) 10)=(cG (ak M (p+j)) 10):=bM _ (by omega)
    have b5:IntKind.u64.wrap (9223372036854775808-(cG (ak M (p+j)) 10))=9223372036854775808-(cG (ak M (p+j)) 10):=bM _ (by omega)
    have b6:IntKind.u64.wrap ((9223372036854775808-(cG (ak M (p+j)) 10)).tdiv 10)=(9223372036854775808-(cG (ak M (p+j)) 10)) / 10:=fy _ _ (by omega)
    by_cases I:bg 10 ((M.drop (p)).take (j+1))<=9223372036854775808
    ·have Y:S * 10+(cG (ak M (p+j)) 10)<=9223372036854775808:=by have:=F.out;have:=E.out;omega
     have a6:decide (S<=(9223372036854775808-(cG (ak M (p+j)) 10)) / 10)=true:=by simp;omega
     have b7:IntKind.u64.wrap (S * 10)=S * 10:=bM _ (by omega)
     have b8:IntKind.u64.wrap (S * 10+(cG (ak M (p+j)) 10))=S * 10+(cG (ak M (p+j)) 10):=bM _ (by omega)
     have a5:=zq (show S * 10+(cG (ak M (p+j)) 10)=bg 10 ((M.drop (p)).take (j+1)) by have:=F.out;have:=E.out;omega)
     have m:=zq (show true=decide (bg 10 ((M.drop (p)).take (j+1))<=9223372036854775808) by simp;omega)
     clear d I
     go_wp2_with (first | (with_reducible refine aG ?_;refine aq rfl _ rfl rfl T ?_) | (with_reducible refine aR ?_;refine ax _ rfl rfl T rfl ?_))
     refine (aO s a M f g _ (p+j) (by omega) _).mono ?_;rintro e B ⟨rfl,c⟩
     have i:=T.below c T.lt
     go_wp2_with fail
     refine (bG _ _ _).mono ?_;rintro e C ⟨rfl,rfl⟩
     go_wp2_with fail
     go_roundw
     case rel=>exact ⟨j+1,S * 10+(cG (ak M (p+j)) 10),by omega,by go_num,rfl,congrArg dh m.out,by omega,Y,fun _=>a5.out,l.trans (c.mono (by omega)),i⟩
     case measure=>simp [intOf];omega
    ·have Y:¬S * 10+(cG (ak M (p+j)) 10)<=9223372036854775808:=by have:=F.out;have:=E.out;omega
     have a6:decide (S<=(9223372036854775808-(cG (ak M (p+j)) 10)) / 10)=false:=by simp;omega
     have m:=zq (show false=decide (bg 10 ((M.drop (p)).take (j+1))<=9223372036854775808) by simp;omega)
     have r:=zq I
     clear d I
     go_wp2_with (first | (with_reducible refine aG ?_;refine aq rfl _ rfl rfl T ?_) | (with_reducible refine aR ?_;refine ax _ rfl rfl T rfl ?_))
     refine (aO s a M f g _ (p+j) (by omega) _).mono ?_;rintro e B ⟨rfl,c⟩
     have i:=T.below c T.lt
     go_wp2_with fail
     refine (bG _ _ _).mono ?_;rintro e C ⟨rfl,rfl⟩
     go_wp2_with fail
     go_roundw
     case rel=>exact ⟨j+1,S,by omega,by go_num,rfl,congrArg dh m.out,W,X,fun h=>absurd h r.out,l.trans (c.mono (by omega)),i⟩
     case measure=>simp [intOf];omega
   ·have H:decide (bg 10 ((M.drop (p)).take j)<=9223372036854775808)=false:=by simp;omega
    have r:=zq (a3.out d)
    have m:=zq (show false=decide (bg 10 ((M.drop (p)).take (j+1))<=9223372036854775808) by have:=r.out;simp;omega)
    clear d
    go_wp2_with (first | (with_reducible refine aG ?_;refine aq rfl _ rfl rfl T ?_) | (with_reducible refine aR ?_;refine ax _ rfl rfl T rfl ?_))
    refine (aO s a M f g _ (p+j) (by omega) _).mono ?_;rintro e B ⟨rfl,c⟩
    have i:=T.below c T.lt
    go_wp2_with fail
    refine (bG _ _ _).mono ?_;rintro e C ⟨rfl,rfl⟩
    go_wp2_with fail
    go_roundw
    case rel=>exact ⟨j+1,S,by omega,by go_num,rfl,congrArg dh m.out,W,X,fun h=>absurd h r.out,l.trans (c.mono (by omega)),i⟩
    case measure=>simp [intOf];omega
  ·obtain rfl:j=D:=by omega
   have a9:=a2.out
   by_cases d:bg 10 ((M.drop (p)).take j)<=9223372036854775808
   ·have H:decide (bg 10 ((M.drop (p)).take j)<=9223372036854775808)=true:=by simp;omega
    have o:=zq (kw 10 ((M.drop (p)).take j) p (p+j:Nat) d S (N.out d) (wrap64 S) (by unfold wrap64;omega))
    clear d
    go_wp2_with (first | (with_reducible refine aG ?_;refine aq rfl _ rfl rfl T ?_) | (with_reducible refine aR ?_;refine ax _ rfl rfl T rfl ?_))
    refine (aO s a M f g _ (p+j) (by omega) _).mono ?_;rintro e B ⟨rfl,c⟩
    have i:=T.below c T.lt
    go_wp2_with fail
    refine (bG _ _ _).mono ?_;rintro e C ⟨rfl,rfl⟩
    go_wp2_with fail
    refine aw (v:=aJ #[aa ab (wrap64 S),aa ab (p+j:Nat),av true]) (by simp [results,de,go_sem]) rfl ⟨⟨_,_,by rw [t.out,o.out.1],?_⟩,l.trans (c.mono (by omega))⟩
    rw [t.out];exact o.out.2
   ·have H:decide (bg 10 ((M.drop (p)).take j)<=9223372036854775808)=false:=by simp;omega
    have o:=zq (kx 10 ((M.drop (p)).take j) p (p+j:Nat) d (wrap64 S) (p+j:Nat))
    clear d
    go_wp2_with (first | (with_reducible refine aG ?_;refine aq rfl _ rfl rfl T ?_) | (with_reducible refine aR ?_;refine ax _ rfl rfl T rfl ?_))
    refine (aO s a M f g _ (p+j) (by omega) _).mono ?_;rintro e B ⟨rfl,c⟩
    have i:=T.below c T.lt
    go_wp2_with fail
    refine (bG _ _ _).mono ?_;rintro e C ⟨rfl,rfl⟩
    go_wp2_with fail
    refine aw (v:=aJ #[aa ab (wrap64 S),aa ab (p+j:Nat),av false]) (by simp [results,de,go_sem]) rfl ⟨⟨_,_,by rw [t.out,o.out.1],?_⟩,l.trans (c.mono (by omega))⟩
    rw [t.out];exact o.out.2
theorem qz (s:ByteArray) (a:Int->Int) (ht:ex a) (p:Nat) (hp:p<s.size) (b3:s.size<=16384) (h:ak (ba a s.data.toList) p=48) (l:ak (ba a s.data.toList) (p+1)=98) (J:0<br (bJ 2) ((ba a s.data.toList).drop (p+2))) (w:au) :
  aU am 151 #[eK s a,aa ab p] w fun e w'=>(∃n k:Int,e=aD (aJ #[aa ab n,aa ab k,av ((ew (ba a s.data.toList) s.data.toList p).err==0)])/\gi (ew (ba a s.data.toList) s.data.toList p) n k)/\aB w.heap.size w w':=by
 have g:=zq ht
 clear ht
 have a8:Hid ((ba a s.data.toList).length=s.size):=by show _=_;rw [bL];simp
 generalize V:ba a s.data.toList=M at *
 have f:=zq V
 clear V
 have a0:cS M p=2:=by unfold cS;rw [if_pos h,l];rfl
 have t:=zq (show ew M s.data.toList p=fM 2 ((M.drop (p+2)).take (br (bJ 2) (M.drop (p+2)))) p (p+2+br (bJ 2) (M.drop (p+2)):Nat) by unfold ew;rw [if_neg (by omega),a0,if_pos ⟨by decide,J⟩];simp)
 have e3:=(gF 2 M (p+2) 0 J).1
 rw [bj] at e3
 have d1:(ak M p==48)=true:=by simp [h]
 have d2:(ak M (p+1)==39)=false:=by simp [l]
 have x1:(ak M (p+1)==120)=false:=by simp [l]
 have x2:(ak M (p+1)==111)=false:=by simp [l]
 have x3:(ak M (p+1)==98)=true:=by simp [l]
 clear h l J a0
 have a2:=zq (gE 2 M (p+2))
 have a1:=zq (gF 2 M (p+2))
 have a4:=zq (jt 2 (by decide) (by decide) M (p+2))
 have b0:=bS (bJ 2) (M.drop (p+2))
 generalize hD:br (bJ 2) (M.drop (p+2))=D at *
 clear hD
 go_enter go,fK
 go_wp2_with (first | (refine bb rfl _ s a rfl rfl ?_;intro b w1 G b1 Q) | (with_reducible refine aG ?_;refine aq rfl _ rfl rfl G ?_))
 refine (aO s a M f g _ p (by omega) _).mono ?_;rintro e w2 ⟨rfl,K⟩
 have u:=G.below K G.lt
 have b2:=Q.size
 go_wp2_with (first | (with_reducible refine aG ?_;refine aq rfl _ rfl rfl u ?_) | (with_reducible refine aR ?_;refine ax _ rfl rfl u rfl ?_))
 refine (aO s a M f g _ (p+1) (by omega) _).mono ?_;rintro e w3 ⟨rfl,L⟩
 have y:=u.below L u.lt
 go_wp2_with (first | (with_reducible refine aG ?_;refine aq rfl _ rfl rfl y ?_) | (with_reducible refine aR ?_;refine ax _ rfl rfl y rfl ?_))
 refine (aO s a M f g _ (p) (by omega) _).mono ?_;rintro e w4 ⟨rfl,N⟩
 have z:=y.below N y.lt
 go_wp2_with (first | (with_reducible refine aG ?_;refine aq rfl _ rfl rfl z ?_) | (with_reducible refine aR ?_;refine ax _ rfl rfl z rfl ?_))
 refine (aO s a M f g _ (p+1) (by omega) _).mono ?_;rintro e w5 ⟨rfl,R⟩
 have A:=z.below R z.lt
 go_wp2_with (first | (with_reducible refine aG ?_;refine aq rfl _ rfl rfl A ?_) | (with_reducible refine aR ?_;refine ax _ rfl rfl A rfl ?_))
 refine (aO s a M f g _ (p+2) (by omega) _).mono ?_;rintro e w6 ⟨rfl,U⟩
 have T6:=A.below U A.lt
 go_wp2_with fail
 refine (bG _ _ _).mono ?_;rintro e w7 ⟨rfl,rfl⟩
 have a7:aB w.heap.size w w6:=Q.trans ((ip (ae _) K L N |>.mono (by omega)).trans (ey (by have:=K.size;have:=L.size;have:=N.size;omega) R U))
 go_wp2_with fail
 go_loopw [11,15,16] (fun x sm ft wr=>∃j:Nat,∃S:Int,j<=D/\x=aa ab (p+2+j:Nat)/\sm=aa .u64 S/\ft=av (decide (bg 2 ((M.drop (p+2)).take j)<=9223372036854775808))/\0<=S/\S<=9223372036854775808/\Hid (bg 2 ((M.drop (p+2)).take j)<=9223372036854775808->S=bg 2 ((M.drop (p+2)).take j))/\aB w.heap.size w wr/\Txt wr b s a) (fun x _ _ _=>s.size-(intOf x).toNat)
 case atStart=>exact ⟨0,0,bc _,by go_num,rfl,rfl,by omega,by omega,fun _=>rfl,a7,T6⟩
 case round=>
  obtain ⟨j,S,hj,rfl,rfl,rfl,W,X,O,m,T⟩:=hrel
  have hs:=m.size
  by_cases Z:j<D
  ·obtain ⟨g1,g2⟩:=a1.out j Z
   rw [a8.out] at g2
   obtain ⟨P,g4,g5⟩:=a4.out j Z
   have a3:=zq (lN 2 (by decide) (M.drop (p+2)) j)
   have E:=zq P
   clear P
   by_cases d:bg 2 ((M.drop (p+2)).take j)<=9223372036854775808
   ·have F:=zq (O.out d)
    have H:decide (bg 2 ((M.drop (p+2)).take j)<=9223372036854775808)=true:=by simp;omega
    have b4:IntKind.u64.wrap (cG (ak M (p+2+j)) 2)=(cG (ak M (p+2+j)) 2):=bM _ (by omega)
    have b5:IntKind.u64.wrap (9223372036854775808-(cG (ak M (p+2+j)) 2))=9223372036854775808-(cG (ak M (p+2+j)) 2):=bM _ (by omega)
    have b6:IntKind.u64.wrap ((9223372036854775808-(cG (ak M (p+2+j)) 2)).tdiv 2)=(9223372036854775808-(cG (ak M (p+2+j)) 2)) / 2:=fy _ _ (by omega)
    by_cases I:bg 2 ((M.drop (p+2)).take (j+1))<=9223372036854775808
    ·have Y:S * 2+(cG (ak M (p+2+j)) 2)<=9223372036854775808:=by have:=F.out;have:=E.out;omega
     have a6:decide (S<=(9223372036854775808-(cG (ak M (p+2+j)) 2)) / 2)=true:=by simp;omega
     have b7:IntKind.u64.wrap (S * 2)=S * 2:=bM _ (by omega)
     have b8:IntKind.u64.wrap (S * 2+(cG (ak M (p+2+j)) 2))=S * 2+(cG (ak M (p+2+j)) 2):=bM _ (by omega)
     have a5:=zq (show S * 2+(cG (ak M (p+2+j)) 2)=bg 2 ((M.drop (p+2)).take (j+1)) by have:=F.out;have:=E.out;omega)
     have o:=zq (show true=decide (bg 2 ((M.drop (p+2)).take (j+1))<=9223372036854775808) by simp;omega)
     clear d I
     go_wp2_with (first | (with_reducible refine aG ?_;refine aq rfl _ rfl rfl T ?_) | (with_reducible refine aR ?_;refine ax _ rfl rfl T rfl ?_))
     refine (aO s a M f g _ (p+2+j) (by omega) _).mono ?_;rintro e B ⟨rfl,c⟩
     have i:=T.below c T.lt
     go_wp2_with fail
     refine (bG _ _ _).mono ?_;rintro e C ⟨rfl,rfl⟩
     go_wp2_with fail
     go_roundw
     case rel=>exact ⟨j+1,S * 2+(cG (ak M (p+2+j)) 2),by omega,by go_num,rfl,congrArg dh o.out,by omega,Y,fun _=>a5.out,m.trans (c.mono (by omega)),i⟩
     case measure=>simp [intOf];omega
    ·have Y:¬S * 2+(cG (ak M (p+2+j)) 2)<=9223372036854775808:=by have:=F.out;have:=E.out;omega
     have a6:decide (S<=(9223372036854775808-(cG (ak M (p+2+j)) 2)) / 2)=false:=by simp;omega
     have o:=zq (show false=decide (bg 2 ((M.drop (p+2)).take (j+1))<=9223372036854775808) by simp;omega)
     have r:=zq I
     clear d I
     go_wp2_with (first | (with_reducible refine aG ?_;refine aq rfl _ rfl rfl T ?_) | (with_reducible refine aR ?_;refine ax _ rfl rfl T rfl ?_))
     refine (aO s a M f g _ (p+2+j) (by omega) _).mono ?_;rintro e B ⟨rfl,c⟩
     have i:=T.below c T.lt
     go_wp2_with fail
     refine (bG _ _ _).mono ?_;rintro e C ⟨rfl,rfl⟩
     go_wp2_with fail
     go_roundw
     case rel=>exact ⟨j+1,S,by omega,by go_num,rfl,congrArg dh o.out,W,X,fun h=>absurd h r.out,m.trans (c.mono (by omega)),i⟩
     case measure=>simp [intOf];omega
   ·have H:decide (bg 2 ((M.drop (p+2)).take j)<=9223372036854775808)=false:=by simp;omega
    have r:=zq (a3.out d)
    have o:=zq (show false=decide (bg 2 ((M.drop (p+2)).take (j+1))<=9223372036854775808) by have:=r.out;simp;omega)
    clear d
    go_wp2_with (first | (with_reducible refine aG ?_;refine aq rfl _ rfl rfl T ?_) | (with_reducible refine aR ?_;refine ax _ rfl rfl T rfl ?_))
    refine (aO s a M f g _ (p+2+j) (by omega) _).mono ?_;rintro e B ⟨rfl,c⟩
    have i:=T.below c T.lt
    go_wp2_with fail
    refine (bG _ _ _).mono ?_;rintro e C ⟨rfl,rfl⟩
    go_wp2_with fail
    go_roundw
    case rel=>exact ⟨j+1,S,by omega,by go_num,rfl,congrArg dh o.out,W,X,fun h=>absurd h r.out,m.trans (c.mono (by omega)),i⟩
    case measure=>simp [intOf];omega
  ·obtain rfl:j=D:=by omega
   have a9:=a2.out
   by_cases d:bg 2 ((M.drop (p+2)).take j)<=9223372036854775808
   ·have H:decide (bg 2 ((M.drop (p+2)).take j)<=9223372036854775808)=true:=by simp;omega
    have q:=zq (kw 2 ((M.drop (p+2)).take j) p (p+2+j:Nat) d S (O.out d) (wrap64 S) (by unfold wrap64;omega))
    clear d
    go_wp2_with (first | (with_reducible refine aG ?_;refine aq rfl _ rfl rfl T ?_) | (with_reducible refine aR ?_;refine ax _ rfl rfl T rfl ?_))
    refine (aO s a M f g _ (p+2+j) (by omega) _).mono ?_;rintro e B ⟨rfl,c⟩
    have i:=T.below c T.lt
    go_wp2_with fail
    refine (bG _ _ _).mono ?_;rintro e C ⟨rfl,rfl⟩
    go_wp2_with fail
    refine aw (v:=aJ #[aa ab (wrap64 S),aa ab (p+2+j:Nat),av true]) (by simp [results,de,go_sem]) rfl ⟨⟨_,_,by rw [t.out,q.out.1],?_⟩,m.trans (c.mono (by omega))⟩
    rw [t.out];exact q.out.2
   ·have H:decide (bg 2 ((M.drop (p+2)).take j)<=9223372036854775808)=false:=by simp;omega
    have q:=zq (kx 2 ((M.drop (p+2)).take j) p (p+2+j:Nat) d (wrap64 S) (p+2+j:Nat))
    clear d
    go_wp2_with (first | (with_reducible refine aG ?_;refine aq rfl _ rfl rfl T ?_) | (with_reducible refine aR ?_;refine ax _ rfl rfl T rfl ?_))
    refine (aO s a M f g _ (p+2+j) (by omega) _).mono ?_;rintro e B ⟨rfl,c⟩
    have i:=T.below c T.lt
    go_wp2_with fail
    refine (bG _ _ _).mono ?_;rintro e C ⟨rfl,rfl⟩
    go_wp2_with fail
    refine aw (v:=aJ #[aa ab (wrap64 S),aa ab (p+2+j:Nat),av false]) (by simp [results,de,go_sem]) rfl ⟨⟨_,_,by rw [t.out,q.out.1],?_⟩,m.trans (c.mono (by omega))⟩
    rw [t.out];exact q.out.2
theorem sv (s:ByteArray) (a:Int->Int) (ht:ex a) (p:Nat) (hp:p<s.size) (b3:s.size<=16384) (h:ak (ba a s.data.toList) p=48) (l:ak (ba a s.data.toList) (p+1)=98) (P:¬0<br (bJ 2) ((ba a s.data.toList).drop (p+2))) (w:au) :
  aU am 151 #[eK s a,aa ab p] w fun e w'=>(∃n k:Int,e=aD (aJ #[aa ab n,aa ab k,av ((ew (ba a s.data.toList) s.data.toList p).err==0)])/\gi (ew (ba a s.data.toList) s.data.toList p) n k)/\aB w.heap.size w w':=by
 have g:=zq ht
 clear ht
 have a8:Hid ((ba a s.data.toList).length=s.size):=by show _=_;rw [bL];simp
 generalize V:ba a s.data.toList=M at *
 have f:=zq V
 clear V
 have a0:cS M p=2:=by unfold cS;rw [if_pos h,l];rfl
 have t:=zq (show ew M s.data.toList p=fM 10 ((M.drop p).take (br (bJ 10) (M.drop p))) p (p+br (bJ 10) (M.drop p):Nat) by unfold ew;rw [if_neg (by omega),a0,if_neg (fun hh=>P hh.2)];simp)
 have e3:=gE 2 M (p+2)
 rw [show br (bJ 2) (M.drop (p+2))=0 by omega,bj] at e3
 have d1:(ak M p==48)=true:=by simp [h]
 have d2:(ak M (p+1)==39)=false:=by simp [l]
 have x1:(ak M (p+1)==120)=false:=by simp [l]
 have x2:(ak M (p+1)==111)=false:=by simp [l]
 have x3:(ak M (p+1)==98)=true:=by simp [l]
 clear h l P a0
 have a2:=zq (gE 10 M (p))
 have a1:=zq (gF 10 M (p))
 have a4:=zq (jt 10 (by decide) (by decide) M (p))
 have b0:=bS (bJ 10) (M.drop (p))
 generalize hD:br (bJ 10) (M.drop (p))=D at *
 clear hD
 go_enter go,fK
 go_wp2_with (first | (refine bb rfl _ s a rfl rfl ?_;intro b w1 G b1 Q) | (with_reducible refine aG ?_;refine aq rfl _ rfl rfl G ?_))
 refine (aO s a M f g _ p (by omega) _).mono ?_;rintro e w2 ⟨rfl,J⟩
 have u:=G.below J G.lt
 have b2:=Q.size
 go_wp2_with (first | (with_reducible refine aG ?_;refine aq rfl _ rfl rfl u ?_) | (with_reducible refine aR ?_;refine ax _ rfl rfl u rfl ?_))
 refine (aO s a M f g _ (p+1) (by omega) _).mono ?_;rintro e w3 ⟨rfl,K⟩
 have y:=u.below K u.lt
 go_wp2_with (first | (with_reducible refine aG ?_;refine aq rfl _ rfl rfl y ?_) | (with_reducible refine aR ?_;refine ax _ rfl rfl y rfl ?_))
 refine (aO s a M f g _ (p) (by omega) _).mono ?_;rintro e w4 ⟨rfl,L⟩
 have z:=y.below L y.lt
 go_wp2_with (first | (with_reducible refine aG ?_;refine aq rfl _ rfl rfl z ?_) | (with_reducible refine aR ?_;refine ax _ rfl rfl z rfl ?_))
 refine (aO s a M f g _ (p+1) (by omega) _).mono ?_;rintro e w5 ⟨rfl,R⟩
 have A:=z.below R z.lt
 go_wp2_with (first | (with_reducible refine aG ?_;refine aq rfl _ rfl rfl A ?_) | (with_reducible refine aR ?_;refine ax _ rfl rfl A rfl ?_))
 refine (aO s a M f g _ (p+2) (by omega) _).mono ?_;rintro e w6 ⟨rfl,U⟩
 have T6:=A.below U A.lt
 go_wp2_with fail
 refine (bG _ _ _).mono ?_;rintro e w7 ⟨rfl,rfl⟩
 have a7:aB w.heap.size w w6:=Q.trans ((ip (ae _) J K L |>.mono (by omega)).trans (ey (by have:=J.size;have:=K.size;have:=L.size;omega) R U))
 go_wp2_with fail
 go_loopw [11,15,16] (fun x sm ft wr=>∃j:Nat,∃S:Int,j<=D/\x=aa ab (p+j:Nat)/\sm=aa .u64 S/\ft=av (decide (bg 10 ((M.drop (p)).take j)<=9223372036854775808))/\0<=S/\S<=9223372036854775808/\Hid (bg 10 ((M.drop (p)).take j)<=9223372036854775808->S=bg 10 ((M.drop (p)).take j))/\aB w.heap.size w wr/\Txt wr b s a) (fun x _ _ _=>s.size-(intOf x).toNat)
 case atStart=>exact ⟨0,0,bc _,by go_num,rfl,rfl,by omega,by omega,fun _=>rfl,a7,T6⟩
 case round=>
  obtain ⟨j,S,hj,rfl,rfl,rfl,W,X,N,m,T⟩:=hrel
  have hs:=m.size
  by_cases Z:j<D
  ·obtain ⟨g1,g2⟩:=a1.out j Z
   rw [a8.out] at g2
   obtain ⟨O,g4,g5⟩:=a4.out j Z
   have a3:=zq (lN 10 (by decide) (M.drop (p)) j)
   have E:=zq O
   clear O
   by_cases d:bg 10 ((M.drop (p)).take j)<=9223372036854775808
   ·have F:=zq (N.out d)
    have H:decide (bg 10 ((M.drop (p)).take j)<=9223372036854775808)=true:=by simp;omega
    have b4:IntKind.u64.wrap (cG (ak M (p+j)) 10)=(cG (ak M (p+j)) 10):=bM _ (by omega)
    have b5:IntKind.u64.wrap (9223372036854775808-(cG (ak M (p+j)) 10))=9223372036854775808-(cG (ak M (p+j)) 10):=bM _ (by omega)
    have b6:IntKind.u64.wrap ((9223372036854775808-(cG (ak M (p+j)) 10)).tdiv 10)=(9223372036854775808-(cG (ak M (p+j)) 10)) / 10:=fy _ _ (by omega)
    by_cases I:bg 10 ((M.drop (p)).take (j+1))<=9223372036854775808
    ·have Y:S * 10+(cG (ak M (p+j)) 10)<=9223372036854775808:=by have:=F.out;have:=E.out;omega
     have a6:decide (S<=(9223372036854775808-(cG (ak M (p+j)) 10)) / 10)=true:=by simp;omega
     have b7:IntKind.u64.wrap (S * 10)=S * 10:=bM _ (by omega)
     have b8:IntKind.u64.wrap (S * 10+(cG (ak M (p+j)) 10))=S * 10+(cG (ak M (p+j)) 10):=bM _ (by omega)
     have a5:=zq (show S * 10+(cG (ak M (p+j)) 10)=bg 10 ((M.drop (p)).take (j+1)) by have:=F.out;have:=E.out;omega)
     have o:=zq (show true=decide (bg 10 ((M.drop (p)).take (j+1))<=9223372036854775808) by simp;omega)
     clear d I
     go_wp2_with (first | (with_reducible refine aG ?_;refine aq rfl _ rfl rfl T ?_) | (with_reducible refine aR ?_;refine ax _ rfl rfl T rfl ?_))
     refine (aO s a M f g _ (p+j) (by omega) _).mono ?_;rintro e B ⟨rfl,c⟩
     have i:=T.below c T.lt
     go_wp2_with fail
     refine (bG _ _ _).mono ?_;rintro e C ⟨rfl,rfl⟩
     go_wp2_with fail
     go_roundw
     case rel=>exact ⟨j+1,S * 10+(cG (ak M (p+j)) 10),by omega,by go_num,rfl,congrArg dh o.out,by omega,Y,fun _=>a5.out,m.trans (c.mono (by omega)),i⟩
     case measure=>simp [intOf];omega
    ·have Y:¬S * 10+(cG (ak M (p+j)) 10)<=9223372036854775808:=by have:=F.out;have:=E.out;omega
     have a6:decide (S<=(9223372036854775808-(cG (ak M (p+j)) 10)) / 10)=false:=by simp;omega
     have o:=zq (show false=decide (bg 10 ((M.drop (p)).take (j+1))<=9223372036854775808) by simp;omega)
     have r:=zq I
     clear d I
     go_wp2_with (first | (with_reducible refine aG ?_;refine aq rfl _ rfl rfl T ?_) | (with_reducible refine aR ?_;refine ax _ rfl rfl T rfl ?_))
     refine (aO s a M f g _ (p+j) (by omega) _).mono ?_;rintro e B ⟨rfl,c⟩
     have i:=T.below c T.lt
     go_wp2_with fail
     refine (bG _ _ _).mono ?_;rintro e C ⟨rfl,rfl⟩
     go_wp2_with fail
     go_roundw
     case rel=>exact ⟨j+1,S,by omega,by go_num,rfl,congrArg dh o.out,W,X,fun h=>absurd h r.out,m.trans (c.mono (by omega)),i⟩
     case measure=>simp [intOf];omega
   ·have H:decide (bg 10 ((M.drop (p)).take j)<=9223372036854775808)=false:=by simp;omega
    have r:=zq (a3.out d)
    have o:=zq (show false=decide (bg 10 ((M.drop (p)).take (j+1))<=9223372036854775808) by have:=r.out;simp;omega)
    clear d
    go_wp2_with (first | (with_reducible refine aG ?_;refine aq rfl _ rfl rfl T ?_) | (with_reducible refine aR ?_;refine ax _ rfl rfl T rfl ?_))
    refine (aO s a M f g _ (p+j) (by omega) _).mono ?_;rintro e B ⟨rfl,c⟩
    have i:=T.below c T.lt
    go_wp2_with fail
    refine (bG _ _ _).mono ?_;rintro e C ⟨rfl,rfl⟩
    go_wp2_with fail
    go_roundw
    case rel=>exact ⟨j+1,S,by omega,by go_num,rfl,congrArg dh o.out,W,X,fun h=>absurd h r.out,m.trans (c.mono (by omega)),i⟩
    case measure=>simp [intOf];omega
  ·obtain rfl:j=D:=by omega
   have a9:=a2.out
   by_cases d:bg 10 ((M.drop (p)).take j)<=9223372036854775808
   ·have H:decide (bg 10 ((M.drop (p)).take j)<=9223372036854775808)=true:=by simp;omega
    have q:=zq (kw 10 ((M.drop (p)).take j) p (p+j:Nat) d S (N.out d) (wrap64 S) (by unfold wrap64;omega))
    clear d
    go_wp2_with (first | (with_reducible refine aG ?_;refine aq rfl _ rfl rfl T ?_) | (with_reducible refine aR ?_;refine ax _ rfl rfl T rfl ?_))
    refine (aO s a M f g _ (p+j) (by omega) _).mono ?_;rintro e B ⟨rfl,c⟩
    have i:=T.below c T.lt
    go_wp2_with fail
    refine (bG _ _ _).mono ?_;rintro e C ⟨rfl,rfl⟩
    go_wp2_with fail
    refine aw (v:=aJ #[aa ab (wrap64 S),aa ab (p+j:Nat),av true]) (by simp [results,de,go_sem]) rfl ⟨⟨_,_,by rw [t.out,q.out.1],?_⟩,m.trans (c.mono (by omega))⟩
    rw [t.out];exact q.out.2
   ·have H:decide (bg 10 ((M.drop (p)).take j)<=9223372036854775808)=false:=by simp;omega
    have q:=zq (kx 10 ((M.drop (p)).take j) p (p+j:Nat) d (wrap64 S) (p+j:Nat))
    clear d
    go_wp2_with (first | (with_reducible refine aG ?_;refine aq rfl _ rfl rfl T ?_) | (with_reducible refine aR ?_;refine ax _ rfl rfl T rfl ?_))
    refine (aO s a M f g _ (p+j) (by omega) _).mono ?_;rintro e B ⟨rfl,c⟩
    have i:=T.below c T.lt
    go_wp2_with fail
    refine (bG _ _ _).mono ?_;rintro e C ⟨rfl,rfl⟩
    go_wp2_with fail
    refine aw (v:=aJ #[aa ab (wrap64 S),aa ab (p+j:Nat),av false]) (by simp [results,de,go_sem]) rfl ⟨⟨_,_,by rw [t.out,q.out.1],?_⟩,m.trans (c.mono (by omega))⟩
    rw [t.out];exact q.out.2
theorem qx (s:ByteArray) (a:Int->Int) (ht:ex a) (p:Nat) (hp:p<s.size) (b5:s.size<=16384) (h:ak (ba a s.data.toList) p=48) (I:¬ak (ba a s.data.toList) (p+1)=39) (J:¬ak (ba a s.data.toList) (p+1)=120) (K:¬ak (ba a s.data.toList) (p+1)=111) (L:¬ak (ba a s.data.toList) (p+1)=98) (w:au) :
  aU am 151 #[eK s a,aa ab p] w fun e w'=>(∃n k:Int,e=aD (aJ #[aa ab n,aa ab k,av ((ew (ba a s.data.toList) s.data.toList p).err==0)])/\gi (ew (ba a s.data.toList) s.data.toList p) n k)/\aB w.heap.size w w':=by
 have g:=zq ht
 clear ht
 have b0:Hid ((ba a s.data.toList).length=s.size):=by show _=_;rw [bL];simp
 generalize X:ba a s.data.toList=M at *
 have f:=zq X
 clear X
 have a2:cS M p=0:=by unfold cS;rw [if_pos h,if_neg J,if_neg K,if_neg L]
 have r:=zq (show ew M s.data.toList p=fM 10 ((M.drop p).take (br (bJ 10) (M.drop p))) p (p+br (bJ 10) (M.drop p):Nat) by unfold ew;rw [if_neg (fun hh=>I hh.2),a2,if_neg (by omega)];simp)
 have e3:fq (ak M (p+2)) 0=false:=by unfold fq zy;rw [if_pos (by omega)];rfl
 have d1:(ak M p==48)=true:=by simp [h]
 have d2:(ak M (p+1)==39)=false:=by simp [I]
 have x1:(ak M (p+1)==120)=false:=by simp [J]
 have x2:(ak M (p+1)==111)=false:=by simp [K]
 have x3:(ak M (p+1)==98)=false:=by simp [L]
 clear h I J K L a2
 have a4:=zq (gE 10 M (p))
 have a3:=zq (gF 10 M (p))
 have a6:=zq (jt 10 (by decide) (by decide) M (p))
 have b2:=bS (bJ 10) (M.drop (p))
 generalize hD:br (bJ 10) (M.drop (p))=D at *
 clear hD
 go_enter go,fK
 go_wp2_with (first | (refine bb rfl _ s a rfl rfl ?_;intro b w1 F b3 U) | (with_reducible refine aG ?_;refine aq rfl _ rfl rfl F ?_))
 refine (aO s a M f g _ p (by omega) _).mono ?_;rintro e w2 ⟨rfl,N⟩
 have t:=F.below N F.lt
 have b4:=U.size
 go_wp2_with (first | (with_reducible refine aG ?_;refine aq rfl _ rfl rfl t ?_) | (with_reducible refine aR ?_;refine ax _ rfl rfl t rfl ?_))
 refine (aO s a M f g _ (p+1) (by omega) _).mono ?_;rintro e w3 ⟨rfl,O⟩
 have u:=t.below O t.lt
 go_wp2_with (first | (with_reducible refine aG ?_;refine aq rfl _ rfl rfl u ?_) | (with_reducible refine aR ?_;refine ax _ rfl rfl u rfl ?_))
 refine (aO s a M f g _ (p) (by omega) _).mono ?_;rintro e w4 ⟨rfl,P⟩
 have y:=u.below P u.lt
 go_wp2_with (first | (with_reducible refine aG ?_;refine aq rfl _ rfl rfl y ?_) | (with_reducible refine aR ?_;refine ax _ rfl rfl y rfl ?_))
 refine (aO s a M f g _ (p+1) (by omega) _).mono ?_;rintro e w5 ⟨rfl,V⟩
 have z:=y.below V y.lt
 go_wp2_with (first | (with_reducible refine aG ?_;refine aq rfl _ rfl rfl z ?_) | (with_reducible refine aR ?_;refine ax _ rfl rfl z rfl ?_))
 refine (aO s a M f g _ (p+2) (by omega) _).mono ?_;rintro e w6 ⟨rfl,W⟩
 have T6:=z.below W z.lt
 go_wp2_with fail
 refine (bG _ _ _).mono ?_;rintro e w7 ⟨rfl,rfl⟩
 have a9:aB w.heap.size w w6:=U.trans ((ip (ae _) N O P |>.mono (by omega)).trans (ey (by have:=N.size;have:=O.size;have:=P.size;omega) V W))
 go_wp2_with fail
 go_loopw [11,15,16] (fun x sm ft wr=>∃j:Nat,∃S:Int,j<=D/\x=aa ab (p+j:Nat)/\sm=aa .u64 S/\ft=av (decide (bg 10 ((M.drop (p)).take j)<=9223372036854775808))/\0<=S/\S<=9223372036854775808/\Hid (bg 10 ((M.drop (p)).take j)<=9223372036854775808->S=bg 10 ((M.drop (p)).take j))/\aB w.heap.size w wr/\Txt wr b s a) (fun x _ _ _=>s.size-(intOf x).toNat)
 case atStart=>exact ⟨0,0,bc _,by go_num,rfl,rfl,by omega,by omega,fun _=>rfl,a9,T6⟩
 case round=>
  obtain ⟨j,S,hj,rfl,rfl,rfl,Y,Z,Q,l,T⟩:=hrel
  have hs:=l.size
  by_cases a1:j<D
  ·obtain ⟨g1,g2⟩:=a3.out j a1
   rw [b0.out] at g2
   obtain ⟨R,g4,g5⟩:=a6.out j a1
   have a5:=zq (lN 10 (by decide) (M.drop (p)) j)
   have C:=zq R
   clear R
   by_cases d:bg 10 ((M.drop (p)).take j)<=9223372036854775808
   ·have E:=zq (Q.out d)
    have G:decide (bg 10 ((M.drop (p)).take j)<=9223372036854775808)=true:=by simp;omega
    have b6:IntKind.u64.wrap (cG (ak M (p+j)) 10)=(cG (ak M (p+j)) 10):=bM _ (by omega)
    have b7:IntKind.u64.wrap (9223372036854775808-(cG (ak M (p+j)) 10))=9223372036854775808-(cG (ak M (p+j)) 10):=bM _ (by omega)
    have b8:IntKind.u64.wrap ((9223372036854775808-(cG (ak M (p+j)) 10)).tdiv 10)=(9223372036854775808-(cG (ak M (p+j)) 10)) / 10:=fy _ _ (by omega)
    by_cases H:bg 10 ((M.drop (p)).take (j+1))<=9223372036854775808
    ·have a0:S * 10+(cG (ak M (p+j)) 10)<=9223372036854775808:=by have:=E.out;have:=C.out;omega
     have a8:decide (S<=(9223372036854775808-(cG (ak M (p+j)) 10)) / 10)=true:=by simp;omega
     have b9:IntKind.u64.wrap (S * 10)=S * 10:=bM _ (by omega)
     have c0:IntKind.u64.wrap (S * 10+(cG (ak M (p+j)) 10))=S * 10+(cG (ak M (p+j)) 10):=bM _ (by omega)
     have a7:=zq (show S * 10+(cG (ak M (p+j)) 10)=bg 10 ((M.drop (p)).take (j+1)) by have:=E.out;have:=C.out;omega)
     have m:=zq (show true=decide (bg 10 ((M.drop (p)).take (j+1))<=9223372036854775808) by simp;omega)
     clear d H
     go_wp2_with (first | (with_reducible refine aG ?_;refine aq rfl _ rfl rfl T ?_) | (with_reducible refine aR ?_;refine ax _ rfl rfl T rfl ?_))
     refine (aO s a M f g _ (p+j) (by omega) _).mono ?_;rintro e A ⟨rfl,c⟩
     have i:=T.below c T.lt
     go_wp2_with fail
     refine (bG _ _ _).mono ?_;rintro e B ⟨rfl,rfl⟩
     go_wp2_with fail
     go_roundw
     case rel=>exact ⟨j+1,S * 10+(cG (ak M (p+j)) 10),by omega,by go_num,rfl,congrArg dh m.out,by omega,a0,fun _=>a7.out,l.trans (c.mono (by omega)),i⟩
     case measure=>simp [intOf];omega
    ·have a0:¬S * 10+(cG (ak M (p+j)) 10)<=9223372036854775808:=by have:=E.out;have:=C.out;omega
     have a8:decide (S<=(9223372036854775808-(cG (ak M (p+j)) 10)) / 10)=false:=by simp;omega
     have m:=zq (show false=decide (bg 10 ((M.drop (p)).take (j+1))<=9223372036854775808) by simp;omega)
     have q:=zq H
     clear d H
     go_wp2_with (first | (with_reducible refine aG ?_;refine aq rfl _ rfl rfl T ?_) | (with_reducible refine aR ?_;refine ax _ rfl rfl T rfl ?_))
     refine (aO s a M f g _ (p+j) (by omega) _).mono ?_;rintro e A ⟨rfl,c⟩
     have i:=T.below c T.lt
     go_wp2_with fail
     refine (bG _ _ _).mono ?_;rintro e B ⟨rfl,rfl⟩
     go_wp2_with fail
     go_roundw
     case rel=>exact ⟨j+1,S,by omega,by go_num,rfl,congrArg dh m.out,Y,Z,fun h=>absurd h q.out,l.trans (c.mono (by omega)),i⟩
     case measure=>simp [intOf];omega
   ·have G:decide (bg 10 ((M.drop (p)).take j)<=9223372036854775808)=false:=by simp;omega
    have q:=zq (a5.out d)
    have m:=zq (show false=decide (bg 10 ((M.drop (p)).take (j+1))<=9223372036854775808) by have:=q.out;simp;omega)
    clear d
    go_wp2_with (first | (with_reducible refine aG ?_;refine aq rfl _ rfl rfl T ?_) | (with_reducible refine aR ?_;refine ax _ rfl rfl T rfl ?_))
    refine (aO s a M f g _ (p+j) (by omega) _).mono ?_;rintro e A ⟨rfl,c⟩
    have i:=T.below c T.lt
    go_wp2_with fail
    refine (bG _ _ _).mono ?_;rintro e B ⟨rfl,rfl⟩
    go_wp2_with fail
    go_roundw
    case rel=>exact ⟨j+1,S,by omega,by go_num,rfl,congrArg dh m.out,Y,Z,fun h=>absurd h q.out,l.trans (c.mono (by omega)),i⟩
    case measure=>simp [intOf];omega
  ·obtain rfl:j=D:=by omega
   have b1:=a4.out
   by_cases d:bg 10 ((M.drop (p)).take j)<=9223372036854775808
   ·have G:decide (bg 10 ((M.drop (p)).take j)<=9223372036854775808)=true:=by simp;omega
    have o:=zq (kw 10 ((M.drop (p)).take j) p (p+j:Nat) d S (Q.out d) (wrap64 S) (by unfold wrap64;omega))
    clear d
    go_wp2_with (first | (with_reducible refine aG ?_;refine aq rfl _ rfl rfl T ?_) | (with_reducible refine aR ?_;refine ax _ rfl rfl T rfl ?_))
    refine (aO s a M f g _ (p+j) (by omega) _).mono ?_;rintro e A ⟨rfl,c⟩
    have i:=T.below c T.lt
    go_wp2_with fail
    refine (bG _ _ _).mono ?_;rintro e B ⟨rfl,rfl⟩
    go_wp2_with fail
    refine aw (v:=aJ #[aa ab (wrap64 S),aa ab (p+j:Nat),av true]) (by simp [results,de,go_sem]) rfl ⟨⟨_,_,by rw [r.out,o.out.1],?_⟩,l.trans (c.mono (by omega))⟩
    rw [r.out];exact o.out.2
   ·have G:decide (bg 10 ((M.drop (p)).take j)<=9223372036854775808)=false:=by simp;omega
    have o:=zq (kx 10 ((M.drop (p)).take j) p (p+j:Nat) d (wrap64 S) (p+j:Nat))
    clear d
    go_wp2_with (first | (with_reducible refine aG ?_;refine aq rfl _ rfl rfl T ?_) | (with_reducible refine aR ?_;refine ax _ rfl rfl T rfl ?_))
    refine (aO s a M f g _ (p+j) (by omega) _).mono ?_;rintro e A ⟨rfl,c⟩
    have i:=T.below c T.lt
    go_wp2_with fail
    refine (bG _ _ _).mono ?_;rintro e B ⟨rfl,rfl⟩
    go_wp2_with fail
    refine aw (v:=aJ #[aa ab (wrap64 S),aa ab (p+j:Nat),av false]) (by simp [results,de,go_sem]) rfl ⟨⟨_,_,by rw [r.out,o.out.1],?_⟩,l.trans (c.mono (by omega))⟩
    rw [r.out];exact o.out.2
theorem oj (s:ByteArray) (a:Int->Int) (d:ex a) (p:Nat) (b:p<s.size) (c:s.size<=16384) (w:au) :
  aU am 151 #[eK s a,aa ab p] w fun e w'=>(∃n k:Int,e=aD (aJ #[aa ab n,aa ab k,av ((ew (ba a s.data.toList) s.data.toList p).err==0)])/\gi (ew (ba a s.data.toList) s.data.toList p) n k)/\aB w.heap.size w w':=by
 by_cases h:ak (ba a s.data.toList) p=48
 ·by_cases l:ak (ba a s.data.toList) (p+1)=39
  ·exact qw s a d p b c h l w
  by_cases g:ak (ba a s.data.toList) (p+1)=120
  ·by_cases f:0<br (bJ 16) ((ba a s.data.toList).drop (p+2))
   ·exact pP s a d p b c h g f w
   ·exact qA s a d p b c h g f w
  by_cases i:ak (ba a s.data.toList) (p+1)=111
  ·by_cases f:0<br (bJ 8) ((ba a s.data.toList).drop (p+2))
   ·exact qy s a d p b c h i f w
   ·exact su s a d p b c h i f w
  by_cases j:ak (ba a s.data.toList) (p+1)=98
  ·by_cases f:0<br (bJ 2) ((ba a s.data.toList).drop (p+2))
   ·exact qz s a d p b c h j f w
   ·exact sv s a d p b c h j f w
  ·exact qx s a d p b c h l g i j w
 ·exact tz s a d p b c h w
end Go.Proofs.YtbojljpldcijgaaGreat
