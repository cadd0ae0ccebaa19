/- Parts of the proof. -/
import Derived.Test.YtbojljpldcijgaaGreatR01
import Derived.Test.YtbojljpldcijgaaGreatR36
set_option maxHeartbeats 12800000
set_option maxRecDepth 100000
open Go renaming Calls -> aU, World -> au, bodyPost_ret -> aw
open Go.Ending renaming returned -> aD
open Go.IntKind renaming i64 -> ab
open Go.Proofs.Tryz renaming func185 -> gZ, ntmps185 -> gs, prog -> am, results185 -> dC, underlying168 -> aZ
open Go.RowKit renaming Below -> aB
open Go.Value renaming int -> aa, string -> ac, tuple -> aJ
open List renaming length_append -> bC, length_drop -> aN
open Nat renaming le_refl -> ae, le_trans -> aQ, zero_le -> bc
namespace Go.Proofs.YtbojljpldcijgaaGreat
open Go.RowKit Hb
theorem uF (s:ByteArray) (g:Int->Int) (k:Nat) (_hk:k<=16400) (q:Int) (_hq:q=39\/q=34) (h:ak s.data.toList k<0\/ak s.data.toList k=10) (w:au) :
  aU am 185 #[eK s g,aa ab k,aa ab q] w fun e w'=>e=aD (aJ #[aa ab (jI s.data.toList k q),aa ab (jH s.data.toList k q),aa ab (jx s.data.toList k q)])/\aB w.heap.size w w':=by
 have d:=zq (yo s.data.toList k q h)
 have hd:decide (ak s.data.toList k<0)=true\/(decide (ak s.data.toList k<0)=false/\(ak s.data.toList k==10)=true):=by
  by_cases a:ak s.data.toList k<0
  ·left;simp;exact a
  ·right;refine ⟨by simp;omega,by simp;omega⟩
 clear h
 rcases hd with l | ⟨l,n⟩
 all_goals
  go_enter gZ,gs
  go_wp2_with (first | (refine bb rfl _ s g rfl rfl ?_;intro b r f o i) | (with_reducible refine aG ?_;refine aq rfl _ rfl rfl f ?_))
  refine (cy s g _ k (by omega) _).mono ?_;rintro e t ⟨rfl,j⟩
  have m:=f.below j f.lt
  have p:=i.size
  go_wp2_with fail
  refine aw (v:=aJ #[aa ab (0),aa ab (k:Nat),aa ab 0]) (by simp [results,dC,go_sem]) rfl ⟨by rw [d.out.c,d.out.e,d.out.k],i.trans (j.mono (by omega))⟩
theorem uB (s:ByteArray) (d:Int->Int) (k:Nat) (_hk:k<=16400) (q:Int) (_hq:q=39\/q=34) (h:ak s.data.toList k=q) (i:ak s.data.toList (k+1)=q) (w:au) :
  aU am 185 #[eK s d,aa ab k,aa ab q] w fun e w'=>e=aD (aJ #[aa ab (jI s.data.toList k q),aa ab (jH s.data.toList k q),aa ab (jx s.data.toList k q)])/\aB w.heap.size w w':=by
 have f:=zq (ot s.data.toList k q _hq h i)
 have o:decide (ak s.data.toList k<0)=false:=by simp;omega
 have p:(ak s.data.toList k==10)=false:=by simp;omega
 have r:(ak s.data.toList k==q)=true:=by simp [h]
 have t:(ak s.data.toList (k+1)==q)=true:=by simp [i]
 clear h i
 go_enter gZ,gs
 go_wp2_with (first | (refine bb rfl _ s d rfl rfl ?_;intro b y g u j) | (with_reducible refine aG ?_;refine aq rfl _ rfl rfl g ?_))
 refine (cy s d _ k (by omega) _).mono ?_;rintro e z ⟨rfl,l⟩
 have a:=g.below l g.lt
 have x:=j.size
 go_wp2_with (first | (with_reducible refine aG ?_;refine aq rfl _ rfl rfl a ?_) | (with_reducible refine aR ?_;refine ax _ rfl rfl a rfl ?_))
 refine (cy s d _ (k+1) (by omega) _).mono ?_;rintro e A ⟨rfl,m⟩
 have n:=a.below m a.lt
 go_wp2_with fail
 refine aw (v:=aJ #[aa ab (q),aa ab (k+2:Nat),aa ab 1]) (by simp [results,dC,go_sem]) rfl ⟨by rw [f.out.c,f.out.e,f.out.k],j.trans (ey (by omega) l m)⟩
theorem uC (s:ByteArray) (d:Int->Int) (k:Nat) (_hk:k<=16400) (q:Int) (_hq:q=39\/q=34) (h:ak s.data.toList k=q) (i:¬ak s.data.toList (k+1)=q) (w:au) :
  aU am 185 #[eK s d,aa ab k,aa ab q] w fun e w'=>e=aD (aJ #[aa ab (jI s.data.toList k q),aa ab (jH s.data.toList k q),aa ab (jx s.data.toList k q)])/\aB w.heap.size w w':=by
 have f:=zq (ta s.data.toList k q _hq h i)
 have o:decide (ak s.data.toList k<0)=false:=by simp;omega
 have p:(ak s.data.toList k==10)=false:=by simp;omega
 have r:(ak s.data.toList k==q)=true:=by simp [h]
 have t:(ak s.data.toList (k+1)==q)=false:=by simp [i]
 clear h i
 go_enter gZ,gs
 go_wp2_with (first | (refine bb rfl _ s d rfl rfl ?_;intro b y g u j) | (with_reducible refine aG ?_;refine aq rfl _ rfl rfl g ?_))
 refine (cy s d _ k (by omega) _).mono ?_;rintro e z ⟨rfl,l⟩
 have a:=g.below l g.lt
 have x:=j.size
 go_wp2_with (first | (with_reducible refine aG ?_;refine aq rfl _ rfl rfl a ?_) | (with_reducible refine aR ?_;refine ax _ rfl rfl a rfl ?_))
 refine (cy s d _ (k+1) (by omega) _).mono ?_;rintro e A ⟨rfl,m⟩
 have n:=a.below m a.lt
 go_wp2_with fail
 refine aw (v:=aJ #[aa ab (0),aa ab (k:Nat),aa ab 0]) (by simp [results,dC,go_sem]) rfl ⟨by rw [f.out.c,f.out.e,f.out.k],j.trans (ey (by omega) l m)⟩
theorem rY (s:ByteArray) (h:Int->Int) (k:Nat) (_hk:k<=16400) (q:Int) (_hq:q=39\/q=34) (i:¬(ak s.data.toList k<0\/ak s.data.toList k=10)) (f:¬ak s.data.toList k=q) (g:¬ak s.data.toList k=92) (w:au) :
  aU am 185 #[eK s h,aa ab k,aa ab q] w fun e w'=>e=aD (aJ #[aa ab (jI s.data.toList k q),aa ab (jH s.data.toList k q),aa ab (jx s.data.toList k q)])/\aB w.heap.size w w':=by
 have a:=zq (uG s.data.toList k q i f g)
 have n:decide (ak s.data.toList k<0)=false:=by simp;omega
 have o:(ak s.data.toList k==10)=false:=by simp;omega
 have p:(ak s.data.toList k==q)=false:=by simp [f]
 have r:(ak s.data.toList k != 92)=true:=by simp [g]
 clear i f g
 go_enter gZ,gs
 go_wp2_with (first | (refine bb rfl _ s h rfl rfl ?_;intro b x d t j) | (with_reducible refine aG ?_;refine aq rfl _ rfl rfl d ?_))
 refine (cy s h _ k (by omega) _).mono ?_;rintro e y ⟨rfl,l⟩
 have m:=d.below l d.lt
 have u:=j.size
 go_wp2_with fail
 refine aw (v:=aJ #[aa ab (ak s.data.toList k),aa ab (k+1:Nat),aa ab 1]) (by simp [results,dC,go_sem]) rfl ⟨by rw [a.out.c,a.out.e,a.out.k],j.trans (l.mono (by omega))⟩
theorem sZ (s:ByteArray) (d:Int->Int) (k:Nat) (_hk:k<=16400) (q:Int) (_hq:q=39\/q=34) (h:ak s.data.toList k=92) (i:ak s.data.toList (k+1)=10) (w:au) :
  aU am 185 #[eK s d,aa ab k,aa ab q] w fun e w'=>e=aD (aJ #[aa ab (jI s.data.toList k q),aa ab (jH s.data.toList k q),aa ab (jx s.data.toList k q)])/\aB w.heap.size w w':=by
 have f:=zq (nT s.data.toList k q h i)
 have o:decide (ak s.data.toList k<0)=false:=by simp;omega
 have p:(ak s.data.toList k==10)=false:=by simp;omega
 have r:(ak s.data.toList k==q)=false:=by simp;omega
 have t:(ak s.data.toList k != 92)=false:=by simp [h]
 have u:(ak s.data.toList (k+1)==10)=true:=by simp [i]
 clear h i
 go_enter gZ,gs
 go_wp2_with (first | (refine bb rfl _ s d rfl rfl ?_;intro b z g x j) | (with_reducible refine aG ?_;refine aq rfl _ rfl rfl g ?_))
 refine (cy s d _ k (by omega) _).mono ?_;rintro e A ⟨rfl,l⟩
 have a:=g.below l g.lt
 have y:=j.size
 go_wp2_with (first | (with_reducible refine aG ?_;refine aq rfl _ rfl rfl a ?_) | (with_reducible refine aR ?_;refine ax _ rfl rfl a rfl ?_))
 refine (cy s d _ (k+1) (by omega) _).mono ?_;rintro e B ⟨rfl,m⟩
 have n:=a.below m a.lt
 go_wp2_with fail
 refine aw (v:=aJ #[aa ab (0),aa ab (k+2:Nat),aa ab 2]) (by simp [results,dC,go_sem]) rfl ⟨by rw [f.out.c,f.out.e,f.out.k],j.trans (ey (by omega) l m)⟩
theorem uA (s:ByteArray) (d:Int->Int) (k:Nat) (_hk:k<=16400) (q:Int) (_hq:q=39\/q=34) (h:ak s.data.toList k=92) (i:¬ak s.data.toList (k+1)=10) (n:iD (ak s.data.toList (k+1))=true) (w:au) :
  aU am 185 #[eK s d,aa ab k,aa ab q] w fun e w'=>e=aD (aJ #[aa ab (jI s.data.toList k q),aa ab (jH s.data.toList k q),aa ab (jx s.data.toList k q)])/\aB w.heap.size w w':=by
 have f:=zq (yn s.data.toList k q _hq h i n)
 have p:decide (ak s.data.toList k<0)=false:=by simp;omega
 have r:(ak s.data.toList k==10)=false:=by simp;omega
 have t:(ak s.data.toList k==q)=false:=by simp;omega
 have u:(ak s.data.toList k != 92)=false:=by simp [h]
 have x:(ak s.data.toList (k+1)==10)=false:=by simp [i]
 clear h i
 go_enter gZ,gs
 go_wp2_with (first | (refine bb rfl _ s d rfl rfl ?_;intro b A g y j) | (with_reducible refine aG ?_;refine aq rfl _ rfl rfl g ?_))
 refine (cy s d _ k (by omega) _).mono ?_;rintro e B ⟨rfl,l⟩
 have a:=g.below l g.lt
 have z:=j.size
 go_wp2_with (first | (with_reducible refine aG ?_;refine aq rfl _ rfl rfl a ?_) | (with_reducible refine aR ?_;refine ax _ rfl rfl a rfl ?_))
 refine (cy s d _ (k+1) (by omega) _).mono ?_;rintro e C ⟨rfl,m⟩
 have o:=a.below m a.lt
 go_wp2_with fail
 refine (lh _ _).mono ?_;rintro e D ⟨rfl,rfl⟩
 go_wp2_with fail
 refine aw (v:=aJ #[aa ab (mX (ak s.data.toList (k+1))),aa ab (k+2:Nat),aa ab 1]) (by simp [results,dC,go_sem]) rfl ⟨by rw [f.out.c,f.out.e,f.out.k],j.trans (ey (by omega) l m)⟩
theorem uE (s:ByteArray) (h:Int->Int) (k:Nat) (_hk:k<=16400) (q:Int) (_hq:q=39\/q=34) (a5:s.size<=16384) (F:ak s.data.toList k=92) (G:¬ak s.data.toList (k+1)=10) (W:iD (ak s.data.toList (k+1))=false) (u:ak s.data.toList (k+1)=120) (w:au) :
  aU am 185 #[eK s h,aa ab k,aa ab q] w fun e w'=>e=aD (aJ #[aa ab (jI s.data.toList k q),aa ab (jH s.data.toList k q),aa ab (jx s.data.toList k q)])/\aB w.heap.size w w':=by
 have r:=zq (td s.data.toList k q 16 2 _hq F G W (by rw [if_pos u]) (by rw [if_pos u]))
 have d1:decide (ak s.data.toList k<0)=false:=by simp;omega
 have d2:(ak s.data.toList k==10)=false:=by simp;omega
 have d3:(ak s.data.toList k==q)=false:=by simp;omega
 have d4:(ak s.data.toList k != 92)=false:=by simp [F]
 have d5:(ak s.data.toList (k+1)==10)=false:=by simp [G]
 have d6:(ak s.data.toList (k+1)==120)=true:=by simp [u]
 clear F G u
 have N:=zq (gE 16 s.data.toList (k+2))
 have M:=zq (gF 16 s.data.toList (k+2))
 have L:=zq (qc 16 (by decide) (by decide) (s.data.toList.drop (k+2)))
 have P:Hid (s.data.toList.length=s.size):=ci s
 have Z:=bS (bJ 16) (s.data.toList.drop (k+2))
 rw [aN,ci] at Z
 generalize Y:br (bJ 16) (s.data.toList.drop (k+2))=D at *
 clear Y
 go_enter gZ,gs
 go_wp2_with (first | (refine bb rfl _ s h rfl rfl ?_;intro b w1 t a3 H) | (with_reducible refine aG ?_;refine aq rfl _ rfl rfl t ?_))
 refine (cy s h _ k (by omega) _).mono ?_;rintro e w2 ⟨rfl,I⟩
 have m:=t.below I t.lt
 have a4:=H.size
 go_wp2_with (first | (with_reducible refine aG ?_;refine aq rfl _ rfl rfl m ?_) | (with_reducible refine aR ?_;refine ax _ rfl rfl m rfl ?_))
 refine (cy s h _ (k+1) (by omega) _).mono ?_;rintro e w3 ⟨rfl,J⟩
 have Q:=m.below J m.lt
 go_wp2_with fail
 refine (lh _ _).mono ?_;rintro e w4 ⟨rfl,rfl⟩
 have X:=H.trans (ey (by omega) I J)
 clear I J t m H
 go_wp2_with fail
 go_loopw [14,15,16] (fun x n d wr=>∃j:Nat,j<=D/\x=aa ab (k+2+j:Nat)/\n=aa ab (fR 16 (s.data.toList.drop (k+2)) j)/\d=aa ab j/\aB w.heap.size w wr/\Txt wr b s h) (fun x _ _ _=>s.size-(intOf x).toNat)
 case atStart=>exact ⟨0,bc _,by go_num,by rfl,rfl,X,Q⟩
 case round=>
  obtain ⟨j,hj,rfl,rfl,rfl,i,T⟩:=hrel
  have hs:=i.size
  have a2:(fR 16 (s.data.toList.drop (k+2)) j:Int)<=256:=by unfold fR;omega
  by_cases K:j<D
  ·obtain ⟨g1,S⟩:=M.out j K
   rw [P.out] at S
   obtain ⟨E,U,V⟩:=L.out j K
   rw [bQ] at E U V
   have O:=zq E
   clear E
   go_wp2_with (first | (with_reducible refine aG ?_;refine aq rfl _ rfl rfl T ?_) | (with_reducible refine aR ?_;refine ax _ rfl rfl T rfl ?_))
   refine (cy s h _ (k+2+j) (by omega) _).mono ?_;rintro e A ⟨rfl,f⟩
   have g:=T.below f T.lt
   go_wp2_with fail
   refine (bG _ _ _).mono ?_;rintro e B ⟨rfl,rfl⟩
   go_wp2_with fail
   go_roundw
   case rel=>exact ⟨j+1,by omega,by go_num,by rw [O.out];first|done|(refine congrArg _ ?_;split <;> omega),by go_num,i.trans (f.mono (by omega)),g⟩
   case measure=>simp [intOf];omega
  ·obtain rfl:j=D:=by omega
   have y:(fR 16 (s.data.toList.drop (k+2)) j:Int)=min (bg 16 ((s.data.toList.drop (k+2)).take j):Int) 256:=by unfold fR;omega
   have a1:=N.out
   by_cases C:j=0
   ·have y1:((j:Int)==0)=true:=by simp;omega
    have a:=zq (r.out.2 (fun z=>by omega))
    clear C y
    go_wp2_with (first | (with_reducible refine aG ?_;refine aq rfl _ rfl rfl T ?_) | (with_reducible refine aR ?_;refine ax _ rfl rfl T rfl ?_))
    refine (cy s h _ (k+2+j) (by omega) _).mono ?_;rintro e A ⟨rfl,f⟩
    have g:=T.below f T.lt
    go_wp2_with fail
    refine (bG _ _ _).mono ?_;rintro e B ⟨rfl,rfl⟩
    go_wp2_with fail
    refine aw (v:=aJ #[aa ab (0),aa ab (k:Nat),aa ab 0]) (by simp [results,dC,go_sem]) rfl ⟨by rw [a.out.c,a.out.e,a.out.k],i.trans (f.mono (by omega))⟩
   have y1:((j:Int)==0)=false:=by simp;omega
   by_cases p:bg 16 ((s.data.toList.drop (k+2)).take j)<=255
   ·have y2:decide (255<(fR 16 (s.data.toList.drop (k+2)) j:Int))=false:=by simp;omega
    by_cases l:ak s.data.toList (k+2+j)=92
    ·have y3:(ak s.data.toList (k+2+j) != 92)=false:=by simp [l]
     have a:=zq (r.out.1 (by omega) p l)
     have a0:=zq (show fR 16 (s.data.toList.drop (k+2)) j=bg 16 ((s.data.toList.drop (k+2)).take j) by unfold fR;omega)
     rw [<-a0.out] at a
     clear C p l y
     go_wp2_with (first | (with_reducible refine aG ?_;refine aq rfl _ rfl rfl T ?_) | (with_reducible refine aR ?_;refine ax _ rfl rfl T rfl ?_))
     refine (cy s h _ (k+2+j) (by omega) _).mono ?_;rintro e A ⟨rfl,f⟩
     have g:=T.below f T.lt
     go_wp2_with fail
     refine (bG _ _ _).mono ?_;rintro e B ⟨rfl,rfl⟩
     go_wp2_with (first | (with_reducible refine aG ?_;refine aq rfl _ rfl rfl g ?_) | (with_reducible refine aR ?_;refine ax _ rfl rfl g rfl ?_))
     refine (cy s h _ (k+2+j) (by omega) _).mono ?_;rintro e w7 ⟨rfl,o⟩
     have R:=g.below o g.lt
     go_wp2_with fail
     refine aw (v:=aJ #[aa ab (fR 16 (s.data.toList.drop (k+2)) j:Nat),aa ab (k+2+j+1:Nat),aa ab 1]) (by simp [results,dC,go_sem]) rfl ⟨by rw [a.out.c,a.out.e,a.out.k],i.trans (ey (by omega) f o)⟩
    ·have y3:(ak s.data.toList (k+2+j) != 92)=true:=by simp [l]
     have a:=zq (r.out.2 (fun z=>l z.2.2))
     clear C p l y
     go_wp2_with (first | (with_reducible refine aG ?_;refine aq rfl _ rfl rfl T ?_) | (with_reducible refine aR ?_;refine ax _ rfl rfl T rfl ?_))
     refine (cy s h _ (k+2+j) (by omega) _).mono ?_;rintro e A ⟨rfl,f⟩
     have g:=T.below f T.lt
     go_wp2_with fail
     refine (bG _ _ _).mono ?_;rintro e B ⟨rfl,rfl⟩
     go_wp2_with (first | (with_reducible refine aG ?_;refine aq rfl _ rfl rfl g ?_) | (with_reducible refine aR ?_;refine ax _ rfl rfl g rfl ?_))
     refine (cy s h _ (k+2+j) (by omega) _).mono ?_;rintro e w7 ⟨rfl,o⟩
     have R:=g.below o g.lt
     go_wp2_with fail
     refine aw (v:=aJ #[aa ab (0),aa ab (k:Nat),aa ab 0]) (by simp [results,dC,go_sem]) rfl ⟨by rw [a.out.c,a.out.e,a.out.k],i.trans (ey (by omega) f o)⟩
   ·have y2:decide (255<(fR 16 (s.data.toList.drop (k+2)) j:Int))=true:=by simp;omega
    have a:=zq (r.out.2 (fun z=>p z.2.1))
    clear C p y
    go_wp2_with (first | (with_reducible refine aG ?_;refine aq rfl _ rfl rfl T ?_) | (with_reducible refine aR ?_;refine ax _ rfl rfl T rfl ?_))
    refine (cy s h _ (k+2+j) (by omega) _).mono ?_;rintro e A ⟨rfl,f⟩
    have g:=T.below f T.lt
    go_wp2_with fail
    refine (bG _ _ _).mono ?_;rintro e B ⟨rfl,rfl⟩
    go_wp2_with fail
    refine aw (v:=aJ #[aa ab (0),aa ab (k:Nat),aa ab 0]) (by simp [results,dC,go_sem]) rfl ⟨by rw [a.out.c,a.out.e,a.out.k],i.trans (f.mono (by omega))⟩
theorem uD (s:ByteArray) (h:Int->Int) (k:Nat) (_hk:k<=16400) (q:Int) (_hq:q=39\/q=34) (a5:s.size<=16384) (F:ak s.data.toList k=92) (G:¬ak s.data.toList (k+1)=10) (W:iD (ak s.data.toList (k+1))=false) (u:¬ak s.data.toList (k+1)=120) (w:au) :
  aU am 185 #[eK s h,aa ab k,aa ab q] w fun e w'=>e=aD (aJ #[aa ab (jI s.data.toList k q),aa ab (jH s.data.toList k q),aa ab (jx s.data.toList k q)])/\aB w.heap.size w w':=by
 have r:=zq (td s.data.toList k q 8 1 _hq F G W (by rw [if_neg u]) (by rw [if_neg u]))
 have d1:decide (ak s.data.toList k<0)=false:=by simp;omega
 have d2:(ak s.data.toList k==10)=false:=by simp;omega
 have d3:(ak s.data.toList k==q)=false:=by simp;omega
 have d4:(ak s.data.toList k != 92)=false:=by simp [F]
 have d5:(ak s.data.toList (k+1)==10)=false:=by simp [G]
 have d6:(ak s.data.toList (k+1)==120)=false:=by simp [u]
 clear F G u
 have N:=zq (gE 8 s.data.toList (k+1))
 have M:=zq (gF 8 s.data.toList (k+1))
 have L:=zq (qc 8 (by decide) (by decide) (s.data.toList.drop (k+1)))
 have P:Hid (s.data.toList.length=s.size):=ci s
 have Z:=bS (bJ 8) (s.data.toList.drop (k+1))
 rw [aN,ci] at Z
 generalize Y:br (bJ 8) (s.data.toList.drop (k+1))=D at *
 clear Y
 go_enter gZ,gs
 go_wp2_with (first | (refine bb rfl _ s h rfl rfl ?_;intro b w1 t a3 H) | (with_reducible refine aG ?_;refine aq rfl _ rfl rfl t ?_))
 refine (cy s h _ k (by omega) _).mono ?_;rintro e w2 ⟨rfl,I⟩
 have m:=t.below I t.lt
 have a4:=H.size
 go_wp2_with (first | (with_reducible refine aG ?_;refine aq rfl _ rfl rfl m ?_) | (with_reducible refine aR ?_;refine ax _ rfl rfl m rfl ?_))
 refine (cy s h _ (k+1) (by omega) _).mono ?_;rintro e w3 ⟨rfl,J⟩
 have Q:=m.below J m.lt
 go_wp2_with fail
 refine (lh _ _).mono ?_;rintro e w4 ⟨rfl,rfl⟩
 have X:=H.trans (ey (by omega) I J)
 clear I J t m H
 go_wp2_with fail
 go_loopw [14,15,16] (fun x n d wr=>∃j:Nat,j<=D/\x=aa ab (k+1+j:Nat)/\n=aa ab (fR 8 (s.data.toList.drop (k+1)) j)/\d=aa ab j/\aB w.heap.size w wr/\Txt wr b s h) (fun x _ _ _=>s.size-(intOf x).toNat)
 case atStart=>exact ⟨0,bc _,by go_num,by rfl,rfl,X,Q⟩
 case round=>
  obtain ⟨j,hj,rfl,rfl,rfl,i,T⟩:=hrel
  have hs:=i.size
  have a2:(fR 8 (s.data.toList.drop (k+1)) j:Int)<=256:=by unfold fR;omega
  by_cases K:j<D
  ·obtain ⟨g1,S⟩:=M.out j K
   rw [P.out] at S
   obtain ⟨E,U,V⟩:=L.out j K
   rw [bQ] at E U V
   have O:=zq E
   clear E
   go_wp2_with (first | (with_reducible refine aG ?_;refine aq rfl _ rfl rfl T ?_) | (with_reducible refine aR ?_;refine ax _ rfl rfl T rfl ?_))
   refine (cy s h _ (k+1+j) (by omega) _).mono ?_;rintro e A ⟨rfl,f⟩
   have g:=T.below f T.lt
   go_wp2_with fail
   refine (bG _ _ _).mono ?_;rintro e B ⟨rfl,rfl⟩
   go_wp2_with fail
   go_roundw
   case rel=>exact ⟨j+1,by omega,by go_num,by rw [O.out];first|done|(refine congrArg _ ?_;split <;> omega),by go_num,i.trans (f.mono (by omega)),g⟩
   case measure=>simp [intOf];omega
  ·obtain rfl:j=D:=by omega
   have y:(fR 8 (s.data.toList.drop (k+1)) j:Int)=min (bg 8 ((s.data.toList.drop (k+1)).take j):Int) 256:=by unfold fR;omega
   have a1:=N.out
   by_cases C:j=0
   ·have y1:((j:Int)==0)=true:=by simp;omega
    have a:=zq (r.out.2 (fun z=>by omega))
    clear C y
    go_wp2_with (first | (with_reducible refine aG ?_;refine aq rfl _ rfl rfl T ?_) | (with_reducible refine aR ?_;refine ax _ rfl rfl T rfl ?_))
    refine (cy s h _ (k+1+j) (by omega) _).mono ?_;rintro e A ⟨rfl,f⟩
    have g:=T.below f T.lt
    go_wp2_with fail
    refine (bG _ _ _).mono ?_;rintro e B ⟨rfl,rfl⟩
    go_wp2_with fail
    refine aw (v:=aJ #[aa ab (0),aa ab (k:Nat),aa ab 0]) (by simp [results,dC,go_sem]) rfl ⟨by rw [a.out.c,a.out.e,a.out.k],i.trans (f.mono (by omega))⟩
   have y1:((j:Int)==0)=false:=by simp;omega
   by_cases p:bg 8 ((s.data.toList.drop (k+1)).take j)<=255
   ·have y2:decide (255<(fR 8 (s.data.toList.drop (k+1)) j:Int))=false:=by simp;omega
    by_cases l:ak s.data.toList (k+1+j)=92
    ·have y3:(ak s.data.toList (k+1+j) != 92)=false:=by simp [l]
     have a:=zq (r.out.1 (by omega) p l)
     have a0:=zq (show fR 8 (s.data.toList.drop (k+1)) j=bg 8 ((s.data.toList.drop (k+1)).take j) by unfold fR;omega)
     rw [<-a0.out] at a
     clear C p l y
     go_wp2_with (first | (with_reducible refine aG ?_;refine aq rfl _ rfl rfl T ?_) | (with_reducible refine aR ?_;refine ax _ rfl rfl T rfl ?_))
     refine (cy s h _ (k+1+j) (by omega) _).mono ?_;rintro e A ⟨rfl,f⟩
     have g:=T.below f T.lt
     go_wp2_with fail
     refine (bG _ _ _).mono ?_;rintro e B ⟨rfl,rfl⟩
     go_wp2_with (first | (with_reducible refine aG ?_;refine aq rfl _ rfl rfl g ?_) | (with_reducible refine aR ?_;refine ax _ rfl rfl g rfl ?_))
     refine (cy s h _ (k+1+j) (by omega) _).mono ?_;rintro e w7 ⟨rfl,o⟩
     have R:=g.below o g.lt
     go_wp2_with fail
     refine aw (v:=aJ #[aa ab (fR 8 (s.data.toList.drop (k+1)) j:Nat),aa ab (k+1+j+1:Nat),aa ab 1]) (by simp [results,dC,go_sem]) rfl ⟨by rw [a.out.c,a.out.e,a.out.k],i.trans (ey (by omega) f o)⟩
    ·have y3:(ak s.data.toList (k+1+j) != 92)=true:=by simp [l]
     have a:=zq (r.out.2 (fun z=>l z.2.2))
     clear C p l y
     go_wp2_with (first | (with_reducible refine aG ?_;refine aq rfl _ rfl rfl T ?_) | (with_reducible refine aR ?_;refine ax _ rfl rfl T rfl ?_))
     refine (cy s h _ (k+1+j) (by omega) _).mono ?_;rintro e A ⟨rfl,f⟩
     have g:=T.below f T.lt
     go_wp2_with fail
     refine (bG _ _ _).mono ?_;rintro e B ⟨rfl,rfl⟩
     go_wp2_with (first | (with_reducible refine aG ?_;refine aq rfl _ rfl rfl g ?_) | (with_reducible refine aR ?_;refine ax _ rfl rfl g rfl ?_))
     refine (cy s h _ (k+1+j) (by omega) _).mono ?_;rintro e w7 ⟨rfl,o⟩
     have R:=g.below o g.lt
     go_wp2_with fail
     refine aw (v:=aJ #[aa ab (0),aa ab (k:Nat),aa ab 0]) (by simp [results,dC,go_sem]) rfl ⟨by rw [a.out.c,a.out.e,a.out.k],i.trans (ey (by omega) f o)⟩
   ·have y2:decide (255<(fR 8 (s.data.toList.drop (k+1)) j:Int))=true:=by simp;omega
    have a:=zq (r.out.2 (fun z=>p z.2.1))
    clear C p y
    go_wp2_with (first | (with_reducible refine aG ?_;refine aq rfl _ rfl rfl T ?_) | (with_reducible refine aR ?_;refine ax _ rfl rfl T rfl ?_))
    refine (cy s h _ (k+1+j) (by omega) _).mono ?_;rintro e A ⟨rfl,f⟩
    have g:=T.below f T.lt
    go_wp2_with fail
    refine (bG _ _ _).mono ?_;rintro e B ⟨rfl,rfl⟩
    go_wp2_with fail
    refine aw (v:=aJ #[aa ab (0),aa ab (k:Nat),aa ab 0]) (by simp [results,dC,go_sem]) rfl ⟨by rw [a.out.c,a.out.e,a.out.k],i.trans (f.mono (by omega))⟩
theorem jV (s:ByteArray) (a:Int->Int) (k:Nat) (c:k<=16400) (q:Int) (d:q=39\/q=34) (i:s.size<=16384) (w:au) :
  aU am 185 #[eK s a,aa ab k,aa ab q] w fun e w'=>e=aD (aJ #[aa ab (jI s.data.toList k q),aa ab (jH s.data.toList k q),aa ab (jx s.data.toList k q)])/\aB w.heap.size w w':=by
 by_cases a0:ak s.data.toList k<0\/ak s.data.toList k=10
 ·exact uF s a k c q d a0 w
 by_cases g:ak s.data.toList k=q
 ·by_cases b:ak s.data.toList (k+1)=q
  ·exact uB s a k c q d g b w
  ·exact uC s a k c q d g b w
 by_cases b:ak s.data.toList k=92
 ·by_cases f:ak s.data.toList (k+1)=10
  ·exact sZ s a k c q d b f w
  cases a4:iD (ak s.data.toList (k+1)) with
  | true=>exact uA s a k c q d b f a4 w
  | false=>
   by_cases h:ak s.data.toList (k+1)=120
   ·exact uE s a k c q d i b f a4 h w
   ·exact uD s a k c q d i b f a4 h w
 ·exact rY s a k c q d a0 g b w
end Go.Proofs.YtbojljpldcijgaaGreat
namespace Hb
def jD (l:List UInt8) (p:Nat) (q:Int):List UInt8:=match jj (l.drop (p+1)) q with
 | none=>[]
 | some x=>x.1
def ny (l:List UInt8) (p:Nat) (q:Int):Nat:=match jj (l.drop (p+1)) q with
 | none=>0
 | some x=>p+1+x.2+1
def mv (l:List UInt8) (p:Nat) (q:Int):Bool:=(jj (l.drop (p+1)) q).isSome
theorem nz (l:List UInt8) (p:Nat) (q:Int):fA l q [] (p+1)=(jj (l.drop (p+1)) q).map fun x=>(x.1,p+1+x.2):=by unfold fA;simp
structure ItmIs (l:List UInt8) (p:Nat) (q:Int) (t:List UInt8) (e:Nat) (k:Bool):Prop where
 t:jD l p q=t
 e:ny l p q=e
 k:mv l p q=k
theorem yT (l:List UInt8) (p:Nat) (q:Int) (h:fA l q [] (p+1)=none):ItmIs l p q [] 0 false:=by
 rw [nz] at h
 cases hi:jj (l.drop (p+1)) q with
 | none=>exact ⟨by unfold jD;rw [hi],by unfold ny;rw [hi],by unfold mv;rw [hi];rfl⟩
 | some x=>rw [hi] at h;cases h
theorem yS (l:List UInt8) (p:Nat) (q:Int) (t:List UInt8) (j:Nat) (h:fA l q [] (p+1)=some (t,j)):ItmIs l p q t (j+1) true:=by
 rw [nz] at h
 cases hi:jj (l.drop (p+1)) q with
 | none=>rw [hi] at h;cases h
 | some x=>
  rw [hi] at h
  injection h with h
  injection h with h1 h2
  exact ⟨by unfold jD;rw [hi];exact h1,by unfold ny;rw [hi];simp only [];omega,by unfold mv;rw [hi];rfl⟩
theorem pG (m l:List UInt8) (p:Nat):((ew m l p).err=0/\(ew m l p).kind=4/\(ew m l p).text=[]/\(ew m l p).at_=p)\/ew m l p=cY 7:=by
 unfold ew
 split
 ·cases cD (l.drop (p+2)) 39 with
  | none=>right;rfl
  | some ck=>left;exact ⟨rfl,rfl,rfl,rfl⟩
 split
 ·unfold fM;split
  ·left;exact ⟨rfl,rfl,rfl,rfl⟩
  ·right;rfl
 ·unfold fM;split
  ·left;exact ⟨rfl,rfl,rfl,rfl⟩
  ·right;rfl
def gi (r:LexR) (n e:Int):Prop:=r.err=0->r.n=n/\r.end_=e
theorem kw (b:Int) (t:List UInt8) (p e:Int) (h:bg b t<=9223372036854775808) (S:Int) (a:S=bg b t) (n:Int) (c:n=if S=9223372036854775808 then -9223372036854775808 else S):((fM b t p e).err==0)=true/\gi (fM b t p e) n e:=by
 unfold gi fM
 rw [if_pos h]
 refine ⟨rfl,fun _=>⟨?_,rfl⟩⟩
 simp only []
 rw [c,a]
 split
 ·rw [if_pos (by omega)]
 ·rw [if_neg (by omega)]
theorem kx (b:Int) (t:List UInt8) (p e:Int) (h:¬bg b t<=9223372036854775808) (n k:Int):((fM b t p e).err==0)=false/\gi (fM b t p e) n k:=by
 unfold gi fM
 rw [if_neg h]
 exact ⟨rfl,fun h=>absurd h (by decide)⟩
theorem jt (b:Int) (a:2<=b) (d:b<=36) (m:List UInt8) (c j:Nat) (e:j<br (bJ b) (m.drop c)) :
  (bg b ((m.drop c).take (j+1)):Int)=bg b ((m.drop c).take j) * b+cG (ak m (c+j)) b/\0<=cG (ak m (c+j)) b/\cG (ak m (c+j)) b<=36:=by
 have:=lm b a d (m.drop c) j e
 rwa [bQ] at this
theorem lN (b:Int) (a:2<=b) (m:List UInt8) (j:Nat) (h:¬bg b (m.take j)<=9223372036854775808):¬bg b (m.take (j+1))<=9223372036854775808:=by
 have:=lp b (by omega) (m.take (j+1)) j
 rw [List.take_take,Nat.min_eq_left (by omega)] at this
 omega
end Hb
namespace Go.Proofs.YtbojljpldcijgaaGreat
open Go.RowKit Hb
theorem kJ (s:ByteArray) (l:Int->Int) (p:Nat) (hp:p<s.size) (q:Int) (N:q=39\/q=34) (Q:s.size<=16384) (w:au) :
  aU am 152 #[eK s l,aa ab p,aa ab q] w fun e w'=>e=aD (aJ #[ac ⟨(jD s.data.toList p q).toArray⟩,aa ab (ny s.data.toList p q),.bool (mv s.data.toList p q)])/\aB w.heap.size w w':=by
 have x:0<=q/\q<=255:=by omega
 have X:Hid (s.data.toList.length=s.size):=ci s
 go_enter Tryz.func152,Tryz.ntmps152
 go_wp2_with (first | (refine bb rfl _ s l rfl rfl ?_;intro b D Y a9 Z))
 have a6:=Y.lt
 go_loopw [1,9] (fun i v wr=>∃j:Nat,∃f:List UInt8,p+1<=j/\j<=s.size/\i=aa ab j/\f.length<=j/\aB w.heap.size w wr/\D.heap.size<=wr.heap.size/\Txt wr b s l/\wr.ownsRow D.heap.size 5 1 v f.length (Hb.byteCells f)/\Hid (fA s.data.toList q f j=fA s.data.toList q [] (p+1))) (fun i _ _=>s.size-(intOf i).toNat)
 case atStart=>exact ⟨p+1,[],ae _,by omega,by go_num,by simp,Z,ae _,Y,iz _ _ _ _,rfl⟩
 case round=>
  obtain ⟨j,f,a7,a8,rfl,a5,F,W,T,B,J⟩:=hrel
  have hs:=F.size
  have b0:=Z.size
  have G:=bX s.data.toList j
  have H:=bX s.data.toList (j+1)
  rw [X.out] at G H
  by_cases m:ak s.data.toList j=q
  ·have b1:(ak s.data.toList j != q)=false:=by simp [m]
   by_cases r:ak s.data.toList (j+1)=q
   ·have b2:(ak s.data.toList (j+1)==q)=true:=by simp [r]
    have h:=zq (ot s.data.toList j q N m r)
    have K:=zq (gN s.data.toList q x f j 2 q (fun A=>A.2 r) (by omega) (by unfold cD;simp only [bQ,Nat.add_zero];rw [if_neg (by omega),if_pos m,if_pos r]))
    have a0:j+2<=s.size:=by omega
    clear m r G H
    go_wp2_with (first | (with_reducible refine aG ?_;refine aq rfl _ rfl rfl T ?_) | (with_reducible refine aR ?_;refine ax _ rfl rfl T rfl ?_))
    refine (cy s l _ (j) (by omega) _).mono ?_;rintro e R ⟨rfl,d⟩
    have a:=T.below d T.lt
    go_wp2_with (first | (with_reducible refine aG ?_;refine aq rfl _ rfl rfl a ?_) | (with_reducible refine aR ?_;refine ax _ rfl rfl a rfl ?_))
    refine (cy s l _ (j+1) (by omega) _).mono ?_;rintro e w6 ⟨rfl,u⟩
    have L:=a.below u a.lt
    go_wp2_with (first | (with_reducible refine aG ?_;refine aq rfl _ rfl rfl L ?_) | (with_reducible refine aR ?_;refine ax _ rfl rfl L rfl ?_))
    refine (jV s l (j) (by omega) q N Q _).mono ?_;rintro e I ⟨rfl,g⟩;rw [h.out.c,h.out.e,h.out.k]
    have E:=L.below g L.lt
    have M:=F.trans (ip (by omega) d u g)
    have O:D.heap.size<=I.heap.size:=aQ W (aQ d.size (aQ u.size g.size))
    have S:=x.1
    have U:=x.2
    have C:=eH (eH (eH B d (ae _)) u (ae _)) g (ae _)
    have a4:f.length<=16384:=by omega
    clear B
    go_wp2_with (at_builtin;go_must (refine dx rfl _ _ 168 5 rfl aZ kg D.heap.size _ _ _ rfl _ C _ S U rfl rfl (by omega) (by omega) ?_;intro v1 w8 V z))
    go_roundw
    case rel=>exact ⟨j+2,f++[(q).toNat.toUInt8],by omega,by omega,by go_num,by simp;omega,M.trans (z.mono (by omega)),aQ O z.size,E.below z (by omega),by rw [bC];exact V,K.out.symm.trans J.out⟩
    case measure=>simp [intOf];omega
   ·have b2:(ak s.data.toList (j+1)==q)=false:=by simp [r]
    have y:=zq (yS s.data.toList p q f j (J.out.symm.trans (mQ s.data.toList q x f j m r)))
    clear m r G H
    go_wp2_with (first | (with_reducible refine aG ?_;refine aq rfl _ rfl rfl T ?_) | (with_reducible refine aR ?_;refine ax _ rfl rfl T rfl ?_))
    refine (cy s l _ (j) (by omega) _).mono ?_;rintro e R ⟨rfl,d⟩
    have a:=T.below d T.lt
    go_wp2_with (first | (with_reducible refine aG ?_;refine aq rfl _ rfl rfl a ?_) | (with_reducible refine aR ?_;refine ax _ rfl rfl a rfl ?_))
    refine (cy s l _ (j+1) (by omega) _).mono ?_;rintro e w6 ⟨rfl,u⟩
    have L:=a.below u a.lt
    have C:=eH (eH B d (ae _)) u (ae _)
    have hc:=iZ (P:=am) w6 168 9 5 aZ Tryz.underlying5 Tryz.underlying9 _ _ f.length _ C
    go_wp2_with fail
    refine aw (v:=aJ #[ac ⟨f.toArray⟩,aa ab (j+1:Nat),.bool true]) (by simp [results,Tryz.results152,go_sem]) rfl ⟨by rw [y.out.t,y.out.e,y.out.k],F.trans (ey (by omega) d u)⟩
  have b1:(ak s.data.toList j != q)=true:=by simp [m]
  by_cases o:ak s.data.toList j=92/\ak s.data.toList (j+1)=10
  ·have h:=zq (nT s.data.toList j q o.1 o.2)
   have K:=zq (lX s.data.toList q x f j (fun A=>m A.1) o.1 o.2)
   have a0:j+2<=s.size:=by omega
   clear m o G H
   go_wp2_with (first | (with_reducible refine aG ?_;refine aq rfl _ rfl rfl T ?_) | (with_reducible refine aR ?_;refine ax _ rfl rfl T rfl ?_))
   refine (cy s l _ (j) (by omega) _).mono ?_;rintro e R ⟨rfl,d⟩
   have a:=T.below d T.lt
   go_wp2_with (first | (with_reducible refine aG ?_;refine aq rfl _ rfl rfl a ?_) | (with_reducible refine aR ?_;refine ax _ rfl rfl a rfl ?_))
   refine (jV s l (j) (by omega) q N Q _).mono ?_;rintro e I ⟨rfl,g⟩;rw [h.out.c,h.out.e,h.out.k]
   have E:=a.below g a.lt
   have M:=F.trans (ey (by omega) d g)
   have O:D.heap.size<=I.heap.size:=aQ W (aQ d.size g.size)
   have C:=eH (eH B d (ae _)) g (ae _)
   clear B
   go_wp2_with fail
   go_roundw
   case rel=>exact ⟨j+2,f,by omega,by omega,by go_num,by omega,M,O,E,C,K.out.symm.trans J.out⟩
   case measure=>simp [intOf];omega
  cases hqs:cD (s.data.toList.drop j) q with
  | none=>
   have h:=zq (kP s.data.toList j q o hqs)
   have y:=zq (yT s.data.toList p q (J.out.symm.trans (ix s.data.toList q x f j (fun A=>m A.1) o hqs)))
   clear m o G H hqs
   go_wp2_with (first | (with_reducible refine aG ?_;refine aq rfl _ rfl rfl T ?_) | (with_reducible refine aR ?_;refine ax _ rfl rfl T rfl ?_))
   refine (cy s l _ (j) (by omega) _).mono ?_;rintro e R ⟨rfl,d⟩
   have a:=T.below d T.lt
   go_wp2_with (first | (with_reducible refine aG ?_;refine aq rfl _ rfl rfl a ?_) | (with_reducible refine aR ?_;refine ax _ rfl rfl a rfl ?_))
   refine (jV s l (j) (by omega) q N Q _).mono ?_;rintro e I ⟨rfl,g⟩;rw [h.out.c,h.out.e,h.out.k]
   have E:=a.below g a.lt
   go_wp2_with fail
   refine aw (v:=aJ #[ac ⟨#[]⟩,aa ab (0:Nat),.bool false]) (by simp [results,Tryz.results152,go_sem]) rfl ⟨by rw [y.out.t,y.out.e,y.out.k],F.trans (ey (by omega) d g)⟩
  | some ck=>
   obtain ⟨c,n⟩:=ck
   obtain ⟨k1,k2,S,U⟩:=eU _ _ _ _ x hqs
   rw [aN,X.out] at k2
   have h:=zq (jP s.data.toList j q c n o hqs)
   have K:=zq (gN s.data.toList q x f j n c (fun A=>m A.1) o hqs)
   have a0:j+n<=s.size:=by omega
   clear m o G H hqs k2
   go_wp2_with (first | (with_reducible refine aG ?_;refine aq rfl _ rfl rfl T ?_) | (with_reducible refine aR ?_;refine ax _ rfl rfl T rfl ?_))
   refine (cy s l _ (j) (by omega) _).mono ?_;rintro e R ⟨rfl,d⟩
   have a:=T.below d T.lt
   go_wp2_with (first | (with_reducible refine aG ?_;refine aq rfl _ rfl rfl a ?_) | (with_reducible refine aR ?_;refine ax _ rfl rfl a rfl ?_))
   refine (jV s l (j) (by omega) q N Q _).mono ?_;rintro e I ⟨rfl,g⟩;rw [h.out.c,h.out.e,h.out.k]
   have E:=a.below g a.lt
   have M:=F.trans (ey (by omega) d g)
   have O:D.heap.size<=I.heap.size:=aQ W (aQ d.size g.size)
   have C:=eH (eH B d (ae _)) g (ae _)
   have a4:f.length<=16384:=by omega
   clear B
   go_wp2_with (at_builtin;go_must (refine dx rfl _ _ 168 5 rfl aZ kg D.heap.size _ _ _ rfl _ C _ S U rfl rfl (by omega) (by omega) ?_;intro v1 w8 V z))
   go_roundw
   case rel=>exact ⟨j+n,f++[(c).toNat.toUInt8],by omega,by omega,by go_num,by simp;omega,M.trans (z.mono (by omega)),aQ O z.size,E.below z (by omega),by rw [bC];exact V,K.out.symm.trans J.out⟩
   case measure=>simp [intOf];omega
end Go.Proofs.YtbojljpldcijgaaGreat
