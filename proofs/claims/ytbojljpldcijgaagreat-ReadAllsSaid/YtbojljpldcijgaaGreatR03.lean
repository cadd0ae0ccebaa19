/- Parts of the proof. -/
import Derived.Test.YtbojljpldcijgaaGreatR02
import Derived.Deep.RegionHeld3
import Derived.RegionTactic
import Derived.BigRegion
import Derived.Deep.RegionWith
import Derived.Test.YtbojljpldcijgaaGreatR01
import Derived.Test.YtbojljpldcijgaaGreatProg
import Derived.Lib.Strings
import Derived.Laws.Strings
set_option maxHeartbeats 12800000
set_option maxRecDepth 100000
open Go renaming Calls -> aU, Value -> aC, World -> au, bodyPost_ret -> aw
open Go.Ending renaming returned -> aD
open Go.IntKind renaming i64 -> ab, i64 -> dN
open Go.IntWalk renaming wrap64_in -> cg
open Go.Lib renaming indexByte -> dX
open Go.Proofs.Tryz renaming prog -> am
open Go.RowKit renaming Below -> aB
open Go.RowKit.Below renaming refl -> ap
open Go.Value renaming bool -> av, int -> aa, int -> dA, pointer -> ar, string -> ac, tuple -> aJ
open Go.World renaming cell?_alloc_new -> aF, setCell -> bw
open Int renaming eq_ofNat_of_zero_le -> bU, toNat_natCast -> aI
open List renaming drop_drop -> cV, length_drop -> aN
open Nat renaming add_zero -> bj, le_of_lt -> eX, le_refl -> ae, le_trans -> aQ, lt_of_lt_of_le -> aA, min_eq_left -> fx, zero_le -> bc
namespace Go.Proofs.YtbojljpldcijgaaGreat
open Go.RowKit Hb
theorem qJ (M:List UInt8) (k e X:Nat) (d:k+2<=e) (c:k+cd (M.drop k)=X) (b:cd (M.drop k)=(e-(k+2)+4)+cd (M.drop (k+(e-(k+2)+4)))):e+2+cd (M.drop (e+2))=X:=by
 have a:k+(e-(k+2)+4)=e+2:=by omega
 rw [a] at b;omega
theorem ly (M:List UInt8) (k e:Nat) (b:k+2<=e) (h:dW (M.drop (k+2))=(dW (M.drop e)).map (· + (e-(k+2)))) (a:dW (M.drop e)=(dW (M.drop (e+1))).map (· + 1)) :
  dW (M.drop (k+2))=(dW (M.drop (e+1))).map (· + (e+1-(k+2))):=by
 rw [h,a,Option.map_map]
 congr 1
 funext x
 simp;omega
theorem ik (b:Nat) (s:ByteArray) (tab:Int->Int) (a0 i:Int) (w:au) (h:Lex w b s tab a0) (h0:0<=i) :
  aU am 85 #[ar (some ⟨b,0,none⟩),aa ab i] w fun e w'=>e=aD (aa ab (i+cd ((ba tab s.data.toList).drop i.toNat)))/\aB w.heap.size w w':=by
 obtain ⟨R,rfl⟩:=bU h0
 have c4:=h.sz
 have U:=zq h
 have X:=h.lt
 clear h
 rw [aI]
 have F:Hid ((ba tab s.data.toList).length=s.size):=by show _=_;rw [bL];simp
 generalize W:ba tab s.data.toList=M at *
 have d:=zq W
 clear W
 go_enter Tryz.func85,Tryz.ntmps85
 go_wp2_with fail
 go_loopw [1] (fun i wr=>∃k:Nat,i=aa ab k/\aB w.heap.size w wr/\Hid (k+cd (M.drop k)=R+cd (M.drop R))) (fun i _=>s.size-(intOf i).toNat)
 case atStart=>exact ⟨R,rfl,ap _ _,rfl⟩
 case round=>
  obtain ⟨k,rfl,l,t⟩:=hrel
  have L:=U.out.below l X
  have V:=L.c0
  have hs:=l.size
  by_cases b6:k<s.size
  ·have n:k<M.length:=by rw [F.out];exact b6
   have b7:=bX M k
   have c1:0<=ak M k:=by have:=bX M k;omega
   clear b7
   by_cases f:cls (ak M k)=1
   ·have j:=zq (sO M k n f)
    have b1:(cls (ak M k)==1)=true:=by simp [f]
    clear f
    go_wp2_with fail
    refine (bE _ _ _ _ _ _ L (by omega)).mono ?_;rintro e G ⟨rfl,a⟩;rw [aI,d.out]
    go_wp2_with fail
    refine (dz _ _).mono ?_;rintro e K ⟨rfl,c⟩
    go_wp2_with fail
    go_roundw
    case rel=>exact ⟨k+1,by go_num,l.trans ((a.mono (by omega)).trans (c.mono (by have:=a.size;omega))),by have D:=t.out;have E:=j.out;show _=_;omega⟩
    case measure=>simp [intOf];omega
   have b1:(cls (ak M k)==1)=false:=by simp [f]
   by_cases g:ak M k=37
   ·have j:=zq (sN M k n f g)
    have c2:=jX eh (M.drop k) (by simp;omega) (by rw [bQ,bj,g];rfl)
    have b2:(ak M k==37)=true:=by simp [g]
    have S:=zq g
    clear f g
    go_wp2_with fail
    refine (bE _ _ _ _ _ _ L (by omega)).mono ?_;rintro e G ⟨rfl,a⟩;rw [aI,d.out]
    go_wp2_with fail
    refine (dz _ _).mono ?_;rintro e K ⟨rfl,c⟩
    have o:=(L.below a L.lt).below c (L.below a L.lt).lt
    go_wp2_with fail
    refine (wU _ _ _ _ _ _ o (by omega)).mono ?_;rintro e w3 ⟨rfl,v⟩;rw [aI,d.out]
    go_wp2_with fail
    go_roundw
    case rel=>exact ⟨k+br eh (M.drop k),by go_num,l.trans ((a.mono (by omega)).trans ((c.mono (by have:=a.size;omega)).trans (v.mono (by have:=a.size;have:=c.size;omega)))),by have D:=t.out;have E:=j.out;show _=_;omega⟩
    case measure=>simp [intOf];omega
   have b2:(ak M k==37)=false:=by simp [g]
   by_cases z:ak M k=47
   ·have b3:(ak M k==47)=true:=by simp [z]
    have Z:=zq f
    have S:=zq g
    have T:=zq z
    clear f g z
    by_cases A:ak M (k+1)=42
    ·have b4:(ak M (k+1)==42)=true:=by simp [A]
     have N:=zq A
     clear A
     go_wp2_with fail
     refine (bE _ _ _ _ _ _ L (by omega)).mono ?_;rintro e G ⟨rfl,a⟩;rw [aI,d.out]
     go_wp2_with fail
     refine (dz _ _).mono ?_;rintro e K ⟨rfl,c⟩
     have o:=(L.below a L.lt).below c (L.below a L.lt).lt
     go_wp2_with fail
     refine (bE _ _ _ _ _ _ o (by omega)).mono ?_;rintro e w3 ⟨rfl,v⟩;rw [show ((k:Int)+1).toNat=k+1 by omega,d.out]
     have L3:=o.below v o.lt
     have a9:aB w.heap.size w w3:=l.trans ((a.mono (by omega)).trans ((c.mono (by have:=a.size;omega)).trans (v.mono (by have:=a.size;have:=c.size;omega))))
     clear a c v o L V l
     go_wp2_with fail
     go_loopw [6] (fun x wx=>∃e:Nat,k+2<=e/\e<=s.size/\x=aa ab e/\aB w.heap.size w wx/\Hid (dW (M.drop (k+2))=(dW (M.drop e)).map (· + (e-(k+2))))) (fun x _=>s.size-(intOf x).toNat)
     case atStart=>
      have b5:k+2<=s.size:=by
       have:=bX M (k+1);have:=N.out;have:=F.out;omega
      exact ⟨k+2,ae _,b5,by go_num,a9,by show _=_;simp⟩
     case round=>
      obtain ⟨e,P,b8,rfl,B,H⟩:=hrel
      have p:=U.out.below B X
      have V:=p.c0
      have c3:=B.size
      by_cases b0:e<s.size
      ·have Q:e<M.length:=by rw [F.out];exact b0
       by_cases q:ak M e=42
       ·have a5:(ak M e==42)=true:=by simp [q]
        have a6:(ak M e != 42)=false:=by simp [q]
        have D1:=zq q
        clear q
        by_cases r:ak M (e+1)=47
        ·have a7:(ak M (e+1)==47)=true:=by simp [r]
         have a8:(ak M (e+1) != 47)=false:=by simp [r]
         have u:=zq (oF M e Q D1.out r)
         have O:=zq (sQ M k (e-(k+2)) n T.out N.out (by rw [H.out,u.out];simp))
         clear r
         go_wp2_with fail
         refine (bE _ _ _ _ _ _ p (by omega)).mono ?_;rintro I Y ⟨rfl,m⟩;rw [aI,d.out]
         have C:=p.below m p.lt
         go_wp2_with fail
         refine (bE _ _ _ _ _ _ C (by omega)).mono ?_;rintro I w5 ⟨rfl,J⟩;rw [show ((e:Int)+1).toNat=e+1 by omega,d.out]
         have L5:=C.below J C.lt
         have c5:=L5.c0
         have b9:((e:Int)==(s.size:Int))=false:=by simp;omega
         go_wp2_with fail
         go_roundw
         case rel=>exact ⟨e+2,by go_num,B.trans ((m.mono (by omega)).trans (J.mono (by have:=m.size;omega))),qJ M k e _ P t.out O.out⟩
         case measure=>simp [intOf];omega
        ·have a7:(ak M (e+1)==47)=false:=by simp [r]
         have a8:(ak M (e+1) != 47)=true:=by simp [r]
         have u:=zq (lA M e Q (fun y=>r y.2))
         clear r
         go_wp2_with fail
         refine (bE _ _ _ _ _ _ p (by omega)).mono ?_;rintro I Y ⟨rfl,m⟩;rw [aI,d.out]
         have C:=p.below m p.lt
         go_wp2_with fail
         refine (bE _ _ _ _ _ _ C (by omega)).mono ?_;rintro I w5 ⟨rfl,J⟩;rw [show ((e:Int)+1).toNat=e+1 by omega,d.out]
         go_wp2_with fail
         go_roundw
         case rel=>exact ⟨e+1,by omega,by omega,by go_num,B.trans ((m.mono (by omega)).trans (J.mono (by have:=m.size;omega))),ly M k e P H.out u.out⟩
         case measure=>simp [intOf];omega
       ·have a5:(ak M e==42)=false:=by simp [q]
        have a6:(ak M e != 42)=true:=by simp [q]
        have u:=zq (lA M e Q (fun y=>q y.1))
        clear q
        go_wp2_with fail
        refine (bE _ _ _ _ _ _ p (by omega)).mono ?_;rintro I Y ⟨rfl,m⟩;rw [aI,d.out]
        go_wp2_with fail
        go_roundw
        case rel=>exact ⟨e+1,by omega,by omega,by go_num,B.trans (m.mono (by omega)),ly M k e P H.out u.out⟩
        case measure=>simp [intOf];omega
      ·obtain rfl:e=s.size:=by omega
       have u:=zq (oG M s.size (by rw [F.out];exact ae _))
       have O:=zq (qK M k n T.out N.out (by rw [H.out,u.out];rfl))
       go_wp2_with fail
       go_ret
       exact ⟨dl (by have D:=t.out;have E:=O.out;omega),B⟩
    ·have b4:(ak M (k+1)==42)=false:=by simp [A]
     have j:=zq (oS M k n Z.out S.out (fun y=>A y.2))
     clear A
     go_wp2_with fail
     refine (bE _ _ _ _ _ _ L (by omega)).mono ?_;rintro e G ⟨rfl,a⟩;rw [aI,d.out]
     go_wp2_with fail
     refine (dz _ _).mono ?_;rintro e K ⟨rfl,c⟩
     have o:=(L.below a L.lt).below c (L.below a L.lt).lt
     go_wp2_with fail
     refine (bE _ _ _ _ _ _ o (by omega)).mono ?_;rintro e w3 ⟨rfl,v⟩;rw [show ((k:Int)+1).toNat=k+1 by omega,d.out]
     go_wp2_with fail
     go_ret
     exact ⟨dl (by have D:=t.out;have E:=j.out;omega),l.trans ((a.mono (by omega)).trans ((c.mono (by have:=a.size;omega)).trans (v.mono (by have:=a.size;have:=c.size;omega))))⟩
   ·have b3:(ak M k==47)=false:=by simp [z]
    have j:=zq (oS M k n f g (fun y=>z y.1))
    clear f g z
    go_wp2_with fail
    refine (bE _ _ _ _ _ _ L (by omega)).mono ?_;rintro e G ⟨rfl,a⟩;rw [aI,d.out]
    go_wp2_with fail
    refine (dz _ _).mono ?_;rintro e K ⟨rfl,c⟩
    go_wp2_with fail
    go_ret
    exact ⟨dl (by have D:=t.out;have E:=j.out;omega),l.trans ((a.mono (by omega)).trans (c.mono (by have:=a.size;omega)))⟩
  ·have n:M.length<=k:=by rw [F.out];omega
   have HR:=zq (ga M k n)
   have j:=zq (sP M k n)
   go_wp2_with fail
   refine (bE _ _ _ _ _ _ L (by omega)).mono ?_;rintro e G ⟨rfl,a⟩;rw [aI,d.out,HR.out]
   go_wp2_with fail
   go_ret
   exact ⟨dl (by have D:=t.out;have E:=j.out;omega),l.trans (a.mono (by omega))⟩
theorem ip {w c d w3:au} {B:Nat} (a:B<=w.heap.size) (b:aB w.heap.size w c) (e:aB c.heap.size c d) (f:aB d.heap.size d w3):aB B w w3 :=
 (b.mono a).trans ((e.mono (aQ a b.size)).trans (f.mono (aQ a (aQ b.size e.size))))
theorem ey {w a w2:au} {B:Nat} (b:B<=w.heap.size) (c:aB w.heap.size w a) (d:aB a.heap.size a w2):aB B w w2 :=
 (c.mono b).trans (d.mono (aQ b c.size))
def bq (r:LexR):aC:=aJ #[.agg #[aa ab r.kind,ac ⟨r.text.toArray⟩,aa ab r.n,aa ab r.at_,aa ab r.end_,av false],aa ab r.err]
def dL (r:LexR) (e:Ending):Prop:=e=aD (bq r)
theorem kV (b:Nat) (s:ByteArray) (tab:Int->Int) (a d c:Int) (t:List UInt8) (w:au) (h:Lex w b s tab a) (k:t.length<=9223372036854775807) :
  aU am 128 #[ar (some ⟨b,0,none⟩),aa ab d,ac ⟨t.toArray⟩,aa ab c] w fun e w'=>dL (dI d t a c) e/\aB w.heap.size w w':=by
 have i:=h.ca
 have j:=h.lt
 by_cases g:100<t.length
 ·have f:=zq (show dI d t a c=cY 2 by unfold dI;rw [if_pos g])
  go_enter Tryz.func128,Tryz.ntmps128
  go_wp2
  refine aw (v:=aJ #[.agg #[aa ab 0,ac ⟨#[]⟩,aa ab 0,aa ab 0,aa ab 0,av false],aa ab 2]) (by simp [results,Tryz.results128,go_sem]) rfl ⟨?_,(ap _ _).alloc (ae _) _⟩
  rw [f.out];rfl
 ·have f:=zq (show dI d t a c=⟨d,t,0,a,c,0⟩ by unfold dI;rw [if_neg g])
  go_enter Tryz.func128,Tryz.ntmps128
  go_wp2
  refine aw (v:=aJ #[.agg #[aa ab d,ac ⟨t.toArray⟩,aa ab 0,aa ab a,aa ab c,av false],aa ab 0]) (by simp [results,Tryz.results128,go_sem]) rfl ⟨?_,(ap _ _).alloc (ae _) _⟩
  rw [f.out];rfl
def aX:Obj:=.cells #[aa ab 0,ac ⟨#[]⟩,aa ab 0,aa ab 0,aa ab 0,av false] 76
theorem bR {w w':au} {B:Nat} (a:aB B (w.alloc aX) w') (h:w.heap.size<B) :
  w'.cell? ⟨w.heap.size,0,none⟩=some (aa ab 0)/\w'.cell? ⟨w.heap.size,1,none⟩=some (ac ⟨#[]⟩)/\w'.cell? ⟨w.heap.size,2,none⟩=some (aa ab 0)/\w'.cell? ⟨w.heap.size,3,none⟩=some (aa ab 0)/\w'.cell? ⟨w.heap.size,4,none⟩=some (aa ab 0)/\w'.cell? ⟨w.heap.size,5,none⟩=some (av false)/\∀o,w'.frozen? ⟨w.heap.size,o,none⟩=false:=by
 have e:∀o,w'.cell? ⟨w.heap.size,o,none⟩=(w.alloc aX).cell? ⟨w.heap.size,o,none⟩:=fun o=>a.cell (p:=⟨w.heap.size,o,none⟩) h
 have b:(w.alloc aX).heap[w.heap.size]? = some aX:=by show (w.heap.push _)[w.heap.size]? = _;simp
 refine ⟨?_,?_,?_,?_,?_,?_,fun o=>?_⟩
 ·rw [e];unfold aX;rw [aF];rfl
 ·rw [e];unfold aX;rw [aF];rfl
 ·rw [e];unfold aX;rw [aF];rfl
 ·rw [e];unfold aX;rw [aF];rfl
 ·rw [e];unfold aX;rw [aF];rfl
 ·rw [e];unfold aX;rw [aF];rfl
 ·rw [a.frozen (p:=⟨w.heap.size,o,none⟩) h]
  unfold World.frozen?;simp only [b];unfold aX;simp
theorem iN {w w':au} {B g:Nat} (h:aB B w w') (i:B<=g) (a b c d e f:aC):aB B w ((((((w'.setCell ⟨g,0,none⟩ a).setCell ⟨g,1,none⟩ b).setCell ⟨g,2,none⟩ c).setCell ⟨g,3,none⟩ d).setCell ⟨g,4,none⟩ e).setCell ⟨g,5,none⟩ f) :=
 (((((h.setCell (p:=⟨g,_,none⟩) i _).setCell (p:=⟨g,_,none⟩) i _).setCell (p:=⟨g,_,none⟩) i _).setCell (p:=⟨g,_,none⟩) i _).setCell (p:=⟨g,_,none⟩) i _).setCell (p:=⟨g,_,none⟩) i _
theorem tv (b:Nat) (s:ByteArray) (tab:Int->Int) (p:Nat) (w:au) (h:Lex w b s tab p) (S:p<=s.size) :
  aU am 87 #[ar (some ⟨b,0,none⟩)] w fun e w'=>dL (oi (ba tab s.data.toList) p) e/\aB w.heap.size w w':=by
 have F:=h.ca
 have A:=h.lt
 have T:=h.sz
 have q:=zq h
 clear h
 have G:Hid ((ba tab s.data.toList).length=s.size):=by show _=_;rw [bL];simp
 have H:=bS cL ((ba tab s.data.toList).drop p)
 rw [aN,G.out] at H
 generalize z:ba tab s.data.toList=M at *
 have j:=zq z
 clear z
 have C:=zq (show oi M p=dI (jU (ak M p)) ((M.drop p).take (br cL (M.drop p))) p (p+br cL (M.drop p)) from rfl)
 have l:=(ap w.heap.size w).alloc (ae _) aX
 have x:w.heap.size<(w.alloc aX).heap.size:=by simp
 cases b1:cls (ak M p)==3
 all_goals
  have i:=zq b1
  clear b1
  go_enter Tryz.func87,Tryz.ntmps87
  go_wp2_with fail
  refine (bE _ _ _ _ _ _ (q.out.below l A) (by omega)).mono ?_;rintro e V ⟨rfl,d⟩;rw [aI,j.out]
  have k:=(q.out.below l A).below d (by simp;omega)
  go_wp2_with fail
  refine (dz _ _).mono ?_;rintro e W ⟨rfl,f⟩
  have a:=k.below f k.lt
  have D:=a.ca
  have Q:=i.out
  go_wp2_with fail
  refine (wV _ _ _ _ _ _ a (by omega)).mono ?_;rintro e X ⟨rfl,g⟩;rw [aI,j.out]
  have c:=a.below g a.lt
  have E:=c.ca
  go_wp2_with fail
  refine (iF _ _ _ _ _ _ _ c (by omega) (by omega) (by omega)).mono ?_;rintro e Y ⟨rfl,n⟩;rw [aI,j.out,show ((p:Int)+br cL (M.drop p)-p).toNat=br cL (M.drop p) by omega]
  have u:=c.below n c.lt
  go_wp2_with fail
  refine (kV _ _ _ _ _ _ _ _ u (by have:=List.length_take_le (br cL (M.drop p)) (M.drop p);omega)).mono ?_;rintro e P ⟨o,y⟩
  generalize B:dI _ _ _ _=r at o
  have t:=zq B
  clear B
  unfold dL bq at o;subst o
  have m:=(ip (ae _) d f g).trans (ey (by have:=d.size;have:=f.size;have:=g.size;omega) n y)
  obtain ⟨I,J,K,L,N,O,U⟩:=bR m x
  have R:w.heap.size<P.heap.size:=aA x m.size
  clear d f g n y k a c u D E F
  go_wp2_with fail
  refine aw (v:=bq r) (by simp [bq,results,Tryz.results87,go_sem,I,J,K,L,N,O]) rfl ⟨?_,iN (l.trans (m.mono (by omega))) (ae _) _ _ _ _ _ _⟩
  rw [C.out];unfold jU;first | (rw [if_pos (by simpa using i.out),t.out];rfl) | (rw [if_neg (by simpa using i.out),t.out];rfl)
theorem pL (b:Nat) (s:ByteArray) (tab:Int->Int) (p:Nat) (w:au) (h:Lex w b s tab p) (hp:p<=s.size) :
  aU am 89 #[ar (some ⟨b,0,none⟩)] w fun e w'=>dL (km (ba tab s.data.toList) p) e/\aB w.heap.size w w':=by
 have U:=h.ca
 have A:=h.lt
 have a6:=h.sz
 have x:=zq h
 clear h
 have a0:Hid ((ba tab s.data.toList).length=s.size):=by show _=_;rw [bL];simp
 have a5:=bS cJ ((ba tab s.data.toList).drop p)
 rw [aN,a0.out] at a5
 generalize X:ba tab s.data.toList=M at *
 have i:=zq X
 clear X
 have g:=(ap w.heap.size w).alloc (ae _) aX
 have k:w.heap.size<(w.alloc aX).heap.size:=by simp
 by_cases l:ak M p=46
 ·have Z:(ak M p==46)=true:=by simp [l]
  by_cases j:iI (ak M (p+1))=true
  ·have H:=zq (show km M p=⟨7,[46],0,p,p+1,0⟩ by unfold km;rw [if_pos ⟨l,j⟩])
   have Y:=zq j
   clear l j
   have hd:decide (ak M (p+1)<0)=true\/(decide (ak M (p+1)<0)=false/\((ak M (p+1)==37)=true\/((ak M (p+1)==37)=false/\(cls (ak M (p+1))==1)=true))):=by have:=Y.out;unfold iI at this;grind
   rcases hd with V | ⟨V,W | ⟨W,d3⟩⟩
   all_goals
    go_enter Tryz.func89,Tryz.ntmps89
    go_wp2_with fail
    refine (bE _ _ _ _ _ _ (x.out.below g A) (by omega)).mono ?_;rintro e w1 ⟨rfl,n⟩;rw [aI,i.out]
    have f:=(x.out.below g A).below n (by simp;omega)
    have T:=f.ca
    go_wp2_with fail
    refine (bE _ _ _ _ _ _ f (by omega)).mono ?_;rintro e w2 ⟨rfl,o⟩;rw [show ((p:Int)+1).toNat=p+1 by omega,i.out]
    have y:=f.below o f.lt
    have c2:=y.ca
    have a:aB (w.alloc aX).heap.size (w.alloc aX) w2:=ey (ae _) n o
    go_wp2_with (go_at_call 93;refine (dz _ _).mono ?_;rintro e R ⟨rfl,z⟩;have L:=(z.cell (p:=⟨b,257,none⟩) y.lt).trans c2;have P:=a.trans (z.mono (aQ n.size o.size));clear a)
    first | (obtain ⟨B,C,D,E,F,G,Q⟩:=bR P k;have a3:w.heap.size<R.heap.size:=aA k P.size) | (obtain ⟨B,C,D,E,F,G,Q⟩:=bR a k;have a3:w.heap.size<w2.heap.size:=aA k a.size)
    go_region
    go_wp2_with fail
    refine aw (v:=bq ⟨7,[46],0,p,p+1,0⟩) (by simp [bq,results,Tryz.results89,go_sem,B,C,D,E,F,G]) rfl ⟨?_,?_⟩
    ·rw [H.out];rfl
    ·first | exact (iN (g.trans (P.mono (by omega))) (ae _) _ _ _ _ _ _).drew | exact (iN (g.trans (a.mono (by omega))) (ae _) _ _ _ _ _ _).drew
  ·have H:=zq (show km M p=dI 1 ((M.drop p).take (br cJ (M.drop p))) p (p+br cJ (M.drop p)) by unfold km;rw [if_neg (fun h=>j h.2)])
   have V:decide (ak M (p+1)<0)=false:=by unfold iI at j;grind
   have W:(ak M (p+1)==37)=false:=by unfold iI at j;grind
   have d3:(cls (ak M (p+1))==1)=false:=by unfold iI at j;grind
   clear l j
   go_enter Tryz.func89,Tryz.ntmps89
   go_wp2_with fail
   refine (bE _ _ _ _ _ _ (x.out.below g A) (by omega)).mono ?_;rintro e w1 ⟨rfl,n⟩;rw [aI,i.out]
   have f:=(x.out.below g A).below n (by simp;omega)
   have T:=f.ca
   go_wp2_with fail
   refine (bE _ _ _ _ _ _ f (by omega)).mono ?_;rintro e w2 ⟨rfl,o⟩;rw [show ((p:Int)+1).toNat=p+1 by omega,i.out]
   have y:=f.below o f.lt
   go_wp2_with fail
   refine (dz _ _).mono ?_;rintro e R ⟨rfl,z⟩
   have c:=y.below z y.lt
   have a:=ip (ae _) n o z
   have L:=c.ca
   clear n o z f y T
   go_wp2_with fail
   refine (vD _ _ _ _ _ _ c (by omega)).mono ?_;rintro e w4 ⟨rfl,q⟩;rw [aI,i.out]
   have d:=c.below q c.lt
   have O:=d.ca
   go_wp2_with fail
   refine (iF _ _ _ _ _ _ _ d (by omega) (by omega) (by omega)).mono ?_;rintro e w5 ⟨rfl,t⟩;rw [aI,i.out,show ((p:Int)+br cJ (M.drop p)-p).toNat=br cJ (M.drop p) by omega]
   have I:=d.below t d.lt
   go_wp2_with fail
   refine (kV _ _ _ _ _ _ _ _ I (by have:=List.length_take_le (br cJ (M.drop p)) (M.drop p);omega)).mono ?_;rintro e S ⟨u,J⟩
   generalize K:dI _ _ _ _=r at u
   have N:=zq K
   clear K
   unfold dL bq at u;subst u
   have m:=a.trans (ip a.size q t J)
   obtain ⟨B,C,D,E,F,G,Q⟩:=bR m k
   have a4:w.heap.size<S.heap.size:=aA k m.size
   clear q t J c d I L O U
   go_wp2_with fail
   refine aw (v:=bq r) (by simp [bq,results,Tryz.results89,go_sem,B,C,D,E,F,G]) rfl ⟨?_,iN (g.trans (m.mono (by omega))) (ae _) _ _ _ _ _ _⟩
   rw [H.out,N.out];rfl
 ·have Z:(ak M p==46)=false:=by simp [l]
  have H:=zq (show km M p=dI 1 ((M.drop p).take (br cJ (M.drop p))) p (p+br cJ (M.drop p)) by unfold km;rw [if_neg (fun h=>l h.1)])
  clear l
  go_enter Tryz.func89,Tryz.ntmps89
  go_wp2_with fail
  refine (bE _ _ _ _ _ _ (x.out.below g A) (by omega)).mono ?_;rintro e R ⟨rfl,a⟩;rw [aI,i.out]
  have c:=(x.out.below g A).below a (by simp;omega)
  have L:=c.ca
  go_wp2_with fail
  refine (vD _ _ _ _ _ _ c (by omega)).mono ?_;rintro e w4 ⟨rfl,q⟩;rw [aI,i.out]
  have d:=c.below q c.lt
  have O:=d.ca
  go_wp2_with fail
  refine (iF _ _ _ _ _ _ _ d (by omega) (by omega) (by omega)).mono ?_;rintro e w5 ⟨rfl,t⟩;rw [aI,i.out,show ((p:Int)+br cJ (M.drop p)-p).toNat=br cJ (M.drop p) by omega]
  have I:=d.below t d.lt
  go_wp2_with fail
  refine (kV _ _ _ _ _ _ _ _ I (by have:=List.length_take_le (br cJ (M.drop p)) (M.drop p);omega)).mono ?_;rintro e S ⟨u,J⟩
  generalize K:dI _ _ _ _=r at u
  have N:=zq K
  clear K
  unfold dL bq at u;subst u
  have m:=a.trans (ip a.size q t J)
  obtain ⟨B,C,D,E,F,G,Q⟩:=bR m k
  have a4:w.heap.size<S.heap.size:=aA k m.size
  clear q t J c d I L O U
  go_wp2_with fail
  refine aw (v:=bq r) (by simp [bq,results,Tryz.results89,go_sem,B,C,D,E,F,G]) rfl ⟨?_,iN (g.trans (m.mono (by omega))) (ae _) _ _ _ _ _ _⟩
  rw [H.out,N.out];rfl
def Tok6 (w:au) (g:Nat):Prop:=(∀o,w.frozen? ⟨g,o,none⟩=false)/\∃v0 v1 v2 v3 v4 v5,w.cell? ⟨g,0,none⟩=some v0/\w.cell? ⟨g,1,none⟩=some v1/\w.cell? ⟨g,2,none⟩=some v2/\w.cell? ⟨g,3,none⟩=some v3/\w.cell? ⟨g,4,none⟩=some v4/\w.cell? ⟨g,5,none⟩=some v5
structure Held (w0 w:au) (b:Nat) (s:ByteArray) (tab:Int->Int) (p:Int):Prop where
 lex:Lex w b s tab p
 bel:aB w0.heap.size w0 w
 tok:Tok6 w w0.heap.size
 lt:w0.heap.size<w.heap.size
 blt:b<w0.heap.size
section
variable {w0 w w':au} {b:Nat} {s:ByteArray} {tab:Int->Int} {p:Int}
theorem Held.start (h:Lex w0 b s tab p):Held w0 (w0.alloc aX) b s tab p:=by
 have a:=(ap w0.heap.size w0).alloc (ae _) aX
 obtain ⟨c,d,e,f,g,i,j⟩:=bR (ap (w0.alloc aX).heap.size (w0.alloc aX)) (by simp)
 exact ⟨h.below a h.lt,a,⟨j,_,_,_,_,_,_,c,d,e,f,g,i⟩,by simp,h.lt⟩
theorem Held.call (a:aB w.heap.size w w') (h:Held w0 w b s tab p):Held w0 w' b s tab p:=by
 obtain ⟨k,l,m,n,q,r,t,c,d,f,g,i,j⟩:=h.tok
 have e:∀o,w'.cell? ⟨w0.heap.size,o,none⟩=w.cell? ⟨w0.heap.size,o,none⟩:=fun o=>a.cell (p:=⟨w0.heap.size,o,none⟩) h.lt
 exact ⟨h.lex.below a h.lex.lt,h.bel.trans (a.mono (eX h.lt)),⟨fun o=>(a.frozen (p:=⟨w0.heap.size,o,none⟩) h.lt).trans (k o),l,m,n,q,r,t,(e 0).trans c,(e 1).trans d,(e 2).trans f,(e 3).trans g,(e 4).trans i,(e 5).trans j⟩,aA h.lt a.size,h.blt⟩
theorem Held.callB {B:Nat} (a:aB B w w') (c:w0.heap.size<B) (h:Held w0 w b s tab p):Held w0 w' b s tab p:=by
 obtain ⟨l,m,n,q,r,t,u,d,f,g,i,j,k⟩:=h.tok
 have e:∀o,w'.cell? ⟨w0.heap.size,o,none⟩=w.cell? ⟨w0.heap.size,o,none⟩:=fun o=>a.cell (p:=⟨w0.heap.size,o,none⟩) c
 exact ⟨h.lex.below a (Nat.lt_trans h.blt c),h.bel.trans (a.mono (eX c)),⟨fun o=>(a.frozen (p:=⟨w0.heap.size,o,none⟩) c).trans (l o),m,n,q,r,t,u,(e 0).trans d,(e 1).trans f,(e 2).trans g,(e 3).trans i,(e 4).trans j,(e 5).trans k⟩,aA h.lt a.size,h.blt⟩
theorem Held.drew (h:Held w0 w b s tab p):Held w0 w.drew b s tab p:=Held.call ((ap _ w).drew) h
theorem Held.ca (h:Held w0 w b s tab p):w.cell? ⟨b,257,none⟩=some (aa ab p):=h.lex.ca
theorem kh (w:au) (a:Addr) (v:aC) (q:Addr):(w.setCell a v).frozen? q=w.frozen? q:=by
 unfold World.frozen? bw
 simp only [Array.getElem?_modify]
 by_cases h:a.block=q.block
 ·rw [if_pos h]
  cases w.heap[q.block]? with
  | none=>rfl
  | some o=>cases o <;> rfl
 ·rw [if_neg h]
theorem Held.set (h:Held w0 w b s tab p) (o:Nat) (v:aC):Held w0 (w.setCell ⟨w0.heap.size,o,none⟩ v) b s tab p:=by
 obtain ⟨A,B,C,D,E,F,G,q,r,t,x,y,z⟩:=h.tok
 have c:(w.setCell ⟨w0.heap.size,o,none⟩ v).heap.size=w.heap.size:=by simp [bw]
 have e:∀(k:Nat) (u:aC),w.cell? ⟨w0.heap.size,k,none⟩=some u->∃u',(w.setCell ⟨w0.heap.size,o,none⟩ v).cell? ⟨w0.heap.size,k,none⟩=some u':=fun k u d=>by
  by_cases a:o=k
  ·subst a;exact ⟨v,World.cell?_setCell_same w _ v d⟩
  ·exact ⟨u,(World.cell?_setCell_other w _ _ v (by intro n;injection n with _ h2 _;exact a h2)).trans d⟩
 obtain ⟨u0,f⟩:=e 0 _ q
 obtain ⟨u1,g⟩:=e 1 _ r
 obtain ⟨u2,i⟩:=e 2 _ t
 obtain ⟨u3,j⟩:=e 3 _ x
 obtain ⟨u4,l⟩:=e 4 _ y
 obtain ⟨u5,m⟩:=e 5 _ z
 exact ⟨h.lex.same (by rw [c];exact ae _) (Below.heap_setCell w _ v b (by have:=h.blt;show b≠w0.heap.size;omega)),h.bel.setCell (p:=⟨w0.heap.size,o,none⟩) (ae _) v,⟨fun k=>(kh _ _ _ _).trans (A k),u0,u1,u2,u3,u4,u5,f,g,i,j,l,m⟩,by rw [c];exact h.lt,h.blt⟩
theorem Held.sets (h:Held w0 w b s tab p) (a c d e f g:aC):Held w0 ((((((w.setCell ⟨w0.heap.size,0,none⟩ a).setCell ⟨w0.heap.size,1,none⟩ c).setCell ⟨w0.heap.size,2,none⟩ d).setCell ⟨w0.heap.size,3,none⟩ e).setCell ⟨w0.heap.size,4,none⟩ f).setCell ⟨w0.heap.size,5,none⟩ g) b s tab p :=
 (((((h.set 0 a).set 1 c).set 2 d).set 3 e).set 4 f).set 5 g
theorem Held.keep (h:Held w0 w b s tab p):w.cell? ⟨b,257,none⟩=some (aa ab p)/\Held w0 w b s tab p:=⟨h.ca,h⟩
end
theorem yP (b:Nat) (s:ByteArray) (tab:Int->Int) (p:Nat) (w:au) (h:Lex w b s tab p) (I:p<s.size) :
  aU am 90 #[ar (some ⟨b,0,none⟩)] w fun e w'=>dL (pl (ba tab s.data.toList) p) e/\aB w.heap.size w w':=by
 have J:=h.sz
 have d:=Held.start h
 have G:=h.lt
 have E:=h.ca
 clear h
 have F:Hid ((ba tab s.data.toList).length=s.size):=by show _=_;rw [bL];simp
 generalize k:ba tab s.data.toList=M at *
 have i:=zq k
 clear k
 have n:=zq (show pl M p=dI (ir (ak M p)) ((M.drop p).take 1) p (p+1) from rfl)
 have hd:((ak M p==33)=true\/((ak M p==33)=false/\(ak M p==59)=true))\/((ak M p==33)=false/\(ak M p==59)=false):=by grind
 rcases hd with (a | ⟨a,c⟩) | ⟨a,c⟩
 all_goals
  have D:∃q,Hid (ir (ak M p)=q)/\(q=1\/q=6):=⟨_,rfl,by unfold ir;split <;> simp⟩
  go_enter Tryz.func90,Tryz.ntmps90
  go_wp2_with fail
  refine (bE _ _ _ _ _ _ d.lex (by omega)).mono ?_;rintro e T ⟨rfl,j⟩;rw [aI,i.out]
  have m:=Held.call j d
  clear d j
  go_wp2_with fail
  have K:IntKind.i64.wrap ((p:Int)+1)=(p:Int)+1:=IntWalk.i64_in _ (by omega)
  go_region_held3 (fun w'=>w'.cell? ⟨b,257,none⟩=some (aa ab p)/\Held w w' b s tab p) (first | with_reducible exact m.drew.keep | with_reducible exact Held.keep (Held.call (by with_reducible assumption) (And.right (by with_reducible assumption))) | with_reducible exact Held.keep (Held.sets (And.right (by with_reducible assumption)) _ _ _ _ _ _))
   (first
    | (go_at_call 129;((with_reducible refine (iF b s tab p p (p+1) _ ?_ ?_ ?_ ?_).mono ?_);(· with_reducible exact Held.lex (And.right (by with_reducible assumption)));(· omega);(· omega);(· omega);rintro e C ⟨rfl,f⟩;rw [aI,i.out,show ((p:Int)+1-p).toNat=1 by omega]))
    | (go_at_call 128;((with_reducible refine (kV b s tab p _ _ _ _ ?_ ?_).mono ?_);(· with_reducible exact Held.lex (And.right (by with_reducible assumption)));(· have:=List.length_take_le 1 (M.drop p);simp;omega);rintro e C ⟨g,f⟩;generalize l:dI _ _ _ _=r at g;have o:=zq l;clear l;unfold dL bq at g;subst g;obtain ⟨L,N,O,P,Q,R,S,u,x,y,z,A,B⟩:=(Held.call f (And.right (by with_reducible assumption))).tok;have H:=(Held.call f (And.right (by with_reducible assumption))).lt)))
  go_wp2_with fail
  refine aw (v:=bq r) (by simp [bq,results,Tryz.results90,go_sem,u,x,y,z,A,B]) rfl ⟨?_,Held.bel (And.right (by with_reducible assumption))⟩
  have t:=o.out
  rw [n.out,<-t]
  unfold ir;first | (rw [if_pos (by simpa using Or.inl (by simpa using a))];rfl) | (rw [if_pos (by simp at c;exact Or.inr c)];rfl) | (rw [if_neg (by simp at a c;omega)];rfl)
theorem pO (c:Int) (w:au) (a:0<=c) (b:c<=255) :
  aU am 194 #[aa .u8 c] w fun e w'=>e=aD (aa ab (oN c))/\w=w':=by
 go_enter Tryz.func194,Tryz.ntmps194
 go_wp2
 all_goals (go_ret;exact ⟨dl (by unfold oN;grind),rfl⟩)
def mL (a:Int) (b:List UInt8):Int:=if bg a b<=9223372036854775808 then -(bg a b:Int) else 0
def mM (a:Int) (b:List UInt8):Int:=if bg a b<=9223372036854775808 then 0 else 10
theorem mR (s:ByteArray) (base:Int) (ds:List UInt8) (w:au) (b:s.data.toList=45::ds) (X:0<ds.length) (a4:ds.length<=16384) (J:2<=base) (g:base<=36)
  (D:∀k,k<ds.length->oN (jn ds k)<base) :
  aU am 172 #[ac s,aa ab base] w fun e w'=>e=aD (aJ #[aa ab (mL base ds),aa ab (mM base ds)])/\w=w':=by
 have j:s.size=ds.length+1:=by rw [<-ci,b];rfl
 have a2:1<s.size:=by omega
 have T:0<s.size:=by omega
 have r:=lC s 0 T
 have t:jn s.data.toList 0=45:=by rw [b];rfl
 rw [t] at r
 have Z:=zq b
 have o:=zq D
 have G:=zq j
 have a3:s.size<=16385:=by omega
 have m:(s.extract 1 s.size).data.toList=ds:=by rw [Lib.extract_data,b];simp [j]
 have S:(s.extract 1 s.size).toList.isEmpty=false:=by
  rw [Go.ByteArray.toList_eq,m];cases ds <;> simp at X |-
 have f:=zq m
 clear b D t j m
 go_enter Tryz.func172,Tryz.ntmps172
 go_wp2
 generalize hd:s.extract 1 s.size=d at *
 have A:d.size=ds.length:=by rw [<-ci,f.out]
 have B:s.size-1=d.size:=by have:=G.out;omega
 rw [B]
 have c:=zq A
 have a0:d.size<=16384:=by omega
 clear hd A B r S
 go_loop [4,31] (fun n i=>∃k:Nat,k<=d.size/\i=aa ab k/\n=aa ab 0) (fun _ i=>d.size-(intOf i).toNat)
 case atStart=>exact ⟨0,bc _,rfl,rfl⟩
 case round=>
  obtain ⟨k,hk,rfl,rfl⟩:=hrel
  by_cases U:k<d.size
  ·have K:=lC d k U
   rw [f.out] at K
   have M:=kj ds k
   have P:=lD ds k
   have z:oN (jn ds k)<base:=o.out k (by have:=c.out;omega)
   go_wp2_with (go_at_call 194;refine (pO _ _ M P).mono ?_;rintro e w' ⟨rfl,rfl⟩)
   go_round
   case rel=>exact ⟨k+1,by omega,by go_num,rfl⟩
   case measure=>simp [intOf];omega
  ·go_wp2_with fail
   go_loop [4,43] (fun n i=>∃k:Nat,k<=d.size/\i=aa ab k/\n=aa ab (-(bg base (ds.take k):Int))/\bg base (ds.take k)<=9223372036854775808) (fun _ i=>d.size-(intOf i).toNat)
   case atStart=>exact ⟨0,bc _,rfl,rfl,by simp [bg]⟩
   case round=>
    obtain ⟨a,a1,rfl,rfl,l⟩:=hrel
    by_cases V:a<d.size
    ·have L:=lC d a V
     rw [f.out] at L
     have O:=kj ds a
     have Q:=lD ds a
     have C:a<ds.length:=by have:=c.out;omega
     have z:=o.out a C
     have y:=ze (jn ds a)
     have R:=zf (jn ds a)
     have q:=zq (show (bg base (ds.take (a+1)):Int)=bg base (ds.take a) * base+oN (jn ds a) by
      rw [pI base ds a C,tJ _ _ J g z]
      push_cast
      rw [Int.toNat_of_nonneg (by omega),Int.toNat_of_nonneg y])
     have F:=zq (lp base (by omega) ds (a+1))
     have p:=zq (uI (bg base (ds.take a)) (oN (jn ds a)) base (by omega) y R)
     generalize x:bg base (ds.take a)=N at *
     have Y:=zq x
     clear x
     go_wp2_with (go_at_call 194;refine (pO _ _ O Q).mono ?_;rintro e w' ⟨rfl,rfl⟩)
     ·have W:=p.out.1 (by assumption)
      go_ret2
      refine ⟨vF ?_,rfl⟩
      have g:=q.out
      have u:=F.out
      have v:¬bg base ds<=9223372036854775808:=by omega
      unfold mL mM
      rw [if_neg v,if_neg v]
      rfl
     ·have W:(N:Int) * base+oN (jn ds a)<=9223372036854775808:=by
       have u:=p.out.2
       rcases Int.lt_or_le 9223372036854775808 ((N:Int) * base+oN (jn ds a)) with h | h
       ·have:=u h;omega
       ·exact h
      have a5:0<=(N:Int) * base:=Int.mul_nonneg (by omega) (by omega)
      have H:wrap64 (-(N:Int) * base)=-((N:Int) * base):=by rw [Int.neg_mul];exact cg _ (by omega)
      have I:wrap64 (-((N:Int) * base)-oN (jn ds a))=-((N:Int) * base)-oN (jn ds a):=cg _ (by omega)
      rw [H,I]
      have g:=q.out
      go_round
      case rel=>exact ⟨a+1,by omega,by go_num,congrArg (dA dN) (by omega),by omega⟩
      case measure=>simp [intOf];omega
    ·have E:=zq (show ds.take a=ds from List.take_of_length_le (by have:=c.out;omega))
     rw [E.out] at l |-
     go_wp2
     go_ret2
     refine ⟨vF ?_,rfl⟩
     unfold mL mM
     rw [if_pos l,if_pos l]
     rfl
theorem lh (c:Int) (w:au) :
  aU am 199 #[aa ab c] w fun e w'=>e=aD (aJ #[aa ab (mX c),av (iD c)])/\w=w':=by
 go_enter Tryz.func199,Tryz.ntmps199
 go_wp2
 go_loop [4] (fun i=>∃k:Nat,k<=7/\i=aa ab k/\gG (letters.take k) c=false) (fun i=>7-(intOf i).toNat)
 case atStart=>exact ⟨0,bc _,rfl,rfl⟩
 case round=>
  obtain ⟨k,p,rfl,h⟩:=hrel
  have f:=zq h
  clear h
  by_cases d:k<7
  ·have l:=lC ⟨#[97,98,116,110,118,102,114]⟩ k d
   have m:jn [97,98,116,110,118,102,114] k=jn letters k:=rfl
   have n:=kj letters k
   have o:=lD letters k
   have j:=zq (qe letters k c d)
   by_cases b:jn letters k=c
   ·have a:=zq (AW k d c b)
    have g:(jn letters k==c)=true:=by simp [b]
    clear b
    go_wp2
    go_ret2
    exact ⟨mI (by unfold mX;rw [a.out];rfl) (by unfold iD;rw [a.out];rfl),rfl⟩
   ·have g:(jn letters k==c)=false:=by simp [b]
    clear b
    go_wp2
    go_round
    case rel=>exact ⟨k+1,by omega,by go_num,by rw [j.out,f.out,g];rfl⟩
    case measure=>simp [intOf];omega
  ·have a:=zq (AU c (ru letters k c (by show 7<=k;omega) f.out))
   go_wp2_with (go_at_call 183;refine (qN _ _ _ (by decide)).mono ?_;rintro e w' ⟨rfl,rfl⟩)
   all_goals
    go_ret2
    exact ⟨mI (by unfold mX;rw [a.out];grind) (by unfold iD;rw [a.out];grind),rfl⟩
theorem zB:∀n:Nat,n<256->(¬((n:Int)=92\/(n:Int)=39\/(n:Int)=34\/(n:Int)=96))->xC n=if dX letters n.toUInt8<0 then none else some (7+dX letters n.toUInt8):=by decide +kernel
theorem xJ (c:Int) (h:iM c=true) (b:¬(c=92\/c=39\/c=34\/c=96)):xC c=if dX letters c.toNat.toUInt8<0 then none else some (7+dX letters c.toNat.toUInt8):=by
 obtain ⟨a,d⟩:=(iG c).1 h
 obtain ⟨n,rfl⟩:=bU a
 exact zB n (by omega) b
def Bs (c:Int):Int:=dX letters c.toNat.toUInt8
theorem Br:∀n:Nat,n<256->Lib.indexByte letters n.toUInt8<=6:=by decide +kernel
theorem ki (c:Int) (w:au) :
  aU am 169 #[aa ab c] w fun e w'=>e=aD (aJ #[aa ab (mX c),av (iD c)])/\w=w':=by
 by_cases b:c=92\/c=39\/c=34\/c=96
 ·have a:=zq (show xC c=some c by unfold xC;rw [if_pos b])
  go_enter Tryz.func169,Tryz.ntmps169
  go_wp2
  all_goals (first | (exfalso;grind) | (go_ret2;exact ⟨mI (by unfold mX;rw [a.out];rfl) (by unfold iD;rw [a.out];rfl),rfl⟩))
 ·have j:(c==92)=false:=by grind
  have k:(c==39)=false:=by grind
  have l:(c==34)=false:=by grind
  have m:(c==96)=false:=by grind
  cases hc:iM c
  ·have a:=zq (show xC c=none by have:=iG c;unfold xC;grind)
   have d:=zq b
   clear b
   go_enter Tryz.func169,Tryz.ntmps169
   go_wp2_with (first | (go_at_call 84;refine (mc _ _).mono ?_;rintro e w' ⟨rfl,rfl⟩))
   go_ret2
   exact ⟨mI (by unfold mX;rw [a.out];rfl) (by unfold iD;rw [a.out];rfl),rfl⟩
  ·have a:=zq (xJ c hc b)
   obtain ⟨f,g⟩:=(iG c).1 hc
   have h:-1<=Bs c:=Lib.indexByte_ge _ _
   have i:Bs c<=6:=by
    obtain ⟨n,rfl⟩:=bU f
    exact Br n (by omega)
   have d:=zq b
   clear b
   go_enter Tryz.func169,Tryz.ntmps169
   go_wp2_with (first | (go_at_call 84;refine (mc _ _).mono ?_;rintro e w' ⟨rfl,rfl⟩) | (go_at_call 137;refine (ks _ _ _).mono ?_;rintro e w' ⟨rfl,rfl⟩;rw [show dX (ByteArray.mk #[97,98,116,110,118,102,114]).data.toList c.toNat.toUInt8=Bs c from rfl]))
   all_goals
    go_ret2
    exact ⟨mI (by unfold mX;rw [a.out];show _=(if Bs c<0 then none else some (7+Bs c)).getD 0;grind) (by unfold iD;rw [a.out];show _=(if Bs c<0 then none else some (7+Bs c)).isSome;grind),rfl⟩
theorem gT (b:Nat) (s:ByteArray) (tab:Int->Int) (d i a:Int) (w:au) (h:Lex w b s tab d) (f:0<=i) :
  aU am 131 #[ar (some ⟨b,0,none⟩),aa ab i,aa ab a] w fun e w'=>e=aD (aa ab (i+br (bJ a) ((ba tab s.data.toList).drop i.toNat)))/\aB w.heap.size w w':=by
 have c:=(ap w.heap.size w).alloc (ae _) (.cells #[aa ab a] 3)
 have L:=zq (h.below c h.lt)
 clear h
 go_enter Tryz.func131,Tryz.ntmps131
 go_wp2_with fail
 refine (zQ b s tab d i a w.heap.size _ L.out f (by simp) (by simp)).mono ?_;rintro e j ⟨rfl,g⟩
 go_wp2_with fail
 go_ret
 exact ⟨dl rfl,c.trans (g.mono (by simp))⟩
theorem yt (a:Int) (b:List UInt8) (h:bg a b<=9223372036854775808):mL a b=-(bg a b:Int)/\mM a b=0:=by unfold mL mM;rw [if_pos h,if_pos h];exact ⟨rfl,rfl⟩
theorem yu (a:Int) (b:List UInt8) (h:¬bg a b<=9223372036854775808):mL a b=0/\mM a b=10:=by unfold mL mM;rw [if_neg h,if_neg h];exact ⟨rfl,rfl⟩
theorem iP (b:Nat) (s:ByteArray) (tab:Int->Int) (p a c:Int) (t:List UInt8) (w:au) (h:Lex w b s tab p) (n:0<t.length) (o:t.length<=16384) (l:2<=a) (m:a<=36)
  (r:∀k,k<t.length->oN (jn t k)<a) :
  aU am 132 #[ar (some ⟨b,0,none⟩),ac ⟨t.toArray⟩,aa ab a,aa ab c] w fun e w'=>dL (fM a t p c) e/\aB w.heap.size w w':=by
 have y:=Held.start h
 have D:=h.lt
 have A:=h.ca
 clear h
 have j:=zq r
 clear r
 by_cases f:bg a t<=9223372036854775808
 ·have d:=zq (yt a t f)
  by_cases i:bg a t=9223372036854775808
  ·have g:=zq (show fM a t p c=⟨4,[],-9223372036854775808,p,c,0⟩ by unfold fM;rw [if_pos f,if_pos i])
   have x:=zq i
   clear f i
   go_enter Tryz.func132,Tryz.ntmps132
   go_wp2_with fail
   refine (mR _ a t _ (by simp) n o l m j.out).mono ?_;rintro e u ⟨rfl,rfl⟩;rw [d.out.1,d.out.2,x.out]
   go_wp2_with fail
   refine aw (v:=bq ⟨4,[],-9223372036854775808,p,c,0⟩) (by simp [bq,results,Tryz.results132,go_sem]) rfl ⟨?_,(ap _ _).alloc (ae _) _⟩
   rw [g.out];rfl
  ·have g:=zq (show fM a t p c=⟨4,[],bg a t,p,c,0⟩ by unfold fM;rw [if_pos f,if_neg i])
   have B:((-(bg a t:Int)) == -9223372036854775808)=false:=by simp;omega
   have C:((-(bg a t:Int)) != -9223372036854775808)=true:=by simp;omega
   have E:(bg a t:Int)<=9223372036854775807:=by omega
   clear i
   generalize q:bg a t=N at *
   have z:=zq q
   clear q
   go_enter Tryz.func132,Tryz.ntmps132
   go_wp2_with fail
   refine (mR _ a t _ (by simp) n o l m j.out).mono ?_;rintro e u ⟨rfl,rfl⟩;rw [d.out.1,d.out.2]
   go_wp2_with fail
   refine aw (v:=bq ⟨4,[],(N:Int),p,c,0⟩) (by simp [bq,results,Tryz.results132,go_sem]) rfl ⟨?_,(ap _ _).alloc (ae _) _⟩
   rw [g.out];rfl
 ·have d:=zq (yu a t f)
  have g:=zq (show fM a t p c=cY 7 by unfold fM;rw [if_neg f])
  clear f
  go_enter Tryz.func132,Tryz.ntmps132
  go_wp2_with fail
  refine (mR _ a t _ (by simp) n o l m j.out).mono ?_;rintro e u ⟨rfl,rfl⟩;rw [d.out.1,d.out.2]
  go_wp2_with fail
  refine aw (v:=bq (cY 7)) (by simp [bq,cY,results,Tryz.results132,go_sem]) rfl ⟨?_,(ap _ _).alloc (ae _) _⟩
  rw [g.out];rfl
def QRes (r:Option (Int×Nat)) (i:Int) (e:Ending):Prop :=
 match r with
 | some (c,k)=>e=aD (aJ #[aa ab c,aa ab (i+k),av true])
 | none=>∃c n,e=aD (aJ #[aa ab c,aa ab n,av false])
theorem QRes.no {r:Option (Int×Nat)} {i c n:Int} (h:r=none):QRes r i (aD (aJ #[aa ab c,aa ab n,av false])):=by subst h;exact ⟨c,n,rfl⟩
theorem QRes.yes {r:Option (Int×Nat)} {i c n:Int} {k:Nat} (h:r=some (c,k)) (a:n=i+k):QRes r i (aD (aJ #[aa ab c,aa ab n,av true])):=by subst h;subst a;rfl
theorem eV (b:Nat) (s:ByteArray) (tab:Int->Int) (b0 i q:Int) (w:au) (h:Lex w b s tab b0) (h0:0<=i) (hi:i<=20000) :
  aU am 130 #[ar (some ⟨b,0,none⟩),aa ab i,aa ab q] w fun e w'=>QRes (cD (s.data.toList.drop i.toNat) q) i e/\w=w':=by
 obtain ⟨k,rfl⟩:=bU h0
 have L:=zq h
 clear h
 rw [aI]
 have r0:ak (s.data.toList.drop k) 0=ak s.data.toList k:=by rw [bQ,bj]
 have r1:ak (s.data.toList.drop k) 1=ak s.data.toList (k+1):=bQ _ _ _
 have J:=zq r0
 have R:=zq r1
 clear r0 r1
 generalize hM:s.data.toList=M at *
 have d:=zq hM
 clear hM
 by_cases G:ak M k<0\/ak M k=10
 ·have f:=zq (show cD (M.drop k) q=none by unfold cD;rw [J.out,if_pos G])
  have hd:decide (ak M k<0)=true\/(decide (ak M k<0)=false/\(ak M k==10)=true):=by grind
  clear G
  rcases hd with d1 | ⟨d1,d2⟩
  all_goals
   go_enter Tryz.func130,Tryz.ntmps130
   go_wp2_with fail
   refine (bV _ _ _ _ _ _ L.out (by omega)).mono ?_;rintro e a ⟨rfl,rfl⟩;rw [aI,d.out]
   go_wp2_with fail
   go_ret3
   exact ⟨QRes.no f.out,rfl⟩
 have d1:decide (ak M k<0)=false:=by simp;omega
 have d2:(ak M k==10)=false:=by simp;omega
 by_cases H:ak M k=q
 ·have b2:(ak M k==q)=true:=by simp [H]
  have U:=zq G
  have O:=zq H
  clear G H
  by_cases r:ak M (k+1)=q
  ·have b3:(ak M (k+1)==q)=true:=by simp [r]
   have f:=zq (show cD (M.drop k) q=some (q,2) by unfold cD;rw [J.out,R.out,if_neg U.out,if_pos O.out,if_pos r])
   clear r
   go_enter Tryz.func130,Tryz.ntmps130
   go_wp2_with fail
   refine (bV _ _ _ _ _ _ L.out (by omega)).mono ?_;rintro e a ⟨rfl,rfl⟩;rw [aI,d.out]
   go_wp2_with fail
   refine (bV _ _ _ _ _ _ L.out (by omega)).mono ?_;rintro e a ⟨rfl,rfl⟩;rw [show ((k:Int)+1).toNat=k+1 by omega,d.out]
   go_wp2_with fail
   go_ret3
   exact ⟨QRes.yes (f.out.trans (by rw [O.out])) rfl,rfl⟩
  ·have b3:(ak M (k+1)==q)=false:=by simp [r]
   have f:=zq (show cD (M.drop k) q=none by unfold cD;rw [J.out,R.out,if_neg U.out,if_pos O.out,if_neg r])
   clear r
   go_enter Tryz.func130,Tryz.ntmps130
   go_wp2_with fail
   refine (bV _ _ _ _ _ _ L.out (by omega)).mono ?_;rintro e a ⟨rfl,rfl⟩;rw [aI,d.out]
   go_wp2_with fail
   refine (bV _ _ _ _ _ _ L.out (by omega)).mono ?_;rintro e a ⟨rfl,rfl⟩;rw [show ((k:Int)+1).toNat=k+1 by omega,d.out]
   go_wp2_with fail
   go_ret3
   exact ⟨QRes.no f.out,rfl⟩
 have b2:(ak M k==q)=false:=by simp [H]
 by_cases r:ak M k=92
 ·have b3:(ak M k != 92)=false:=by simp [r]
  have U:=zq G
  have O:=zq H
  have A3:=zq r
  clear G H r
  cases a4:iD (ak M (k+1))
  ·have P:=zq a4
   clear a4
   have HF:∃o:Nat,∃y:Int,Hid (gV (M.drop k)=o)/\Hid (lw (M.drop k)=y)/\(((ak M (k+1)==120)=true/\o=2/\y=16)\/((ak M (k+1)==120)=false/\o=1/\y=8)):=by
    refine ⟨_,_,rfl,rfl,?_⟩
    unfold gV lw;rw [R.out]
    by_cases h:ak M (k+1)=120 <;> simp [h]
   obtain ⟨o,y,E,a8,b1⟩:=HF
   have b7:2<=y/\y<=36:=by omega
   have b8:1<=o/\o<=2:=by omega
   have u:Hid (gU (M.drop k)=br (bJ y) (M.drop (k+o))):=by show _=_;unfold gU;rw [E.out,a8.out,cV]
   have F:Hid (kG (M.drop k)=bg y ((M.drop (k+o)).take (br (bJ y) (M.drop (k+o))))):=by show _=_;unfold kG;rw [u.out,E.out,a8.out,cV]
   have W:Hid (∀j,ak (M.drop k) (o+j)=ak M (k+o+j)):=fun j=>by rw [bQ,Nat.add_assoc]
   generalize a9:br (bJ y) (M.drop (k+o))=D at *
   have I:=zq a9
   clear a9
   have A:Hid (ak (M.drop k) 0=92):=J.out.trans A3.out
   have B:Hid (¬ak (M.drop k) 0=q):=fun h=>O.out (J.out.symm.trans h)
   have C:Hid (iD (ak (M.drop k) 1)=false):=by show _=_;rw [R.out];exact P.out
   have b6:D<=20000:=by
    have l:=bS (bJ y) (M.drop (k+o));rw [I.out] at l
    have X:M.length<=16384:=by rw [<-d.out];have:=L.out.sz;simp;omega
    have h3:(M.drop (k+o)).length<=M.length:=by simp
    omega
   rcases b1 with ⟨x1,rfl,rfl⟩ | ⟨x1,rfl,rfl⟩
   ·have a5:=W
    clear W
    go_enter Tryz.func130,Tryz.ntmps130
    go_wp2_with fail
    refine (bV _ _ _ _ _ _ L.out (by omega)).mono ?_;rintro e a ⟨rfl,rfl⟩;rw [aI,d.out]
    go_wp2_with fail
    refine (bV _ _ _ _ _ _ L.out (by omega)).mono ?_;rintro e a ⟨rfl,rfl⟩;rw [show ((k:Int)+1).toNat=k+1 by omega,d.out]
    go_wp2_with fail
    refine (ki _ _).mono ?_;rintro e a ⟨rfl,rfl⟩;rw [P.out]
    go_wp2_with fail
    go_loop [14,15] (fun n e=>∃j:Nat,j<=D/\e=aa ab (k+2+j:Nat)/\n=aa ab (bg 16 ((M.drop (k+2)).take j))/\bg 16 ((M.drop (k+2)).take j)<=5000) (fun _ e=>k+2+D-(intOf e).toNat)
    case atStart=>exact ⟨0,bc _,by go_num,rfl,by simp [bg]⟩
    case round=>
     obtain ⟨j,hj,rfl,rfl,hn⟩:=hrel
     have Y:=zq (lp 16 (by decide) ((M.drop (k+2)).take D) j)
     have a0:=zq (show ((M.drop (k+2)).take D).take j=(M.drop (k+2)).take j by rw [List.take_take,fx hj])
     by_cases T:j<D
     ·have x:=zq (lm 16 (by decide) (by decide) (M.drop (k+2)) j (by rw [I.out];exact T))
      have Z:=zq (bQ M (k+2) j)
      have g:=zq ((jO (bJ 16) (M.drop (k+2)) j (by rw [I.out];exact T)).1)
      rw [Z.out] at x g
      have b4:=x.out.2.1
      have b5:=x.out.2.2
      have Q:=zq x.out.1
      clear x
      by_cases z:bg 16 ((M.drop (k+2)).take j)<=255
      ·generalize c:bg 16 ((M.drop (k+2)).take j)=N at *
       have v:=zq c
       clear c
       go_wp2_with fail
       refine (bV _ _ _ _ _ _ L.out (by omega)).mono ?_;rintro e a ⟨rfl,rfl⟩;rw [show ((k:Int)+2+j).toNat=k+2+j by omega,d.out]
       go_wp2_with fail
       refine (eN _ _ _).mono ?_;rintro e a ⟨rfl,rfl⟩;rw [show fq (ak M (k+2+j)) 16=true from g.out]
       generalize S:cG (ak M (k+2+j)) 16=V at *
       have HV:=zq S
       clear S
       go_wp2_with fail
       go_round
       case rel=>exact ⟨j+1,by omega,by go_num,congrArg (dA dN) Q.out.symm,by have:=Q.out;omega⟩
       case measure=>simp [intOf];omega
      ·have f:=zq (iB (M.drop k) q A.out B.out C.out (fun m=>z (by
        have l:=m.2.1
        rw [F.out] at l
        have X:=Y.out
        rw [a0.out] at X
        omega)))
       have K:0<j:=by
        rcases Nat.eq_zero_or_pos j with h | h
        ·subst h;exact absurd (by simp [bg]) z
        ·exact h
       generalize c:bg 16 ((M.drop (k+2)).take j)=N at *
       have v:=zq c
       clear c
       go_wp2_with fail
       refine (bV _ _ _ _ _ _ L.out (by omega)).mono ?_;rintro e a ⟨rfl,rfl⟩;rw [show ((k:Int)+2+j).toNat=k+2+j by omega,d.out]
       go_wp2_with fail
       refine (eN _ _ _).mono ?_;rintro e a ⟨rfl,rfl⟩;rw [show fq (ak M (k+2+j)) 16=true from g.out]
       go_wp2_with fail
       go_ret3
       exact ⟨QRes.no f.out,rfl⟩
     ·obtain rfl:j=D:=by omega
      have g:=zq (mf (bJ 16) (nX 16) (M.drop (k+2)))
      rw [I.out,bQ] at g
      by_cases K:0<j
      ·by_cases z:bg 16 ((M.drop (k+2)).take j)<=255
       ·have p:=a5.out j
        by_cases t:ak M (k+2+j)=92
        ·have a7:(ak M (k+2+j)==92)=true:=by simp [t]
         have f:=zq (nZ (M.drop k) q A.out B.out C.out ⟨by rw [u.out];exact K,by rw [F.out];exact z,by rw [E.out,u.out,p,t]⟩)
         have a6:=zq p
         clear t p
         generalize c:bg 16 ((M.drop (k+2)).take j)=N at *
         have v:=zq c
         clear c
         go_wp2_with fail
         refine (bV _ _ _ _ _ _ L.out (by omega)).mono ?_;rintro e a ⟨rfl,rfl⟩;rw [show ((k:Int)+2+j).toNat=k+2+j by omega,d.out]
         go_wp2_with fail
         refine (eN _ _ _).mono ?_;rintro e a ⟨rfl,rfl⟩;rw [show fq (ak M (k+2+j)) 16=false from g.out]
         go_wp2_with fail
         refine (bV _ _ _ _ _ _ L.out (by omega)).mono ?_;rintro e a ⟨rfl,rfl⟩;rw [show ((k:Int)+2+j).toNat=k+2+j by omega,d.out]
         go_wp2_with fail
         go_ret3
         exact ⟨QRes.yes (f.out.trans (by rw [F.out,E.out,u.out])) (by omega),rfl⟩
        ·have a7:(ak M (k+2+j)==92)=false:=by simp [t]
         have f:=zq (iB (M.drop k) q A.out B.out C.out (fun m=>t (by have:=m.2.2;rw [E.out,u.out,p] at this;exact this)))
         have a6:=zq p
         clear t p
         generalize c:bg 16 ((M.drop (k+2)).take j)=N at *
         have v:=zq c
         clear c
         go_wp2_with fail
         refine (bV _ _ _ _ _ _ L.out (by omega)).mono ?_;rintro e a ⟨rfl,rfl⟩;rw [show ((k:Int)+2+j).toNat=k+2+j by omega,d.out]
         go_wp2_with fail
         refine (eN _ _ _).mono ?_;rintro e a ⟨rfl,rfl⟩;rw [show fq (ak M (k+2+j)) 16=false from g.out]
         go_wp2_with fail
         refine (bV _ _ _ _ _ _ L.out (by omega)).mono ?_;rintro e a ⟨rfl,rfl⟩;rw [show ((k:Int)+2+j).toNat=k+2+j by omega,d.out]
         go_wp2_with fail
         go_ret3
         exact ⟨QRes.no f.out,rfl⟩
       ·have f:=zq (iB (M.drop k) q A.out B.out C.out (fun m=>z (by have l:=m.2.1;rw [F.out] at l;exact l)))
        generalize c:bg 16 ((M.drop (k+2)).take j)=N at *
        have v:=zq c
        clear c
        go_wp2_with fail
        refine (bV _ _ _ _ _ _ L.out (by omega)).mono ?_;rintro e a ⟨rfl,rfl⟩;rw [show ((k:Int)+2+j).toNat=k+2+j by omega,d.out]
        go_wp2_with fail
        refine (eN _ _ _).mono ?_;rintro e a ⟨rfl,rfl⟩;rw [show fq (ak M (k+2+j)) 16=false from g.out]
        go_wp2_with fail
        go_ret3
        exact ⟨QRes.no f.out,rfl⟩
      ·have f:=zq (iB (M.drop k) q A.out B.out C.out (fun m=>K (by have l:=m.1;rw [u.out] at l;exact l)))
       generalize c:bg 16 ((M.drop (k+2)).take j)=N at *
       have v:=zq c
       clear c
       go_wp2_with fail
       refine (bV _ _ _ _ _ _ L.out (by omega)).mono ?_;rintro e a ⟨rfl,rfl⟩;rw [show ((k:Int)+2+j).toNat=k+2+j by omega,d.out]
       go_wp2_with fail
       refine (eN _ _ _).mono ?_;rintro e a ⟨rfl,rfl⟩;rw [show fq (ak M (k+2+j)) 16=false from g.out]
       go_wp2_with fail
       go_ret3
       exact ⟨QRes.no f.out,rfl⟩
   ·have a5:=W
    clear W
    go_enter Tryz.func130,Tryz.ntmps130
    go_wp2_with fail
    refine (bV _ _ _ _ _ _ L.out (by omega)).mono ?_;rintro e a ⟨rfl,rfl⟩;rw [aI,d.out]
    go_wp2_with fail
    refine (bV _ _ _ _ _ _ L.out (by omega)).mono ?_;rintro e a ⟨rfl,rfl⟩;rw [show ((k:Int)+1).toNat=k+1 by omega,d.out]
    go_wp2_with fail
    refine (ki _ _).mono ?_;rintro e a ⟨rfl,rfl⟩;rw [P.out]
    go_wp2_with fail
    go_loop [14,15] (fun n e=>∃j:Nat,j<=D/\e=aa ab (k+1+j:Nat)/\n=aa ab (bg 8 ((M.drop (k+1)).take j))/\bg 8 ((M.drop (k+1)).take j)<=5000) (fun _ e=>k+1+D-(intOf e).toNat)
    case atStart=>exact ⟨0,bc _,by go_num,rfl,by simp [bg]⟩
    case round=>
     obtain ⟨j,hj,rfl,rfl,hn⟩:=hrel
     have Y:=zq (lp 8 (by decide) ((M.drop (k+1)).take D) j)
     have a0:=zq (show ((M.drop (k+1)).take D).take j=(M.drop (k+1)).take j by rw [List.take_take,fx hj])
     by_cases T:j<D
     ·have x:=zq (lm 8 (by decide) (by decide) (M.drop (k+1)) j (by rw [I.out];exact T))
      have Z:=zq (bQ M (k+1) j)
      have g:=zq ((jO (bJ 8) (M.drop (k+1)) j (by rw [I.out];exact T)).1)
      rw [Z.out] at x g
      have b4:=x.out.2.1
      have b5:=x.out.2.2
      have Q:=zq x.out.1
      clear x
      by_cases z:bg 8 ((M.drop (k+1)).take j)<=255
      ·generalize c:bg 8 ((M.drop (k+1)).take j)=N at *
       have v:=zq c
       clear c
       go_wp2_with fail
       refine (bV _ _ _ _ _ _ L.out (by omega)).mono ?_;rintro e a ⟨rfl,rfl⟩;rw [show ((k:Int)+1+j).toNat=k+1+j by omega,d.out]
       go_wp2_with fail
       refine (eN _ _ _).mono ?_;rintro e a ⟨rfl,rfl⟩;rw [show fq (ak M (k+1+j)) 8=true from g.out]
       generalize S:cG (ak M (k+1+j)) 8=V at *
       have HV:=zq S
       clear S
       go_wp2_with fail
       go_round
       case rel=>exact ⟨j+1,by omega,by go_num,congrArg (dA dN) Q.out.symm,by have:=Q.out;omega⟩
       case measure=>simp [intOf];omega
      ·have f:=zq (iB (M.drop k) q A.out B.out C.out (fun m=>z (by
        have l:=m.2.1
        rw [F.out] at l
        have X:=Y.out
        rw [a0.out] at X
        omega)))
       have K:0<j:=by
        rcases Nat.eq_zero_or_pos j with h | h
        ·subst h;exact absurd (by simp [bg]) z
        ·exact h
       generalize c:bg 8 ((M.drop (k+1)).take j)=N at *
       have v:=zq c
       clear c
       go_wp2_with fail
       refine (bV _ _ _ _ _ _ L.out (by omega)).mono ?_;rintro e a ⟨rfl,rfl⟩;rw [show ((k:Int)+1+j).toNat=k+1+j by omega,d.out]
       go_wp2_with fail
       refine (eN _ _ _).mono ?_;rintro e a ⟨rfl,rfl⟩;rw [show fq (ak M (k+1+j)) 8=true from g.out]
       go_wp2_with fail
       go_ret3
       exact ⟨QRes.no f.out,rfl⟩
     ·obtain rfl:j=D:=by omega
      have g:=zq (mf (bJ 8) (nX 8) (M.drop (k+1)))
      rw [I.out,bQ] at g
      by_cases K:0<j
      ·by_cases z:bg 8 ((M.drop (k+1)).take j)<=255
       ·have p:=a5.out j
        by_cases t:ak M (k+1+j)=92
        ·have a7:(ak M (k+1+j)==92)=true:=by simp [t]
         have f:=zq (nZ (M.drop k) q A.out B.out C.out ⟨by rw [u.out];exact K,by rw [F.out];exact z,by rw [E.out,u.out,p,t]⟩)
         have a6:=zq p
         clear t p
         generalize c:bg 8 ((M.drop (k+1)).take j)=N at *
         have v:=zq c
         clear c
         go_wp2_with fail
         refine (bV _ _ _ _ _ _ L.out (by omega)).mono ?_;rintro e a ⟨rfl,rfl⟩;rw [show ((k:Int)+1+j).toNat=k+1+j by omega,d.out]
         go_wp2_with fail
         refine (eN _ _ _).mono ?_;rintro e a ⟨rfl,rfl⟩;rw [show fq (ak M (k+1+j)) 8=false from g.out]
         go_wp2_with fail
         refine (bV _ _ _ _ _ _ L.out (by omega)).mono ?_;rintro e a ⟨rfl,rfl⟩;rw [show ((k:Int)+1+j).toNat=k+1+j by omega,d.out]
         go_wp2_with fail
         go_ret3
         exact ⟨QRes.yes (f.out.trans (by rw [F.out,E.out,u.out])) (by omega),rfl⟩
        ·have a7:(ak M (k+1+j)==92)=false:=by simp [t]
         have f:=zq (iB (M.drop k) q A.out B.out C.out (fun m=>t (by have:=m.2.2;rw [E.out,u.out,p] at this;exact this)))
         have a6:=zq p
         clear t p
         generalize c:bg 8 ((M.drop (k+1)).take j)=N at *
         have v:=zq c
         clear c
         go_wp2_with fail
         refine (bV _ _ _ _ _ _ L.out (by omega)).mono ?_;rintro e a ⟨rfl,rfl⟩;rw [show ((k:Int)+1+j).toNat=k+1+j by omega,d.out]
         go_wp2_with fail
         refine (eN _ _ _).mono ?_;rintro e a ⟨rfl,rfl⟩;rw [show fq (ak M (k+1+j)) 8=false from g.out]
         go_wp2_with fail
         refine (bV _ _ _ _ _ _ L.out (by omega)).mono ?_;rintro e a ⟨rfl,rfl⟩;rw [show ((k:Int)+1+j).toNat=k+1+j by omega,d.out]
         go_wp2_with fail
         go_ret3
         exact ⟨QRes.no f.out,rfl⟩
       ·have f:=zq (iB (M.drop k) q A.out B.out C.out (fun m=>z (by have l:=m.2.1;rw [F.out] at l;exact l)))
        generalize c:bg 8 ((M.drop (k+1)).take j)=N at *
        have v:=zq c
        clear c
        go_wp2_with fail
        refine (bV _ _ _ _ _ _ L.out (by omega)).mono ?_;rintro e a ⟨rfl,rfl⟩;rw [show ((k:Int)+1+j).toNat=k+1+j by omega,d.out]
        go_wp2_with fail
        refine (eN _ _ _).mono ?_;rintro e a ⟨rfl,rfl⟩;rw [show fq (ak M (k+1+j)) 8=false from g.out]
        go_wp2_with fail
        go_ret3
        exact ⟨QRes.no f.out,rfl⟩
      ·have f:=zq (iB (M.drop k) q A.out B.out C.out (fun m=>K (by have l:=m.1;rw [u.out] at l;exact l)))
       generalize c:bg 8 ((M.drop (k+1)).take j)=N at *
       have v:=zq c
       clear c
       go_wp2_with fail
       refine (bV _ _ _ _ _ _ L.out (by omega)).mono ?_;rintro e a ⟨rfl,rfl⟩;rw [show ((k:Int)+1+j).toNat=k+1+j by omega,d.out]
       go_wp2_with fail
       refine (eN _ _ _).mono ?_;rintro e a ⟨rfl,rfl⟩;rw [show fq (ak M (k+1+j)) 8=false from g.out]
       go_wp2_with fail
       go_ret3
       exact ⟨QRes.no f.out,rfl⟩
  ·have P:=zq a4
   have f:=zq (show cD (M.drop k) q=some (mX (ak M (k+1)),2) by unfold cD;rw [J.out,R.out,if_neg U.out,if_neg O.out,if_neg (fun h=>h A3.out),if_pos a4])
   clear a4
   go_enter Tryz.func130,Tryz.ntmps130
   go_wp2_with fail
   refine (bV _ _ _ _ _ _ L.out (by omega)).mono ?_;rintro e a ⟨rfl,rfl⟩;rw [aI,d.out]
   go_wp2_with fail
   refine (bV _ _ _ _ _ _ L.out (by omega)).mono ?_;rintro e a ⟨rfl,rfl⟩;rw [show ((k:Int)+1).toNat=k+1 by omega,d.out]
   go_wp2_with fail
   refine (ki _ _).mono ?_;rintro e a ⟨rfl,rfl⟩;rw [P.out]
   go_wp2_with fail
   go_ret3
   exact ⟨QRes.yes f.out rfl,rfl⟩
 ·have b3:(ak M k != 92)=true:=by simp [r]
  have f:=zq (show cD (M.drop k) q=some (ak M k,1) by unfold cD;rw [J.out,if_neg G,if_neg H,if_pos r])
  clear G H r
  go_enter Tryz.func130,Tryz.ntmps130
  go_wp2_with fail
  refine (bV _ _ _ _ _ _ L.out (by omega)).mono ?_;rintro e a ⟨rfl,rfl⟩;rw [aI,d.out]
  go_wp2_with fail
  go_ret3
  exact ⟨QRes.yes f.out rfl,rfl⟩
end Go.Proofs.YtbojljpldcijgaaGreat
