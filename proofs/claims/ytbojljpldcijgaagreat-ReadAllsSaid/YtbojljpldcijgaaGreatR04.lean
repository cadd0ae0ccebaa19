/- Parts of the proof. -/
import Derived.Test.YtbojljpldcijgaaGreatR01
import Derived.Test.YtbojljpldcijgaaGreatR03
import Derived.Test.YtbojljpldcijgaaGreatR02
import Derived.WalkMore
import Derived.Deep.LoopGhost
import Derived.RegionTactic
import Derived.BigRegion
import Derived.Laws.EntriesVeiled
set_option maxHeartbeats 12800000
set_option maxRecDepth 100000
open Go renaming Calls -> aU, Value -> aC, World -> au, bodyPost_ret -> aw
open Go.Exit renaming noGoto_ret -> fc
open Go.IntKind renaming i64 -> ab
open Go.Proofs.Tryz renaming func54 -> fo, ntmps54 -> eW, ntmps88 -> gY, prog -> am, results54 -> cI, results88 -> fS, results91 -> fm, underlying168 -> aZ, underlying5 -> bA, underlying9 -> bo
open Go.RowKit renaming Below -> aB
open Go.RowKit.Below renaming heap_setCell -> cW, refl -> ap
open Go.Value renaming int -> aa, pointer -> ar
open Go.World renaming cell?_alloc_new -> aF, cell?_setCell_other -> dj, setCell -> bw
open Int renaming toNat_natCast -> aI
open List renaming drop_drop -> cV, length_drop -> aN
open Nat renaming le_refl -> ae
namespace Go.Proofs.YtbojljpldcijgaaGreat
open Go.RowKit Hb
theorem wh (c n:Int) (h:n=(if c=120 then 16 else if c=111 then 8 else if c=98 then 2 else 0)):((c==120)=true/\n=16)\/((c==120)=false/\(c==111)=true/\n=8)\/((c==120)=false/\(c==111)=false/\(c==98)=true/\n=2)\/((c==120)=false/\(c==111)=false/\(c==98)=false/\n=0):=by
 by_cases a:c=120
 ·left;simp [a] at h |-;exact h
 by_cases b:c=111
 ·right;left;simp [b] at h |-;exact h
 by_cases d:c=98
 ·right;right;left;simp [d] at h |-;exact h
 ·right;right;right;simp [a,b,d] at h |-;exact h
theorem zk (l:List UInt8) (n k:Nat) (h:k<n):jn (l.take n) k=jn l k:=by
 unfold jn;simp only [List.getD_eq_getElem?_getD,List.getElem?_take_of_lt h]
theorem jS (base:Int) (c:2<=base) (d:base<=36) (l:List UInt8) (k:Nat) (e:k<(l.take (br (bJ base) l)).length):oN (jn (l.take (br (bJ base) l)) k)<base:=by
 have b:k<br (bJ base) l:=by simp at e;omega
 obtain ⟨a,f⟩:=jO _ _ _ b
 rw [eB _ _ f] at a
 unfold bJ at a
 rw [mr _ _ c d] at a
 rw [zk _ _ _ b]
 simpa using a
theorem jm (a:Int) (l:List UInt8):(l.take (br (bJ a) l)).length=br (bJ a) l:=by
 have:=bS (bJ a) l
 rw [List.length_take,Nat.min_eq_left this]
theorem uR (b:Nat) (s:ByteArray) (tab:Int->Int) (p:Nat) (w:au) (h:Lex w b s tab p) (hp:p<s.size) (a7:bJ 10 (ak (ba tab s.data.toList) p)=true) :
  aU am 88 #[ar (some ⟨b,0,none⟩)] w fun e w'=>dL (ew (ba tab s.data.toList) s.data.toList p) e/\aB w.heap.size w w':=by
 have m:=Held.start h
 have a9:=h.lt
 have ca:=h.ca
 have b3:=h.sz
 clear h
 have Y:Hid ((ba tab s.data.toList).length=s.size):=by show _=_;rw [bL];simp
 generalize hM:ba tab s.data.toList=M at *
 have g:=zq hM
 clear hM
 have b0:1<=br (bJ 10) (M.drop p):=jX _ _ (by simp;have:=Y.out;omega) (by rw [bQ,Nat.add_zero];exact a7)
 clear a7
 by_cases L:ak M p=48
 ·have b1:(ak M p==48)=true:=by simp [L]
  by_cases T:ak M (p+1)=39
  ·have b2:(ak M (p+1)==39)=true:=by simp [T]
   cases hq:cD (s.data.toList.drop (p+2)) 39 with
   | none=>
    have N:=zq (show ew M s.data.toList p=cY 7 by unfold ew;rw [if_pos ⟨L,T⟩,hq])
    have HQ:=zq hq
    clear L T hq
    go_enter Tryz.func88,gY
    go_wp2_with fail
    refine (bE _ _ _ _ _ _ m.lex (by omega)).mono ?_;rintro e w1 ⟨rfl,q⟩;rw [aI,g.out]
    have a:=Held.call q m
    have K:=a.lex.ca
    go_wp2_with fail
    refine (bE _ _ _ _ _ _ a.lex (by omega)).mono ?_;rintro e w2 ⟨rfl,t⟩;rw [show ((p:Int)+1).toNat=p+1 by omega,g.out]
    have d:=Held.call t a
    have U:=d.lex.ca
    clear q t a K m
    go_wp2_with fail
    refine (eV _ _ _ _ _ _ _ d.lex (by omega) (by omega)).mono ?_;rintro e w3 ⟨f,rfl⟩;rw [show ((p:Int)+2).toNat=p+2 by omega,HQ.out] at f
    obtain ⟨x,y,rfl⟩:=f
    obtain ⟨t6,v0,v1,v2,v3,v4,v5,E,F,G,H,I,J⟩:=d.tok
    have Z:=d.lt
    go_wp2_with fail
    refine aw (v:=bq (cY 7)) (by simp [bq,cY,results,fS,go_sem,E,F,G,H,I,J]) rfl ⟨?_,(d.sets _ _ _ _ _ _).bel⟩
    rw [N.out];rfl
   | some ck=>
    obtain ⟨c,k⟩:=ck
    have N:=zq (show ew M s.data.toList p=⟨4,[],c,p,p+2+k,0⟩ by unfold ew;rw [if_pos ⟨L,T⟩,hq])
    have HQ:=zq hq
    clear L T hq
    go_enter Tryz.func88,gY
    go_wp2_with fail
    refine (bE _ _ _ _ _ _ m.lex (by omega)).mono ?_;rintro e w1 ⟨rfl,q⟩;rw [aI,g.out]
    have a:=Held.call q m
    have K:=a.lex.ca
    go_wp2_with fail
    refine (bE _ _ _ _ _ _ a.lex (by omega)).mono ?_;rintro e w2 ⟨rfl,t⟩;rw [show ((p:Int)+1).toNat=p+1 by omega,g.out]
    have d:=Held.call t a
    have U:=d.lex.ca
    clear q t a K m
    go_wp2_with fail
    refine (eV _ _ _ _ _ _ _ d.lex (by omega) (by omega)).mono ?_;rintro e w3 ⟨f,rfl⟩;rw [show ((p:Int)+2).toNat=p+2 by omega,HQ.out] at f
    unfold QRes at f
    simp only [] at f
    subst f
    obtain ⟨t6,v0,v1,v2,v3,v4,v5,E,F,G,H,I,J⟩:=d.tok
    have Z:=d.lt
    go_wp2_with fail
    refine aw (v:=bq ⟨4,[],c,p,p+2+k,0⟩) (by simp [bq,results,fS,go_sem,E,F,G,H,I,J]) rfl ⟨?_,(d.sets _ _ _ _ _ _).bel⟩
    rw [N.out];rfl
  ·have b2:(ak M (p+1)==39)=false:=by simp [T]
   by_cases X:0<cS M p/\0<br (bJ (cS M p)) (M.drop (p+2))
   ·have N:=zq (show ew M s.data.toList p=fM (cS M p) ((M.drop (p+2)).take (br (bJ (cS M p)) (M.drop (p+2)))) p (p+2+br (bJ (cS M p)) (M.drop (p+2))) by unfold ew;rw [if_neg (fun h=>T h.2),if_pos X])
    have HN:=zq (show cS M p=(if ak M (p+1)=120 then 16 else if ak M (p+1)=111 then 8 else if ak M (p+1)=98 then 2 else 0) by unfold cS;rw [if_pos L])
    have a5:((ak M (p+1)==120)=true/\cS M p=16)\/((ak M (p+1)==120)=false/\(ak M (p+1)==111)=true/\cS M p=8)\/((ak M (p+1)==120)=false/\(ak M (p+1)==111)=false/\(ak M (p+1)==98)=true/\cS M p=2):=by
     have h2:=X.1
     rcases wh _ _ HN.out with h | h | h | h
     ·exact .inl h
     ·exact .inr (.inl h)
     ·exact .inr (.inr h)
     ·exact absurd h.2.2.2 (by omega)
    have h3:=X.2
    clear L T X HN
    have a6:2<=cS M p/\cS M p<=36:=by omega
    generalize a4:cS M p=bs at *
    have a8:=zq a4
    clear a4
    have S:=bS (bJ bs) (M.drop (p+2))
    rw [aN,Y.out] at S
    have u:=zq (jm bs (M.drop (p+2)))
    have P:=zq (jS bs a6.1 a6.2 (M.drop (p+2)))
    generalize B:br (bJ bs) (M.drop (p+2))=D at *
    have O:=zq B
    clear B
    rcases a5 with ⟨x1,rfl⟩ | ⟨x1,x2,rfl⟩ | ⟨x1,x2,x3,rfl⟩
    all_goals
     go_enter Tryz.func88,gY
     go_wp2_with fail
     refine (bE _ _ _ _ _ _ m.lex (by omega)).mono ?_;rintro e w1 ⟨rfl,q⟩;rw [aI,g.out]
     have a:=Held.call q m
     have K:=a.lex.ca
     go_wp2_with fail
     refine (bE _ _ _ _ _ _ a.lex (by omega)).mono ?_;rintro e w2 ⟨rfl,t⟩;rw [show ((p:Int)+1).toNat=p+1 by omega,g.out]
     have d:=Held.call t a
     have U:=d.lex.ca
     clear q t a K m
     go_wp2_with fail
     refine (gT _ _ _ _ _ _ _ d.lex (by omega)).mono ?_;rintro e W ⟨rfl,l⟩;rw [show ((p:Int)+2).toNat=p+2 by omega,g.out,O.out]
     have i:=Held.call l d
     have R:=i.lex.ca
     go_wp2_with fail
     refine (iF _ _ _ _ _ _ _ i.lex (by omega) (by omega) (by omega)).mono ?_;rintro e wB ⟨rfl,z⟩;rw [show ((p:Int)+2).toNat=p+2 by omega,g.out,show ((p:Int)+2+D-(p+2)).toNat=D by omega]
     have n:=Held.call z i
     go_wp2_with fail
     refine (iP _ _ _ _ _ _ _ _ n.lex (by rw [u.out];omega) (by rw [u.out];omega) (by decide) (by decide) P.out).mono ?_;rintro e wC ⟨f,A⟩
     have o:=Held.call A n
     generalize C:fM _ _ _ _=r at f
     have Q:=zq C
     clear C l z A i n d U R
     unfold dL bq at f;subst f
     obtain ⟨t6,v0,v1,v2,v3,v4,v5,E,F,G,H,I,J⟩:=o.tok
     have Z:=o.lt
     go_wp2_with fail
     refine aw (v:=bq r) (by simp [bq,results,fS,go_sem,E,F,G,H,I,J]) rfl ⟨?_,(o.sets _ _ _ _ _ _).bel⟩
     rw [N.out,Q.out];rfl
   ·have N:=zq (show ew M s.data.toList p=fM 10 ((M.drop p).take (br (bJ 10) (M.drop p))) p (p+br (bJ 10) (M.drop p)) by unfold ew;rw [if_neg (fun h=>T h.2),if_neg X])
    have HN:=zq (show cS M p=(if ak M (p+1)=120 then 16 else if ak M (p+1)=111 then 8 else if ak M (p+1)=98 then 2 else 0) by unfold cS;rw [if_pos L])
    have a5:((ak M (p+1)==120)=true/\cS M p=16)\/((ak M (p+1)==120)=false/\(ak M (p+1)==111)=true/\cS M p=8)\/((ak M (p+1)==120)=false/\(ak M (p+1)==111)=false/\(ak M (p+1)==98)=true/\cS M p=2)\/((ak M (p+1)==120)=false/\(ak M (p+1)==111)=false/\(ak M (p+1)==98)=false/\cS M p=0):=wh _ _ HN.out
    have A3:=zq X
    clear L T X HN
    generalize a4:cS M p=bs at *
    have a8:=zq a4
    clear a4
    rcases a5 with ⟨x1,rfl⟩ | ⟨x1,x2,rfl⟩ | ⟨x1,x2,x3,rfl⟩ | ⟨x1,x2,x3,rfl⟩
    ·have a0:=zq (show br (bJ 16) (M.drop (p+2))=0 by have:=A3.out;omega)
     go_enter Tryz.func88,gY
     go_wp2_with fail
     refine (bE _ _ _ _ _ _ m.lex (by omega)).mono ?_;rintro e w1 ⟨rfl,q⟩;rw [aI,g.out]
     have a:=Held.call q m
     have K:=a.lex.ca
     go_wp2_with fail
     refine (bE _ _ _ _ _ _ a.lex (by omega)).mono ?_;rintro e w2 ⟨rfl,t⟩;rw [show ((p:Int)+1).toNat=p+1 by omega,g.out]
     have d:=Held.call t a
     have U:=d.lex.ca
     clear q t a K m
     go_wp2_with fail
     refine (gT _ _ _ _ _ _ _ d.lex (by omega)).mono ?_;rintro e W ⟨rfl,l⟩;rw [show ((p:Int)+2).toNat=p+2 by omega,g.out,show br (bJ 16) (M.drop (p+2))=0 from a0.out]
     have j:=Held.call l d
     clear l d U
     have cm:=j.lex.ca
     go_wp2_with fail
     have S:=bS (bJ 10) (M.drop p)
     rw [aN,Y.out] at S
     have u:=zq (jm 10 (M.drop p))
     have P:=zq (jS 10 (by decide) (by decide) (M.drop p))
     have V:=j.lex.ca
     generalize B:br (bJ 10) (M.drop p)=D at *
     have O:=zq B
     clear B
     go_wp2_with fail
     refine (gT _ _ _ _ _ _ _ j.lex (by omega)).mono ?_;rintro e W ⟨rfl,l⟩;rw [aI,g.out,O.out]
     have i:=Held.call l j
     have R:=i.lex.ca
     go_wp2_with fail
     refine (iF _ _ _ _ _ _ _ i.lex (by omega) (by omega) (by omega)).mono ?_;rintro e wB ⟨rfl,z⟩;rw [aI,g.out,show ((p:Int)+D-p).toNat=D by omega]
     have n:=Held.call z i
     go_wp2_with fail
     refine (iP _ _ _ _ _ _ _ _ n.lex (by rw [u.out];omega) (by rw [u.out];omega) (by decide) (by decide) P.out).mono ?_;rintro e wC ⟨f,A⟩
     have o:=Held.call A n
     generalize C:fM _ _ _ _=r at f
     have Q:=zq C
     clear C l z A i n j V R
     unfold dL bq at f;subst f
     obtain ⟨t6,v0,v1,v2,v3,v4,v5,E,F,G,H,I,J⟩:=o.tok
     have Z:=o.lt
     go_wp2_with fail
     refine aw (v:=bq r) (by simp [bq,results,fS,go_sem,E,F,G,H,I,J]) rfl ⟨?_,(o.sets _ _ _ _ _ _).bel⟩
     rw [N.out,Q.out];rfl
    ·have a0:=zq (show br (bJ 8) (M.drop (p+2))=0 by have:=A3.out;omega)
     go_enter Tryz.func88,gY
     go_wp2_with fail
     refine (bE _ _ _ _ _ _ m.lex (by omega)).mono ?_;rintro e w1 ⟨rfl,q⟩;rw [aI,g.out]
     have a:=Held.call q m
     have K:=a.lex.ca
     go_wp2_with fail
     refine (bE _ _ _ _ _ _ a.lex (by omega)).mono ?_;rintro e w2 ⟨rfl,t⟩;rw [show ((p:Int)+1).toNat=p+1 by omega,g.out]
     have d:=Held.call t a
     have U:=d.lex.ca
     clear q t a K m
     go_wp2_with fail
     refine (gT _ _ _ _ _ _ _ d.lex (by omega)).mono ?_;rintro e W ⟨rfl,l⟩;rw [show ((p:Int)+2).toNat=p+2 by omega,g.out,show br (bJ 8) (M.drop (p+2))=0 from a0.out]
     have j:=Held.call l d
     clear l d U
     have cm:=j.lex.ca
     go_wp2_with fail
     have S:=bS (bJ 10) (M.drop p)
     rw [aN,Y.out] at S
     have u:=zq (jm 10 (M.drop p))
     have P:=zq (jS 10 (by decide) (by decide) (M.drop p))
     have V:=j.lex.ca
     generalize B:br (bJ 10) (M.drop p)=D at *
     have O:=zq B
     clear B
     go_wp2_with fail
     refine (gT _ _ _ _ _ _ _ j.lex (by omega)).mono ?_;rintro e W ⟨rfl,l⟩;rw [aI,g.out,O.out]
     have i:=Held.call l j
     have R:=i.lex.ca
     go_wp2_with fail
     refine (iF _ _ _ _ _ _ _ i.lex (by omega) (by omega) (by omega)).mono ?_;rintro e wB ⟨rfl,z⟩;rw [aI,g.out,show ((p:Int)+D-p).toNat=D by omega]
     have n:=Held.call z i
     go_wp2_with fail
     refine (iP _ _ _ _ _ _ _ _ n.lex (by rw [u.out];omega) (by rw [u.out];omega) (by decide) (by decide) P.out).mono ?_;rintro e wC ⟨f,A⟩
     have o:=Held.call A n
     generalize C:fM _ _ _ _=r at f
     have Q:=zq C
     clear C l z A i n j V R
     unfold dL bq at f;subst f
     obtain ⟨t6,v0,v1,v2,v3,v4,v5,E,F,G,H,I,J⟩:=o.tok
     have Z:=o.lt
     go_wp2_with fail
     refine aw (v:=bq r) (by simp [bq,results,fS,go_sem,E,F,G,H,I,J]) rfl ⟨?_,(o.sets _ _ _ _ _ _).bel⟩
     rw [N.out,Q.out];rfl
    ·have a0:=zq (show br (bJ 2) (M.drop (p+2))=0 by have:=A3.out;omega)
     go_enter Tryz.func88,gY
     go_wp2_with fail
     refine (bE _ _ _ _ _ _ m.lex (by omega)).mono ?_;rintro e w1 ⟨rfl,q⟩;rw [aI,g.out]
     have a:=Held.call q m
     have K:=a.lex.ca
     go_wp2_with fail
     refine (bE _ _ _ _ _ _ a.lex (by omega)).mono ?_;rintro e w2 ⟨rfl,t⟩;rw [show ((p:Int)+1).toNat=p+1 by omega,g.out]
     have d:=Held.call t a
     have U:=d.lex.ca
     clear q t a K m
     go_wp2_with fail
     refine (gT _ _ _ _ _ _ _ d.lex (by omega)).mono ?_;rintro e W ⟨rfl,l⟩;rw [show ((p:Int)+2).toNat=p+2 by omega,g.out,show br (bJ 2) (M.drop (p+2))=0 from a0.out]
     have j:=Held.call l d
     clear l d U
     have cm:=j.lex.ca
     go_wp2_with fail
     have S:=bS (bJ 10) (M.drop p)
     rw [aN,Y.out] at S
     have u:=zq (jm 10 (M.drop p))
     have P:=zq (jS 10 (by decide) (by decide) (M.drop p))
     have V:=j.lex.ca
     generalize B:br (bJ 10) (M.drop p)=D at *
     have O:=zq B
     clear B
     go_wp2_with fail
     refine (gT _ _ _ _ _ _ _ j.lex (by omega)).mono ?_;rintro e W ⟨rfl,l⟩;rw [aI,g.out,O.out]
     have i:=Held.call l j
     have R:=i.lex.ca
     go_wp2_with fail
     refine (iF _ _ _ _ _ _ _ i.lex (by omega) (by omega) (by omega)).mono ?_;rintro e wB ⟨rfl,z⟩;rw [aI,g.out,show ((p:Int)+D-p).toNat=D by omega]
     have n:=Held.call z i
     go_wp2_with fail
     refine (iP _ _ _ _ _ _ _ _ n.lex (by rw [u.out];omega) (by rw [u.out];omega) (by decide) (by decide) P.out).mono ?_;rintro e wC ⟨f,A⟩
     have o:=Held.call A n
     generalize C:fM _ _ _ _=r at f
     have Q:=zq C
     clear C l z A i n j V R
     unfold dL bq at f;subst f
     obtain ⟨t6,v0,v1,v2,v3,v4,v5,E,F,G,H,I,J⟩:=o.tok
     have Z:=o.lt
     go_wp2_with fail
     refine aw (v:=bq r) (by simp [bq,results,fS,go_sem,E,F,G,H,I,J]) rfl ⟨?_,(o.sets _ _ _ _ _ _).bel⟩
     rw [N.out,Q.out];rfl
    ·have Hq:True:=trivial
     go_enter Tryz.func88,gY
     go_wp2_with fail
     refine (bE _ _ _ _ _ _ m.lex (by omega)).mono ?_;rintro e w1 ⟨rfl,q⟩;rw [aI,g.out]
     have a:=Held.call q m
     have K:=a.lex.ca
     go_wp2_with fail
     refine (bE _ _ _ _ _ _ a.lex (by omega)).mono ?_;rintro e w2 ⟨rfl,t⟩;rw [show ((p:Int)+1).toNat=p+1 by omega,g.out]
     have d:=Held.call t a
     have U:=d.lex.ca
     clear q t a K m
     go_wp2_with fail
     have j:=d
     clear d
     have S:=bS (bJ 10) (M.drop p)
     rw [aN,Y.out] at S
     have u:=zq (jm 10 (M.drop p))
     have P:=zq (jS 10 (by decide) (by decide) (M.drop p))
     have V:=j.lex.ca
     generalize B:br (bJ 10) (M.drop p)=D at *
     have O:=zq B
     clear B
     refine (gT _ _ _ _ _ _ _ j.lex (by omega)).mono ?_;rintro e W ⟨rfl,l⟩;rw [aI,g.out,O.out]
     have i:=Held.call l j
     have R:=i.lex.ca
     go_wp2_with fail
     refine (iF _ _ _ _ _ _ _ i.lex (by omega) (by omega) (by omega)).mono ?_;rintro e wB ⟨rfl,z⟩;rw [aI,g.out,show ((p:Int)+D-p).toNat=D by omega]
     have n:=Held.call z i
     go_wp2_with fail
     refine (iP _ _ _ _ _ _ _ _ n.lex (by rw [u.out];omega) (by rw [u.out];omega) (by decide) (by decide) P.out).mono ?_;rintro e wC ⟨f,A⟩
     have o:=Held.call A n
     generalize C:fM _ _ _ _=r at f
     have Q:=zq C
     clear C l z A i n j V R
     unfold dL bq at f;subst f
     obtain ⟨t6,v0,v1,v2,v3,v4,v5,E,F,G,H,I,J⟩:=o.tok
     have Z:=o.lt
     go_wp2_with fail
     refine aw (v:=bq r) (by simp [bq,results,fS,go_sem,E,F,G,H,I,J]) rfl ⟨?_,(o.sets _ _ _ _ _ _).bel⟩
     rw [N.out,Q.out];rfl
 ·have b1:(ak M p==48)=false:=by simp [L]
  have N:=zq (show ew M s.data.toList p=fM 10 ((M.drop p).take (br (bJ 10) (M.drop p))) p (p+br (bJ 10) (M.drop p)) by unfold ew;rw [if_neg (fun h=>L h.1),if_neg (fun h=>absurd h.1 (by unfold cS;rw [if_neg L];decide))])
  clear L
  go_enter Tryz.func88,gY
  go_wp2_with fail
  refine (bE _ _ _ _ _ _ m.lex (by omega)).mono ?_;rintro e w1 ⟨rfl,q⟩;rw [aI,g.out]
  have a:=Held.call q m
  have K:=a.lex.ca
  go_wp2_with fail
  have j:=a
  clear a
  have S:=bS (bJ 10) (M.drop p)
  rw [aN,Y.out] at S
  have u:=zq (jm 10 (M.drop p))
  have P:=zq (jS 10 (by decide) (by decide) (M.drop p))
  have V:=j.lex.ca
  generalize B:br (bJ 10) (M.drop p)=D at *
  have O:=zq B
  clear B
  refine (gT _ _ _ _ _ _ _ j.lex (by omega)).mono ?_;rintro e W ⟨rfl,l⟩;rw [aI,g.out,O.out]
  have i:=Held.call l j
  have R:=i.lex.ca
  go_wp2_with fail
  refine (iF _ _ _ _ _ _ _ i.lex (by omega) (by omega) (by omega)).mono ?_;rintro e wB ⟨rfl,z⟩;rw [aI,g.out,show ((p:Int)+D-p).toNat=D by omega]
  have n:=Held.call z i
  go_wp2_with fail
  refine (iP _ _ _ _ _ _ _ _ n.lex (by rw [u.out];omega) (by rw [u.out];omega) (by decide) (by decide) P.out).mono ?_;rintro e wC ⟨f,A⟩
  have o:=Held.call A n
  generalize C:fM _ _ _ _=r at f
  have Q:=zq C
  clear C l z A i n j V R
  unfold dL bq at f;subst f
  obtain ⟨t6,v0,v1,v2,v3,v4,v5,E,F,G,H,I,J⟩:=o.tok
  have Z:=o.lt
  go_wp2_with fail
  refine aw (v:=bq r) (by simp [bq,results,fS,go_sem,E,F,G,H,I,J]) rfl ⟨?_,(o.sets _ _ _ _ _ _).bel⟩
  rw [N.out,Q.out];rfl
theorem jR {w:au} {b:Nat} {v:aC} {a:List UInt8} {x:UInt8} (h:w.ownsRow b 5 1 v (a.length+1) (Hb.byteCells (a++[x]))):w.ownsRow b 5 1 v (a++[x]).length (Hb.byteCells (a++[x])):=by
 rw [List.length_append];exact h
theorem qu (b:Nat) (s:ByteArray) (tab:Int->Int) (p:Nat) (w:au) (h:Lex w b s tab p) (hp:p<s.size) (T:ak (ba tab s.data.toList) p=34) :
  aU am 91 #[ar (some ⟨b,0,none⟩)] w fun e w'=>dL (gR (ba tab s.data.toList) s.data.toList p) e/\aB w.heap.size w w':=by
 have H0:=Held.start h
 have a8:=h.lt
 have ca:=h.ca
 have a9:=h.sz
 clear h
 have a6:Hid ((ba tab s.data.toList).length=s.size):=by show _=_;rw [bL];simp
 generalize hM:ba tab s.data.toList=M at *
 have HM:=zq hM
 clear hM
 have b1:(ak M p==34)=true:=by simp [T]
 have S:=zq (show gR M s.data.toList p=lO p (fA (s.data.toList.drop (p+1)) 34 [] 0) by unfold gR;rw [if_pos T];unfold fA;simp)
 have A1:=zq T
 clear T
 have a0:(s.data.toList.drop (p+1)).length=s.size-(p+1):=by rw [aN,ci]
 have a3:=zq a0
 clear a0
 go_enter Tryz.func91,Tryz.ntmps91
 go_wp2_with fail
 go_step3
 go_wp2_with fail
 refine (bE _ _ _ _ _ _ H0.lex (by omega)).mono ?_;rintro e w1 ⟨rfl,a2⟩;rw [aI,HM.out]
 have H1:=Held.call a2 H0
 have c1:=H1.lex.ca
 rw [A1.out]
 go_wp2_with fail
 go_step3
 go_wp2_with fail
 go_loopw [6,7] (fun v i wr=>∃j:Nat,∃l:List UInt8,p+1+j<=s.size/\l.length<=j/\i=aa ab (p+1+j:Nat)/\Held w wr b s tab p/\wr.ownsRow (w.heap.size+1) 5 1 v l.length (Hb.byteCells l)/\Hid (fA (s.data.toList.drop (p+1)) 34 l j=fA (s.data.toList.drop (p+1)) 34 [] 0)) (fun _ i _=>s.size-(intOf i).toNat)
 case atStart=>exact ⟨0,[],by omega,ae _,by go_num,H1,⟨by simp [Hb.byteCells],.inl ⟨rfl,rfl⟩⟩,rfl⟩
 case round=>
  obtain ⟨j,l,hj,a4,rfl,a,J,z⟩:=hrel
  have a7:=a.lt
  have cX:=a.lex.ca
  have m:=zq (bQ s.data.toList (p+1) j)
  have n:Hid (ak (s.data.toList.drop (p+1)) (j+1)=ak s.data.toList (p+1+j+1)):=bQ s.data.toList (p+1) (j+1)
  by_cases u:ak s.data.toList (p+1+j)=34
  ·have b0:(ak s.data.toList (p+1+j)==34)=true:=by simp [u]
   have b2:(ak s.data.toList (p+1+j)==92)=false:=by simp [u]
   by_cases H:ak s.data.toList (p+1+j+1)=34
   ·have U:(ak s.data.toList (p+1+j+1) != 34)=false:=by simp [H]
    have q:¬(ak s.data.toList (p+1+j)=34/\¬ak s.data.toList (p+1+j+1)=34):=fun h=>h.2 H
    have r:¬(ak s.data.toList (p+1+j)=92/\ak s.data.toList (p+1+j+1)=10):=fun h=>absurd h.1 (by rw [u];decide)
    clear u H
    cases hqs:cD (s.data.toList.drop (p+1+j)) 34 with
    | none=>
     have o:=zq (ix (s.data.toList.drop (p+1)) 34 (by decide) l j (by rw [m.out,n.out];exact q) (by rw [m.out,n.out];exact r) (by rw [cV];exact hqs))
     have t:=zq hqs
     clear hqs q r
     go_wp2_with fail
     refine (bV _ _ _ _ _ _ a.lex (by omega)).mono ?_;rintro e d ⟨rfl,rfl⟩;rw [show ((p:Int)+1+j).toNat=p+1+j by omega]
     go_wp2_with fail
     refine (bV _ _ _ _ _ _ a.lex (by omega)).mono ?_;rintro e d ⟨rfl,rfl⟩;rw [show ((p:Int)+1+j+1).toNat=p+1+j+1 by omega]
     go_wp2_with fail
     refine (bV _ _ _ _ _ _ a.lex (by omega)).mono ?_;rintro e d ⟨rfl,rfl⟩;rw [show ((p:Int)+1+j).toNat=p+1+j by omega]
     go_wp2_with fail
     refine (eV _ _ _ _ _ _ _ a.lex (by omega) (by omega)).mono ?_;rintro e d ⟨f,rfl⟩;rw [show ((p:Int)+1+j).toNat=p+1+j by omega,t.out] at f
     obtain ⟨x,y,rfl⟩:=f
     obtain ⟨X,Y,K,Z,v3,v4,v5,B,C,D,E,F,G⟩:=a.tok
     have W:=a.lt
     go_wp2_with fail
     try rw [fc]
     refine aw (v:=bq (cY 7)) (by simp [bq,cY,results,fm,go_sem,B,C,D,E,F,G]) rfl ⟨?_,(a.sets _ _ _ _ _ _).bel⟩
     rw [S.out,<-z.out,o.out];rfl
    | some ck=>
     obtain ⟨c,k⟩:=ck
     have g:=eU _ _ _ _ (by decide) hqs
     rw [aN] at g
     have o:=zq (gN (s.data.toList.drop (p+1)) 34 (by decide) l j k c (by rw [m.out,n.out];exact q) (by rw [m.out,n.out];exact r) (by rw [cV];exact hqs))
     have t:=zq hqs
     have a1:1<=k:=g.1
     have V:p+1+j+k<=s.size:=by have:=g.2.1;have:=g.1;rw [ci] at *;omega
     have O:0<=c:=g.2.2.1
     have Q:c<=255:=g.2.2.2
     clear hqs q r g
     go_wp2_with fail
     refine (bV _ _ _ _ _ _ a.lex (by omega)).mono ?_;rintro e d ⟨rfl,rfl⟩;rw [show ((p:Int)+1+j).toNat=p+1+j by omega]
     go_wp2_with fail
     refine (bV _ _ _ _ _ _ a.lex (by omega)).mono ?_;rintro e d ⟨rfl,rfl⟩;rw [show ((p:Int)+1+j+1).toNat=p+1+j+1 by omega]
     go_wp2_with fail
     refine (bV _ _ _ _ _ _ a.lex (by omega)).mono ?_;rintro e d ⟨rfl,rfl⟩;rw [show ((p:Int)+1+j).toNat=p+1+j by omega]
     go_wp2_with fail
     refine (eV _ _ _ _ _ _ _ a.lex (by omega) (by omega)).mono ?_;rintro e d ⟨f,rfl⟩;rw [show ((p:Int)+1+j).toNat=p+1+j by omega,t.out] at f
     unfold QRes at f
     simp only [] at f
     subst f
     go_wp2_with (at_builtin;go_must (refine dx rfl _ _ 168 5 rfl aZ kg (w.heap.size+1) _ _ _ rfl _ J _ O Q rfl rfl (by omega) (by have:=a.lt;omega) ?_;intro K w2 R N))
     have L:=Held.callB N (by omega) a
     go_roundw
     case rel=>exact ⟨j+k,l++[c.toNat.toUInt8],by omega,by simp;omega,by go_num,L,jR R,by rw [<-o.out];exact z.out⟩
     case measure=>simp [intOf];omega
   ·have U:(ak s.data.toList (p+1+j+1) != 34)=true:=by simp [H]
    have o:=zq (mQ (s.data.toList.drop (p+1)) 34 (by decide) l j (by rw [m.out];exact u) (by rw [n.out];exact H))
    clear u H
    have hc:=iZ (P:=am) wr 168 9 5 aZ bA bo _ _ _ _ J
    obtain ⟨X,Y,K,Z,v3,v4,v5,B,C,D,E,F,G⟩:=a.tok
    go_wp2_with fail
    refine (bV _ _ _ _ _ _ a.lex (by omega)).mono ?_;rintro e d ⟨rfl,rfl⟩;rw [show ((p:Int)+1+j).toNat=p+1+j by omega]
    go_wp2_with fail
    refine (bV _ _ _ _ _ _ a.lex (by omega)).mono ?_;rintro e d ⟨rfl,rfl⟩;rw [show ((p:Int)+1+j+1).toNat=p+1+j+1 by omega]
    go_wp2_with fail
    have W:=a.lt
    have a5:=iZ (P:=am) wr.drew 168 9 5 aZ bA bo _ _ _ _ J.drew
    go_region
    go_wp2_with fail
    try rw [fc]
    refine aw (v:=bq ⟨5,l,0,p,p+1+j+1,0⟩) (by simp [bq,results,fm,go_sem,B,C,D,E,F,G]) rfl ⟨?_,(a.sets _ _ _ _ _ _).drew.bel⟩
    rw [S.out,<-z.out,o.out];rfl
  ·have b0:(ak s.data.toList (p+1+j)==34)=false:=by simp [u]
   have q:¬(ak s.data.toList (p+1+j)=34/\¬ak s.data.toList (p+1+j+1)=34):=fun h=>u h.1
   clear u
   by_cases A:ak s.data.toList (p+1+j)=92
   ·have b2:(ak s.data.toList (p+1+j)==92)=true:=by simp [A]
    by_cases I:ak s.data.toList (p+1+j+1)=10
    ·have U:(ak s.data.toList (p+1+j+1)==10)=true:=by simp [I]
     have o:=zq (lX (s.data.toList.drop (p+1)) 34 (by decide) l j (by rw [m.out,n.out];exact q) (by rw [m.out];exact A) (by rw [n.out];exact I))
     have V:p+1+j+2<=s.size:=by have:=bX s.data.toList (p+1+j+1);rw [ci] at this;omega
     clear A I q
     iterate 2
      go_wp2_with fail
      refine (bV _ _ _ _ _ _ a.lex (by omega)).mono ?_;rintro e d ⟨rfl,rfl⟩;rw [show ((p:Int)+1+j).toNat=p+1+j by omega]
     go_wp2_with fail
     refine (bV _ _ _ _ _ _ a.lex (by omega)).mono ?_;rintro e d ⟨rfl,rfl⟩;rw [show ((p:Int)+1+j+1).toNat=p+1+j+1 by omega]
     go_wp2_with fail
     go_roundw
     case rel=>exact ⟨j+2,l,by omega,by omega,by go_num,a,J,by rw [<-o.out];exact z.out⟩
     case measure=>simp [intOf];omega
    ·have U:(ak s.data.toList (p+1+j+1)==10)=false:=by simp [I]
     have r:¬(ak s.data.toList (p+1+j)=92/\ak s.data.toList (p+1+j+1)=10):=fun h=>I h.2
     clear A I
     cases hqs:cD (s.data.toList.drop (p+1+j)) 34 with
     | none=>
      have o:=zq (ix (s.data.toList.drop (p+1)) 34 (by decide) l j (by rw [m.out,n.out];exact q) (by rw [m.out,n.out];exact r) (by rw [cV];exact hqs))
      have t:=zq hqs
      clear hqs q r
      iterate 2
       go_wp2_with fail
       refine (bV _ _ _ _ _ _ a.lex (by omega)).mono ?_;rintro e d ⟨rfl,rfl⟩;rw [show ((p:Int)+1+j).toNat=p+1+j by omega]
      go_wp2_with fail
      refine (bV _ _ _ _ _ _ a.lex (by omega)).mono ?_;rintro e d ⟨rfl,rfl⟩;rw [show ((p:Int)+1+j+1).toNat=p+1+j+1 by omega]
      go_wp2_with fail
      refine (eV _ _ _ _ _ _ _ a.lex (by omega) (by omega)).mono ?_;rintro e d ⟨f,rfl⟩;rw [show ((p:Int)+1+j).toNat=p+1+j by omega,t.out] at f
      obtain ⟨x,y,rfl⟩:=f
      obtain ⟨X,Y,K,Z,v3,v4,v5,B,C,D,E,F,G⟩:=a.tok
      have W:=a.lt
      go_wp2_with fail
      try rw [fc]
      refine aw (v:=bq (cY 7)) (by simp [bq,cY,results,fm,go_sem,B,C,D,E,F,G]) rfl ⟨?_,(a.sets _ _ _ _ _ _).bel⟩
      rw [S.out,<-z.out,o.out];rfl
     | some ck=>
      obtain ⟨c,k⟩:=ck
      have g:=eU _ _ _ _ (by decide) hqs
      rw [aN] at g
      have o:=zq (gN (s.data.toList.drop (p+1)) 34 (by decide) l j k c (by rw [m.out,n.out];exact q) (by rw [m.out,n.out];exact r) (by rw [cV];exact hqs))
      have t:=zq hqs
      have a1:1<=k:=g.1
      have V:p+1+j+k<=s.size:=by have:=g.2.1;have:=g.1;rw [ci] at *;omega
      have O:0<=c:=g.2.2.1
      have Q:c<=255:=g.2.2.2
      clear hqs q r g
      iterate 2
       go_wp2_with fail
       refine (bV _ _ _ _ _ _ a.lex (by omega)).mono ?_;rintro e d ⟨rfl,rfl⟩;rw [show ((p:Int)+1+j).toNat=p+1+j by omega]
      go_wp2_with fail
      refine (bV _ _ _ _ _ _ a.lex (by omega)).mono ?_;rintro e d ⟨rfl,rfl⟩;rw [show ((p:Int)+1+j+1).toNat=p+1+j+1 by omega]
      go_wp2_with fail
      refine (eV _ _ _ _ _ _ _ a.lex (by omega) (by omega)).mono ?_;rintro e d ⟨f,rfl⟩;rw [show ((p:Int)+1+j).toNat=p+1+j by omega,t.out] at f
      unfold QRes at f
      simp only [] at f
      subst f
      go_wp2_with (at_builtin;go_must (refine dx rfl _ _ 168 5 rfl aZ kg (w.heap.size+1) _ _ _ rfl _ J _ O Q rfl rfl (by omega) (by have:=a.lt;omega) ?_;intro K w2 R N))
      have L:=Held.callB N (by omega) a
      go_roundw
      case rel=>exact ⟨j+k,l++[c.toNat.toUInt8],by omega,by simp;omega,by go_num,L,jR R,by rw [<-o.out];exact z.out⟩
      case measure=>simp [intOf];omega
   ·have b2:(ak s.data.toList (p+1+j)==92)=false:=by simp [A]
    have r:¬(ak s.data.toList (p+1+j)=92/\ak s.data.toList (p+1+j+1)=10):=fun h=>A h.1
    clear A
    cases hqs:cD (s.data.toList.drop (p+1+j)) 34 with
    | none=>
     have o:=zq (ix (s.data.toList.drop (p+1)) 34 (by decide) l j (by rw [m.out,n.out];exact q) (by rw [m.out,n.out];exact r) (by rw [cV];exact hqs))
     have t:=zq hqs
     clear hqs q r
     iterate 2
      go_wp2_with fail
      refine (bV _ _ _ _ _ _ a.lex (by omega)).mono ?_;rintro e d ⟨rfl,rfl⟩;rw [show ((p:Int)+1+j).toNat=p+1+j by omega]
     go_wp2_with fail
     refine (eV _ _ _ _ _ _ _ a.lex (by omega) (by omega)).mono ?_;rintro e d ⟨f,rfl⟩;rw [show ((p:Int)+1+j).toNat=p+1+j by omega,t.out] at f
     obtain ⟨x,y,rfl⟩:=f
     obtain ⟨X,Y,K,Z,v3,v4,v5,B,C,D,E,F,G⟩:=a.tok
     have W:=a.lt
     go_wp2_with fail
     try rw [fc]
     refine aw (v:=bq (cY 7)) (by simp [bq,cY,results,fm,go_sem,B,C,D,E,F,G]) rfl ⟨?_,(a.sets _ _ _ _ _ _).bel⟩
     rw [S.out,<-z.out,o.out];rfl
    | some ck=>
     obtain ⟨c,k⟩:=ck
     have g:=eU _ _ _ _ (by decide) hqs
     rw [aN] at g
     have o:=zq (gN (s.data.toList.drop (p+1)) 34 (by decide) l j k c (by rw [m.out,n.out];exact q) (by rw [m.out,n.out];exact r) (by rw [cV];exact hqs))
     have t:=zq hqs
     have a1:1<=k:=g.1
     have V:p+1+j+k<=s.size:=by have:=g.2.1;have:=g.1;rw [ci] at *;omega
     have O:0<=c:=g.2.2.1
     have Q:c<=255:=g.2.2.2
     clear hqs q r g
     iterate 2
      go_wp2_with fail
      refine (bV _ _ _ _ _ _ a.lex (by omega)).mono ?_;rintro e d ⟨rfl,rfl⟩;rw [show ((p:Int)+1+j).toNat=p+1+j by omega]
     go_wp2_with fail
     refine (eV _ _ _ _ _ _ _ a.lex (by omega) (by omega)).mono ?_;rintro e d ⟨f,rfl⟩;rw [show ((p:Int)+1+j).toNat=p+1+j by omega,t.out] at f
     unfold QRes at f
     simp only [] at f
     subst f
     go_wp2_with (at_builtin;go_must (refine dx rfl _ _ 168 5 rfl aZ kg (w.heap.size+1) _ _ _ rfl _ J _ O Q rfl rfl (by omega) (by have:=a.lt;omega) ?_;intro K w2 R N))
     have L:=Held.callB N (by omega) a
     go_roundw
     case rel=>exact ⟨j+k,l++[c.toNat.toUInt8],by omega,by simp;omega,by go_num,L,jR R,by rw [<-o.out];exact z.out⟩
     case measure=>simp [intOf];omega
theorem si (b:Nat) (s:ByteArray) (tab:Int->Int) (p:Nat) (w:au) (h:Lex w b s tab p) (hp:p<s.size) (T:ak (ba tab s.data.toList) p=39) :
  aU am 91 #[ar (some ⟨b,0,none⟩)] w fun e w'=>dL (gR (ba tab s.data.toList) s.data.toList p) e/\aB w.heap.size w w':=by
 have H0:=Held.start h
 have a9:=h.lt
 have ca:=h.ca
 have b4:=h.sz
 clear h
 have a7:Hid ((ba tab s.data.toList).length=s.size):=by show _=_;rw [bL];simp
 generalize hM:ba tab s.data.toList=M at *
 have HM:=zq hM
 clear hM
 have b1:(ak M p==39)=true:=by simp [T]
 have V:=zq (show gR M s.data.toList p=ts p (fA (s.data.toList.drop (p+1)) 39 [] 0) by unfold gR;rw [if_neg (by rw [T];decide),if_pos T];unfold fA;simp)
 have A1:=zq T
 clear T
 have a2:(s.data.toList.drop (p+1)).length=s.size-(p+1):=by rw [aN,ci]
 have a5:=zq a2
 clear a2
 go_enter Tryz.func91,Tryz.ntmps91
 go_wp2_with fail
 go_step3
 go_wp2_with fail
 refine (bE _ _ _ _ _ _ H0.lex (by omega)).mono ?_;rintro e w1 ⟨rfl,a4⟩;rw [aI,HM.out]
 have H1:=Held.call a4 H0
 have c1:=H1.lex.ca
 rw [A1.out]
 go_wp2_with fail
 go_step3
 go_wp2_with fail
 go_loopw [6,7] (fun v i wr=>∃j:Nat,∃l:List UInt8,p+1+j<=s.size/\l.length<=j/\i=aa ab (p+1+j:Nat)/\Held w wr b s tab p/\wr.ownsRow (w.heap.size+1) 5 1 v l.length (Hb.byteCells l)/\Hid (fA (s.data.toList.drop (p+1)) 39 l j=fA (s.data.toList.drop (p+1)) 39 [] 0)) (fun _ i _=>s.size-(intOf i).toNat)
 case atStart=>exact ⟨0,[],by omega,ae _,by go_num,H1,⟨by simp [Hb.byteCells],.inl ⟨rfl,rfl⟩⟩,rfl⟩
 case round=>
  obtain ⟨j,l,hj,a6,rfl,a,R,G⟩:=hrel
  have a8:=a.lt
  have cX:=a.lex.ca
  have m:=zq (bQ s.data.toList (p+1) j)
  have n:Hid (ak (s.data.toList.drop (p+1)) (j+1)=ak s.data.toList (p+1+j+1)):=bQ s.data.toList (p+1) (j+1)
  by_cases z:ak s.data.toList (p+1+j)=39
  ·have b0:(ak s.data.toList (p+1+j)==39)=true:=by simp [z]
   have b2:(ak s.data.toList (p+1+j)==92)=false:=by simp [z]
   by_cases K:ak s.data.toList (p+1+j+1)=39
   ·have b3:(ak s.data.toList (p+1+j+1) != 39)=false:=by simp [K]
    have q:¬(ak s.data.toList (p+1+j)=39/\¬ak s.data.toList (p+1+j+1)=39):=fun h=>h.2 K
    have t:¬(ak s.data.toList (p+1+j)=92/\ak s.data.toList (p+1+j+1)=10):=fun h=>absurd h.1 (by rw [z];decide)
    clear z K
    cases hqs:cD (s.data.toList.drop (p+1+j)) 39 with
    | none=>
     have o:=zq (ix (s.data.toList.drop (p+1)) 39 (by decide) l j (by rw [m.out,n.out];exact q) (by rw [m.out,n.out];exact t) (by rw [cV];exact hqs))
     have u:=zq hqs
     clear hqs q t
     go_wp2_with fail
     refine (bV _ _ _ _ _ _ a.lex (by omega)).mono ?_;rintro e f ⟨rfl,rfl⟩;rw [show ((p:Int)+1+j).toNat=p+1+j by omega]
     go_wp2_with fail
     refine (bV _ _ _ _ _ _ a.lex (by omega)).mono ?_;rintro e f ⟨rfl,rfl⟩;rw [show ((p:Int)+1+j+1).toNat=p+1+j+1 by omega]
     go_wp2_with fail
     refine (bV _ _ _ _ _ _ a.lex (by omega)).mono ?_;rintro e f ⟨rfl,rfl⟩;rw [show ((p:Int)+1+j).toNat=p+1+j by omega]
     go_wp2_with fail
     refine (eV _ _ _ _ _ _ _ a.lex (by omega) (by omega)).mono ?_;rintro e f ⟨d,rfl⟩;rw [show ((p:Int)+1+j).toNat=p+1+j by omega,u.out] at d
     obtain ⟨x,y,rfl⟩:=d
     obtain ⟨U,W,J,X,Y,Z,v5,A,B,C,D,E,F⟩:=a.tok
     have a1:=a.lt
     go_wp2_with fail
     try rw [fc]
     refine aw (v:=bq (cY 7)) (by simp [bq,cY,results,fm,go_sem,A,B,C,D,E,F]) rfl ⟨?_,(a.sets _ _ _ _ _ _).bel⟩
     rw [V.out,<-G.out,o.out];rfl
    | some ck=>
     obtain ⟨c,k⟩:=ck
     have g:=eU _ _ _ _ (by decide) hqs
     rw [aN] at g
     have o:=zq (gN (s.data.toList.drop (p+1)) 39 (by decide) l j k c (by rw [m.out,n.out];exact q) (by rw [m.out,n.out];exact t) (by rw [cV];exact hqs))
     have u:=zq hqs
     have a3:1<=k:=g.1
     have a0:p+1+j+k<=s.size:=by have:=g.2.1;have:=g.1;rw [ci] at *;omega
     have O:0<=c:=g.2.2.1
     have Q:c<=255:=g.2.2.2
     clear hqs q t g
     go_wp2_with fail
     refine (bV _ _ _ _ _ _ a.lex (by omega)).mono ?_;rintro e f ⟨rfl,rfl⟩;rw [show ((p:Int)+1+j).toNat=p+1+j by omega]
     go_wp2_with fail
     refine (bV _ _ _ _ _ _ a.lex (by omega)).mono ?_;rintro e f ⟨rfl,rfl⟩;rw [show ((p:Int)+1+j+1).toNat=p+1+j+1 by omega]
     go_wp2_with fail
     refine (bV _ _ _ _ _ _ a.lex (by omega)).mono ?_;rintro e f ⟨rfl,rfl⟩;rw [show ((p:Int)+1+j).toNat=p+1+j by omega]
     go_wp2_with fail
     refine (eV _ _ _ _ _ _ _ a.lex (by omega) (by omega)).mono ?_;rintro e f ⟨d,rfl⟩;rw [show ((p:Int)+1+j).toNat=p+1+j by omega,u.out] at d
     unfold QRes at d
     simp only [] at d
     subst d
     go_wp2_with (at_builtin;go_must (refine dx rfl _ _ 168 5 rfl aZ kg (w.heap.size+1) _ _ _ rfl _ R _ O Q rfl rfl (by omega) (by have:=a.lt;omega) ?_;intro J w2 S I))
     have N:=Held.callB I (by omega) a
     go_roundw
     case rel=>exact ⟨j+k,l++[c.toNat.toUInt8],by omega,by simp;omega,by go_num,N,jR S,by rw [<-o.out];exact G.out⟩
     case measure=>simp [intOf];omega
   ·have b3:(ak s.data.toList (p+1+j+1) != 39)=true:=by simp [K]
    have o:=zq (mQ (s.data.toList.drop (p+1)) 39 (by decide) l j (by rw [m.out];exact z) (by rw [n.out];exact K))
    clear z K
    have hc:=iZ (P:=am) wr 168 9 5 aZ bA bo _ _ _ _ R
    obtain ⟨U,W,J,X,Y,Z,v5,A,B,C,D,E,F⟩:=a.tok
    go_wp2_with fail
    refine (bV _ _ _ _ _ _ a.lex (by omega)).mono ?_;rintro e f ⟨rfl,rfl⟩;rw [show ((p:Int)+1+j).toNat=p+1+j by omega]
    go_wp2_with fail
    refine (bV _ _ _ _ _ _ a.lex (by omega)).mono ?_;rintro e f ⟨rfl,rfl⟩;rw [show ((p:Int)+1+j+1).toNat=p+1+j+1 by omega]
    go_wp2_with fail
    refine (kV _ _ _ _ _ _ _ _ a.lex (by omega)).mono ?_;rintro e w2 ⟨d,I⟩
    have HC:=Held.call I a
    generalize hr:dI _ _ _ _=r at d
    have HR:=zq hr
    clear hr A B C D E F U
    unfold dL bq at d;subst d
    obtain ⟨U,W,J,X,Y,Z,v5,A,B,C,D,E,F⟩:=HC.tok
    have a1:=HC.lt
    go_wp2_with fail
    try rw [fc]
    refine aw (v:=bq r) (by simp [bq,results,fm,go_sem,A,B,C,D,E,F]) rfl ⟨?_,(HC.sets _ _ _ _ _ _).bel⟩
    rw [V.out,<-G.out,o.out,<-HR.out];rfl
  ·have b0:(ak s.data.toList (p+1+j)==39)=false:=by simp [z]
   have q:¬(ak s.data.toList (p+1+j)=39/\¬ak s.data.toList (p+1+j+1)=39):=fun h=>z h.1
   clear z
   by_cases H:ak s.data.toList (p+1+j)=92
   ·have b2:(ak s.data.toList (p+1+j)==92)=true:=by simp [H]
    by_cases L:ak s.data.toList (p+1+j+1)=10
    ·have b3:(ak s.data.toList (p+1+j+1)==10)=true:=by simp [L]
     have o:=zq (lX (s.data.toList.drop (p+1)) 39 (by decide) l j (by rw [m.out,n.out];exact q) (by rw [m.out];exact H) (by rw [n.out];exact L))
     have a0:p+1+j+2<=s.size:=by have:=bX s.data.toList (p+1+j+1);rw [ci] at this;omega
     clear H L q
     iterate 2
      go_wp2_with fail
      refine (bV _ _ _ _ _ _ a.lex (by omega)).mono ?_;rintro e f ⟨rfl,rfl⟩;rw [show ((p:Int)+1+j).toNat=p+1+j by omega]
     go_wp2_with fail
     refine (bV _ _ _ _ _ _ a.lex (by omega)).mono ?_;rintro e f ⟨rfl,rfl⟩;rw [show ((p:Int)+1+j+1).toNat=p+1+j+1 by omega]
     go_wp2_with fail
     go_roundw
     case rel=>exact ⟨j+2,l,by omega,by omega,by go_num,a,R,by rw [<-o.out];exact G.out⟩
     case measure=>simp [intOf];omega
    ·have b3:(ak s.data.toList (p+1+j+1)==10)=false:=by simp [L]
     have t:¬(ak s.data.toList (p+1+j)=92/\ak s.data.toList (p+1+j+1)=10):=fun h=>L h.2
     clear H L
     cases hqs:cD (s.data.toList.drop (p+1+j)) 39 with
     | none=>
      have o:=zq (ix (s.data.toList.drop (p+1)) 39 (by decide) l j (by rw [m.out,n.out];exact q) (by rw [m.out,n.out];exact t) (by rw [cV];exact hqs))
      have u:=zq hqs
      clear hqs q t
      iterate 2
       go_wp2_with fail
       refine (bV _ _ _ _ _ _ a.lex (by omega)).mono ?_;rintro e f ⟨rfl,rfl⟩;rw [show ((p:Int)+1+j).toNat=p+1+j by omega]
      go_wp2_with fail
      refine (bV _ _ _ _ _ _ a.lex (by omega)).mono ?_;rintro e f ⟨rfl,rfl⟩;rw [show ((p:Int)+1+j+1).toNat=p+1+j+1 by omega]
      go_wp2_with fail
      refine (eV _ _ _ _ _ _ _ a.lex (by omega) (by omega)).mono ?_;rintro e f ⟨d,rfl⟩;rw [show ((p:Int)+1+j).toNat=p+1+j by omega,u.out] at d
      obtain ⟨x,y,rfl⟩:=d
      obtain ⟨U,W,J,X,Y,Z,v5,A,B,C,D,E,F⟩:=a.tok
      have a1:=a.lt
      go_wp2_with fail
      try rw [fc]
      refine aw (v:=bq (cY 7)) (by simp [bq,cY,results,fm,go_sem,A,B,C,D,E,F]) rfl ⟨?_,(a.sets _ _ _ _ _ _).bel⟩
      rw [V.out,<-G.out,o.out];rfl
     | some ck=>
      obtain ⟨c,k⟩:=ck
      have g:=eU _ _ _ _ (by decide) hqs
      rw [aN] at g
      have o:=zq (gN (s.data.toList.drop (p+1)) 39 (by decide) l j k c (by rw [m.out,n.out];exact q) (by rw [m.out,n.out];exact t) (by rw [cV];exact hqs))
      have u:=zq hqs
      have a3:1<=k:=g.1
      have a0:p+1+j+k<=s.size:=by have:=g.2.1;have:=g.1;rw [ci] at *;omega
      have O:0<=c:=g.2.2.1
      have Q:c<=255:=g.2.2.2
      clear hqs q t g
      iterate 2
       go_wp2_with fail
       refine (bV _ _ _ _ _ _ a.lex (by omega)).mono ?_;rintro e f ⟨rfl,rfl⟩;rw [show ((p:Int)+1+j).toNat=p+1+j by omega]
      go_wp2_with fail
      refine (bV _ _ _ _ _ _ a.lex (by omega)).mono ?_;rintro e f ⟨rfl,rfl⟩;rw [show ((p:Int)+1+j+1).toNat=p+1+j+1 by omega]
      go_wp2_with fail
      refine (eV _ _ _ _ _ _ _ a.lex (by omega) (by omega)).mono ?_;rintro e f ⟨d,rfl⟩;rw [show ((p:Int)+1+j).toNat=p+1+j by omega,u.out] at d
      unfold QRes at d
      simp only [] at d
      subst d
      go_wp2_with (at_builtin;go_must (refine dx rfl _ _ 168 5 rfl aZ kg (w.heap.size+1) _ _ _ rfl _ R _ O Q rfl rfl (by omega) (by have:=a.lt;omega) ?_;intro J w2 S I))
      have N:=Held.callB I (by omega) a
      go_roundw
      case rel=>exact ⟨j+k,l++[c.toNat.toUInt8],by omega,by simp;omega,by go_num,N,jR S,by rw [<-o.out];exact G.out⟩
      case measure=>simp [intOf];omega
   ·have b2:(ak s.data.toList (p+1+j)==92)=false:=by simp [H]
    have t:¬(ak s.data.toList (p+1+j)=92/\ak s.data.toList (p+1+j+1)=10):=fun h=>H h.1
    clear H
    cases hqs:cD (s.data.toList.drop (p+1+j)) 39 with
    | none=>
     have o:=zq (ix (s.data.toList.drop (p+1)) 39 (by decide) l j (by rw [m.out,n.out];exact q) (by rw [m.out,n.out];exact t) (by rw [cV];exact hqs))
     have u:=zq hqs
     clear hqs q t
     iterate 2
      go_wp2_with fail
      refine (bV _ _ _ _ _ _ a.lex (by omega)).mono ?_;rintro e f ⟨rfl,rfl⟩;rw [show ((p:Int)+1+j).toNat=p+1+j by omega]
     go_wp2_with fail
     refine (eV _ _ _ _ _ _ _ a.lex (by omega) (by omega)).mono ?_;rintro e f ⟨d,rfl⟩;rw [show ((p:Int)+1+j).toNat=p+1+j by omega,u.out] at d
     obtain ⟨x,y,rfl⟩:=d
     obtain ⟨U,W,J,X,Y,Z,v5,A,B,C,D,E,F⟩:=a.tok
     have a1:=a.lt
     go_wp2_with fail
     try rw [fc]
     refine aw (v:=bq (cY 7)) (by simp [bq,cY,results,fm,go_sem,A,B,C,D,E,F]) rfl ⟨?_,(a.sets _ _ _ _ _ _).bel⟩
     rw [V.out,<-G.out,o.out];rfl
    | some ck=>
     obtain ⟨c,k⟩:=ck
     have g:=eU _ _ _ _ (by decide) hqs
     rw [aN] at g
     have o:=zq (gN (s.data.toList.drop (p+1)) 39 (by decide) l j k c (by rw [m.out,n.out];exact q) (by rw [m.out,n.out];exact t) (by rw [cV];exact hqs))
     have u:=zq hqs
     have a3:1<=k:=g.1
     have a0:p+1+j+k<=s.size:=by have:=g.2.1;have:=g.1;rw [ci] at *;omega
     have O:0<=c:=g.2.2.1
     have Q:c<=255:=g.2.2.2
     clear hqs q t g
     iterate 2
      go_wp2_with fail
      refine (bV _ _ _ _ _ _ a.lex (by omega)).mono ?_;rintro e f ⟨rfl,rfl⟩;rw [show ((p:Int)+1+j).toNat=p+1+j by omega]
     go_wp2_with fail
     refine (eV _ _ _ _ _ _ _ a.lex (by omega) (by omega)).mono ?_;rintro e f ⟨d,rfl⟩;rw [show ((p:Int)+1+j).toNat=p+1+j by omega,u.out] at d
     unfold QRes at d
     simp only [] at d
     subst d
     go_wp2_with (at_builtin;go_must (refine dx rfl _ _ 168 5 rfl aZ kg (w.heap.size+1) _ _ _ rfl _ R _ O Q rfl rfl (by omega) (by have:=a.lt;omega) ?_;intro J w2 S I))
     have N:=Held.callB I (by omega) a
     go_roundw
     case rel=>exact ⟨j+k,l++[c.toNat.toUInt8],by omega,by simp;omega,by go_num,N,jR S,by rw [<-o.out];exact G.out⟩
     case measure=>simp [intOf];omega
theorem xq (b:Nat) (s:ByteArray) (tab:Int->Int) (p:Nat) (w:au) (h:Lex w b s tab p) (g:p<s.size) :
  aU am 91 #[ar (some ⟨b,0,none⟩)] w fun e w'=>dL (gR (ba tab s.data.toList) s.data.toList p) e/\aB w.heap.size w w':=by
 by_cases a:ak (ba tab s.data.toList) p=34
 ·exact qu b s tab p w h g a
 by_cases c:ak (ba tab s.data.toList) p=39
 ·exact si b s tab p w h g c
 have i:=zq (show gR (ba tab s.data.toList) s.data.toList p=cY 7 by unfold gR;rw [if_neg a,if_neg c])
 have r:(ak (ba tab s.data.toList) p==34)=false:=by simp [a]
 have t:(ak (ba tab s.data.toList) p==39)=false:=by simp [c]
 have f:=Held.start h
 have x:=h.lt
 have u:=h.ca
 clear h a c
 go_enter Tryz.func91,Tryz.ntmps91
 go_wp2_with fail
 go_step3
 go_wp2_with fail
 refine (bE _ _ _ _ _ _ f.lex (by omega)).mono ?_;rintro e G ⟨rfl,j⟩;rw [aI]
 have d:=Held.call j f
 obtain ⟨z,A,B,C,D,E,F,k,l,m,n,o,q⟩:=d.tok
 have y:=d.lt
 go_wp2_with fail
 try rw [fc]
 refine aw (v:=bq (cY 7)) (by simp [bq,cY,results,fm,go_sem,k,l,m,n,o,q]) rfl ⟨?_,(d.sets _ _ _ _ _ _).bel⟩
 rw [i.out];rfl
theorem pM (b:Nat) (w:au) :
  aU am 86 #[ar (some ⟨b,0,none⟩)] w fun e w'=>dL (cY 7) e/\aB w.heap.size w w':=by
 go_enter Tryz.func86,Tryz.ntmps86
 go_wp2
 refine aw (v:=bq (cY 7)) (by simp [bq,cY,results,Tryz.results86,go_sem]) rfl ⟨rfl,(ap _ _).alloc (ae _) _⟩
theorem Az (c:Int) (h:cls c=4):bJ 10 c=true:=by
 have a:48<=c/\c<=57:=by unfold cls at h;grind (splits:=30)
 unfold bJ;rw [mr _ _ (by decide) (by decide)];unfold oN;rw [if_pos a];simp;omega
structure Only (g:Nat) (w w':au):Prop where
 os:w'.os=w.os
 tape:w'.tape=w.tape
 output:w'.output=w.output
 size:w.heap.size<=w'.heap.size
 block:∀k,k<w.heap.size->k≠g->w'.heap[k]? = w.heap[k]?
theorem Only.refl (g:Nat) (w:au):Only g w w:=⟨rfl,rfl,rfl,ae _,fun _ _ _=>rfl⟩
theorem Only.below {g:Nat} {a b c:au} (h:Only g a b) {B:Nat} (d:aB B b c) (j:a.heap.size<=B):Only g a c :=
 ⟨d.os.trans h.os,d.tape.trans h.tape,d.output.trans h.output,Nat.le_trans h.size d.size,fun i f e=>(d.block i (by omega)).trans (h.block i f e)⟩
theorem Only.drew {g:Nat} {a b:au} (h:Only g a b):Only g a b.drew:=⟨h.os,h.tape,h.output,h.size,h.block⟩
theorem Only.set {g:Nat} {a b:au} (h:Only g a b) (o:Nat) (v:aC):Only g a (b.setCell ⟨g,o,none⟩ v) :=
 ⟨h.os,h.tape,h.output,by simp [bw];exact h.size,fun i d c=>(cW b _ v i c).trans (h.block i d c)⟩
theorem Only.setNew {g:Nat} {a b:au} (h:Only g a b) (p:Addr) (e:a.heap.size<=p.block) (v:aC):Only g a (b.setCell p v) :=
 ⟨h.os,h.tape,h.output,by simp [bw];exact h.size,fun i d c=>(cW b _ v i (by omega)).trans (h.block i d c)⟩
theorem Only.toBelow' {g:Nat} {a b:au} (h:Only g a b) {B:Nat} (d:B<=g) (c:B<=a.heap.size):aB B a b:=⟨h.os,h.tape,h.output,h.size,fun k e=>h.block k (by omega) (by omega)⟩
theorem Lex.setAt {w:au} {b:Nat} {s:ByteArray} {tab:Int->Int} {a:Int} (h:Lex w b s tab a) (p:Int):Lex (w.setCell ⟨b,257,none⟩ (aa ab p)) b s tab p where
 lt:=by simp [bw];exact h.lt
 c0:=(dj w _ _ _ (by intro d;injection d with _ h2 _;omega)).trans h.c0
 ct:=fun c e=>(dj w _ _ _ (by intro d;injection d with _ h2 _;omega)).trans (h.ct c e)
 ca:=World.cell?_setCell_same w _ _ h.ca
 fr:=fun o=>(kh _ _ _ _).trans (h.fr o)
 sz:=h.sz
 tb:=h.tb
structure NHeld (w0 w:au) (b:Nat) (s:ByteArray) (tab:Int->Int) (p:Int):Prop where
 lex:Lex w b s tab p
 only:Only b w0 w
 tok:Tok6 w w0.heap.size
 lt:w0.heap.size<w.heap.size
 blt:b<w0.heap.size
section
variable {w0 w w':au} {b:Nat} {s:ByteArray} {tab:Int->Int} {p:Int}
theorem NHeld.start (h:Lex w0 b s tab p):NHeld w0 (w0.alloc aX) b s tab p:=by
 have H:=Held.start h
 exact ⟨H.lex,(Only.refl b w0).below H.bel (ae _),H.tok,H.lt,H.blt⟩
theorem Tok6.below {B g:Nat} (h:Tok6 w g) (a:aB B w w') (b:g<B):Tok6 w' g:=by
 obtain ⟨l,m,n,q,r,s,t,c,d,f,i,j,k⟩:=h
 have e:∀o,w'.cell? ⟨g,o,none⟩=w.cell? ⟨g,o,none⟩:=fun o=>a.cell (p:=⟨g,o,none⟩) b
 exact ⟨fun o=>(a.frozen (p:=⟨g,o,none⟩) b).trans (l o),m,n,q,r,s,t,(e 0).trans c,(e 1).trans d,(e 2).trans f,(e 3).trans i,(e 4).trans j,(e 5).trans k⟩
theorem NHeld.call {B:Nat} (a:aB B w w') (c:w0.heap.size<B) (h:NHeld w0 w b s tab p):NHeld w0 w' b s tab p :=
 ⟨h.lex.below a (Nat.lt_trans h.blt c),h.only.below a (Nat.le_of_lt c),h.tok.below a c,Nat.lt_of_lt_of_le h.lt a.size,h.blt⟩
theorem NHeld.setAt (h:NHeld w0 w b s tab p) (q:Int):NHeld w0 (w.setCell ⟨b,257,none⟩ (aa ab q)) b s tab q:=by
 obtain ⟨l,m,n,r,t,u,v,d,f,g,i,j,k⟩:=h.tok
 have c:b≠w0.heap.size:=by have:=h.blt;omega
 have e:∀o,(w.setCell ⟨b,257,none⟩ (aa ab q)).cell? ⟨w0.heap.size,o,none⟩=w.cell? ⟨w0.heap.size,o,none⟩:=fun o=>dj w _ _ _ (by intro a;injection a with h1 _ _;exact c h1)
 exact ⟨h.lex.setAt q,h.only.set 257 _,⟨fun o=>(kh _ _ _ _).trans (l o),m,n,r,t,u,v,(e 0).trans d,(e 1).trans f,(e 2).trans g,(e 3).trans i,(e 4).trans j,(e 5).trans k⟩,by simp [bw];exact h.lt,h.blt⟩
end
theorem mn {w w':au} {b g:Nat} (h:Only b w w') (a:w.heap.size<=g) (a0 c d e f i:aC):Only b w ((((((w'.setCell ⟨g,0,none⟩ a0).setCell ⟨g,1,none⟩ c).setCell ⟨g,2,none⟩ d).setCell ⟨g,3,none⟩ e).setCell ⟨g,4,none⟩ f).setCell ⟨g,5,none⟩ i) :=
 (((((h.setNew ⟨g,_,none⟩ a _).setNew ⟨g,_,none⟩ a _).setNew ⟨g,_,none⟩ a _).setNew ⟨g,_,none⟩ a _).setNew ⟨g,_,none⟩ a _).setNew ⟨g,_,none⟩ a _
theorem nu {w:au} {b g:Nat} {s:ByteArray} {tab:Int->Int} {p:Int} (h:Lex w b s tab p) (a:b≠g) (a0 c d e f i:aC):Lex ((((((w.setCell ⟨g,0,none⟩ a0).setCell ⟨g,1,none⟩ c).setCell ⟨g,2,none⟩ d).setCell ⟨g,3,none⟩ e).setCell ⟨g,4,none⟩ f).setCell ⟨g,5,none⟩ i) b s tab p:=by
 refine h.same (by simp [bw]) ?_
 rw [cW _ _ _ _ a,cW _ _ _ _ a,cW _ _ _ _ a,cW _ _ _ _ a,cW _ _ _ _ a,cW _ _ _ _ a]
theorem cE {w w':au} {b g:Nat} (h:Only b w w') (i:w.heap.size<=g) (a0 a c d e f:aC) (o:Obj):Only b w (((((((w'.setCell ⟨g,0,none⟩ a0).setCell ⟨g,1,none⟩ a).setCell ⟨g,2,none⟩ c).setCell ⟨g,3,none⟩ d).setCell ⟨g,4,none⟩ e).setCell ⟨g,5,none⟩ f).alloc o) :=
 (mn h i a0 a c d e f).below ((ap _ _).alloc (ae _) o) (mn h i a0 a c d e f).size
theorem cQ {w:au} {b g:Nat} {s:ByteArray} {tab:Int->Int} {p:Int} (h:Lex w b s tab p) (i:b≠g) (a0 a c d e f:aC) (o:Obj):Lex (((((((w.setCell ⟨g,0,none⟩ a0).setCell ⟨g,1,none⟩ a).setCell ⟨g,2,none⟩ c).setCell ⟨g,3,none⟩ d).setCell ⟨g,4,none⟩ e).setCell ⟨g,5,none⟩ f).alloc o) b s tab p :=
 (nu h i a0 a c d e f).below ((ap _ _).alloc (ae _) o) (nu h i a0 a c d e f).lt
def cK (r:NextR):aC:=.tuple #[.agg #[aa ab r.r.kind,.string ⟨r.r.text.toArray⟩,aa ab r.r.n,aa ab r.r.at_,aa ab r.r.end_,.bool r.lay],aa ab r.where_,aa ab r.r.err]
def fC (r:NextR) (e:Ending):Prop:=e=.returned (cK r)
def fW:Obj:=.cells #[.func (.func 86) #[] #[],.func (.func 86) #[] #[],.func (.func 87) #[] #[],.func (.func 87) #[] #[],.func (.func 88) #[] #[],.func (.func 89) #[] #[],.func (.func 90) #[] #[],.func (.func 91) #[] #[],.func (.func 86) #[] #[]] 137
theorem rT (w:au):(w.alloc fW).cell? ⟨w.heap.size,0,none⟩=some (.func (.func 86) #[] #[]):=by unfold fW;rw [aF];rfl
theorem rS (w:au):(w.alloc fW).cell? ⟨w.heap.size,1,none⟩=some (.func (.func 86) #[] #[]):=by unfold fW;rw [aF];rfl
theorem rR (w:au):(w.alloc fW).cell? ⟨w.heap.size,2,none⟩=some (.func (.func 87) #[] #[]):=by unfold fW;rw [aF];rfl
theorem rQ (w:au):(w.alloc fW).cell? ⟨w.heap.size,3,none⟩=some (.func (.func 87) #[] #[]):=by unfold fW;rw [aF];rfl
theorem rP (w:au):(w.alloc fW).cell? ⟨w.heap.size,4,none⟩=some (.func (.func 88) #[] #[]):=by unfold fW;rw [aF];rfl
theorem nf (w:au):(w.alloc fW).cell? ⟨w.heap.size,5,none⟩=some (.func (.func 89) #[] #[]):=by unfold fW;rw [aF];rfl
theorem rO (w:au):(w.alloc fW).cell? ⟨w.heap.size,6,none⟩=some (.func (.func 90) #[] #[]):=by unfold fW;rw [aF];rfl
theorem rN (w:au):(w.alloc fW).cell? ⟨w.heap.size,7,none⟩=some (.func (.func 91) #[] #[]):=by unfold fW;rw [aF];rfl
theorem rM (w:au):(w.alloc fW).cell? ⟨w.heap.size,8,none⟩=some (.func (.func 86) #[] #[]):=by unfold fW;rw [aF];rfl
theorem sk (b:Nat) (s:ByteArray) (tab:Int->Int) (a:Nat) (x:Int) (w:au) (h:Lex w b s tab x) (_ha:a<=s.size) (i:(a+cd ((ba tab s.data.toList).drop a))=s.size) :
  aU am 54 #[ar (some ⟨b,0,none⟩),aa ab a] w fun e w'=>fC (bD (ba tab s.data.toList) s.data.toList a) e/\Only b w w'/\∃q,Lex w' b s tab q:=by
 have g:=NHeld.start h
 have W:=h.lt
 have X:=h.sz
 clear h
 have D:Hid ((ba tab s.data.toList).length=s.size):=by show _=_;rw [bL];simp
 have u:Hid (s.data.toList.length=s.size):=ci s
 have E:=fQ ((ba tab s.data.toList).drop a)
 rw [aN,D.out] at E
 generalize m:ba tab s.data.toList=M at *
 have t:=zq m
 clear m
 generalize n:cd (M.drop a)=S at *
 have k:=zq n
 clear n
 have r:=zq (show bD M s.data.toList a=⟨cY 14,false,a+S⟩ by unfold bD;simp only [k.out];rw [if_pos (by rw [u.out];exact i)];simp)
 have Q:((a:Int)+S==(s.size:Int))=true:=by simp;omega
 have U:=zq i
 clear i
 go_enter fo,eW
 go_wp2_with fail
 refine (ik _ _ _ _ _ _ g.lex (by omega)).mono ?_;rintro e O ⟨rfl,l⟩;rw [aI,t.out,k.out]
 have d:=NHeld.call l g.lt g
 have y:=d.lex.ca
 have B:=d.lex.fr 257
 have C:=d.lex.lt
 have f:=d.setAt (a+S)
 clear l g d
 go_wp2_with fail
 generalize F:O.setCell ⟨b,257,none⟩ (aa ab ((a:Int)+S))=j at *
 clear F y B C
 have z:=f.lex.ca
 have A:=f.lex.c0
 go_quiet (fail)
 have c:=NHeld.call (dF (ap j.heap.size j) nq) f.lt f
 clear f z A
 generalize G:j.drewN nq=p at *
 clear G
 have R:=c.lex.ca
 obtain ⟨Y,Z,v1,v2,v3,v4,v5,H,I,J,K,L,N⟩:=c.tok
 have V:=c.lt
 have T:=c.lex.lt
 have P:=fun o=>NHeld.call ((ap p.heap.size p).alloc (ae _) o) c.lt c
 go_wp2_with fail
 go_region
 go_wp2_with fail
 refine aw (v:=cK ⟨cY 14,false,(a:Int)+S⟩) (by simp [cK,cY,results,cI,go_sem,H,I,J,K,L,N]) rfl ⟨?_,(mn c.only (ae _) _ _ _ _ _ _).drew,_,(nu c.lex (by have:=c.blt;omega) _ _ _ _ _ _).drewN 1⟩
 rw [r.out];rfl
theorem qv (b:Nat) (s:ByteArray) (tab:Int->Int) (a:Nat) (L:Int) (w:au) (h:Lex w b s tab L) (ha:a<=s.size) (k:¬(a+cd ((ba tab s.data.toList).drop a))=s.size) (l:ak (ba tab s.data.toList) (a+cd ((ba tab s.data.toList).drop a))=47/\ak (ba tab s.data.toList) ((a+cd ((ba tab s.data.toList).drop a))+1)=42) :
  aU am 54 #[ar (some ⟨b,0,none⟩),aa ab a] w fun e w'=>fC (bD (ba tab s.data.toList) s.data.toList a) e/\Only b w w'/\∃q,Lex w' b s tab q:=by
 have i:=NHeld.start h
 have a6:=h.lt
 have a7:=h.sz
 clear h
 have U:Hid ((ba tab s.data.toList).length=s.size):=by show _=_;rw [bL];simp
 have C:Hid (s.data.toList.length=s.size):=ci s
 have V:=fQ ((ba tab s.data.toList).drop a)
 rw [aN,U.out] at V
 generalize F:ba tab s.data.toList=M at *
 have n:=zq F
 clear F
 generalize G:cd (M.drop a)=S at *
 have p:=zq G
 clear G
 have b1:((a:Int)+S==(s.size:Int))=false:=by simp;omega
 have K:Hid (∀e,¬e=0->(dg M s.data.toList (a+S)).err=e->Hid (bD M s.data.toList a=⟨cY e,false,a+S⟩)):=fun e R h=>by
  show bD M s.data.toList a=_
  unfold bD;simp only [p.out];rw [if_neg (by rw [C.out];exact k),if_neg (by rw [h];exact R),h];simp
 have a0:Hid ((dg M s.data.toList (a+S)).err=0->Hid (bD M s.data.toList a=⟨dg M s.data.toList (a+S),decide (a<a+S),0⟩)):=fun h=>by
  show bD M s.data.toList a=_
  unfold bD;simp only [p.out];rw [if_neg (by rw [C.out];exact k),if_pos h]
 have hp:a+S<s.size:=by omega
 have a3:=zq k
 clear k
 have J:=K.out 7 (by decide) (by unfold dg;rw [if_pos l];rfl)
 have b2:(ak M (a+S)==47)=true:=by simp [l.1]
 have b3:(ak M (a+S+1)==42)=true:=by simp [l.2]
 clear l
 go_enter fo,eW
 go_wp2_with fail
 refine (ik _ _ _ _ _ _ i.lex (by omega)).mono ?_;rintro e Z ⟨rfl,D⟩;rw [aI,n.out,p.out]
 have f:=NHeld.call D i.lt i
 have N:=f.lex.ca
 have Q:=f.lex.fr 257
 have T:=f.lex.lt
 have g:=f.setAt (a+S)
 clear D i f
 go_wp2_with fail
 generalize W:Z.setCell ⟨b,257,none⟩ (aa ab ((a:Int)+S))=B at *
 clear W N Q T
 have O:=g.lex.ca
 have P:=g.lex.c0
 go_quiet (fail)
 have d:=NHeld.call (dF (ap B.heap.size B) nq) g.lt g
 clear g O P
 generalize X:B.drewN nq=I at *
 clear X
 have c3:=d.lex.ca
 obtain ⟨H,v0,v1,v2,v3,v4,v5,t,u,x,y,z,A⟩:=d.tok
 have a4:=d.lt
 have a1:=d.lex.lt
 have m:=fun o=>NHeld.call ((ap I.heap.size I).alloc (ae _) o) d.lt d
 go_wp2_with fail
 refine (bE _ _ _ _ _ _ (m _).lex (by omega)).mono ?_;rintro e w5 ⟨rfl,r⟩;rw [show ((a:Int)+S).toNat=a+S by omega,n.out]
 have j:=NHeld.call r (m _).lt (m _)
 have c5:=j.lex.ca
 have Y:=r
 go_wp2_with fail
 refine (bE _ _ _ _ _ _ j.lex (by omega)).mono ?_;rintro e w6 ⟨rfl,E⟩;rw [show ((a:Int)+S+1).toNat=a+S+1 by omega,n.out]
 have c:=NHeld.call E j.lt j
 have c6:=c.lex.ca
 have r6:=Y.trans (E.mono r.size)
 go_wp2_with fail
 clear t u x y z A H
 obtain ⟨H,x0,x1,x2,x3,x4,x5,t,u,x,y,z,A⟩:=c.tok
 have a5:=c.lt
 have a2:=c.lex.lt
 go_region
 go_wp2_with fail
 refine aw (v:=cK ⟨cY 7,false,(a:Int)+S⟩) (by simp [cK,cY,results,cI,go_sem,t,u,x,y,z,A]) rfl ⟨?_,(mn c.only (ae _) _ _ _ _ _ _).drew,_,(nu c.lex (by have:=c.blt;omega) _ _ _ _ _ _).drewN 1⟩
 rw [J.out];rfl
end Go.Proofs.YtbojljpldcijgaaGreat
