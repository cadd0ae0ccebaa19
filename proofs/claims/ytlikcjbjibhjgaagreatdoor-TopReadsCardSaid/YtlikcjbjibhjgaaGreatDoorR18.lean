/- Parts of the proof. -/
import Derived.Test.YtlikcjbjibhjgaaGreatDoorR01
import Derived.Test.YtlikcjbjibhjgaaGreatDoorR17
import Derived.Test.YtlikcjbjibhjgaaGreatDoorR02
import Derived.WalkMore
import Derived.Deep.LoopGhost
import Derived.RegionTactic
import Derived.BigRegion
import Derived.Laws.EntriesVeiled
set_option maxHeartbeats 12800000
set_option maxRecDepth 100000
open Go renaming Calls -> aJ, Value -> az, World -> ai, bodyPost_ret -> ay
open Go.Exit renaming noGoto_ret -> fl
open Go.IntKind renaming i64 -> ae
open Go.Proofs.Tryz renaming func59 -> fE, ntmps59 -> fc, prog -> ah, results59 -> cG, results87 -> fD, underlying106 -> bU, underlying5 -> dF, underlying9 -> cE
open Go.RowKit renaming Below -> ax
open Go.RowKit.Below renaming heap_setCell -> ey, refl -> aj
open Go.Value renaming int -> ab, pointer -> au
open Go.World renaming cell?_alloc_new -> aq, cell?_setCell_other -> cW, setCell -> gf
open Int renaming toNat_natCast -> aD
open List renaming drop_drop -> ci, length_drop -> aH
open Nat renaming le_refl -> ag
namespace Go.Proofs.YtlikcjbjibhjgaaGreatDoor
open Go.RowKit Hb
theorem lu {w:ai} {b:Nat} {v:az} {a:List UInt8} {x:UInt8} (h:w.ownsRow b 5 1 v (a.length+1) (Hb.byteCells (a++[x]))):w.ownsRow b 5 1 v (a++[x]).length (Hb.byteCells (a++[x])):=by
 rw [List.length_append];exact h
theorem uU (b:Nat) (s:ByteArray) (tab:Int->Int) (p:Nat) (w:ai) (h:Lex w b s tab p) (hp:p<s.size) (T:av (cU tab s.data.toList) p=34) :
  aJ ah 87 #[au (some ⟨b,0,none⟩)] w fun e w'=>gj (iD (cU tab s.data.toList) s.data.toList p) e/\ax w.heap.size w w':=by
 have H0:=Held.start h
 have a8:=h.lt
 have ca:=h.ca
 have a9:=h.sz
 clear h
 have a6:Hid ((cU tab s.data.toList).length=s.size):=by show _=_;rw [dK];simp
 generalize hM:cU tab s.data.toList=M at *
 have HM:=zq hM
 clear hM
 have b1:(av M p==34)=true:=by simp [T]
 have S:=zq (show iD M s.data.toList p=nQ p (iX (s.data.toList.drop (p+1)) 34 [] 0) by unfold iD;rw [if_pos T];unfold iX;simp)
 have A1:=zq T
 clear T
 have a0:(s.data.toList.drop (p+1)).length=s.size-(p+1):=by rw [aH,size_data]
 have a3:=zq a0
 clear a0
 go_enter Tryz.func87,Tryz.ntmps87
 go_wp2_with fail
 go_step3
 go_wp2_with fail
 refine (bt _ _ _ _ _ _ H0.lex (by omega)).mono ?_;rintro e w1 ⟨rfl,a2⟩;rw [aD,HM.out]
 have H1:=Held.call a2 H0
 have c1:=H1.lex.ca
 rw [A1.out]
 go_wp2_with fail
 go_step3
 go_wp2_with fail
 go_loopw [6,7] (fun v i wr=>∃j:Nat,∃l:List UInt8,p+1+j<=s.size/\l.length<=j/\i=ab ae (p+1+j:Nat)/\Held w wr b s tab p/\wr.ownsRow (w.heap.size+1) 5 1 v l.length (Hb.byteCells l)/\Hid (iX (s.data.toList.drop (p+1)) 34 l j=iX (s.data.toList.drop (p+1)) 34 [] 0)) (fun _ i _=>s.size-(intOf i).toNat)
 case atStart=>exact ⟨0,[],by omega,ag _,by go_num,H1,⟨by simp [Hb.byteCells],.inl ⟨rfl,rfl⟩⟩,rfl⟩
 case round=>
  obtain ⟨j,l,hj,a4,rfl,a,J,z⟩:=hrel
  have a7:=a.lt
  have cX:=a.lex.ca
  have m:=zq (bZ s.data.toList (p+1) j)
  have n:Hid (av (s.data.toList.drop (p+1)) (j+1)=av s.data.toList (p+1+j+1)):=bZ s.data.toList (p+1) (j+1)
  by_cases u:av s.data.toList (p+1+j)=34
  ·have b0:(av s.data.toList (p+1+j)==34)=true:=by simp [u]
   have b2:(av s.data.toList (p+1+j)==92)=false:=by simp [u]
   by_cases H:av s.data.toList (p+1+j+1)=34
   ·have U:(av s.data.toList (p+1+j+1) != 34)=false:=by simp [H]
    have q:¬(av s.data.toList (p+1+j)=34/\¬av s.data.toList (p+1+j+1)=34):=fun h=>h.2 H
    have r:¬(av s.data.toList (p+1+j)=92/\av s.data.toList (p+1+j+1)=10):=fun h=>absurd h.1 (by rw [u];decide)
    clear u H
    cases hqs:cO (s.data.toList.drop (p+1+j)) 34 with
    | none=>
     have o:=zq (jW (s.data.toList.drop (p+1)) 34 (by decide) l j (by rw [m.out,n.out];exact q) (by rw [m.out,n.out];exact r) (by rw [ci];exact hqs))
     have t:=zq hqs
     clear hqs q r
     go_wp2_with fail
     refine (bK _ _ _ _ _ _ a.lex (by omega)).mono ?_;rintro e d ⟨rfl,rfl⟩;rw [show ((p:Int)+1+j).toNat=p+1+j by omega]
     go_wp2_with fail
     refine (bK _ _ _ _ _ _ a.lex (by omega)).mono ?_;rintro e d ⟨rfl,rfl⟩;rw [show ((p:Int)+1+j+1).toNat=p+1+j+1 by omega]
     go_wp2_with fail
     refine (bK _ _ _ _ _ _ a.lex (by omega)).mono ?_;rintro e d ⟨rfl,rfl⟩;rw [show ((p:Int)+1+j).toNat=p+1+j by omega]
     go_wp2_with fail
     refine (fb _ _ _ _ _ _ _ a.lex (by omega) (by omega)).mono ?_;rintro e d ⟨f,rfl⟩;rw [show ((p:Int)+1+j).toNat=p+1+j by omega,t.out] at f
     obtain ⟨x,y,rfl⟩:=f
     obtain ⟨X,Y,K,Z,v3,v4,v5,B,C,D,E,F,G⟩:=a.tok
     have W:=a.lt
     go_wp2_with fail
     try rw [fl]
     refine ay (v:=bV (dR 7)) (by simp [bV,dR,results,fD,go_sem,B,C,D,E,F,G]) rfl ⟨?_,(a.sets _ _ _ _ _ _).bel⟩
     rw [S.out,<-z.out,o.out];rfl
    | some ck=>
     obtain ⟨c,k⟩:=ck
     have g:=fa _ _ _ _ (by decide) hqs
     rw [aH] at g
     have o:=zq (jV (s.data.toList.drop (p+1)) 34 (by decide) l j k c (by rw [m.out,n.out];exact q) (by rw [m.out,n.out];exact r) (by rw [ci];exact hqs))
     have t:=zq hqs
     have a1:1<=k:=g.1
     have V:p+1+j+k<=s.size:=by have:=g.2.1;have:=g.1;rw [size_data] at *;omega
     have O:0<=c:=g.2.2.1
     have Q:c<=255:=g.2.2.2
     clear hqs q r g
     go_wp2_with fail
     refine (bK _ _ _ _ _ _ a.lex (by omega)).mono ?_;rintro e d ⟨rfl,rfl⟩;rw [show ((p:Int)+1+j).toNat=p+1+j by omega]
     go_wp2_with fail
     refine (bK _ _ _ _ _ _ a.lex (by omega)).mono ?_;rintro e d ⟨rfl,rfl⟩;rw [show ((p:Int)+1+j+1).toNat=p+1+j+1 by omega]
     go_wp2_with fail
     refine (bK _ _ _ _ _ _ a.lex (by omega)).mono ?_;rintro e d ⟨rfl,rfl⟩;rw [show ((p:Int)+1+j).toNat=p+1+j by omega]
     go_wp2_with fail
     refine (fb _ _ _ _ _ _ _ a.lex (by omega) (by omega)).mono ?_;rintro e d ⟨f,rfl⟩;rw [show ((p:Int)+1+j).toNat=p+1+j by omega,t.out] at f
     unfold QRes at f
     simp only [] at f
     subst f
     go_wp2_with (at_builtin;go_must (refine eV rfl _ _ 106 5 rfl bU pP (w.heap.size+1) _ _ _ rfl _ J _ O Q rfl rfl (by omega) (by have:=a.lt;omega) ?_;intro K w2 R N))
     have L:=Held.callB N (by omega) a
     go_roundw
     case rel=>exact ⟨j+k,l++[c.toNat.toUInt8],by omega,by simp;omega,by go_num,L,lu R,by rw [<-o.out];exact z.out⟩
     case measure=>simp [intOf];omega
   ·have U:(av s.data.toList (p+1+j+1) != 34)=true:=by simp [H]
    have o:=zq (ud (s.data.toList.drop (p+1)) 34 (by decide) l j (by rw [m.out];exact u) (by rw [n.out];exact H))
    clear u H
    have hc:=qM (P:=ah) wr 106 9 5 bU dF cE _ _ _ _ J
    obtain ⟨X,Y,K,Z,v3,v4,v5,B,C,D,E,F,G⟩:=a.tok
    go_wp2_with fail
    refine (bK _ _ _ _ _ _ a.lex (by omega)).mono ?_;rintro e d ⟨rfl,rfl⟩;rw [show ((p:Int)+1+j).toNat=p+1+j by omega]
    go_wp2_with fail
    refine (bK _ _ _ _ _ _ a.lex (by omega)).mono ?_;rintro e d ⟨rfl,rfl⟩;rw [show ((p:Int)+1+j+1).toNat=p+1+j+1 by omega]
    go_wp2_with fail
    have W:=a.lt
    have a5:=qM (P:=ah) wr.drew 106 9 5 bU dF cE _ _ _ _ J.drew
    go_region
    go_wp2_with fail
    try rw [fl]
    refine ay (v:=bV ⟨5,l,0,p,p+1+j+1,0⟩) (by simp [bV,results,fD,go_sem,B,C,D,E,F,G]) rfl ⟨?_,(a.sets _ _ _ _ _ _).drew.bel⟩
    rw [S.out,<-z.out,o.out];rfl
  ·have b0:(av s.data.toList (p+1+j)==34)=false:=by simp [u]
   have q:¬(av s.data.toList (p+1+j)=34/\¬av s.data.toList (p+1+j+1)=34):=fun h=>u h.1
   clear u
   by_cases A:av s.data.toList (p+1+j)=92
   ·have b2:(av s.data.toList (p+1+j)==92)=true:=by simp [A]
    by_cases I:av s.data.toList (p+1+j+1)=10
    ·have U:(av s.data.toList (p+1+j+1)==10)=true:=by simp [I]
     have o:=zq (sn (s.data.toList.drop (p+1)) 34 (by decide) l j (by rw [m.out,n.out];exact q) (by rw [m.out];exact A) (by rw [n.out];exact I))
     have V:p+1+j+2<=s.size:=by have:=dX s.data.toList (p+1+j+1);rw [size_data] at this;omega
     clear A I q
     iterate 2
      go_wp2_with fail
      refine (bK _ _ _ _ _ _ a.lex (by omega)).mono ?_;rintro e d ⟨rfl,rfl⟩;rw [show ((p:Int)+1+j).toNat=p+1+j by omega]
     go_wp2_with fail
     refine (bK _ _ _ _ _ _ a.lex (by omega)).mono ?_;rintro e d ⟨rfl,rfl⟩;rw [show ((p:Int)+1+j+1).toNat=p+1+j+1 by omega]
     go_wp2_with fail
     go_roundw
     case rel=>exact ⟨j+2,l,by omega,by omega,by go_num,a,J,by rw [<-o.out];exact z.out⟩
     case measure=>simp [intOf];omega
    ·have U:(av s.data.toList (p+1+j+1)==10)=false:=by simp [I]
     have r:¬(av s.data.toList (p+1+j)=92/\av s.data.toList (p+1+j+1)=10):=fun h=>I h.2
     clear A I
     cases hqs:cO (s.data.toList.drop (p+1+j)) 34 with
     | none=>
      have o:=zq (jW (s.data.toList.drop (p+1)) 34 (by decide) l j (by rw [m.out,n.out];exact q) (by rw [m.out,n.out];exact r) (by rw [ci];exact hqs))
      have t:=zq hqs
      clear hqs q r
      iterate 2
       go_wp2_with fail
       refine (bK _ _ _ _ _ _ a.lex (by omega)).mono ?_;rintro e d ⟨rfl,rfl⟩;rw [show ((p:Int)+1+j).toNat=p+1+j by omega]
      go_wp2_with fail
      refine (bK _ _ _ _ _ _ a.lex (by omega)).mono ?_;rintro e d ⟨rfl,rfl⟩;rw [show ((p:Int)+1+j+1).toNat=p+1+j+1 by omega]
      go_wp2_with fail
      refine (fb _ _ _ _ _ _ _ a.lex (by omega) (by omega)).mono ?_;rintro e d ⟨f,rfl⟩;rw [show ((p:Int)+1+j).toNat=p+1+j by omega,t.out] at f
      obtain ⟨x,y,rfl⟩:=f
      obtain ⟨X,Y,K,Z,v3,v4,v5,B,C,D,E,F,G⟩:=a.tok
      have W:=a.lt
      go_wp2_with fail
      try rw [fl]
      refine ay (v:=bV (dR 7)) (by simp [bV,dR,results,fD,go_sem,B,C,D,E,F,G]) rfl ⟨?_,(a.sets _ _ _ _ _ _).bel⟩
      rw [S.out,<-z.out,o.out];rfl
     | some ck=>
      obtain ⟨c,k⟩:=ck
      have g:=fa _ _ _ _ (by decide) hqs
      rw [aH] at g
      have o:=zq (jV (s.data.toList.drop (p+1)) 34 (by decide) l j k c (by rw [m.out,n.out];exact q) (by rw [m.out,n.out];exact r) (by rw [ci];exact hqs))
      have t:=zq hqs
      have a1:1<=k:=g.1
      have V:p+1+j+k<=s.size:=by have:=g.2.1;have:=g.1;rw [size_data] at *;omega
      have O:0<=c:=g.2.2.1
      have Q:c<=255:=g.2.2.2
      clear hqs q r g
      iterate 2
       go_wp2_with fail
       refine (bK _ _ _ _ _ _ a.lex (by omega)).mono ?_;rintro e d ⟨rfl,rfl⟩;rw [show ((p:Int)+1+j).toNat=p+1+j by omega]
      go_wp2_with fail
      refine (bK _ _ _ _ _ _ a.lex (by omega)).mono ?_;rintro e d ⟨rfl,rfl⟩;rw [show ((p:Int)+1+j+1).toNat=p+1+j+1 by omega]
      go_wp2_with fail
      refine (fb _ _ _ _ _ _ _ a.lex (by omega) (by omega)).mono ?_;rintro e d ⟨f,rfl⟩;rw [show ((p:Int)+1+j).toNat=p+1+j by omega,t.out] at f
      unfold QRes at f
      simp only [] at f
      subst f
      go_wp2_with (at_builtin;go_must (refine eV rfl _ _ 106 5 rfl bU pP (w.heap.size+1) _ _ _ rfl _ J _ O Q rfl rfl (by omega) (by have:=a.lt;omega) ?_;intro K w2 R N))
      have L:=Held.callB N (by omega) a
      go_roundw
      case rel=>exact ⟨j+k,l++[c.toNat.toUInt8],by omega,by simp;omega,by go_num,L,lu R,by rw [<-o.out];exact z.out⟩
      case measure=>simp [intOf];omega
   ·have b2:(av s.data.toList (p+1+j)==92)=false:=by simp [A]
    have r:¬(av s.data.toList (p+1+j)=92/\av s.data.toList (p+1+j+1)=10):=fun h=>A h.1
    clear A
    cases hqs:cO (s.data.toList.drop (p+1+j)) 34 with
    | none=>
     have o:=zq (jW (s.data.toList.drop (p+1)) 34 (by decide) l j (by rw [m.out,n.out];exact q) (by rw [m.out,n.out];exact r) (by rw [ci];exact hqs))
     have t:=zq hqs
     clear hqs q r
     iterate 2
      go_wp2_with fail
      refine (bK _ _ _ _ _ _ a.lex (by omega)).mono ?_;rintro e d ⟨rfl,rfl⟩;rw [show ((p:Int)+1+j).toNat=p+1+j by omega]
     go_wp2_with fail
     refine (fb _ _ _ _ _ _ _ a.lex (by omega) (by omega)).mono ?_;rintro e d ⟨f,rfl⟩;rw [show ((p:Int)+1+j).toNat=p+1+j by omega,t.out] at f
     obtain ⟨x,y,rfl⟩:=f
     obtain ⟨X,Y,K,Z,v3,v4,v5,B,C,D,E,F,G⟩:=a.tok
     have W:=a.lt
     go_wp2_with fail
     try rw [fl]
     refine ay (v:=bV (dR 7)) (by simp [bV,dR,results,fD,go_sem,B,C,D,E,F,G]) rfl ⟨?_,(a.sets _ _ _ _ _ _).bel⟩
     rw [S.out,<-z.out,o.out];rfl
    | some ck=>
     obtain ⟨c,k⟩:=ck
     have g:=fa _ _ _ _ (by decide) hqs
     rw [aH] at g
     have o:=zq (jV (s.data.toList.drop (p+1)) 34 (by decide) l j k c (by rw [m.out,n.out];exact q) (by rw [m.out,n.out];exact r) (by rw [ci];exact hqs))
     have t:=zq hqs
     have a1:1<=k:=g.1
     have V:p+1+j+k<=s.size:=by have:=g.2.1;have:=g.1;rw [size_data] at *;omega
     have O:0<=c:=g.2.2.1
     have Q:c<=255:=g.2.2.2
     clear hqs q r g
     iterate 2
      go_wp2_with fail
      refine (bK _ _ _ _ _ _ a.lex (by omega)).mono ?_;rintro e d ⟨rfl,rfl⟩;rw [show ((p:Int)+1+j).toNat=p+1+j by omega]
     go_wp2_with fail
     refine (fb _ _ _ _ _ _ _ a.lex (by omega) (by omega)).mono ?_;rintro e d ⟨f,rfl⟩;rw [show ((p:Int)+1+j).toNat=p+1+j by omega,t.out] at f
     unfold QRes at f
     simp only [] at f
     subst f
     go_wp2_with (at_builtin;go_must (refine eV rfl _ _ 106 5 rfl bU pP (w.heap.size+1) _ _ _ rfl _ J _ O Q rfl rfl (by omega) (by have:=a.lt;omega) ?_;intro K w2 R N))
     have L:=Held.callB N (by omega) a
     go_roundw
     case rel=>exact ⟨j+k,l++[c.toNat.toUInt8],by omega,by simp;omega,by go_num,L,lu R,by rw [<-o.out];exact z.out⟩
     case measure=>simp [intOf];omega
theorem xX (b:Nat) (s:ByteArray) (tab:Int->Int) (p:Nat) (w:ai) (h:Lex w b s tab p) (hp:p<s.size) (T:av (cU tab s.data.toList) p=39) :
  aJ ah 87 #[au (some ⟨b,0,none⟩)] w fun e w'=>gj (iD (cU tab s.data.toList) s.data.toList p) e/\ax w.heap.size w w':=by
 have H0:=Held.start h
 have a9:=h.lt
 have ca:=h.ca
 have b4:=h.sz
 clear h
 have a7:Hid ((cU tab s.data.toList).length=s.size):=by show _=_;rw [dK];simp
 generalize hM:cU tab s.data.toList=M at *
 have HM:=zq hM
 clear hM
 have b1:(av M p==39)=true:=by simp [T]
 have V:=zq (show iD M s.data.toList p=tQ p (iX (s.data.toList.drop (p+1)) 39 [] 0) by unfold iD;rw [if_neg (by rw [T];decide),if_pos T];unfold iX;simp)
 have A1:=zq T
 clear T
 have a2:(s.data.toList.drop (p+1)).length=s.size-(p+1):=by rw [aH,size_data]
 have a5:=zq a2
 clear a2
 go_enter Tryz.func87,Tryz.ntmps87
 go_wp2_with fail
 go_step3
 go_wp2_with fail
 refine (bt _ _ _ _ _ _ H0.lex (by omega)).mono ?_;rintro e w1 ⟨rfl,a4⟩;rw [aD,HM.out]
 have H1:=Held.call a4 H0
 have c1:=H1.lex.ca
 rw [A1.out]
 go_wp2_with fail
 go_step3
 go_wp2_with fail
 go_loopw [6,7] (fun v i wr=>∃j:Nat,∃l:List UInt8,p+1+j<=s.size/\l.length<=j/\i=ab ae (p+1+j:Nat)/\Held w wr b s tab p/\wr.ownsRow (w.heap.size+1) 5 1 v l.length (Hb.byteCells l)/\Hid (iX (s.data.toList.drop (p+1)) 39 l j=iX (s.data.toList.drop (p+1)) 39 [] 0)) (fun _ i _=>s.size-(intOf i).toNat)
 case atStart=>exact ⟨0,[],by omega,ag _,by go_num,H1,⟨by simp [Hb.byteCells],.inl ⟨rfl,rfl⟩⟩,rfl⟩
 case round=>
  obtain ⟨j,l,hj,a6,rfl,a,R,G⟩:=hrel
  have a8:=a.lt
  have cX:=a.lex.ca
  have m:=zq (bZ s.data.toList (p+1) j)
  have n:Hid (av (s.data.toList.drop (p+1)) (j+1)=av s.data.toList (p+1+j+1)):=bZ s.data.toList (p+1) (j+1)
  by_cases z:av s.data.toList (p+1+j)=39
  ·have b0:(av s.data.toList (p+1+j)==39)=true:=by simp [z]
   have b2:(av s.data.toList (p+1+j)==92)=false:=by simp [z]
   by_cases K:av s.data.toList (p+1+j+1)=39
   ·have b3:(av s.data.toList (p+1+j+1) != 39)=false:=by simp [K]
    have q:¬(av s.data.toList (p+1+j)=39/\¬av s.data.toList (p+1+j+1)=39):=fun h=>h.2 K
    have t:¬(av s.data.toList (p+1+j)=92/\av s.data.toList (p+1+j+1)=10):=fun h=>absurd h.1 (by rw [z];decide)
    clear z K
    cases hqs:cO (s.data.toList.drop (p+1+j)) 39 with
    | none=>
     have o:=zq (jW (s.data.toList.drop (p+1)) 39 (by decide) l j (by rw [m.out,n.out];exact q) (by rw [m.out,n.out];exact t) (by rw [ci];exact hqs))
     have u:=zq hqs
     clear hqs q t
     go_wp2_with fail
     refine (bK _ _ _ _ _ _ a.lex (by omega)).mono ?_;rintro e f ⟨rfl,rfl⟩;rw [show ((p:Int)+1+j).toNat=p+1+j by omega]
     go_wp2_with fail
     refine (bK _ _ _ _ _ _ a.lex (by omega)).mono ?_;rintro e f ⟨rfl,rfl⟩;rw [show ((p:Int)+1+j+1).toNat=p+1+j+1 by omega]
     go_wp2_with fail
     refine (bK _ _ _ _ _ _ a.lex (by omega)).mono ?_;rintro e f ⟨rfl,rfl⟩;rw [show ((p:Int)+1+j).toNat=p+1+j by omega]
     go_wp2_with fail
     refine (fb _ _ _ _ _ _ _ a.lex (by omega) (by omega)).mono ?_;rintro e f ⟨d,rfl⟩;rw [show ((p:Int)+1+j).toNat=p+1+j by omega,u.out] at d
     obtain ⟨x,y,rfl⟩:=d
     obtain ⟨U,W,J,X,Y,Z,v5,A,B,C,D,E,F⟩:=a.tok
     have a1:=a.lt
     go_wp2_with fail
     try rw [fl]
     refine ay (v:=bV (dR 7)) (by simp [bV,dR,results,fD,go_sem,A,B,C,D,E,F]) rfl ⟨?_,(a.sets _ _ _ _ _ _).bel⟩
     rw [V.out,<-G.out,o.out];rfl
    | some ck=>
     obtain ⟨c,k⟩:=ck
     have g:=fa _ _ _ _ (by decide) hqs
     rw [aH] at g
     have o:=zq (jV (s.data.toList.drop (p+1)) 39 (by decide) l j k c (by rw [m.out,n.out];exact q) (by rw [m.out,n.out];exact t) (by rw [ci];exact hqs))
     have u:=zq hqs
     have a3:1<=k:=g.1
     have a0:p+1+j+k<=s.size:=by have:=g.2.1;have:=g.1;rw [size_data] at *;omega
     have O:0<=c:=g.2.2.1
     have Q:c<=255:=g.2.2.2
     clear hqs q t g
     go_wp2_with fail
     refine (bK _ _ _ _ _ _ a.lex (by omega)).mono ?_;rintro e f ⟨rfl,rfl⟩;rw [show ((p:Int)+1+j).toNat=p+1+j by omega]
     go_wp2_with fail
     refine (bK _ _ _ _ _ _ a.lex (by omega)).mono ?_;rintro e f ⟨rfl,rfl⟩;rw [show ((p:Int)+1+j+1).toNat=p+1+j+1 by omega]
     go_wp2_with fail
     refine (bK _ _ _ _ _ _ a.lex (by omega)).mono ?_;rintro e f ⟨rfl,rfl⟩;rw [show ((p:Int)+1+j).toNat=p+1+j by omega]
     go_wp2_with fail
     refine (fb _ _ _ _ _ _ _ a.lex (by omega) (by omega)).mono ?_;rintro e f ⟨d,rfl⟩;rw [show ((p:Int)+1+j).toNat=p+1+j by omega,u.out] at d
     unfold QRes at d
     simp only [] at d
     subst d
     go_wp2_with (at_builtin;go_must (refine eV rfl _ _ 106 5 rfl bU pP (w.heap.size+1) _ _ _ rfl _ R _ O Q rfl rfl (by omega) (by have:=a.lt;omega) ?_;intro J w2 S I))
     have N:=Held.callB I (by omega) a
     go_roundw
     case rel=>exact ⟨j+k,l++[c.toNat.toUInt8],by omega,by simp;omega,by go_num,N,lu S,by rw [<-o.out];exact G.out⟩
     case measure=>simp [intOf];omega
   ·have b3:(av s.data.toList (p+1+j+1) != 39)=true:=by simp [K]
    have o:=zq (ud (s.data.toList.drop (p+1)) 39 (by decide) l j (by rw [m.out];exact z) (by rw [n.out];exact K))
    clear z K
    have hc:=qM (P:=ah) wr 106 9 5 bU dF cE _ _ _ _ R
    obtain ⟨U,W,J,X,Y,Z,v5,A,B,C,D,E,F⟩:=a.tok
    go_wp2_with fail
    refine (bK _ _ _ _ _ _ a.lex (by omega)).mono ?_;rintro e f ⟨rfl,rfl⟩;rw [show ((p:Int)+1+j).toNat=p+1+j by omega]
    go_wp2_with fail
    refine (bK _ _ _ _ _ _ a.lex (by omega)).mono ?_;rintro e f ⟨rfl,rfl⟩;rw [show ((p:Int)+1+j+1).toNat=p+1+j+1 by omega]
    go_wp2_with fail
    refine (mL _ _ _ _ _ _ _ _ a.lex (by omega)).mono ?_;rintro e w2 ⟨d,I⟩
    have HC:=Held.call I a
    generalize hr:dM _ _ _ _=r at d
    have HR:=zq hr
    clear hr A B C D E F U
    unfold gj bV at d;subst d
    obtain ⟨U,W,J,X,Y,Z,v5,A,B,C,D,E,F⟩:=HC.tok
    have a1:=HC.lt
    go_wp2_with fail
    try rw [fl]
    refine ay (v:=bV r) (by simp [bV,results,fD,go_sem,A,B,C,D,E,F]) rfl ⟨?_,(HC.sets _ _ _ _ _ _).bel⟩
    rw [V.out,<-G.out,o.out,<-HR.out];rfl
  ·have b0:(av s.data.toList (p+1+j)==39)=false:=by simp [z]
   have q:¬(av s.data.toList (p+1+j)=39/\¬av s.data.toList (p+1+j+1)=39):=fun h=>z h.1
   clear z
   by_cases H:av s.data.toList (p+1+j)=92
   ·have b2:(av s.data.toList (p+1+j)==92)=true:=by simp [H]
    by_cases L:av s.data.toList (p+1+j+1)=10
    ·have b3:(av s.data.toList (p+1+j+1)==10)=true:=by simp [L]
     have o:=zq (sn (s.data.toList.drop (p+1)) 39 (by decide) l j (by rw [m.out,n.out];exact q) (by rw [m.out];exact H) (by rw [n.out];exact L))
     have a0:p+1+j+2<=s.size:=by have:=dX s.data.toList (p+1+j+1);rw [size_data] at this;omega
     clear H L q
     iterate 2
      go_wp2_with fail
      refine (bK _ _ _ _ _ _ a.lex (by omega)).mono ?_;rintro e f ⟨rfl,rfl⟩;rw [show ((p:Int)+1+j).toNat=p+1+j by omega]
     go_wp2_with fail
     refine (bK _ _ _ _ _ _ a.lex (by omega)).mono ?_;rintro e f ⟨rfl,rfl⟩;rw [show ((p:Int)+1+j+1).toNat=p+1+j+1 by omega]
     go_wp2_with fail
     go_roundw
     case rel=>exact ⟨j+2,l,by omega,by omega,by go_num,a,R,by rw [<-o.out];exact G.out⟩
     case measure=>simp [intOf];omega
    ·have b3:(av s.data.toList (p+1+j+1)==10)=false:=by simp [L]
     have t:¬(av s.data.toList (p+1+j)=92/\av s.data.toList (p+1+j+1)=10):=fun h=>L h.2
     clear H L
     cases hqs:cO (s.data.toList.drop (p+1+j)) 39 with
     | none=>
      have o:=zq (jW (s.data.toList.drop (p+1)) 39 (by decide) l j (by rw [m.out,n.out];exact q) (by rw [m.out,n.out];exact t) (by rw [ci];exact hqs))
      have u:=zq hqs
      clear hqs q t
      iterate 2
       go_wp2_with fail
       refine (bK _ _ _ _ _ _ a.lex (by omega)).mono ?_;rintro e f ⟨rfl,rfl⟩;rw [show ((p:Int)+1+j).toNat=p+1+j by omega]
      go_wp2_with fail
      refine (bK _ _ _ _ _ _ a.lex (by omega)).mono ?_;rintro e f ⟨rfl,rfl⟩;rw [show ((p:Int)+1+j+1).toNat=p+1+j+1 by omega]
      go_wp2_with fail
      refine (fb _ _ _ _ _ _ _ a.lex (by omega) (by omega)).mono ?_;rintro e f ⟨d,rfl⟩;rw [show ((p:Int)+1+j).toNat=p+1+j by omega,u.out] at d
      obtain ⟨x,y,rfl⟩:=d
      obtain ⟨U,W,J,X,Y,Z,v5,A,B,C,D,E,F⟩:=a.tok
      have a1:=a.lt
      go_wp2_with fail
      try rw [fl]
      refine ay (v:=bV (dR 7)) (by simp [bV,dR,results,fD,go_sem,A,B,C,D,E,F]) rfl ⟨?_,(a.sets _ _ _ _ _ _).bel⟩
      rw [V.out,<-G.out,o.out];rfl
     | some ck=>
      obtain ⟨c,k⟩:=ck
      have g:=fa _ _ _ _ (by decide) hqs
      rw [aH] at g
      have o:=zq (jV (s.data.toList.drop (p+1)) 39 (by decide) l j k c (by rw [m.out,n.out];exact q) (by rw [m.out,n.out];exact t) (by rw [ci];exact hqs))
      have u:=zq hqs
      have a3:1<=k:=g.1
      have a0:p+1+j+k<=s.size:=by have:=g.2.1;have:=g.1;rw [size_data] at *;omega
      have O:0<=c:=g.2.2.1
      have Q:c<=255:=g.2.2.2
      clear hqs q t g
      iterate 2
       go_wp2_with fail
       refine (bK _ _ _ _ _ _ a.lex (by omega)).mono ?_;rintro e f ⟨rfl,rfl⟩;rw [show ((p:Int)+1+j).toNat=p+1+j by omega]
      go_wp2_with fail
      refine (bK _ _ _ _ _ _ a.lex (by omega)).mono ?_;rintro e f ⟨rfl,rfl⟩;rw [show ((p:Int)+1+j+1).toNat=p+1+j+1 by omega]
      go_wp2_with fail
      refine (fb _ _ _ _ _ _ _ a.lex (by omega) (by omega)).mono ?_;rintro e f ⟨d,rfl⟩;rw [show ((p:Int)+1+j).toNat=p+1+j by omega,u.out] at d
      unfold QRes at d
      simp only [] at d
      subst d
      go_wp2_with (at_builtin;go_must (refine eV rfl _ _ 106 5 rfl bU pP (w.heap.size+1) _ _ _ rfl _ R _ O Q rfl rfl (by omega) (by have:=a.lt;omega) ?_;intro J w2 S I))
      have N:=Held.callB I (by omega) a
      go_roundw
      case rel=>exact ⟨j+k,l++[c.toNat.toUInt8],by omega,by simp;omega,by go_num,N,lu S,by rw [<-o.out];exact G.out⟩
      case measure=>simp [intOf];omega
   ·have b2:(av s.data.toList (p+1+j)==92)=false:=by simp [H]
    have t:¬(av s.data.toList (p+1+j)=92/\av s.data.toList (p+1+j+1)=10):=fun h=>H h.1
    clear H
    cases hqs:cO (s.data.toList.drop (p+1+j)) 39 with
    | none=>
     have o:=zq (jW (s.data.toList.drop (p+1)) 39 (by decide) l j (by rw [m.out,n.out];exact q) (by rw [m.out,n.out];exact t) (by rw [ci];exact hqs))
     have u:=zq hqs
     clear hqs q t
     iterate 2
      go_wp2_with fail
      refine (bK _ _ _ _ _ _ a.lex (by omega)).mono ?_;rintro e f ⟨rfl,rfl⟩;rw [show ((p:Int)+1+j).toNat=p+1+j by omega]
     go_wp2_with fail
     refine (fb _ _ _ _ _ _ _ a.lex (by omega) (by omega)).mono ?_;rintro e f ⟨d,rfl⟩;rw [show ((p:Int)+1+j).toNat=p+1+j by omega,u.out] at d
     obtain ⟨x,y,rfl⟩:=d
     obtain ⟨U,W,J,X,Y,Z,v5,A,B,C,D,E,F⟩:=a.tok
     have a1:=a.lt
     go_wp2_with fail
     try rw [fl]
     refine ay (v:=bV (dR 7)) (by simp [bV,dR,results,fD,go_sem,A,B,C,D,E,F]) rfl ⟨?_,(a.sets _ _ _ _ _ _).bel⟩
     rw [V.out,<-G.out,o.out];rfl
    | some ck=>
     obtain ⟨c,k⟩:=ck
     have g:=fa _ _ _ _ (by decide) hqs
     rw [aH] at g
     have o:=zq (jV (s.data.toList.drop (p+1)) 39 (by decide) l j k c (by rw [m.out,n.out];exact q) (by rw [m.out,n.out];exact t) (by rw [ci];exact hqs))
     have u:=zq hqs
     have a3:1<=k:=g.1
     have a0:p+1+j+k<=s.size:=by have:=g.2.1;have:=g.1;rw [size_data] at *;omega
     have O:0<=c:=g.2.2.1
     have Q:c<=255:=g.2.2.2
     clear hqs q t g
     iterate 2
      go_wp2_with fail
      refine (bK _ _ _ _ _ _ a.lex (by omega)).mono ?_;rintro e f ⟨rfl,rfl⟩;rw [show ((p:Int)+1+j).toNat=p+1+j by omega]
     go_wp2_with fail
     refine (fb _ _ _ _ _ _ _ a.lex (by omega) (by omega)).mono ?_;rintro e f ⟨d,rfl⟩;rw [show ((p:Int)+1+j).toNat=p+1+j by omega,u.out] at d
     unfold QRes at d
     simp only [] at d
     subst d
     go_wp2_with (at_builtin;go_must (refine eV rfl _ _ 106 5 rfl bU pP (w.heap.size+1) _ _ _ rfl _ R _ O Q rfl rfl (by omega) (by have:=a.lt;omega) ?_;intro J w2 S I))
     have N:=Held.callB I (by omega) a
     go_roundw
     case rel=>exact ⟨j+k,l++[c.toNat.toUInt8],by omega,by simp;omega,by go_num,N,lu S,by rw [<-o.out];exact G.out⟩
     case measure=>simp [intOf];omega
theorem EY (b:Nat) (s:ByteArray) (tab:Int->Int) (p:Nat) (w:ai) (h:Lex w b s tab p) (g:p<s.size) :
  aJ ah 87 #[au (some ⟨b,0,none⟩)] w fun e w'=>gj (iD (cU tab s.data.toList) s.data.toList p) e/\ax w.heap.size w w':=by
 by_cases a:av (cU tab s.data.toList) p=34
 ·exact uU b s tab p w h g a
 by_cases c:av (cU tab s.data.toList) p=39
 ·exact xX b s tab p w h g c
 have i:=zq (show iD (cU tab s.data.toList) s.data.toList p=dR 7 by unfold iD;rw [if_neg a,if_neg c])
 have r:(av (cU tab s.data.toList) p==34)=false:=by simp [a]
 have t:(av (cU tab s.data.toList) p==39)=false:=by simp [c]
 have f:=Held.start h
 have x:=h.lt
 have u:=h.ca
 clear h a c
 go_enter Tryz.func87,Tryz.ntmps87
 go_wp2_with fail
 go_step3
 go_wp2_with fail
 refine (bt _ _ _ _ _ _ f.lex (by omega)).mono ?_;rintro e G ⟨rfl,j⟩;rw [aD]
 have d:=Held.call j f
 obtain ⟨z,A,B,C,D,E,F,k,l,m,n,o,q⟩:=d.tok
 have y:=d.lt
 go_wp2_with fail
 try rw [fl]
 refine ay (v:=bV (dR 7)) (by simp [bV,dR,results,fD,go_sem,k,l,m,n,o,q]) rfl ⟨?_,(d.sets _ _ _ _ _ _).bel⟩
 rw [i.out];rfl
theorem tX (b:Nat) (w:ai) :
  aJ ah 82 #[au (some ⟨b,0,none⟩)] w fun e w'=>gj (dR 7) e/\ax w.heap.size w w':=by
 go_enter Tryz.func82,Tryz.ntmps82
 go_wp2
 refine ay (v:=bV (dR 7)) (by simp [bV,dR,results,Tryz.results82,go_sem]) rfl ⟨rfl,(aj _ _).alloc (ag _) _⟩
theorem KW (c:Int) (h:cls c=4):cq 10 c=true:=by
 have a:48<=c/\c<=57:=by unfold cls at h;grind (splits:=30)
 unfold cq;rw [lx _ _ (by decide) (by decide)];unfold qK;rw [if_pos a];simp;omega
structure Only (g:Nat) (w w':ai):Prop where
 os:w'.os=w.os
 tape:w'.tape=w.tape
 output:w'.output=w.output
 size:w.heap.size<=w'.heap.size
 block:∀k,k<w.heap.size->k≠g->w'.heap[k]? = w.heap[k]?
theorem Only.refl (g:Nat) (w:ai):Only g w w:=⟨rfl,rfl,rfl,ag _,fun _ _ _=>rfl⟩
theorem Only.below {g:Nat} {a b c:ai} (h:Only g a b) {B:Nat} (d:ax B b c) (j:a.heap.size<=B):Only g a c :=
 ⟨d.os.trans h.os,d.tape.trans h.tape,d.output.trans h.output,Nat.le_trans h.size d.size,fun i f e=>(d.block i (by omega)).trans (h.block i f e)⟩
theorem Only.drew {g:Nat} {a b:ai} (h:Only g a b):Only g a b.drew:=⟨h.os,h.tape,h.output,h.size,h.block⟩
theorem Only.set {g:Nat} {a b:ai} (h:Only g a b) (o:Nat) (v:az):Only g a (b.setCell ⟨g,o,none⟩ v) :=
 ⟨h.os,h.tape,h.output,by simp [gf];exact h.size,fun i d c=>(ey b _ v i c).trans (h.block i d c)⟩
theorem Only.setNew {g:Nat} {a b:ai} (h:Only g a b) (p:Addr) (e:a.heap.size<=p.block) (v:az):Only g a (b.setCell p v) :=
 ⟨h.os,h.tape,h.output,by simp [gf];exact h.size,fun i d c=>(ey b _ v i (by omega)).trans (h.block i d c)⟩
theorem Only.toBelow' {g:Nat} {a b:ai} (h:Only g a b) {B:Nat} (d:B<=g) (c:B<=a.heap.size):ax B a b:=⟨h.os,h.tape,h.output,h.size,fun k e=>h.block k (by omega) (by omega)⟩
theorem Lex.setAt {w:ai} {b:Nat} {s:ByteArray} {tab:Int->Int} {a:Int} (h:Lex w b s tab a) (p:Int):Lex (w.setCell ⟨b,257,none⟩ (ab ae p)) b s tab p where
 lt:=by simp [gf];exact h.lt
 c0:=(cW w _ _ _ (by intro d;injection d with _ h2 _;omega)).trans h.c0
 ct:=fun c e=>(cW w _ _ _ (by intro d;injection d with _ h2 _;omega)).trans (h.ct c e)
 ca:=World.cell?_setCell_same w _ _ h.ca
 fr:=fun o=>(nk _ _ _ _).trans (h.fr o)
 sz:=h.sz
 tb:=h.tb
structure NHeld (w0 w:ai) (b:Nat) (s:ByteArray) (tab:Int->Int) (p:Int):Prop where
 lex:Lex w b s tab p
 only:Only b w0 w
 tok:Tok6 w w0.heap.size
 lt:w0.heap.size<w.heap.size
 blt:b<w0.heap.size
section
variable {w0 w w':ai} {b:Nat} {s:ByteArray} {tab:Int->Int} {p:Int}
theorem NHeld.start (h:Lex w0 b s tab p):NHeld w0 (w0.alloc fm) b s tab p:=by
 have H:=Held.start h
 exact ⟨H.lex,(Only.refl b w0).below H.bel (ag _),H.tok,H.lt,H.blt⟩
theorem Tok6.below {B g:Nat} (h:Tok6 w g) (a:ax B w w') (b:g<B):Tok6 w' g:=by
 obtain ⟨l,m,n,q,r,s,t,c,d,f,i,j,k⟩:=h
 have e:∀o,w'.cell? ⟨g,o,none⟩=w.cell? ⟨g,o,none⟩:=fun o=>a.cell (p:=⟨g,o,none⟩) b
 exact ⟨fun o=>(a.frozen (p:=⟨g,o,none⟩) b).trans (l o),m,n,q,r,s,t,(e 0).trans c,(e 1).trans d,(e 2).trans f,(e 3).trans i,(e 4).trans j,(e 5).trans k⟩
theorem NHeld.call {B:Nat} (a:ax B w w') (c:w0.heap.size<B) (h:NHeld w0 w b s tab p):NHeld w0 w' b s tab p :=
 ⟨h.lex.below a (Nat.lt_trans h.blt c),h.only.below a (Nat.le_of_lt c),h.tok.below a c,Nat.lt_of_lt_of_le h.lt a.size,h.blt⟩
theorem NHeld.setAt (h:NHeld w0 w b s tab p) (q:Int):NHeld w0 (w.setCell ⟨b,257,none⟩ (ab ae q)) b s tab q:=by
 obtain ⟨l,m,n,r,t,u,v,d,f,g,i,j,k⟩:=h.tok
 have c:b≠w0.heap.size:=by have:=h.blt;omega
 have e:∀o,(w.setCell ⟨b,257,none⟩ (ab ae q)).cell? ⟨w0.heap.size,o,none⟩=w.cell? ⟨w0.heap.size,o,none⟩:=fun o=>cW w _ _ _ (by intro a;injection a with h1 _ _;exact c h1)
 exact ⟨h.lex.setAt q,h.only.set 257 _,⟨fun o=>(nk _ _ _ _).trans (l o),m,n,r,t,u,v,(e 0).trans d,(e 1).trans f,(e 2).trans g,(e 3).trans i,(e 4).trans j,(e 5).trans k⟩,by simp [gf];exact h.lt,h.blt⟩
end
theorem oU {w w':ai} {b g:Nat} (h:Only b w w') (a:w.heap.size<=g) (a0 c d e f i:az):Only b w ((((((w'.setCell ⟨g,0,none⟩ a0).setCell ⟨g,1,none⟩ c).setCell ⟨g,2,none⟩ d).setCell ⟨g,3,none⟩ e).setCell ⟨g,4,none⟩ f).setCell ⟨g,5,none⟩ i) :=
 (((((h.setNew ⟨g,_,none⟩ a _).setNew ⟨g,_,none⟩ a _).setNew ⟨g,_,none⟩ a _).setNew ⟨g,_,none⟩ a _).setNew ⟨g,_,none⟩ a _).setNew ⟨g,_,none⟩ a _
theorem qx {w:ai} {b g:Nat} {s:ByteArray} {tab:Int->Int} {p:Int} (h:Lex w b s tab p) (a:b≠g) (a0 c d e f i:az):Lex ((((((w.setCell ⟨g,0,none⟩ a0).setCell ⟨g,1,none⟩ c).setCell ⟨g,2,none⟩ d).setCell ⟨g,3,none⟩ e).setCell ⟨g,4,none⟩ f).setCell ⟨g,5,none⟩ i) b s tab p:=by
 refine h.same (by simp [gf]) ?_
 rw [ey _ _ _ _ a,ey _ _ _ _ a,ey _ _ _ _ a,ey _ _ _ _ a,ey _ _ _ _ a,ey _ _ _ _ a]
theorem cj {w w':ai} {b g:Nat} (h:Only b w w') (i:w.heap.size<=g) (a0 a c d e f:az) (o:Obj):Only b w (((((((w'.setCell ⟨g,0,none⟩ a0).setCell ⟨g,1,none⟩ a).setCell ⟨g,2,none⟩ c).setCell ⟨g,3,none⟩ d).setCell ⟨g,4,none⟩ e).setCell ⟨g,5,none⟩ f).alloc o) :=
 (oU h i a0 a c d e f).below ((aj _ _).alloc (ag _) o) (oU h i a0 a c d e f).size
theorem cJ {w:ai} {b g:Nat} {s:ByteArray} {tab:Int->Int} {p:Int} (h:Lex w b s tab p) (i:b≠g) (a0 a c d e f:az) (o:Obj):Lex (((((((w.setCell ⟨g,0,none⟩ a0).setCell ⟨g,1,none⟩ a).setCell ⟨g,2,none⟩ c).setCell ⟨g,3,none⟩ d).setCell ⟨g,4,none⟩ e).setCell ⟨g,5,none⟩ f).alloc o) b s tab p :=
 (qx h i a0 a c d e f).below ((aj _ _).alloc (ag _) o) (qx h i a0 a c d e f).lt
def dp (r:NextR):az:=.tuple #[.agg #[ab ae r.r.kind,.string ⟨r.r.text.toArray⟩,ab ae r.r.n,ab ae r.r.at_,ab ae r.r.end_,.bool r.lay],ab ae r.where_,ab ae r.r.err]
def iZ (r:NextR) (e:Ending):Prop:=e=.returned (dp r)
def gv:Obj:=.cells #[.func (.func 82) #[] #[],.func (.func 82) #[] #[],.func (.func 83) #[] #[],.func (.func 83) #[] #[],.func (.func 84) #[] #[],.func (.func 85) #[] #[],.func (.func 86) #[] #[],.func (.func 87) #[] #[],.func (.func 82) #[] #[]] 149
theorem xu (w:ai):(w.alloc gv).cell? ⟨w.heap.size,0,none⟩=some (.func (.func 82) #[] #[]):=by unfold gv;rw [aq];rfl
theorem xt (w:ai):(w.alloc gv).cell? ⟨w.heap.size,1,none⟩=some (.func (.func 82) #[] #[]):=by unfold gv;rw [aq];rfl
theorem xr (w:ai):(w.alloc gv).cell? ⟨w.heap.size,2,none⟩=some (.func (.func 83) #[] #[]):=by unfold gv;rw [aq];rfl
theorem xq (w:ai):(w.alloc gv).cell? ⟨w.heap.size,3,none⟩=some (.func (.func 83) #[] #[]):=by unfold gv;rw [aq];rfl
theorem xp (w:ai):(w.alloc gv).cell? ⟨w.heap.size,4,none⟩=some (.func (.func 84) #[] #[]):=by unfold gv;rw [aq];rfl
theorem qn (w:ai):(w.alloc gv).cell? ⟨w.heap.size,5,none⟩=some (.func (.func 85) #[] #[]):=by unfold gv;rw [aq];rfl
theorem xo (w:ai):(w.alloc gv).cell? ⟨w.heap.size,6,none⟩=some (.func (.func 86) #[] #[]):=by unfold gv;rw [aq];rfl
theorem xm (w:ai):(w.alloc gv).cell? ⟨w.heap.size,7,none⟩=some (.func (.func 87) #[] #[]):=by unfold gv;rw [aq];rfl
theorem xk (w:ai):(w.alloc gv).cell? ⟨w.heap.size,8,none⟩=some (.func (.func 82) #[] #[]):=by unfold gv;rw [aq];rfl
theorem xZ (b:Nat) (s:ByteArray) (tab:Int->Int) (a:Nat) (x:Int) (w:ai) (h:Lex w b s tab x) (_ha:a<=s.size) (i:(a+bS ((cU tab s.data.toList).drop a))=s.size) :
  aJ ah 59 #[au (some ⟨b,0,none⟩),ab ae a] w fun e w'=>iZ (bF (cU tab s.data.toList) s.data.toList a) e/\Only b w w'/\∃q,Lex w' b s tab q:=by
 have g:=NHeld.start h
 have W:=h.lt
 have X:=h.sz
 clear h
 have D:Hid ((cU tab s.data.toList).length=s.size):=by show _=_;rw [dK];simp
 have u:Hid (s.data.toList.length=s.size):=size_data s
 have E:=il ((cU tab s.data.toList).drop a)
 rw [aH,D.out] at E
 generalize m:cU tab s.data.toList=M at *
 have t:=zq m
 clear m
 generalize n:bS (M.drop a)=S at *
 have k:=zq n
 clear n
 have r:=zq (show bF M s.data.toList a=⟨dR 14,false,a+S⟩ by unfold bF;simp only [k.out];rw [if_pos (by rw [u.out];exact i)];simp)
 have Q:((a:Int)+S==(s.size:Int))=true:=by simp;omega
 have U:=zq i
 clear i
 go_enter fE,fc
 go_wp2_with fail
 refine (iT _ _ _ _ _ _ g.lex (by omega)).mono ?_;rintro e O ⟨rfl,l⟩;rw [aD,t.out,k.out]
 have d:=NHeld.call l g.lt g
 have y:=d.lex.ca
 have B:=d.lex.fr 257
 have C:=d.lex.lt
 have f:=d.setAt (a+S)
 clear l g d
 go_wp2_with fail
 generalize F:O.setCell ⟨b,257,none⟩ (ab ae ((a:Int)+S))=j at *
 clear F y B C
 have z:=f.lex.ca
 have A:=f.lex.c0
 go_quiet (fail)
 have c:=NHeld.call (dS (aj j.heap.size j) nq) f.lt f
 clear f z A
 generalize G:j.drewN nq=p at *
 clear G
 have R:=c.lex.ca
 obtain ⟨Y,Z,v1,v2,v3,v4,v5,H,I,J,K,L,N⟩:=c.tok
 have V:=c.lt
 have T:=c.lex.lt
 have P:=fun o=>NHeld.call ((aj p.heap.size p).alloc (ag _) o) c.lt c
 go_wp2_with fail
 go_region
 go_wp2_with fail
 refine ay (v:=dp ⟨dR 14,false,(a:Int)+S⟩) (by simp [dp,dR,results,cG,go_sem,H,I,J,K,L,N]) rfl ⟨?_,(oU c.only (ag _) _ _ _ _ _ _).drew,_,(qx c.lex (by have:=c.blt;omega) _ _ _ _ _ _).drewN 1⟩
 rw [r.out];rfl
theorem uV (b:Nat) (s:ByteArray) (tab:Int->Int) (a:Nat) (L:Int) (w:ai) (h:Lex w b s tab L) (ha:a<=s.size) (k:¬(a+bS ((cU tab s.data.toList).drop a))=s.size) (l:av (cU tab s.data.toList) (a+bS ((cU tab s.data.toList).drop a))=47/\av (cU tab s.data.toList) ((a+bS ((cU tab s.data.toList).drop a))+1)=42) :
  aJ ah 59 #[au (some ⟨b,0,none⟩),ab ae a] w fun e w'=>iZ (bF (cU tab s.data.toList) s.data.toList a) e/\Only b w w'/\∃q,Lex w' b s tab q:=by
 have i:=NHeld.start h
 have a6:=h.lt
 have a7:=h.sz
 clear h
 have U:Hid ((cU tab s.data.toList).length=s.size):=by show _=_;rw [dK];simp
 have C:Hid (s.data.toList.length=s.size):=size_data s
 have V:=il ((cU tab s.data.toList).drop a)
 rw [aH,U.out] at V
 generalize F:cU tab s.data.toList=M at *
 have n:=zq F
 clear F
 generalize G:bS (M.drop a)=S at *
 have p:=zq G
 clear G
 have b1:((a:Int)+S==(s.size:Int))=false:=by simp;omega
 have K:Hid (∀e,¬e=0->(cC M s.data.toList (a+S)).err=e->Hid (bF M s.data.toList a=⟨dR e,false,a+S⟩)):=fun e R h=>by
  show bF M s.data.toList a=_
  unfold bF;simp only [p.out];rw [if_neg (by rw [C.out];exact k),if_neg (by rw [h];exact R),h];simp
 have a0:Hid ((cC M s.data.toList (a+S)).err=0->Hid (bF M s.data.toList a=⟨cC M s.data.toList (a+S),decide (a<a+S),0⟩)):=fun h=>by
  show bF M s.data.toList a=_
  unfold bF;simp only [p.out];rw [if_neg (by rw [C.out];exact k),if_pos h]
 have hp:a+S<s.size:=by omega
 have a3:=zq k
 clear k
 have J:=K.out 7 (by decide) (by unfold cC;rw [if_pos l];rfl)
 have b2:(av M (a+S)==47)=true:=by simp [l.1]
 have b3:(av M (a+S+1)==42)=true:=by simp [l.2]
 clear l
 go_enter fE,fc
 go_wp2_with fail
 refine (iT _ _ _ _ _ _ i.lex (by omega)).mono ?_;rintro e Z ⟨rfl,D⟩;rw [aD,n.out,p.out]
 have f:=NHeld.call D i.lt i
 have N:=f.lex.ca
 have Q:=f.lex.fr 257
 have T:=f.lex.lt
 have g:=f.setAt (a+S)
 clear D i f
 go_wp2_with fail
 generalize W:Z.setCell ⟨b,257,none⟩ (ab ae ((a:Int)+S))=B at *
 clear W N Q T
 have O:=g.lex.ca
 have P:=g.lex.c0
 go_quiet (fail)
 have d:=NHeld.call (dS (aj B.heap.size B) nq) g.lt g
 clear g O P
 generalize X:B.drewN nq=I at *
 clear X
 have c3:=d.lex.ca
 obtain ⟨H,v0,v1,v2,v3,v4,v5,t,u,x,y,z,A⟩:=d.tok
 have a4:=d.lt
 have a1:=d.lex.lt
 have m:=fun o=>NHeld.call ((aj I.heap.size I).alloc (ag _) o) d.lt d
 go_wp2_with fail
 refine (bt _ _ _ _ _ _ (m _).lex (by omega)).mono ?_;rintro e w5 ⟨rfl,r⟩;rw [show ((a:Int)+S).toNat=a+S by omega,n.out]
 have j:=NHeld.call r (m _).lt (m _)
 have c5:=j.lex.ca
 have Y:=r
 go_wp2_with fail
 refine (bt _ _ _ _ _ _ j.lex (by omega)).mono ?_;rintro e w6 ⟨rfl,E⟩;rw [show ((a:Int)+S+1).toNat=a+S+1 by omega,n.out]
 have c:=NHeld.call E j.lt j
 have c6:=c.lex.ca
 have r6:=Y.trans (E.mono r.size)
 go_wp2_with fail
 clear t u x y z A H
 obtain ⟨H,x0,x1,x2,x3,x4,x5,t,u,x,y,z,A⟩:=c.tok
 have a5:=c.lt
 have a2:=c.lex.lt
 go_region
 go_wp2_with fail
 refine ay (v:=dp ⟨dR 7,false,(a:Int)+S⟩) (by simp [dp,dR,results,cG,go_sem,t,u,x,y,z,A]) rfl ⟨?_,(oU c.only (ag _) _ _ _ _ _ _).drew,_,(qx c.lex (by have:=c.blt;omega) _ _ _ _ _ _).drewN 1⟩
 rw [J.out];rfl
theorem BR (b:Nat) (s:ByteArray) (tab:Int->Int) (a:Nat) (Y:Int) (w:ai) (h:Lex w b s tab Y) (ha:a<=s.size) (n:¬(a+bS ((cU tab s.data.toList).drop a))=s.size) (B:¬av (cU tab s.data.toList) (a+bS ((cU tab s.data.toList).drop a))=47) (E:cls (av (cU tab s.data.toList) (a+bS ((cU tab s.data.toList).drop a)))=0) :
  aJ ah 59 #[au (some ⟨b,0,none⟩),ab ae a] w fun e w'=>iZ (bF (cU tab s.data.toList) s.data.toList a) e/\Only b w w'/\∃q,Lex w' b s tab q:=by
 have l:=NHeld.start h
 have b0:=h.lt
 have b3:=h.sz
 clear h
 have a3:Hid ((cU tab s.data.toList).length=s.size):=by show _=_;rw [dK];simp
 have I:Hid (s.data.toList.length=s.size):=size_data s
 have a4:=il ((cU tab s.data.toList).drop a)
 rw [aH,a3.out] at a4
 generalize N:cU tab s.data.toList=M at *
 have z:=zq N
 clear N
 generalize O:bS (M.drop a)=S at *
 have A:=zq O
 clear O
 have b1:((a:Int)+S==(s.size:Int))=false:=by simp;omega
 have V:Hid (∀e,¬e=0->(cC M s.data.toList (a+S)).err=e->Hid (bF M s.data.toList a=⟨dR e,false,a+S⟩)):=fun e k h=>by
  show bF M s.data.toList a=_
  unfold bF;simp only [A.out];rw [if_neg (by rw [I.out];exact n),if_neg (by rw [h];exact k),h];simp
 have W:Hid ((cC M s.data.toList (a+S)).err=0->Hid (bF M s.data.toList a=⟨cC M s.data.toList (a+S),decide (a<a+S),0⟩)):=fun h=>by
  show bF M s.data.toList a=_
  unfold bF;simp only [A.out];rw [if_neg (by rw [I.out];exact n),if_pos h]
 have hp:a+S<s.size:=by omega
 have a8:=zq n
 clear n
 have b2:(av M (a+S)==47)=false:=by simp [B]
 have T:=zq E
 have X:=zq (show cC M s.data.toList (a+S)=dR 7 by unfold cC;rw [if_neg (fun h=>B h.1),E];rfl)
 clear B E
 go_enter fE,fc
 go_wp2_with fail
 refine (iT _ _ _ _ _ _ l.lex (by omega)).mono ?_;rintro e w1 ⟨rfl,J⟩;rw [aD,z.out,A.out]
 have g:=NHeld.call J l.lt l
 have Z:=g.lex.ca
 have f1:=g.lex.fr 257
 have a2:=g.lex.lt
 have i:=g.setAt (a+S)
 clear J l g
 go_wp2_with fail
 generalize a5:w1.setCell ⟨b,257,none⟩ (ab ae ((a:Int)+S))=H at *
 clear a5 Z f1 a2
 have c2:=i.lex.ca
 have d2:=i.lex.c0
 go_quiet (fail)
 have d:=NHeld.call (dS (aj H.heap.size H) nq) i.lt i
 clear i c2 d2
 generalize a6:H.drewN nq=t at *
 clear a6
 have c3:=d.lex.ca
 obtain ⟨t6,v0,v1,v2,v3,v4,v5,t0,t1,t2,t3,t4,t5⟩:=d.tok
 have a9:=d.lt
 have a0:=d.lex.lt
 have m:=fun o=>NHeld.call ((aj t.heap.size t).alloc (ag _) o) d.lt d
 go_wp2_with fail
 refine (bt _ _ _ _ _ _ (m _).lex (by omega)).mono ?_;rintro e w6 ⟨rfl,K⟩;rw [show ((a:Int)+S).toNat=a+S by omega,z.out]
 have j:=NHeld.call K (m _).lt (m _)
 have c6:=j.lex.ca
 have F:=K
 go_wp2_with fail
 refine (bt _ _ _ _ _ _ j.lex (by omega)).mono ?_;rintro e w7 ⟨rfl,C⟩;rw [show ((a:Int)+S).toNat=a+S by omega,z.out]
 have u:=NHeld.call C j.lt j
 have G:=F.trans (C.mono F.size)
 go_wp2_with fail
 refine (cZ _ _).mono ?_;rintro e w8 ⟨rfl,D⟩;rw [T.out]
 have x:=NHeld.call D u.lt u
 have R:=G.trans (D.mono G.size)
 have fk:=(R.cell (p:=⟨t.heap.size,0,none⟩) (by simp)).trans (xu t)
 clear C D u G F j c6 d m c3 a0 t0 t1 t2 t3 t4 t5 t6 R
 go_wp2_with fail
 refine (tX b _).mono ?_;rintro e w9 ⟨k,L⟩
 have c:=NHeld.call L x.lt x
 rw [<-X.out] at k
 generalize Q:cC M s.data.toList (a+S)=r at *
 have HR:=zq Q
 clear Q
 unfold gj bV at k;subst k
 have c9:=c.lex.ca
 have P:=c.lt
 have a7:=c.lex.lt
 obtain ⟨u6,x0,x1,x2,x3,x4,x5,u0,u1,u2,u3,u4,u5⟩:=c.tok
 clear x L fk
 by_cases f:r.err=0
 ·have z1:(r.err != 0)=false:=by simp [f]
  have y:=W.out f
  have U:=zq f
  clear f
  go_wp2_with fail
  have a1:Hid (decide ((a:Int)<(a:Int)+S)=decide (a<a+S)):=by show _=_;rw [decide_eq_decide];omega
  refine ay (v:=dp ⟨r,decide ((a:Int)<(a:Int)+S),0⟩) ?_ rfl ⟨?_,cj c.only (ag _) _ _ _ _ _ _ _,_,cJ c.lex (by have:=c.blt;omega) _ _ _ _ _ _ _⟩
  ·simp [dp,results,cG,go_sem,u0,u1,u2,u3,u4,u5,U.out,P]
  ·rw [y.out,<-a1.out];rfl
 ·have z1:(r.err != 0)=true:=by simp [f]
  have y:=V.out r.err f rfl
  clear f
  go_wp2_with fail
  go_region
  go_wp2_with fail
  refine ay (v:=dp ⟨dR r.err,false,(a:Int)+S⟩) ?_ rfl ⟨?_,(cj c.only (ag _) _ _ _ _ _ _ _).drew,_,(cJ c.lex (by have:=c.blt;omega) _ _ _ _ _ _ _).drewN 1⟩
  ·simp [dp,dR,results,cG,go_sem,u0,u1,u2,u3,u4,u5,P]
  ·rw [y.out];rfl
theorem BQ (b:Nat) (s:ByteArray) (tab:Int->Int) (a:Nat) (Y:Int) (w:ai) (h:Lex w b s tab Y) (ha:a<=s.size) (n:¬(a+bS ((cU tab s.data.toList).drop a))=s.size) (B:¬av (cU tab s.data.toList) (a+bS ((cU tab s.data.toList).drop a))=47) (E:cls (av (cU tab s.data.toList) (a+bS ((cU tab s.data.toList).drop a)))=1) :
  aJ ah 59 #[au (some ⟨b,0,none⟩),ab ae a] w fun e w'=>iZ (bF (cU tab s.data.toList) s.data.toList a) e/\Only b w w'/\∃q,Lex w' b s tab q:=by
 have l:=NHeld.start h
 have b0:=h.lt
 have b3:=h.sz
 clear h
 have a3:Hid ((cU tab s.data.toList).length=s.size):=by show _=_;rw [dK];simp
 have I:Hid (s.data.toList.length=s.size):=size_data s
 have a4:=il ((cU tab s.data.toList).drop a)
 rw [aH,a3.out] at a4
 generalize N:cU tab s.data.toList=M at *
 have z:=zq N
 clear N
 generalize O:bS (M.drop a)=S at *
 have A:=zq O
 clear O
 have b1:((a:Int)+S==(s.size:Int))=false:=by simp;omega
 have V:Hid (∀e,¬e=0->(cC M s.data.toList (a+S)).err=e->Hid (bF M s.data.toList a=⟨dR e,false,a+S⟩)):=fun e k h=>by
  show bF M s.data.toList a=_
  unfold bF;simp only [A.out];rw [if_neg (by rw [I.out];exact n),if_neg (by rw [h];exact k),h];simp
 have W:Hid ((cC M s.data.toList (a+S)).err=0->Hid (bF M s.data.toList a=⟨cC M s.data.toList (a+S),decide (a<a+S),0⟩)):=fun h=>by
  show bF M s.data.toList a=_
  unfold bF;simp only [A.out];rw [if_neg (by rw [I.out];exact n),if_pos h]
 have hp:a+S<s.size:=by omega
 have a8:=zq n
 clear n
 have b2:(av M (a+S)==47)=false:=by simp [B]
 have T:=zq E
 have X:=zq (show cC M s.data.toList (a+S)=dR 7 by unfold cC;rw [if_neg (fun h=>B h.1),E];rfl)
 clear B E
 go_enter fE,fc
 go_wp2_with fail
 refine (iT _ _ _ _ _ _ l.lex (by omega)).mono ?_;rintro e w1 ⟨rfl,J⟩;rw [aD,z.out,A.out]
 have g:=NHeld.call J l.lt l
 have Z:=g.lex.ca
 have f1:=g.lex.fr 257
 have a2:=g.lex.lt
 have i:=g.setAt (a+S)
 clear J l g
 go_wp2_with fail
 generalize a5:w1.setCell ⟨b,257,none⟩ (ab ae ((a:Int)+S))=H at *
 clear a5 Z f1 a2
 have c2:=i.lex.ca
 have d2:=i.lex.c0
 go_quiet (fail)
 have d:=NHeld.call (dS (aj H.heap.size H) nq) i.lt i
 clear i c2 d2
 generalize a6:H.drewN nq=t at *
 clear a6
 have c3:=d.lex.ca
 obtain ⟨t6,v0,v1,v2,v3,v4,v5,t0,t1,t2,t3,t4,t5⟩:=d.tok
 have a9:=d.lt
 have a0:=d.lex.lt
 have m:=fun o=>NHeld.call ((aj t.heap.size t).alloc (ag _) o) d.lt d
 go_wp2_with fail
 refine (bt _ _ _ _ _ _ (m _).lex (by omega)).mono ?_;rintro e w6 ⟨rfl,K⟩;rw [show ((a:Int)+S).toNat=a+S by omega,z.out]
 have j:=NHeld.call K (m _).lt (m _)
 have c6:=j.lex.ca
 have F:=K
 go_wp2_with fail
 refine (bt _ _ _ _ _ _ j.lex (by omega)).mono ?_;rintro e w7 ⟨rfl,C⟩;rw [show ((a:Int)+S).toNat=a+S by omega,z.out]
 have u:=NHeld.call C j.lt j
 have G:=F.trans (C.mono F.size)
 go_wp2_with fail
 refine (cZ _ _).mono ?_;rintro e w8 ⟨rfl,D⟩;rw [T.out]
 have x:=NHeld.call D u.lt u
 have R:=G.trans (D.mono G.size)
 have fk:=(R.cell (p:=⟨t.heap.size,1,none⟩) (by simp)).trans (xt t)
 clear C D u G F j c6 d m c3 a0 t0 t1 t2 t3 t4 t5 t6 R
 go_wp2_with fail
 refine (tX b _).mono ?_;rintro e w9 ⟨k,L⟩
 have c:=NHeld.call L x.lt x
 rw [<-X.out] at k
 generalize Q:cC M s.data.toList (a+S)=r at *
 have HR:=zq Q
 clear Q
 unfold gj bV at k;subst k
 have c9:=c.lex.ca
 have P:=c.lt
 have a7:=c.lex.lt
 obtain ⟨u6,x0,x1,x2,x3,x4,x5,u0,u1,u2,u3,u4,u5⟩:=c.tok
 clear x L fk
 by_cases f:r.err=0
 ·have z1:(r.err != 0)=false:=by simp [f]
  have y:=W.out f
  have U:=zq f
  clear f
  go_wp2_with fail
  have a1:Hid (decide ((a:Int)<(a:Int)+S)=decide (a<a+S)):=by show _=_;rw [decide_eq_decide];omega
  refine ay (v:=dp ⟨r,decide ((a:Int)<(a:Int)+S),0⟩) ?_ rfl ⟨?_,cj c.only (ag _) _ _ _ _ _ _ _,_,cJ c.lex (by have:=c.blt;omega) _ _ _ _ _ _ _⟩
  ·simp [dp,results,cG,go_sem,u0,u1,u2,u3,u4,u5,U.out,P]
  ·rw [y.out,<-a1.out];rfl
 ·have z1:(r.err != 0)=true:=by simp [f]
  have y:=V.out r.err f rfl
  clear f
  go_wp2_with fail
  go_region
  go_wp2_with fail
  refine ay (v:=dp ⟨dR r.err,false,(a:Int)+S⟩) ?_ rfl ⟨?_,(cj c.only (ag _) _ _ _ _ _ _ _).drew,_,(cJ c.lex (by have:=c.blt;omega) _ _ _ _ _ _ _).drewN 1⟩
  ·simp [dp,dR,results,cG,go_sem,u0,u1,u2,u3,u4,u5,P]
  ·rw [y.out];rfl
theorem BG (b:Nat) (s:ByteArray) (tab:Int->Int) (a:Nat) (Y:Int) (w:ai) (h:Lex w b s tab Y) (ha:a<=s.size) (n:¬(a+bS ((cU tab s.data.toList).drop a))=s.size) (B:¬av (cU tab s.data.toList) (a+bS ((cU tab s.data.toList).drop a))=47) (E:cls (av (cU tab s.data.toList) (a+bS ((cU tab s.data.toList).drop a)))=8) :
  aJ ah 59 #[au (some ⟨b,0,none⟩),ab ae a] w fun e w'=>iZ (bF (cU tab s.data.toList) s.data.toList a) e/\Only b w w'/\∃q,Lex w' b s tab q:=by
 have l:=NHeld.start h
 have b0:=h.lt
 have b3:=h.sz
 clear h
 have a3:Hid ((cU tab s.data.toList).length=s.size):=by show _=_;rw [dK];simp
 have I:Hid (s.data.toList.length=s.size):=size_data s
 have a4:=il ((cU tab s.data.toList).drop a)
 rw [aH,a3.out] at a4
 generalize N:cU tab s.data.toList=M at *
 have z:=zq N
 clear N
 generalize O:bS (M.drop a)=S at *
 have A:=zq O
 clear O
 have b1:((a:Int)+S==(s.size:Int))=false:=by simp;omega
 have V:Hid (∀e,¬e=0->(cC M s.data.toList (a+S)).err=e->Hid (bF M s.data.toList a=⟨dR e,false,a+S⟩)):=fun e k h=>by
  show bF M s.data.toList a=_
  unfold bF;simp only [A.out];rw [if_neg (by rw [I.out];exact n),if_neg (by rw [h];exact k),h];simp
 have W:Hid ((cC M s.data.toList (a+S)).err=0->Hid (bF M s.data.toList a=⟨cC M s.data.toList (a+S),decide (a<a+S),0⟩)):=fun h=>by
  show bF M s.data.toList a=_
  unfold bF;simp only [A.out];rw [if_neg (by rw [I.out];exact n),if_pos h]
 have hp:a+S<s.size:=by omega
 have a8:=zq n
 clear n
 have b2:(av M (a+S)==47)=false:=by simp [B]
 have T:=zq E
 have X:=zq (show cC M s.data.toList (a+S)=dR 7 by unfold cC;rw [if_neg (fun h=>B h.1),E];rfl)
 clear B E
 go_enter fE,fc
 go_wp2_with fail
 refine (iT _ _ _ _ _ _ l.lex (by omega)).mono ?_;rintro e w1 ⟨rfl,J⟩;rw [aD,z.out,A.out]
 have g:=NHeld.call J l.lt l
 have Z:=g.lex.ca
 have f1:=g.lex.fr 257
 have a2:=g.lex.lt
 have i:=g.setAt (a+S)
 clear J l g
 go_wp2_with fail
 generalize a5:w1.setCell ⟨b,257,none⟩ (ab ae ((a:Int)+S))=H at *
 clear a5 Z f1 a2
 have c2:=i.lex.ca
 have d2:=i.lex.c0
 go_quiet (fail)
 have d:=NHeld.call (dS (aj H.heap.size H) nq) i.lt i
 clear i c2 d2
 generalize a6:H.drewN nq=t at *
 clear a6
 have c3:=d.lex.ca
 obtain ⟨t6,v0,v1,v2,v3,v4,v5,t0,t1,t2,t3,t4,t5⟩:=d.tok
 have a9:=d.lt
 have a0:=d.lex.lt
 have m:=fun o=>NHeld.call ((aj t.heap.size t).alloc (ag _) o) d.lt d
 go_wp2_with fail
 refine (bt _ _ _ _ _ _ (m _).lex (by omega)).mono ?_;rintro e w6 ⟨rfl,K⟩;rw [show ((a:Int)+S).toNat=a+S by omega,z.out]
 have j:=NHeld.call K (m _).lt (m _)
 have c6:=j.lex.ca
 have F:=K
 go_wp2_with fail
 refine (bt _ _ _ _ _ _ j.lex (by omega)).mono ?_;rintro e w7 ⟨rfl,C⟩;rw [show ((a:Int)+S).toNat=a+S by omega,z.out]
 have u:=NHeld.call C j.lt j
 have G:=F.trans (C.mono F.size)
 go_wp2_with fail
 refine (cZ _ _).mono ?_;rintro e w8 ⟨rfl,D⟩;rw [T.out]
 have x:=NHeld.call D u.lt u
 have R:=G.trans (D.mono G.size)
 have fk:=(R.cell (p:=⟨t.heap.size,8,none⟩) (by simp)).trans (xk t)
 clear C D u G F j c6 d m c3 a0 t0 t1 t2 t3 t4 t5 t6 R
 go_wp2_with fail
 refine (tX b _).mono ?_;rintro e w9 ⟨k,L⟩
 have c:=NHeld.call L x.lt x
 rw [<-X.out] at k
 generalize Q:cC M s.data.toList (a+S)=r at *
 have HR:=zq Q
 clear Q
 unfold gj bV at k;subst k
 have c9:=c.lex.ca
 have P:=c.lt
 have a7:=c.lex.lt
 obtain ⟨u6,x0,x1,x2,x3,x4,x5,u0,u1,u2,u3,u4,u5⟩:=c.tok
 clear x L fk
 by_cases f:r.err=0
 ·have z1:(r.err != 0)=false:=by simp [f]
  have y:=W.out f
  have U:=zq f
  clear f
  go_wp2_with fail
  have a1:Hid (decide ((a:Int)<(a:Int)+S)=decide (a<a+S)):=by show _=_;rw [decide_eq_decide];omega
  refine ay (v:=dp ⟨r,decide ((a:Int)<(a:Int)+S),0⟩) ?_ rfl ⟨?_,cj c.only (ag _) _ _ _ _ _ _ _,_,cJ c.lex (by have:=c.blt;omega) _ _ _ _ _ _ _⟩
  ·simp [dp,results,cG,go_sem,u0,u1,u2,u3,u4,u5,U.out,P]
  ·rw [y.out,<-a1.out];rfl
 ·have z1:(r.err != 0)=true:=by simp [f]
  have y:=V.out r.err f rfl
  clear f
  go_wp2_with fail
  go_region
  go_wp2_with fail
  refine ay (v:=dp ⟨dR r.err,false,(a:Int)+S⟩) ?_ rfl ⟨?_,(cj c.only (ag _) _ _ _ _ _ _ _).drew,_,(cJ c.lex (by have:=c.blt;omega) _ _ _ _ _ _ _).drewN 1⟩
  ·simp [dp,dR,results,cG,go_sem,u0,u1,u2,u3,u4,u5,P]
  ·rw [y.out];rfl
theorem BO (b:Nat) (s:ByteArray) (tab:Int->Int) (a:Nat) (Y:Int) (w:ai) (h:Lex w b s tab Y) (ha:a<=s.size) (u:¬(a+bS ((cU tab s.data.toList).drop a))=s.size) (B:¬av (cU tab s.data.toList) (a+bS ((cU tab s.data.toList).drop a))=47) (E:cls (av (cU tab s.data.toList) (a+bS ((cU tab s.data.toList).drop a)))=2) :
  aJ ah 59 #[au (some ⟨b,0,none⟩),ab ae a] w fun e w'=>iZ (bF (cU tab s.data.toList) s.data.toList a) e/\Only b w w'/\∃q,Lex w' b s tab q:=by
 have l:=NHeld.start h
 have b0:=h.lt
 have b3:=h.sz
 clear h
 have a3:Hid ((cU tab s.data.toList).length=s.size):=by show _=_;rw [dK];simp
 have I:Hid (s.data.toList.length=s.size):=size_data s
 have a4:=il ((cU tab s.data.toList).drop a)
 rw [aH,a3.out] at a4
 generalize N:cU tab s.data.toList=M at *
 have t:=zq N
 clear N
 generalize O:bS (M.drop a)=S at *
 have A:=zq O
 clear O
 have b1:((a:Int)+S==(s.size:Int))=false:=by simp;omega
 have V:Hid (∀e,¬e=0->(cC M s.data.toList (a+S)).err=e->Hid (bF M s.data.toList a=⟨dR e,false,a+S⟩)):=fun e g h=>by
  show bF M s.data.toList a=_
  unfold bF;simp only [A.out];rw [if_neg (by rw [I.out];exact u),if_neg (by rw [h];exact g),h];simp
 have W:Hid ((cC M s.data.toList (a+S)).err=0->Hid (bF M s.data.toList a=⟨cC M s.data.toList (a+S),decide (a<a+S),0⟩)):=fun h=>by
  show bF M s.data.toList a=_
  unfold bF;simp only [A.out];rw [if_neg (by rw [I.out];exact u),if_pos h]
 have hp:a+S<s.size:=by omega
 have a8:=zq u
 clear u
 have b2:(av M (a+S)==47)=false:=by simp [B]
 have T:=zq E
 have X:=zq (show cC M s.data.toList (a+S)=pf M (a+S) by unfold cC;rw [if_neg (fun h=>B h.1),E];rfl)
 clear B E
 go_enter fE,fc
 go_wp2_with fail
 refine (iT _ _ _ _ _ _ l.lex (by omega)).mono ?_;rintro e w1 ⟨rfl,J⟩;rw [aD,t.out,A.out]
 have i:=NHeld.call J l.lt l
 have Z:=i.lex.ca
 have f1:=i.lex.fr 257
 have a2:=i.lex.lt
 have j:=i.setAt (a+S)
 clear J l i
 go_wp2_with fail
 generalize a5:w1.setCell ⟨b,257,none⟩ (ab ae ((a:Int)+S))=H at *
 clear a5 Z f1 a2
 have c2:=j.lex.ca
 have d2:=j.lex.c0
 go_quiet (fail)
 have d:=NHeld.call (dS (aj H.heap.size H) nq) j.lt j
 clear j c2 d2
 generalize a6:H.drewN nq=x at *
 clear a6
 have c3:=d.lex.ca
 obtain ⟨t6,v0,v1,v2,v3,v4,v5,t0,t1,t2,t3,t4,t5⟩:=d.tok
 have a9:=d.lt
 have a0:=d.lex.lt
 have m:=fun o=>NHeld.call ((aj x.heap.size x).alloc (ag _) o) d.lt d
 go_wp2_with fail
 refine (bt _ _ _ _ _ _ (m _).lex (by omega)).mono ?_;rintro e w6 ⟨rfl,K⟩;rw [show ((a:Int)+S).toNat=a+S by omega,t.out]
 have k:=NHeld.call K (m _).lt (m _)
 have c6:=k.lex.ca
 have F:=K
 go_wp2_with fail
 refine (bt _ _ _ _ _ _ k.lex (by omega)).mono ?_;rintro e w7 ⟨rfl,C⟩;rw [show ((a:Int)+S).toNat=a+S by omega,t.out]
 have y:=NHeld.call C k.lt k
 have G:=F.trans (C.mono F.size)
 go_wp2_with fail
 refine (cZ _ _).mono ?_;rintro e w8 ⟨rfl,D⟩;rw [T.out]
 have n:=NHeld.call D y.lt y
 have R:=G.trans (D.mono G.size)
 have fk:=(R.cell (p:=⟨x.heap.size,2,none⟩) (by simp)).trans (xr x)
 clear C D y G F k c6 d m c3 a0 t0 t1 t2 t3 t4 t5 t6 R
 go_wp2_with fail
 refine (zN b s tab (a+S) _ n.lex (by omega)).mono ?_;rintro e w9 ⟨g,L⟩
 have c:=NHeld.call L n.lt n
 rw [t.out] at g
 rw [<-X.out] at g
 generalize Q:cC M s.data.toList (a+S)=r at *
 have HR:=zq Q
 clear Q
 unfold gj bV at g;subst g
 have c9:=c.lex.ca
 have P:=c.lt
 have a7:=c.lex.lt
 obtain ⟨u6,x0,x1,x2,x3,x4,x5,u0,u1,u2,u3,u4,u5⟩:=c.tok
 clear n L fk
 by_cases f:r.err=0
 ·have z1:(r.err != 0)=false:=by simp [f]
  have z:=W.out f
  have U:=zq f
  clear f
  go_wp2_with fail
  have a1:Hid (decide ((a:Int)<(a:Int)+S)=decide (a<a+S)):=by show _=_;rw [decide_eq_decide];omega
  refine ay (v:=dp ⟨r,decide ((a:Int)<(a:Int)+S),0⟩) ?_ rfl ⟨?_,cj c.only (ag _) _ _ _ _ _ _ _,_,cJ c.lex (by have:=c.blt;omega) _ _ _ _ _ _ _⟩
  ·simp [dp,results,cG,go_sem,u0,u1,u2,u3,u4,u5,U.out,P]
  ·rw [z.out,<-a1.out];rfl
 ·have z1:(r.err != 0)=true:=by simp [f]
  have z:=V.out r.err f rfl
  clear f
  go_wp2_with fail
  go_region
  go_wp2_with fail
  refine ay (v:=dp ⟨dR r.err,false,(a:Int)+S⟩) ?_ rfl ⟨?_,(cj c.only (ag _) _ _ _ _ _ _ _).drew,_,(cJ c.lex (by have:=c.blt;omega) _ _ _ _ _ _ _).drewN 1⟩
  ·simp [dp,dR,results,cG,go_sem,u0,u1,u2,u3,u4,u5,P]
  ·rw [z.out];rfl
theorem BM (b:Nat) (s:ByteArray) (tab:Int->Int) (a:Nat) (Y:Int) (w:ai) (h:Lex w b s tab Y) (ha:a<=s.size) (u:¬(a+bS ((cU tab s.data.toList).drop a))=s.size) (B:¬av (cU tab s.data.toList) (a+bS ((cU tab s.data.toList).drop a))=47) (E:cls (av (cU tab s.data.toList) (a+bS ((cU tab s.data.toList).drop a)))=3) :
  aJ ah 59 #[au (some ⟨b,0,none⟩),ab ae a] w fun e w'=>iZ (bF (cU tab s.data.toList) s.data.toList a) e/\Only b w w'/\∃q,Lex w' b s tab q:=by
 have l:=NHeld.start h
 have b0:=h.lt
 have b3:=h.sz
 clear h
 have a3:Hid ((cU tab s.data.toList).length=s.size):=by show _=_;rw [dK];simp
 have I:Hid (s.data.toList.length=s.size):=size_data s
 have a4:=il ((cU tab s.data.toList).drop a)
 rw [aH,a3.out] at a4
 generalize N:cU tab s.data.toList=M at *
 have t:=zq N
 clear N
 generalize O:bS (M.drop a)=S at *
 have A:=zq O
 clear O
 have b1:((a:Int)+S==(s.size:Int))=false:=by simp;omega
 have V:Hid (∀e,¬e=0->(cC M s.data.toList (a+S)).err=e->Hid (bF M s.data.toList a=⟨dR e,false,a+S⟩)):=fun e g h=>by
  show bF M s.data.toList a=_
  unfold bF;simp only [A.out];rw [if_neg (by rw [I.out];exact u),if_neg (by rw [h];exact g),h];simp
 have W:Hid ((cC M s.data.toList (a+S)).err=0->Hid (bF M s.data.toList a=⟨cC M s.data.toList (a+S),decide (a<a+S),0⟩)):=fun h=>by
  show bF M s.data.toList a=_
  unfold bF;simp only [A.out];rw [if_neg (by rw [I.out];exact u),if_pos h]
 have hp:a+S<s.size:=by omega
 have a8:=zq u
 clear u
 have b2:(av M (a+S)==47)=false:=by simp [B]
 have T:=zq E
 have X:=zq (show cC M s.data.toList (a+S)=pf M (a+S) by unfold cC;rw [if_neg (fun h=>B h.1),E];rfl)
 clear B E
 go_enter fE,fc
 go_wp2_with fail
 refine (iT _ _ _ _ _ _ l.lex (by omega)).mono ?_;rintro e w1 ⟨rfl,J⟩;rw [aD,t.out,A.out]
 have i:=NHeld.call J l.lt l
 have Z:=i.lex.ca
 have f1:=i.lex.fr 257
 have a2:=i.lex.lt
 have j:=i.setAt (a+S)
 clear J l i
 go_wp2_with fail
 generalize a5:w1.setCell ⟨b,257,none⟩ (ab ae ((a:Int)+S))=H at *
 clear a5 Z f1 a2
 have c2:=j.lex.ca
 have d2:=j.lex.c0
 go_quiet (fail)
 have d:=NHeld.call (dS (aj H.heap.size H) nq) j.lt j
 clear j c2 d2
 generalize a6:H.drewN nq=x at *
 clear a6
 have c3:=d.lex.ca
 obtain ⟨t6,v0,v1,v2,v3,v4,v5,t0,t1,t2,t3,t4,t5⟩:=d.tok
 have a9:=d.lt
 have a0:=d.lex.lt
 have m:=fun o=>NHeld.call ((aj x.heap.size x).alloc (ag _) o) d.lt d
 go_wp2_with fail
 refine (bt _ _ _ _ _ _ (m _).lex (by omega)).mono ?_;rintro e w6 ⟨rfl,K⟩;rw [show ((a:Int)+S).toNat=a+S by omega,t.out]
 have k:=NHeld.call K (m _).lt (m _)
 have c6:=k.lex.ca
 have F:=K
 go_wp2_with fail
 refine (bt _ _ _ _ _ _ k.lex (by omega)).mono ?_;rintro e w7 ⟨rfl,C⟩;rw [show ((a:Int)+S).toNat=a+S by omega,t.out]
 have y:=NHeld.call C k.lt k
 have G:=F.trans (C.mono F.size)
 go_wp2_with fail
 refine (cZ _ _).mono ?_;rintro e w8 ⟨rfl,D⟩;rw [T.out]
 have n:=NHeld.call D y.lt y
 have R:=G.trans (D.mono G.size)
 have fk:=(R.cell (p:=⟨x.heap.size,3,none⟩) (by simp)).trans (xq x)
 clear C D y G F k c6 d m c3 a0 t0 t1 t2 t3 t4 t5 t6 R
 go_wp2_with fail
 refine (zN b s tab (a+S) _ n.lex (by omega)).mono ?_;rintro e w9 ⟨g,L⟩
 have c:=NHeld.call L n.lt n
 rw [t.out] at g
 rw [<-X.out] at g
 generalize Q:cC M s.data.toList (a+S)=r at *
 have HR:=zq Q
 clear Q
 unfold gj bV at g;subst g
 have c9:=c.lex.ca
 have P:=c.lt
 have a7:=c.lex.lt
 obtain ⟨u6,x0,x1,x2,x3,x4,x5,u0,u1,u2,u3,u4,u5⟩:=c.tok
 clear n L fk
 by_cases f:r.err=0
 ·have z1:(r.err != 0)=false:=by simp [f]
  have z:=W.out f
  have U:=zq f
  clear f
  go_wp2_with fail
  have a1:Hid (decide ((a:Int)<(a:Int)+S)=decide (a<a+S)):=by show _=_;rw [decide_eq_decide];omega
  refine ay (v:=dp ⟨r,decide ((a:Int)<(a:Int)+S),0⟩) ?_ rfl ⟨?_,cj c.only (ag _) _ _ _ _ _ _ _,_,cJ c.lex (by have:=c.blt;omega) _ _ _ _ _ _ _⟩
  ·simp [dp,results,cG,go_sem,u0,u1,u2,u3,u4,u5,U.out,P]
  ·rw [z.out,<-a1.out];rfl
 ·have z1:(r.err != 0)=true:=by simp [f]
  have z:=V.out r.err f rfl
  clear f
  go_wp2_with fail
  go_region
  go_wp2_with fail
  refine ay (v:=dp ⟨dR r.err,false,(a:Int)+S⟩) ?_ rfl ⟨?_,(cj c.only (ag _) _ _ _ _ _ _ _).drew,_,(cJ c.lex (by have:=c.blt;omega) _ _ _ _ _ _ _).drewN 1⟩
  ·simp [dp,dR,results,cG,go_sem,u0,u1,u2,u3,u4,u5,P]
  ·rw [z.out];rfl
theorem BK (b:Nat) (s:ByteArray) (tab:Int->Int) (a:Nat) (Y:Int) (w:ai) (h:Lex w b s tab Y) (ha:a<=s.size) (u:¬(a+bS ((cU tab s.data.toList).drop a))=s.size) (B:¬av (cU tab s.data.toList) (a+bS ((cU tab s.data.toList).drop a))=47) (E:cls (av (cU tab s.data.toList) (a+bS ((cU tab s.data.toList).drop a)))=4) :
  aJ ah 59 #[au (some ⟨b,0,none⟩),ab ae a] w fun e w'=>iZ (bF (cU tab s.data.toList) s.data.toList a) e/\Only b w w'/\∃q,Lex w' b s tab q:=by
 have m:=NHeld.start h
 have b0:=h.lt
 have b3:=h.sz
 clear h
 have a3:Hid ((cU tab s.data.toList).length=s.size):=by show _=_;rw [dK];simp
 have J:Hid (s.data.toList.length=s.size):=size_data s
 have a4:=il ((cU tab s.data.toList).drop a)
 rw [aH,a3.out] at a4
 generalize O:cU tab s.data.toList=M at *
 have l:=zq O
 clear O
 generalize P:bS (M.drop a)=S at *
 have A:=zq P
 clear P
 have b1:((a:Int)+S==(s.size:Int))=false:=by simp;omega
 have V:Hid (∀e,¬e=0->(cC M s.data.toList (a+S)).err=e->Hid (bF M s.data.toList a=⟨dR e,false,a+S⟩)):=fun e g h=>by
  show bF M s.data.toList a=_
  unfold bF;simp only [A.out];rw [if_neg (by rw [J.out];exact u),if_neg (by rw [h];exact g),h];simp
 have W:Hid ((cC M s.data.toList (a+S)).err=0->Hid (bF M s.data.toList a=⟨cC M s.data.toList (a+S),decide (a<a+S),0⟩)):=fun h=>by
  show bF M s.data.toList a=_
  unfold bF;simp only [A.out];rw [if_neg (by rw [J.out];exact u),if_pos h]
 have hp:a+S<s.size:=by omega
 have a8:=zq u
 clear u
 have b2:(av M (a+S)==47)=false:=by simp [B]
 have I:=zq E
 have X:=zq (show cC M s.data.toList (a+S)=jP M s.data.toList (a+S) by unfold cC;rw [if_neg (fun h=>B h.1),E];rfl)
 clear B E
 go_enter fE,fc
 go_wp2_with fail
 refine (iT _ _ _ _ _ _ m.lex (by omega)).mono ?_;rintro e w1 ⟨rfl,K⟩;rw [aD,l.out,A.out]
 have i:=NHeld.call K m.lt m
 have Z:=i.lex.ca
 have f1:=i.lex.fr 257
 have a2:=i.lex.lt
 have j:=i.setAt (a+S)
 clear K m i
 go_wp2_with fail
 generalize a5:w1.setCell ⟨b,257,none⟩ (ab ae ((a:Int)+S))=H at *
 clear a5 Z f1 a2
 have c2:=j.lex.ca
 have d2:=j.lex.c0
 go_quiet (fail)
 have d:=NHeld.call (dS (aj H.heap.size H) nq) j.lt j
 clear j c2 d2
 generalize a6:H.drewN nq=x at *
 clear a6
 have c3:=d.lex.ca
 obtain ⟨t6,v0,v1,v2,v3,v4,v5,t0,t1,t2,t3,t4,t5⟩:=d.tok
 have a9:=d.lt
 have a0:=d.lex.lt
 have n:=fun o=>NHeld.call ((aj x.heap.size x).alloc (ag _) o) d.lt d
 go_wp2_with fail
 refine (bt _ _ _ _ _ _ (n _).lex (by omega)).mono ?_;rintro e w6 ⟨rfl,L⟩;rw [show ((a:Int)+S).toNat=a+S by omega,l.out]
 have k:=NHeld.call L (n _).lt (n _)
 have c6:=k.lex.ca
 have F:=L
 go_wp2_with fail
 refine (bt _ _ _ _ _ _ k.lex (by omega)).mono ?_;rintro e w7 ⟨rfl,C⟩;rw [show ((a:Int)+S).toNat=a+S by omega,l.out]
 have y:=NHeld.call C k.lt k
 have G:=F.trans (C.mono F.size)
 go_wp2_with fail
 refine (cZ _ _).mono ?_;rintro e w8 ⟨rfl,D⟩;rw [I.out]
 have t:=NHeld.call D y.lt y
 have T:=G.trans (D.mono G.size)
 have fk:=(T.cell (p:=⟨x.heap.size,4,none⟩) (by simp)).trans (xp x)
 clear C D y G F k c6 d n c3 a0 t0 t1 t2 t3 t4 t5 t6 T
 go_wp2_with fail
 refine (BF b s tab (a+S) _ t.lex hp (by rw [l.out];exact KW _ I.out)).mono ?_;rintro e w9 ⟨g,N⟩
 have c:=NHeld.call N t.lt t
 rw [l.out] at g
 rw [<-X.out] at g
 generalize R:cC M s.data.toList (a+S)=r at *
 have HR:=zq R
 clear R
 unfold gj bV at g;subst g
 have c9:=c.lex.ca
 have Q:=c.lt
 have a7:=c.lex.lt
 obtain ⟨u6,x0,x1,x2,x3,x4,x5,u0,u1,u2,u3,u4,u5⟩:=c.tok
 clear t N fk
 by_cases f:r.err=0
 ·have z1:(r.err != 0)=false:=by simp [f]
  have z:=W.out f
  have U:=zq f
  clear f
  go_wp2_with fail
  have a1:Hid (decide ((a:Int)<(a:Int)+S)=decide (a<a+S)):=by show _=_;rw [decide_eq_decide];omega
  refine ay (v:=dp ⟨r,decide ((a:Int)<(a:Int)+S),0⟩) ?_ rfl ⟨?_,cj c.only (ag _) _ _ _ _ _ _ _,_,cJ c.lex (by have:=c.blt;omega) _ _ _ _ _ _ _⟩
  ·simp [dp,results,cG,go_sem,u0,u1,u2,u3,u4,u5,U.out,Q]
  ·rw [z.out,<-a1.out];rfl
 ·have z1:(r.err != 0)=true:=by simp [f]
  have z:=V.out r.err f rfl
  clear f
  go_wp2_with fail
  go_region
  go_wp2_with fail
  refine ay (v:=dp ⟨dR r.err,false,(a:Int)+S⟩) ?_ rfl ⟨?_,(cj c.only (ag _) _ _ _ _ _ _ _).drew,_,(cJ c.lex (by have:=c.blt;omega) _ _ _ _ _ _ _).drewN 1⟩
  ·simp [dp,dR,results,cG,go_sem,u0,u1,u2,u3,u4,u5,Q]
  ·rw [z.out];rfl
theorem BJ (b:Nat) (s:ByteArray) (tab:Int->Int) (a:Nat) (Y:Int) (w:ai) (h:Lex w b s tab Y) (ha:a<=s.size) (u:¬(a+bS ((cU tab s.data.toList).drop a))=s.size) (B:¬av (cU tab s.data.toList) (a+bS ((cU tab s.data.toList).drop a))=47) (E:cls (av (cU tab s.data.toList) (a+bS ((cU tab s.data.toList).drop a)))=5) :
  aJ ah 59 #[au (some ⟨b,0,none⟩),ab ae a] w fun e w'=>iZ (bF (cU tab s.data.toList) s.data.toList a) e/\Only b w w'/\∃q,Lex w' b s tab q:=by
 have l:=NHeld.start h
 have b0:=h.lt
 have b3:=h.sz
 clear h
 have a3:Hid ((cU tab s.data.toList).length=s.size):=by show _=_;rw [dK];simp
 have I:Hid (s.data.toList.length=s.size):=size_data s
 have a4:=il ((cU tab s.data.toList).drop a)
 rw [aH,a3.out] at a4
 generalize N:cU tab s.data.toList=M at *
 have t:=zq N
 clear N
 generalize O:bS (M.drop a)=S at *
 have A:=zq O
 clear O
 have b1:((a:Int)+S==(s.size:Int))=false:=by simp;omega
 have V:Hid (∀e,¬e=0->(cC M s.data.toList (a+S)).err=e->Hid (bF M s.data.toList a=⟨dR e,false,a+S⟩)):=fun e g h=>by
  show bF M s.data.toList a=_
  unfold bF;simp only [A.out];rw [if_neg (by rw [I.out];exact u),if_neg (by rw [h];exact g),h];simp
 have W:Hid ((cC M s.data.toList (a+S)).err=0->Hid (bF M s.data.toList a=⟨cC M s.data.toList (a+S),decide (a<a+S),0⟩)):=fun h=>by
  show bF M s.data.toList a=_
  unfold bF;simp only [A.out];rw [if_neg (by rw [I.out];exact u),if_pos h]
 have hp:a+S<s.size:=by omega
 have a8:=zq u
 clear u
 have b2:(av M (a+S)==47)=false:=by simp [B]
 have T:=zq E
 have X:=zq (show cC M s.data.toList (a+S)=nI M (a+S) by unfold cC;rw [if_neg (fun h=>B h.1),E];rfl)
 clear B E
 go_enter fE,fc
 go_wp2_with fail
 refine (iT _ _ _ _ _ _ l.lex (by omega)).mono ?_;rintro e w1 ⟨rfl,J⟩;rw [aD,t.out,A.out]
 have i:=NHeld.call J l.lt l
 have Z:=i.lex.ca
 have f1:=i.lex.fr 257
 have a2:=i.lex.lt
 have j:=i.setAt (a+S)
 clear J l i
 go_wp2_with fail
 generalize a5:w1.setCell ⟨b,257,none⟩ (ab ae ((a:Int)+S))=H at *
 clear a5 Z f1 a2
 have c2:=j.lex.ca
 have d2:=j.lex.c0
 go_quiet (fail)
 have d:=NHeld.call (dS (aj H.heap.size H) nq) j.lt j
 clear j c2 d2
 generalize a6:H.drewN nq=x at *
 clear a6
 have c3:=d.lex.ca
 obtain ⟨t6,v0,v1,v2,v3,v4,v5,t0,t1,t2,t3,t4,t5⟩:=d.tok
 have a9:=d.lt
 have a0:=d.lex.lt
 have m:=fun o=>NHeld.call ((aj x.heap.size x).alloc (ag _) o) d.lt d
 go_wp2_with fail
 refine (bt _ _ _ _ _ _ (m _).lex (by omega)).mono ?_;rintro e w6 ⟨rfl,K⟩;rw [show ((a:Int)+S).toNat=a+S by omega,t.out]
 have k:=NHeld.call K (m _).lt (m _)
 have c6:=k.lex.ca
 have F:=K
 go_wp2_with fail
 refine (bt _ _ _ _ _ _ k.lex (by omega)).mono ?_;rintro e w7 ⟨rfl,C⟩;rw [show ((a:Int)+S).toNat=a+S by omega,t.out]
 have y:=NHeld.call C k.lt k
 have G:=F.trans (C.mono F.size)
 go_wp2_with fail
 refine (cZ _ _).mono ?_;rintro e w8 ⟨rfl,D⟩;rw [T.out]
 have n:=NHeld.call D y.lt y
 have R:=G.trans (D.mono G.size)
 have fk:=(R.cell (p:=⟨x.heap.size,5,none⟩) (by simp)).trans (qn x)
 clear C D y G F k c6 d m c3 a0 t0 t1 t2 t3 t4 t5 t6 R
 go_wp2_with fail
 refine (tW b s tab (a+S) _ n.lex (by omega)).mono ?_;rintro e w9 ⟨g,L⟩
 have c:=NHeld.call L n.lt n
 rw [t.out] at g
 rw [<-X.out] at g
 generalize Q:cC M s.data.toList (a+S)=r at *
 have HR:=zq Q
 clear Q
 unfold gj bV at g;subst g
 have c9:=c.lex.ca
 have P:=c.lt
 have a7:=c.lex.lt
 obtain ⟨u6,x0,x1,x2,x3,x4,x5,u0,u1,u2,u3,u4,u5⟩:=c.tok
 clear n L fk
 by_cases f:r.err=0
 ·have z1:(r.err != 0)=false:=by simp [f]
  have z:=W.out f
  have U:=zq f
  clear f
  go_wp2_with fail
  have a1:Hid (decide ((a:Int)<(a:Int)+S)=decide (a<a+S)):=by show _=_;rw [decide_eq_decide];omega
  refine ay (v:=dp ⟨r,decide ((a:Int)<(a:Int)+S),0⟩) ?_ rfl ⟨?_,cj c.only (ag _) _ _ _ _ _ _ _,_,cJ c.lex (by have:=c.blt;omega) _ _ _ _ _ _ _⟩
  ·simp [dp,results,cG,go_sem,u0,u1,u2,u3,u4,u5,U.out,P]
  ·rw [z.out,<-a1.out];rfl
 ·have z1:(r.err != 0)=true:=by simp [f]
  have z:=V.out r.err f rfl
  clear f
  go_wp2_with fail
  go_region
  go_wp2_with fail
  refine ay (v:=dp ⟨dR r.err,false,(a:Int)+S⟩) ?_ rfl ⟨?_,(cj c.only (ag _) _ _ _ _ _ _ _).drew,_,(cJ c.lex (by have:=c.blt;omega) _ _ _ _ _ _ _).drewN 1⟩
  ·simp [dp,dR,results,cG,go_sem,u0,u1,u2,u3,u4,u5,P]
  ·rw [z.out];rfl
end Go.Proofs.YtlikcjbjibhjgaaGreatDoor
