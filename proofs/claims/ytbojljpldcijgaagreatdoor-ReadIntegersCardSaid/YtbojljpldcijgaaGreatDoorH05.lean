/- Parts of the proof. -/
import Derived.Test.YtbojljpldcijgaaGreatDoorH04
import Derived.Test.YtbojljpldcijgaaGreatDoorH01
import Derived.WalkMore
import Derived.Deep.LoopGhost
import Derived.RegionTactic
import Derived.BigRegion
import Derived.Laws.EntriesVeiled
namespace Go.Proofs.YtbojljpldcijgaaGreatDoor
open Go.RowKit Hb
set_option maxRecDepth 100000
theorem hown1_len {w:World} {base:Nat} {v:Value} {acc:List UInt8} {x:UInt8} (h:w.ownsRow base 5 1 v (acc.length+1) (Hb.byteCells (acc++[x]))):w.ownsRow base 5 1 v (acc++[x]).length (Hb.byteCells (acc++[x])):=by
 rw [List.length_append];exact h
set_option maxHeartbeats 3200000 in
theorem lex_quote_str (b:Nat) (s:ByteArray) (tab:Int→Int) (p:Nat) (w:World) (h:Lex w b s tab p) (hp:p<s.size) (hq:rawAt (cvt tab s.data.toList) p=34) :
  Calls Tryz.prog 61 #[.pointer (some ⟨b,0,none⟩)] w fun e w'=>Gives (quoteR (cvt tab s.data.toList) s.data.toList p) e∧Below w.heap.size w w':=by
 have H0:=Held.start h
 have hlt:=h.lt
 have ca:=h.ca
 have hsz:=h.sz
 clear h
 have hlen:Hid ((cvt tab s.data.toList).length=s.size):=by show _=_;rw [cvt_len];simp
 generalize hM:cvt tab s.data.toList=M at *
 have HM:=zq hM
 clear hM
 have b1:(rawAt M p==34)=true:=by simp [hq]
 have HK:=zq (show quoteR M s.data.toList p=strRes p (itemAt (s.data.toList.drop (p+1)) 34 [] 0) by unfold quoteR;rw [if_pos hq];unfold itemAt;simp)
 have A1:=zq hq
 clear hq
 have hRl:(s.data.toList.drop (p+1)).length=s.size-(p+1):=by rw [List.length_drop,size_data]
 have HRl:=zq hRl
 clear hRl
 go_enter Tryz.func61,Tryz.ntmps61
 go_wp2_with fail
 go_step3
 go_wp2_with fail
 refine (lex_char _ _ _ _ _ _ H0.lex (by omega)).mono ?_;rintro e w1 ⟨rfl,hB1⟩;rw [Int.toNat_natCast,HM.out]
 have H1:=Held.call hB1 H0
 have c1:=H1.lex.ca
 rw [A1.out]
 go_wp2_with fail
 go_step3
 go_wp2_with fail
 go_loopw [6,7] (fun v i wr=>∃j:Nat,∃acc:List UInt8,p+1+j≤s.size∧acc.length≤j∧i=.int .i64 (p+1+j:Nat)∧Held w wr b s tab p∧wr.ownsRow (w.heap.size+1) 5 1 v acc.length (Hb.byteCells acc)∧Hid (itemAt (s.data.toList.drop (p+1)) 34 acc j=itemAt (s.data.toList.drop (p+1)) 34 [] 0)) (fun _ i _=>s.size-(intOf i).toNat)
 case atStart=>exact ⟨0,[],by omega,Nat.le_refl _,by go_num,H1,⟨by simp [Hb.byteCells],.inl ⟨rfl,rfl⟩⟩,rfl⟩
 case round=>
  obtain ⟨j,acc,hj,hal,rfl,HX,hown,HE⟩:=hrel
  have hlenX:=HX.lt
  have cX:=HX.lex.ca
  have E0:=zq (rawAt_drop s.data.toList (p+1) j)
  have E1:Hid (rawAt (s.data.toList.drop (p+1)) (j+1)=rawAt s.data.toList (p+1+j+1)):=rawAt_drop s.data.toList (p+1) (j+1)
  by_cases d0:rawAt s.data.toList (p+1+j)=34
  ·have b0:(rawAt s.data.toList (p+1+j)==34)=true:=by simp [d0]
   have b2:(rawAt s.data.toList (p+1+j)==92)=false:=by simp [d0]
   by_cases d1:rawAt s.data.toList (p+1+j+1)=34
   ·have b3:(rawAt s.data.toList (p+1+j+1) != 34)=false:=by simp [d1]
    have hn1:¬(rawAt s.data.toList (p+1+j)=34∧¬rawAt s.data.toList (p+1+j+1)=34):=fun h=>h.2 d1
    have hn2:¬(rawAt s.data.toList (p+1+j)=92∧rawAt s.data.toList (p+1+j+1)=10):=fun h=>absurd h.1 (by rw [d0];decide)
    clear d0 d1
    cases hqs:quotedS (s.data.toList.drop (p+1+j)) 34 with
    | none=>
     have HI:=zq (itemAt_none (s.data.toList.drop (p+1)) 34 (by decide) acc j (by rw [E0.out,E1.out];exact hn1) (by rw [E0.out,E1.out];exact hn2) (by rw [List.drop_drop];exact hqs))
     have HQ:=zq hqs
     clear hqs hn1 hn2
     go_wp2_with fail
     refine (lex_raw _ _ _ _ _ _ HX.lex (by omega)).mono ?_;rintro e wz ⟨rfl,rfl⟩;rw [show ((p:Int)+1+j).toNat=p+1+j by omega]
     go_wp2_with fail
     refine (lex_raw _ _ _ _ _ _ HX.lex (by omega)).mono ?_;rintro e wz ⟨rfl,rfl⟩;rw [show ((p:Int)+1+j+1).toNat=p+1+j+1 by omega]
     go_wp2_with fail
     refine (lex_raw _ _ _ _ _ _ HX.lex (by omega)).mono ?_;rintro e wz ⟨rfl,rfl⟩;rw [show ((p:Int)+1+j).toNat=p+1+j by omega]
     go_wp2_with fail
     refine (lex_quoted _ _ _ _ _ _ _ HX.lex (by omega) (by omega)).mono ?_;rintro e wz ⟨he,rfl⟩;rw [show ((p:Int)+1+j).toNat=p+1+j by omega,HQ.out] at he
     obtain ⟨x,y,rfl⟩:=he
     obtain ⟨t6,v0,v1,v2,v3,v4,v5,t0,t1,t2,t3,t4,t5⟩:=HX.tok
     have hltc:=HX.lt
     go_wp2_with fail
     try rw [Exit.noGoto_ret]
     refine bodyPost_ret (v:=tokTup (errR 7)) (by simp [tokTup,errR,results,Tryz.results61,go_sem,t0,t1,t2,t3,t4,t5]) rfl ⟨?_,(HX.sets _ _ _ _ _ _).bel⟩
     rw [HK.out,←HE.out,HI.out];rfl
    | some ck=>
     obtain ⟨c,k⟩:=ck
     have hok:=quotedS_ok _ _ _ _ (by decide) hqs
     rw [List.length_drop] at hok
     have HI:=zq (itemAt_some (s.data.toList.drop (p+1)) 34 (by decide) acc j k c (by rw [E0.out,E1.out];exact hn1) (by rw [E0.out,E1.out];exact hn2) (by rw [List.drop_drop];exact hqs))
     have HQ:=zq hqs
     have hk1:1≤k:=hok.1
     have hk2:p+1+j+k≤s.size:=by have:=hok.2.1;have:=hok.1;rw [size_data] at *;omega
     have hc0:0≤c:=hok.2.2.1
     have hc1:c≤255:=hok.2.2.2
     clear hqs hn1 hn2 hok
     go_wp2_with fail
     refine (lex_raw _ _ _ _ _ _ HX.lex (by omega)).mono ?_;rintro e wz ⟨rfl,rfl⟩;rw [show ((p:Int)+1+j).toNat=p+1+j by omega]
     go_wp2_with fail
     refine (lex_raw _ _ _ _ _ _ HX.lex (by omega)).mono ?_;rintro e wz ⟨rfl,rfl⟩;rw [show ((p:Int)+1+j+1).toNat=p+1+j+1 by omega]
     go_wp2_with fail
     refine (lex_raw _ _ _ _ _ _ HX.lex (by omega)).mono ?_;rintro e wz ⟨rfl,rfl⟩;rw [show ((p:Int)+1+j).toNat=p+1+j by omega]
     go_wp2_with fail
     refine (lex_quoted _ _ _ _ _ _ _ HX.lex (by omega) (by omega)).mono ?_;rintro e wz ⟨he,rfl⟩;rw [show ((p:Int)+1+j).toNat=p+1+j by omega,HQ.out] at he
     unfold QRes at he
     simp only [] at he
     subst he
     go_wp2_with (at_builtin;go_must (refine wpList_append_byte rfl _ _ 54 5 rfl Tryz.underlying54 infoU8 (w.heap.size+1) _ _ _ rfl _ hown _ hc0 hc1 rfl rfl (by omega) (by have:=HX.lt;omega) ?_;intro v1 w2 hown1 hB2))
     have HX2:=Held.callB hB2 (by omega) HX
     go_roundw
     case rel=>exact ⟨j+k,acc++[c.toNat.toUInt8],by omega,by simp;omega,by go_num,HX2,hown1_len hown1,by rw [←HI.out];exact HE.out⟩
     case measure=>simp [intOf];omega
   ·have b3:(rawAt s.data.toList (p+1+j+1) != 34)=true:=by simp [d1]
    have HI:=zq (itemAt_end (s.data.toList.drop (p+1)) 34 (by decide) acc j (by rw [E0.out];exact d0) (by rw [E1.out];exact d1))
    clear d0 d1
    have hc:=conv_own (P:=Tryz.prog) wr 54 9 5 Tryz.underlying54 Tryz.underlying5 Tryz.underlying9 _ _ _ _ hown
    obtain ⟨t6,v0,v1,v2,v3,v4,v5,t0,t1,t2,t3,t4,t5⟩:=HX.tok
    go_wp2_with fail
    refine (lex_raw _ _ _ _ _ _ HX.lex (by omega)).mono ?_;rintro e wz ⟨rfl,rfl⟩;rw [show ((p:Int)+1+j).toNat=p+1+j by omega]
    go_wp2_with fail
    refine (lex_raw _ _ _ _ _ _ HX.lex (by omega)).mono ?_;rintro e wz ⟨rfl,rfl⟩;rw [show ((p:Int)+1+j+1).toNat=p+1+j+1 by omega]
    go_wp2_with fail
    have hltc:=HX.lt
    have hcd:=conv_own (P:=Tryz.prog) wr.drew 54 9 5 Tryz.underlying54 Tryz.underlying5 Tryz.underlying9 _ _ _ _ hown.drew
    go_region
    go_wp2_with fail
    try rw [Exit.noGoto_ret]
    refine bodyPost_ret (v:=tokTup ⟨5,acc,0,p,p+1+j+1,0⟩) (by simp [tokTup,results,Tryz.results61,go_sem,t0,t1,t2,t3,t4,t5]) rfl ⟨?_,(HX.sets _ _ _ _ _ _).drew.bel⟩
    rw [HK.out,←HE.out,HI.out];rfl
  ·have b0:(rawAt s.data.toList (p+1+j)==34)=false:=by simp [d0]
   have hn1:¬(rawAt s.data.toList (p+1+j)=34∧¬rawAt s.data.toList (p+1+j+1)=34):=fun h=>d0 h.1
   clear d0
   by_cases d2:rawAt s.data.toList (p+1+j)=92
   ·have b2:(rawAt s.data.toList (p+1+j)==92)=true:=by simp [d2]
    by_cases d3:rawAt s.data.toList (p+1+j+1)=10
    ·have b3:(rawAt s.data.toList (p+1+j+1)==10)=true:=by simp [d3]
     have HI:=zq (itemAt_cont (s.data.toList.drop (p+1)) 34 (by decide) acc j (by rw [E0.out,E1.out];exact hn1) (by rw [E0.out];exact d2) (by rw [E1.out];exact d3))
     have hk2:p+1+j+2≤s.size:=by have:=rawAt_neg s.data.toList (p+1+j+1);rw [size_data] at this;omega
     clear d2 d3 hn1
     go_wp2_with fail
     refine (lex_raw _ _ _ _ _ _ HX.lex (by omega)).mono ?_;rintro e wz ⟨rfl,rfl⟩;rw [show ((p:Int)+1+j).toNat=p+1+j by omega]
     go_wp2_with fail
     refine (lex_raw _ _ _ _ _ _ HX.lex (by omega)).mono ?_;rintro e wz ⟨rfl,rfl⟩;rw [show ((p:Int)+1+j).toNat=p+1+j by omega]
     go_wp2_with fail
     refine (lex_raw _ _ _ _ _ _ HX.lex (by omega)).mono ?_;rintro e wz ⟨rfl,rfl⟩;rw [show ((p:Int)+1+j+1).toNat=p+1+j+1 by omega]
     go_wp2_with fail
     go_roundw
     case rel=>exact ⟨j+2,acc,by omega,by omega,by go_num,HX,hown,by rw [←HI.out];exact HE.out⟩
     case measure=>simp [intOf];omega
    ·have b3:(rawAt s.data.toList (p+1+j+1)==10)=false:=by simp [d3]
     have hn2:¬(rawAt s.data.toList (p+1+j)=92∧rawAt s.data.toList (p+1+j+1)=10):=fun h=>d3 h.2
     clear d2 d3
     cases hqs:quotedS (s.data.toList.drop (p+1+j)) 34 with
     | none=>
      have HI:=zq (itemAt_none (s.data.toList.drop (p+1)) 34 (by decide) acc j (by rw [E0.out,E1.out];exact hn1) (by rw [E0.out,E1.out];exact hn2) (by rw [List.drop_drop];exact hqs))
      have HQ:=zq hqs
      clear hqs hn1 hn2
      go_wp2_with fail
      refine (lex_raw _ _ _ _ _ _ HX.lex (by omega)).mono ?_;rintro e wz ⟨rfl,rfl⟩;rw [show ((p:Int)+1+j).toNat=p+1+j by omega]
      go_wp2_with fail
      refine (lex_raw _ _ _ _ _ _ HX.lex (by omega)).mono ?_;rintro e wz ⟨rfl,rfl⟩;rw [show ((p:Int)+1+j).toNat=p+1+j by omega]
      go_wp2_with fail
      refine (lex_raw _ _ _ _ _ _ HX.lex (by omega)).mono ?_;rintro e wz ⟨rfl,rfl⟩;rw [show ((p:Int)+1+j+1).toNat=p+1+j+1 by omega]
      go_wp2_with fail
      refine (lex_quoted _ _ _ _ _ _ _ HX.lex (by omega) (by omega)).mono ?_;rintro e wz ⟨he,rfl⟩;rw [show ((p:Int)+1+j).toNat=p+1+j by omega,HQ.out] at he
      obtain ⟨x,y,rfl⟩:=he
      obtain ⟨t6,v0,v1,v2,v3,v4,v5,t0,t1,t2,t3,t4,t5⟩:=HX.tok
      have hltc:=HX.lt
      go_wp2_with fail
      try rw [Exit.noGoto_ret]
      refine bodyPost_ret (v:=tokTup (errR 7)) (by simp [tokTup,errR,results,Tryz.results61,go_sem,t0,t1,t2,t3,t4,t5]) rfl ⟨?_,(HX.sets _ _ _ _ _ _).bel⟩
      rw [HK.out,←HE.out,HI.out];rfl
     | some ck=>
      obtain ⟨c,k⟩:=ck
      have hok:=quotedS_ok _ _ _ _ (by decide) hqs
      rw [List.length_drop] at hok
      have HI:=zq (itemAt_some (s.data.toList.drop (p+1)) 34 (by decide) acc j k c (by rw [E0.out,E1.out];exact hn1) (by rw [E0.out,E1.out];exact hn2) (by rw [List.drop_drop];exact hqs))
      have HQ:=zq hqs
      have hk1:1≤k:=hok.1
      have hk2:p+1+j+k≤s.size:=by have:=hok.2.1;have:=hok.1;rw [size_data] at *;omega
      have hc0:0≤c:=hok.2.2.1
      have hc1:c≤255:=hok.2.2.2
      clear hqs hn1 hn2 hok
      go_wp2_with fail
      refine (lex_raw _ _ _ _ _ _ HX.lex (by omega)).mono ?_;rintro e wz ⟨rfl,rfl⟩;rw [show ((p:Int)+1+j).toNat=p+1+j by omega]
      go_wp2_with fail
      refine (lex_raw _ _ _ _ _ _ HX.lex (by omega)).mono ?_;rintro e wz ⟨rfl,rfl⟩;rw [show ((p:Int)+1+j).toNat=p+1+j by omega]
      go_wp2_with fail
      refine (lex_raw _ _ _ _ _ _ HX.lex (by omega)).mono ?_;rintro e wz ⟨rfl,rfl⟩;rw [show ((p:Int)+1+j+1).toNat=p+1+j+1 by omega]
      go_wp2_with fail
      refine (lex_quoted _ _ _ _ _ _ _ HX.lex (by omega) (by omega)).mono ?_;rintro e wz ⟨he,rfl⟩;rw [show ((p:Int)+1+j).toNat=p+1+j by omega,HQ.out] at he
      unfold QRes at he
      simp only [] at he
      subst he
      go_wp2_with (at_builtin;go_must (refine wpList_append_byte rfl _ _ 54 5 rfl Tryz.underlying54 infoU8 (w.heap.size+1) _ _ _ rfl _ hown _ hc0 hc1 rfl rfl (by omega) (by have:=HX.lt;omega) ?_;intro v1 w2 hown1 hB2))
      have HX2:=Held.callB hB2 (by omega) HX
      go_roundw
      case rel=>exact ⟨j+k,acc++[c.toNat.toUInt8],by omega,by simp;omega,by go_num,HX2,hown1_len hown1,by rw [←HI.out];exact HE.out⟩
      case measure=>simp [intOf];omega
   ·have b2:(rawAt s.data.toList (p+1+j)==92)=false:=by simp [d2]
    have hn2:¬(rawAt s.data.toList (p+1+j)=92∧rawAt s.data.toList (p+1+j+1)=10):=fun h=>d2 h.1
    clear d2
    cases hqs:quotedS (s.data.toList.drop (p+1+j)) 34 with
    | none=>
     have HI:=zq (itemAt_none (s.data.toList.drop (p+1)) 34 (by decide) acc j (by rw [E0.out,E1.out];exact hn1) (by rw [E0.out,E1.out];exact hn2) (by rw [List.drop_drop];exact hqs))
     have HQ:=zq hqs
     clear hqs hn1 hn2
     go_wp2_with fail
     refine (lex_raw _ _ _ _ _ _ HX.lex (by omega)).mono ?_;rintro e wz ⟨rfl,rfl⟩;rw [show ((p:Int)+1+j).toNat=p+1+j by omega]
     go_wp2_with fail
     refine (lex_raw _ _ _ _ _ _ HX.lex (by omega)).mono ?_;rintro e wz ⟨rfl,rfl⟩;rw [show ((p:Int)+1+j).toNat=p+1+j by omega]
     go_wp2_with fail
     refine (lex_quoted _ _ _ _ _ _ _ HX.lex (by omega) (by omega)).mono ?_;rintro e wz ⟨he,rfl⟩;rw [show ((p:Int)+1+j).toNat=p+1+j by omega,HQ.out] at he
     obtain ⟨x,y,rfl⟩:=he
     obtain ⟨t6,v0,v1,v2,v3,v4,v5,t0,t1,t2,t3,t4,t5⟩:=HX.tok
     have hltc:=HX.lt
     go_wp2_with fail
     try rw [Exit.noGoto_ret]
     refine bodyPost_ret (v:=tokTup (errR 7)) (by simp [tokTup,errR,results,Tryz.results61,go_sem,t0,t1,t2,t3,t4,t5]) rfl ⟨?_,(HX.sets _ _ _ _ _ _).bel⟩
     rw [HK.out,←HE.out,HI.out];rfl
    | some ck=>
     obtain ⟨c,k⟩:=ck
     have hok:=quotedS_ok _ _ _ _ (by decide) hqs
     rw [List.length_drop] at hok
     have HI:=zq (itemAt_some (s.data.toList.drop (p+1)) 34 (by decide) acc j k c (by rw [E0.out,E1.out];exact hn1) (by rw [E0.out,E1.out];exact hn2) (by rw [List.drop_drop];exact hqs))
     have HQ:=zq hqs
     have hk1:1≤k:=hok.1
     have hk2:p+1+j+k≤s.size:=by have:=hok.2.1;have:=hok.1;rw [size_data] at *;omega
     have hc0:0≤c:=hok.2.2.1
     have hc1:c≤255:=hok.2.2.2
     clear hqs hn1 hn2 hok
     go_wp2_with fail
     refine (lex_raw _ _ _ _ _ _ HX.lex (by omega)).mono ?_;rintro e wz ⟨rfl,rfl⟩;rw [show ((p:Int)+1+j).toNat=p+1+j by omega]
     go_wp2_with fail
     refine (lex_raw _ _ _ _ _ _ HX.lex (by omega)).mono ?_;rintro e wz ⟨rfl,rfl⟩;rw [show ((p:Int)+1+j).toNat=p+1+j by omega]
     go_wp2_with fail
     refine (lex_quoted _ _ _ _ _ _ _ HX.lex (by omega) (by omega)).mono ?_;rintro e wz ⟨he,rfl⟩;rw [show ((p:Int)+1+j).toNat=p+1+j by omega,HQ.out] at he
     unfold QRes at he
     simp only [] at he
     subst he
     go_wp2_with (at_builtin;go_must (refine wpList_append_byte rfl _ _ 54 5 rfl Tryz.underlying54 infoU8 (w.heap.size+1) _ _ _ rfl _ hown _ hc0 hc1 rfl rfl (by omega) (by have:=HX.lt;omega) ?_;intro v1 w2 hown1 hB2))
     have HX2:=Held.callB hB2 (by omega) HX
     go_roundw
     case rel=>exact ⟨j+k,acc++[c.toNat.toUInt8],by omega,by simp;omega,by go_num,HX2,hown1_len hown1,by rw [←HI.out];exact HE.out⟩
     case measure=>simp [intOf];omega
set_option maxHeartbeats 3200000 in
theorem lex_quote_nm (b:Nat) (s:ByteArray) (tab:Int→Int) (p:Nat) (w:World) (h:Lex w b s tab p) (hp:p<s.size) (hq:rawAt (cvt tab s.data.toList) p=39) :
  Calls Tryz.prog 61 #[.pointer (some ⟨b,0,none⟩)] w fun e w'=>Gives (quoteR (cvt tab s.data.toList) s.data.toList p) e∧Below w.heap.size w w':=by
 have H0:=Held.start h
 have hlt:=h.lt
 have ca:=h.ca
 have hsz:=h.sz
 clear h
 have hlen:Hid ((cvt tab s.data.toList).length=s.size):=by show _=_;rw [cvt_len];simp
 generalize hM:cvt tab s.data.toList=M at *
 have HM:=zq hM
 clear hM
 have b1:(rawAt M p==39)=true:=by simp [hq]
 have HK:=zq (show quoteR M s.data.toList p=nmRes p (itemAt (s.data.toList.drop (p+1)) 39 [] 0) by unfold quoteR;rw [if_neg (by rw [hq];decide),if_pos hq];unfold itemAt;simp)
 have A1:=zq hq
 clear hq
 have hRl:(s.data.toList.drop (p+1)).length=s.size-(p+1):=by rw [List.length_drop,size_data]
 have HRl:=zq hRl
 clear hRl
 go_enter Tryz.func61,Tryz.ntmps61
 go_wp2_with fail
 go_step3
 go_wp2_with fail
 refine (lex_char _ _ _ _ _ _ H0.lex (by omega)).mono ?_;rintro e w1 ⟨rfl,hB1⟩;rw [Int.toNat_natCast,HM.out]
 have H1:=Held.call hB1 H0
 have c1:=H1.lex.ca
 rw [A1.out]
 go_wp2_with fail
 go_step3
 go_wp2_with fail
 go_loopw [6,7] (fun v i wr=>∃j:Nat,∃acc:List UInt8,p+1+j≤s.size∧acc.length≤j∧i=.int .i64 (p+1+j:Nat)∧Held w wr b s tab p∧wr.ownsRow (w.heap.size+1) 5 1 v acc.length (Hb.byteCells acc)∧Hid (itemAt (s.data.toList.drop (p+1)) 39 acc j=itemAt (s.data.toList.drop (p+1)) 39 [] 0)) (fun _ i _=>s.size-(intOf i).toNat)
 case atStart=>exact ⟨0,[],by omega,Nat.le_refl _,by go_num,H1,⟨by simp [Hb.byteCells],.inl ⟨rfl,rfl⟩⟩,rfl⟩
 case round=>
  obtain ⟨j,acc,hj,hal,rfl,HX,hown,HE⟩:=hrel
  have hlenX:=HX.lt
  have cX:=HX.lex.ca
  have E0:=zq (rawAt_drop s.data.toList (p+1) j)
  have E1:Hid (rawAt (s.data.toList.drop (p+1)) (j+1)=rawAt s.data.toList (p+1+j+1)):=rawAt_drop s.data.toList (p+1) (j+1)
  by_cases d0:rawAt s.data.toList (p+1+j)=39
  ·have b0:(rawAt s.data.toList (p+1+j)==39)=true:=by simp [d0]
   have b2:(rawAt s.data.toList (p+1+j)==92)=false:=by simp [d0]
   by_cases d1:rawAt s.data.toList (p+1+j+1)=39
   ·have b3:(rawAt s.data.toList (p+1+j+1) != 39)=false:=by simp [d1]
    have hn1:¬(rawAt s.data.toList (p+1+j)=39∧¬rawAt s.data.toList (p+1+j+1)=39):=fun h=>h.2 d1
    have hn2:¬(rawAt s.data.toList (p+1+j)=92∧rawAt s.data.toList (p+1+j+1)=10):=fun h=>absurd h.1 (by rw [d0];decide)
    clear d0 d1
    cases hqs:quotedS (s.data.toList.drop (p+1+j)) 39 with
    | none=>
     have HI:=zq (itemAt_none (s.data.toList.drop (p+1)) 39 (by decide) acc j (by rw [E0.out,E1.out];exact hn1) (by rw [E0.out,E1.out];exact hn2) (by rw [List.drop_drop];exact hqs))
     have HQ:=zq hqs
     clear hqs hn1 hn2
     go_wp2_with fail
     refine (lex_raw _ _ _ _ _ _ HX.lex (by omega)).mono ?_;rintro e wz ⟨rfl,rfl⟩;rw [show ((p:Int)+1+j).toNat=p+1+j by omega]
     go_wp2_with fail
     refine (lex_raw _ _ _ _ _ _ HX.lex (by omega)).mono ?_;rintro e wz ⟨rfl,rfl⟩;rw [show ((p:Int)+1+j+1).toNat=p+1+j+1 by omega]
     go_wp2_with fail
     refine (lex_raw _ _ _ _ _ _ HX.lex (by omega)).mono ?_;rintro e wz ⟨rfl,rfl⟩;rw [show ((p:Int)+1+j).toNat=p+1+j by omega]
     go_wp2_with fail
     refine (lex_quoted _ _ _ _ _ _ _ HX.lex (by omega) (by omega)).mono ?_;rintro e wz ⟨he,rfl⟩;rw [show ((p:Int)+1+j).toNat=p+1+j by omega,HQ.out] at he
     obtain ⟨x,y,rfl⟩:=he
     obtain ⟨t6,v0,v1,v2,v3,v4,v5,t0,t1,t2,t3,t4,t5⟩:=HX.tok
     have hltc:=HX.lt
     go_wp2_with fail
     try rw [Exit.noGoto_ret]
     refine bodyPost_ret (v:=tokTup (errR 7)) (by simp [tokTup,errR,results,Tryz.results61,go_sem,t0,t1,t2,t3,t4,t5]) rfl ⟨?_,(HX.sets _ _ _ _ _ _).bel⟩
     rw [HK.out,←HE.out,HI.out];rfl
    | some ck=>
     obtain ⟨c,k⟩:=ck
     have hok:=quotedS_ok _ _ _ _ (by decide) hqs
     rw [List.length_drop] at hok
     have HI:=zq (itemAt_some (s.data.toList.drop (p+1)) 39 (by decide) acc j k c (by rw [E0.out,E1.out];exact hn1) (by rw [E0.out,E1.out];exact hn2) (by rw [List.drop_drop];exact hqs))
     have HQ:=zq hqs
     have hk1:1≤k:=hok.1
     have hk2:p+1+j+k≤s.size:=by have:=hok.2.1;have:=hok.1;rw [size_data] at *;omega
     have hc0:0≤c:=hok.2.2.1
     have hc1:c≤255:=hok.2.2.2
     clear hqs hn1 hn2 hok
     go_wp2_with fail
     refine (lex_raw _ _ _ _ _ _ HX.lex (by omega)).mono ?_;rintro e wz ⟨rfl,rfl⟩;rw [show ((p:Int)+1+j).toNat=p+1+j by omega]
     go_wp2_with fail
     refine (lex_raw _ _ _ _ _ _ HX.lex (by omega)).mono ?_;rintro e wz ⟨rfl,rfl⟩;rw [show ((p:Int)+1+j+1).toNat=p+1+j+1 by omega]
     go_wp2_with fail
     refine (lex_raw _ _ _ _ _ _ HX.lex (by omega)).mono ?_;rintro e wz ⟨rfl,rfl⟩;rw [show ((p:Int)+1+j).toNat=p+1+j by omega]
     go_wp2_with fail
     refine (lex_quoted _ _ _ _ _ _ _ HX.lex (by omega) (by omega)).mono ?_;rintro e wz ⟨he,rfl⟩;rw [show ((p:Int)+1+j).toNat=p+1+j by omega,HQ.out] at he
     unfold QRes at he
     simp only [] at he
     subst he
     go_wp2_with (at_builtin;go_must (refine wpList_append_byte rfl _ _ 54 5 rfl Tryz.underlying54 infoU8 (w.heap.size+1) _ _ _ rfl _ hown _ hc0 hc1 rfl rfl (by omega) (by have:=HX.lt;omega) ?_;intro v1 w2 hown1 hB2))
     have HX2:=Held.callB hB2 (by omega) HX
     go_roundw
     case rel=>exact ⟨j+k,acc++[c.toNat.toUInt8],by omega,by simp;omega,by go_num,HX2,hown1_len hown1,by rw [←HI.out];exact HE.out⟩
     case measure=>simp [intOf];omega
   ·have b3:(rawAt s.data.toList (p+1+j+1) != 39)=true:=by simp [d1]
    have HI:=zq (itemAt_end (s.data.toList.drop (p+1)) 39 (by decide) acc j (by rw [E0.out];exact d0) (by rw [E1.out];exact d1))
    clear d0 d1
    have hc:=conv_own (P:=Tryz.prog) wr 54 9 5 Tryz.underlying54 Tryz.underlying5 Tryz.underlying9 _ _ _ _ hown
    obtain ⟨t6,v0,v1,v2,v3,v4,v5,t0,t1,t2,t3,t4,t5⟩:=HX.tok
    go_wp2_with fail
    refine (lex_raw _ _ _ _ _ _ HX.lex (by omega)).mono ?_;rintro e wz ⟨rfl,rfl⟩;rw [show ((p:Int)+1+j).toNat=p+1+j by omega]
    go_wp2_with fail
    refine (lex_raw _ _ _ _ _ _ HX.lex (by omega)).mono ?_;rintro e wz ⟨rfl,rfl⟩;rw [show ((p:Int)+1+j+1).toNat=p+1+j+1 by omega]
    go_wp2_with fail
    refine (lex_named _ _ _ _ _ _ _ _ HX.lex (by omega)).mono ?_;rintro e w2 ⟨he,hB2⟩
    have HC:=Held.call hB2 HX
    generalize hr:namedR _ _ _ _=r at he
    have HR:=zq hr
    clear hr t0 t1 t2 t3 t4 t5 t6
    unfold Gives tokTup at he;subst he
    obtain ⟨t6,v0,v1,v2,v3,v4,v5,t0,t1,t2,t3,t4,t5⟩:=HC.tok
    have hltc:=HC.lt
    go_wp2_with fail
    try rw [Exit.noGoto_ret]
    refine bodyPost_ret (v:=tokTup r) (by simp [tokTup,results,Tryz.results61,go_sem,t0,t1,t2,t3,t4,t5]) rfl ⟨?_,(HC.sets _ _ _ _ _ _).bel⟩
    rw [HK.out,←HE.out,HI.out,←HR.out];rfl
  ·have b0:(rawAt s.data.toList (p+1+j)==39)=false:=by simp [d0]
   have hn1:¬(rawAt s.data.toList (p+1+j)=39∧¬rawAt s.data.toList (p+1+j+1)=39):=fun h=>d0 h.1
   clear d0
   by_cases d2:rawAt s.data.toList (p+1+j)=92
   ·have b2:(rawAt s.data.toList (p+1+j)==92)=true:=by simp [d2]
    by_cases d3:rawAt s.data.toList (p+1+j+1)=10
    ·have b3:(rawAt s.data.toList (p+1+j+1)==10)=true:=by simp [d3]
     have HI:=zq (itemAt_cont (s.data.toList.drop (p+1)) 39 (by decide) acc j (by rw [E0.out,E1.out];exact hn1) (by rw [E0.out];exact d2) (by rw [E1.out];exact d3))
     have hk2:p+1+j+2≤s.size:=by have:=rawAt_neg s.data.toList (p+1+j+1);rw [size_data] at this;omega
     clear d2 d3 hn1
     go_wp2_with fail
     refine (lex_raw _ _ _ _ _ _ HX.lex (by omega)).mono ?_;rintro e wz ⟨rfl,rfl⟩;rw [show ((p:Int)+1+j).toNat=p+1+j by omega]
     go_wp2_with fail
     refine (lex_raw _ _ _ _ _ _ HX.lex (by omega)).mono ?_;rintro e wz ⟨rfl,rfl⟩;rw [show ((p:Int)+1+j).toNat=p+1+j by omega]
     go_wp2_with fail
     refine (lex_raw _ _ _ _ _ _ HX.lex (by omega)).mono ?_;rintro e wz ⟨rfl,rfl⟩;rw [show ((p:Int)+1+j+1).toNat=p+1+j+1 by omega]
     go_wp2_with fail
     go_roundw
     case rel=>exact ⟨j+2,acc,by omega,by omega,by go_num,HX,hown,by rw [←HI.out];exact HE.out⟩
     case measure=>simp [intOf];omega
    ·have b3:(rawAt s.data.toList (p+1+j+1)==10)=false:=by simp [d3]
     have hn2:¬(rawAt s.data.toList (p+1+j)=92∧rawAt s.data.toList (p+1+j+1)=10):=fun h=>d3 h.2
     clear d2 d3
     cases hqs:quotedS (s.data.toList.drop (p+1+j)) 39 with
     | none=>
      have HI:=zq (itemAt_none (s.data.toList.drop (p+1)) 39 (by decide) acc j (by rw [E0.out,E1.out];exact hn1) (by rw [E0.out,E1.out];exact hn2) (by rw [List.drop_drop];exact hqs))
      have HQ:=zq hqs
      clear hqs hn1 hn2
      go_wp2_with fail
      refine (lex_raw _ _ _ _ _ _ HX.lex (by omega)).mono ?_;rintro e wz ⟨rfl,rfl⟩;rw [show ((p:Int)+1+j).toNat=p+1+j by omega]
      go_wp2_with fail
      refine (lex_raw _ _ _ _ _ _ HX.lex (by omega)).mono ?_;rintro e wz ⟨rfl,rfl⟩;rw [show ((p:Int)+1+j).toNat=p+1+j by omega]
      go_wp2_with fail
      refine (lex_raw _ _ _ _ _ _ HX.lex (by omega)).mono ?_;rintro e wz ⟨rfl,rfl⟩;rw [show ((p:Int)+1+j+1).toNat=p+1+j+1 by omega]
      go_wp2_with fail
      refine (lex_quoted _ _ _ _ _ _ _ HX.lex (by omega) (by omega)).mono ?_;rintro e wz ⟨he,rfl⟩;rw [show ((p:Int)+1+j).toNat=p+1+j by omega,HQ.out] at he
      obtain ⟨x,y,rfl⟩:=he
      obtain ⟨t6,v0,v1,v2,v3,v4,v5,t0,t1,t2,t3,t4,t5⟩:=HX.tok
      have hltc:=HX.lt
      go_wp2_with fail
      try rw [Exit.noGoto_ret]
      refine bodyPost_ret (v:=tokTup (errR 7)) (by simp [tokTup,errR,results,Tryz.results61,go_sem,t0,t1,t2,t3,t4,t5]) rfl ⟨?_,(HX.sets _ _ _ _ _ _).bel⟩
      rw [HK.out,←HE.out,HI.out];rfl
     | some ck=>
      obtain ⟨c,k⟩:=ck
      have hok:=quotedS_ok _ _ _ _ (by decide) hqs
      rw [List.length_drop] at hok
      have HI:=zq (itemAt_some (s.data.toList.drop (p+1)) 39 (by decide) acc j k c (by rw [E0.out,E1.out];exact hn1) (by rw [E0.out,E1.out];exact hn2) (by rw [List.drop_drop];exact hqs))
      have HQ:=zq hqs
      have hk1:1≤k:=hok.1
      have hk2:p+1+j+k≤s.size:=by have:=hok.2.1;have:=hok.1;rw [size_data] at *;omega
      have hc0:0≤c:=hok.2.2.1
      have hc1:c≤255:=hok.2.2.2
      clear hqs hn1 hn2 hok
      go_wp2_with fail
      refine (lex_raw _ _ _ _ _ _ HX.lex (by omega)).mono ?_;rintro e wz ⟨rfl,rfl⟩;rw [show ((p:Int)+1+j).toNat=p+1+j by omega]
      go_wp2_with fail
      refine (lex_raw _ _ _ _ _ _ HX.lex (by omega)).mono ?_;rintro e wz ⟨rfl,rfl⟩;rw [show ((p:Int)+1+j).toNat=p+1+j by omega]
      go_wp2_with fail
      refine (lex_raw _ _ _ _ _ _ HX.lex (by omega)).mono ?_;rintro e wz ⟨rfl,rfl⟩;rw [show ((p:Int)+1+j+1).toNat=p+1+j+1 by omega]
      go_wp2_with fail
      refine (lex_quoted _ _ _ _ _ _ _ HX.lex (by omega) (by omega)).mono ?_;rintro e wz ⟨he,rfl⟩;rw [show ((p:Int)+1+j).toNat=p+1+j by omega,HQ.out] at he
      unfold QRes at he
      simp only [] at he
      subst he
      go_wp2_with (at_builtin;go_must (refine wpList_append_byte rfl _ _ 54 5 rfl Tryz.underlying54 infoU8 (w.heap.size+1) _ _ _ rfl _ hown _ hc0 hc1 rfl rfl (by omega) (by have:=HX.lt;omega) ?_;intro v1 w2 hown1 hB2))
      have HX2:=Held.callB hB2 (by omega) HX
      go_roundw
      case rel=>exact ⟨j+k,acc++[c.toNat.toUInt8],by omega,by simp;omega,by go_num,HX2,hown1_len hown1,by rw [←HI.out];exact HE.out⟩
      case measure=>simp [intOf];omega
   ·have b2:(rawAt s.data.toList (p+1+j)==92)=false:=by simp [d2]
    have hn2:¬(rawAt s.data.toList (p+1+j)=92∧rawAt s.data.toList (p+1+j+1)=10):=fun h=>d2 h.1
    clear d2
    cases hqs:quotedS (s.data.toList.drop (p+1+j)) 39 with
    | none=>
     have HI:=zq (itemAt_none (s.data.toList.drop (p+1)) 39 (by decide) acc j (by rw [E0.out,E1.out];exact hn1) (by rw [E0.out,E1.out];exact hn2) (by rw [List.drop_drop];exact hqs))
     have HQ:=zq hqs
     clear hqs hn1 hn2
     go_wp2_with fail
     refine (lex_raw _ _ _ _ _ _ HX.lex (by omega)).mono ?_;rintro e wz ⟨rfl,rfl⟩;rw [show ((p:Int)+1+j).toNat=p+1+j by omega]
     go_wp2_with fail
     refine (lex_raw _ _ _ _ _ _ HX.lex (by omega)).mono ?_;rintro e wz ⟨rfl,rfl⟩;rw [show ((p:Int)+1+j).toNat=p+1+j by omega]
     go_wp2_with fail
     refine (lex_quoted _ _ _ _ _ _ _ HX.lex (by omega) (by omega)).mono ?_;rintro e wz ⟨he,rfl⟩;rw [show ((p:Int)+1+j).toNat=p+1+j by omega,HQ.out] at he
     obtain ⟨x,y,rfl⟩:=he
     obtain ⟨t6,v0,v1,v2,v3,v4,v5,t0,t1,t2,t3,t4,t5⟩:=HX.tok
     have hltc:=HX.lt
     go_wp2_with fail
     try rw [Exit.noGoto_ret]
     refine bodyPost_ret (v:=tokTup (errR 7)) (by simp [tokTup,errR,results,Tryz.results61,go_sem,t0,t1,t2,t3,t4,t5]) rfl ⟨?_,(HX.sets _ _ _ _ _ _).bel⟩
     rw [HK.out,←HE.out,HI.out];rfl
    | some ck=>
     obtain ⟨c,k⟩:=ck
     have hok:=quotedS_ok _ _ _ _ (by decide) hqs
     rw [List.length_drop] at hok
     have HI:=zq (itemAt_some (s.data.toList.drop (p+1)) 39 (by decide) acc j k c (by rw [E0.out,E1.out];exact hn1) (by rw [E0.out,E1.out];exact hn2) (by rw [List.drop_drop];exact hqs))
     have HQ:=zq hqs
     have hk1:1≤k:=hok.1
     have hk2:p+1+j+k≤s.size:=by have:=hok.2.1;have:=hok.1;rw [size_data] at *;omega
     have hc0:0≤c:=hok.2.2.1
     have hc1:c≤255:=hok.2.2.2
     clear hqs hn1 hn2 hok
     go_wp2_with fail
     refine (lex_raw _ _ _ _ _ _ HX.lex (by omega)).mono ?_;rintro e wz ⟨rfl,rfl⟩;rw [show ((p:Int)+1+j).toNat=p+1+j by omega]
     go_wp2_with fail
     refine (lex_raw _ _ _ _ _ _ HX.lex (by omega)).mono ?_;rintro e wz ⟨rfl,rfl⟩;rw [show ((p:Int)+1+j).toNat=p+1+j by omega]
     go_wp2_with fail
     refine (lex_quoted _ _ _ _ _ _ _ HX.lex (by omega) (by omega)).mono ?_;rintro e wz ⟨he,rfl⟩;rw [show ((p:Int)+1+j).toNat=p+1+j by omega,HQ.out] at he
     unfold QRes at he
     simp only [] at he
     subst he
     go_wp2_with (at_builtin;go_must (refine wpList_append_byte rfl _ _ 54 5 rfl Tryz.underlying54 infoU8 (w.heap.size+1) _ _ _ rfl _ hown _ hc0 hc1 rfl rfl (by omega) (by have:=HX.lt;omega) ?_;intro v1 w2 hown1 hB2))
     have HX2:=Held.callB hB2 (by omega) HX
     go_roundw
     case rel=>exact ⟨j+k,acc++[c.toNat.toUInt8],by omega,by simp;omega,by go_num,HX2,hown1_len hown1,by rw [←HI.out];exact HE.out⟩
     case measure=>simp [intOf];omega
set_option maxHeartbeats 800000 in
theorem lex_quote (b:Nat) (s:ByteArray) (tab:Int→Int) (p:Nat) (w:World) (h:Lex w b s tab p) (hp:p<s.size) :
  Calls Tryz.prog 61 #[.pointer (some ⟨b,0,none⟩)] w fun e w'=>Gives (quoteR (cvt tab s.data.toList) s.data.toList p) e∧Below w.heap.size w w':=by
 by_cases h1:rawAt (cvt tab s.data.toList) p=34
 ·exact lex_quote_str b s tab p w h hp h1
 by_cases h2:rawAt (cvt tab s.data.toList) p=39
 ·exact lex_quote_nm b s tab p w h hp h2
 have HK:=zq (show quoteR (cvt tab s.data.toList) s.data.toList p=errR 7 by unfold quoteR;rw [if_neg h1,if_neg h2])
 have b1:(rawAt (cvt tab s.data.toList) p==34)=false:=by simp [h1]
 have b2:(rawAt (cvt tab s.data.toList) p==39)=false:=by simp [h2]
 have H0:=Held.start h
 have hlt:=h.lt
 have ca:=h.ca
 clear h h1 h2
 go_enter Tryz.func61,Tryz.ntmps61
 go_wp2_with fail
 go_step3
 go_wp2_with fail
 refine (lex_char _ _ _ _ _ _ H0.lex (by omega)).mono ?_;rintro e w1 ⟨rfl,hB1⟩;rw [Int.toNat_natCast]
 have H1:=Held.call hB1 H0
 obtain ⟨t6,v0,v1,v2,v3,v4,v5,t0,t1,t2,t3,t4,t5⟩:=H1.tok
 have hltc:=H1.lt
 go_wp2_with fail
 try rw [Exit.noGoto_ret]
 refine bodyPost_ret (v:=tokTup (errR 7)) (by simp [tokTup,errR,results,Tryz.results61,go_sem,t0,t1,t2,t3,t4,t5]) rfl ⟨?_,(H1.sets _ _ _ _ _ _).bel⟩
 rw [HK.out];rfl
set_option maxHeartbeats 400000 in
theorem lex_none (b:Nat) (w:World) :
  Calls Tryz.prog 56 #[.pointer (some ⟨b,0,none⟩)] w fun e w'=>Gives (errR 7) e∧Below w.heap.size w w':=by
 go_enter Tryz.func56,Tryz.ntmps56
 go_wp2
 refine bodyPost_ret (v:=tokTup (errR 7)) (by simp [tokTup,errR,results,Tryz.results56,go_sem]) rfl ⟨rfl,(Below.refl _ _).alloc (Nat.le_refl _) _⟩
theorem cls_dig (c:Int) (h:cls c=4):isDig 10 c=true:=by
 have hc:48≤c∧c≤57:=by unfold cls at h;grind (splits:=30)
 unfold isDig;rw [digOk_dgt _ _ (by decide) (by decide)];unfold dgt;rw [if_pos hc];simp;omega
structure Only (g:Nat) (w w':World):Prop where
 os:w'.os=w.os
 tape:w'.tape=w.tape
 output:w'.output=w.output
 size:w.heap.size≤w'.heap.size
 block:∀k,k<w.heap.size→k≠g→w'.heap[k]? = w.heap[k]?
theorem Only.refl (g:Nat) (w:World):Only g w w:=⟨rfl,rfl,rfl,Nat.le_refl _,fun _ _ _=>rfl⟩
theorem Only.below {g:Nat} {a b c:World} (h:Only g a b) {B:Nat} (hb:Below B b c) (hB:a.heap.size≤B):Only g a c :=
 ⟨hb.os.trans h.os,hb.tape.trans h.tape,hb.output.trans h.output,Nat.le_trans h.size hb.size,fun i hi hg=>(hb.block i (by omega)).trans (h.block i hi hg)⟩
theorem Only.drew {g:Nat} {a b:World} (h:Only g a b):Only g a b.drew:=⟨h.os,h.tape,h.output,h.size,h.block⟩
theorem Only.set {g:Nat} {a b:World} (h:Only g a b) (o:Nat) (v:Value):Only g a (b.setCell ⟨g,o,none⟩ v) :=
 ⟨h.os,h.tape,h.output,by simp [World.setCell];exact h.size,fun i hi hg=>(Below.heap_setCell b _ v i hg).trans (h.block i hi hg)⟩
theorem Only.setNew {g:Nat} {a b:World} (h:Only g a b) (p:Addr) (hp:a.heap.size≤p.block) (v:Value):Only g a (b.setCell p v) :=
 ⟨h.os,h.tape,h.output,by simp [World.setCell];exact h.size,fun i hi hg=>(Below.heap_setCell b _ v i (by omega)).trans (h.block i hi hg)⟩
theorem Only.toBelow' {g:Nat} {a b:World} (h:Only g a b) {B:Nat} (hg:B≤g) (hB:B≤a.heap.size):Below B a b:=⟨h.os,h.tape,h.output,h.size,fun k hk=>h.block k (by omega) (by omega)⟩
theorem Lex.setAt {w:World} {b:Nat} {s:ByteArray} {tab:Int→Int} {a:Int} (h:Lex w b s tab a) (p:Int):Lex (w.setCell ⟨b,257,none⟩ (.int .i64 p)) b s tab p where
 lt:=by simp [World.setCell];exact h.lt
 c0:=(World.cell?_setCell_other w _ _ _ (by intro hh;injection hh with _ h2 _;omega)).trans h.c0
 ct:=fun c hc=>(World.cell?_setCell_other w _ _ _ (by intro hh;injection hh with _ h2 _;omega)).trans (h.ct c hc)
 ca:=World.cell?_setCell_same w _ _ h.ca
 fr:=fun o=>(frozen_set _ _ _ _).trans (h.fr o)
 sz:=h.sz
 tb:=h.tb
structure NHeld (w0 w:World) (b:Nat) (s:ByteArray) (tab:Int→Int) (p:Int):Prop where
 lex:Lex w b s tab p
 only:Only b w0 w
 tok:Tok6 w w0.heap.size
 lt:w0.heap.size<w.heap.size
 blt:b<w0.heap.size
section
variable {w0 w w':World} {b:Nat} {s:ByteArray} {tab:Int→Int} {p:Int}
theorem NHeld.start (h:Lex w0 b s tab p):NHeld w0 (w0.alloc tokZero) b s tab p:=by
 have H:=Held.start h
 exact ⟨H.lex,(Only.refl b w0).below H.bel (Nat.le_refl _),H.tok,H.lt,H.blt⟩
theorem Tok6.below {B g:Nat} (h:Tok6 w g) (hB:Below B w w') (hg:g<B):Tok6 w' g:=by
 obtain ⟨t6,v0,v1,v2,v3,v4,v5,t0,t1,t2,t3,t4,t5⟩:=h
 have e:∀o,w'.cell? ⟨g,o,none⟩=w.cell? ⟨g,o,none⟩:=fun o=>hB.cell (p:=⟨g,o,none⟩) hg
 exact ⟨fun o=>(hB.frozen (p:=⟨g,o,none⟩) hg).trans (t6 o),v0,v1,v2,v3,v4,v5,(e 0).trans t0,(e 1).trans t1,(e 2).trans t2,(e 3).trans t3,(e 4).trans t4,(e 5).trans t5⟩
theorem NHeld.call {B:Nat} (hB:Below B w w') (h1:w0.heap.size<B) (h:NHeld w0 w b s tab p):NHeld w0 w' b s tab p :=
 ⟨h.lex.below hB (Nat.lt_trans h.blt h1),h.only.below hB (Nat.le_of_lt h1),h.tok.below hB h1,Nat.lt_of_lt_of_le h.lt hB.size,h.blt⟩
theorem NHeld.setAt (h:NHeld w0 w b s tab p) (q:Int):NHeld w0 (w.setCell ⟨b,257,none⟩ (.int .i64 q)) b s tab q:=by
 obtain ⟨t6,v0,v1,v2,v3,v4,v5,t0,t1,t2,t3,t4,t5⟩:=h.tok
 have hne:b≠w0.heap.size:=by have:=h.blt;omega
 have e:∀o,(w.setCell ⟨b,257,none⟩ (.int .i64 q)).cell? ⟨w0.heap.size,o,none⟩=w.cell? ⟨w0.heap.size,o,none⟩:=fun o=>World.cell?_setCell_other w _ _ _ (by intro hh;injection hh with h1 _ _;exact hne h1)
 exact ⟨h.lex.setAt q,h.only.set 257 _,⟨fun o=>(frozen_set _ _ _ _).trans (t6 o),v0,v1,v2,v3,v4,v5,(e 0).trans t0,(e 1).trans t1,(e 2).trans t2,(e 3).trans t3,(e 4).trans t4,(e 5).trans t5⟩,by simp [World.setCell];exact h.lt,h.blt⟩
end
theorem only_sets {w w':World} {b g:Nat} (h:Only b w w') (hg:w.heap.size≤g) (a0 a1 a2 a3 a4 a5:Value):Only b w ((((((w'.setCell ⟨g,0,none⟩ a0).setCell ⟨g,1,none⟩ a1).setCell ⟨g,2,none⟩ a2).setCell ⟨g,3,none⟩ a3).setCell ⟨g,4,none⟩ a4).setCell ⟨g,5,none⟩ a5) :=
 (((((h.setNew ⟨g,_,none⟩ hg _).setNew ⟨g,_,none⟩ hg _).setNew ⟨g,_,none⟩ hg _).setNew ⟨g,_,none⟩ hg _).setNew ⟨g,_,none⟩ hg _).setNew ⟨g,_,none⟩ hg _
theorem lex_sets {w:World} {b g:Nat} {s:ByteArray} {tab:Int→Int} {p:Int} (h:Lex w b s tab p) (hg:b≠g) (a0 a1 a2 a3 a4 a5:Value):Lex ((((((w.setCell ⟨g,0,none⟩ a0).setCell ⟨g,1,none⟩ a1).setCell ⟨g,2,none⟩ a2).setCell ⟨g,3,none⟩ a3).setCell ⟨g,4,none⟩ a4).setCell ⟨g,5,none⟩ a5) b s tab p:=by
 refine h.same (by simp [World.setCell]) ?_
 rw [Below.heap_setCell _ _ _ _ hg,Below.heap_setCell _ _ _ _ hg,Below.heap_setCell _ _ _ _ hg,Below.heap_setCell _ _ _ _ hg,Below.heap_setCell _ _ _ _ hg,Below.heap_setCell _ _ _ _ hg]
theorem only_sets_alloc {w w':World} {b g:Nat} (h:Only b w w') (hg:w.heap.size≤g) (a0 a1 a2 a3 a4 a5:Value) (o:Obj):Only b w (((((((w'.setCell ⟨g,0,none⟩ a0).setCell ⟨g,1,none⟩ a1).setCell ⟨g,2,none⟩ a2).setCell ⟨g,3,none⟩ a3).setCell ⟨g,4,none⟩ a4).setCell ⟨g,5,none⟩ a5).alloc o) :=
 (only_sets h hg a0 a1 a2 a3 a4 a5).below ((Below.refl _ _).alloc (Nat.le_refl _) o) (only_sets h hg a0 a1 a2 a3 a4 a5).size
theorem lex_sets_alloc {w:World} {b g:Nat} {s:ByteArray} {tab:Int→Int} {p:Int} (h:Lex w b s tab p) (hg:b≠g) (a0 a1 a2 a3 a4 a5:Value) (o:Obj):Lex (((((((w.setCell ⟨g,0,none⟩ a0).setCell ⟨g,1,none⟩ a1).setCell ⟨g,2,none⟩ a2).setCell ⟨g,3,none⟩ a3).setCell ⟨g,4,none⟩ a4).setCell ⟨g,5,none⟩ a5).alloc o) b s tab p :=
 (lex_sets h hg a0 a1 a2 a3 a4 a5).below ((Below.refl _ _).alloc (Nat.le_refl _) o) (lex_sets h hg a0 a1 a2 a3 a4 a5).lt
def nxtTup (r:NextR):Value:=.tuple #[.agg #[.int .i64 r.r.kind,.string ⟨r.r.text.toArray⟩,.int .i64 r.r.n,.int .i64 r.r.at_,.int .i64 r.r.end_,.bool r.lay],.int .i64 r.where_,.int .i64 r.r.err]
def GivesN (r:NextR) (e:Ending):Prop:=e=.returned (nxtTup r)
def readers:Obj:=.cells #[.func (.func 56) #[] #[],.func (.func 56) #[] #[],.func (.func 57) #[] #[],.func (.func 57) #[] #[],.func (.func 58) #[] #[],.func (.func 59) #[] #[],.func (.func 60) #[] #[],.func (.func 61) #[] #[],.func (.func 56) #[] #[]] 115
theorem reader_cell0 (w:World):(w.alloc readers).cell? ⟨w.heap.size,0,none⟩=some (.func (.func 56) #[] #[]):=by unfold readers;rw [World.cell?_alloc_new];rfl
theorem reader_cell1 (w:World):(w.alloc readers).cell? ⟨w.heap.size,1,none⟩=some (.func (.func 56) #[] #[]):=by unfold readers;rw [World.cell?_alloc_new];rfl
theorem reader_cell2 (w:World):(w.alloc readers).cell? ⟨w.heap.size,2,none⟩=some (.func (.func 57) #[] #[]):=by unfold readers;rw [World.cell?_alloc_new];rfl
theorem reader_cell3 (w:World):(w.alloc readers).cell? ⟨w.heap.size,3,none⟩=some (.func (.func 57) #[] #[]):=by unfold readers;rw [World.cell?_alloc_new];rfl
theorem reader_cell4 (w:World):(w.alloc readers).cell? ⟨w.heap.size,4,none⟩=some (.func (.func 58) #[] #[]):=by unfold readers;rw [World.cell?_alloc_new];rfl
theorem reader_cell5 (w:World):(w.alloc readers).cell? ⟨w.heap.size,5,none⟩=some (.func (.func 59) #[] #[]):=by unfold readers;rw [World.cell?_alloc_new];rfl
theorem reader_cell6 (w:World):(w.alloc readers).cell? ⟨w.heap.size,6,none⟩=some (.func (.func 60) #[] #[]):=by unfold readers;rw [World.cell?_alloc_new];rfl
theorem reader_cell7 (w:World):(w.alloc readers).cell? ⟨w.heap.size,7,none⟩=some (.func (.func 61) #[] #[]):=by unfold readers;rw [World.cell?_alloc_new];rfl
theorem reader_cell8 (w:World):(w.alloc readers).cell? ⟨w.heap.size,8,none⟩=some (.func (.func 56) #[] #[]):=by unfold readers;rw [World.cell?_alloc_new];rfl
set_option maxHeartbeats 800000 in
theorem lex_next_end (b:Nat) (s:ByteArray) (tab:Int→Int) (a:Nat) (at0:Int) (w:World) (h:Lex w b s tab at0) (_ha:a≤s.size) (e1:(a+skipN ((cvt tab s.data.toList).drop a))=s.size) :
  Calls Tryz.prog 39 #[.pointer (some ⟨b,0,none⟩),.int .i64 a] w fun e w'=>GivesN (nextR (cvt tab s.data.toList) s.data.toList a) e∧Only b w w'∧∃q,Lex w' b s tab q:=by
 have H0:=NHeld.start h
 have hlt:=h.lt
 have hsz:=h.sz
 clear h
 have hlen:Hid ((cvt tab s.data.toList).length=s.size):=by show _=_;rw [cvt_len];simp
 have HRl:Hid (s.data.toList.length=s.size):=size_data s
 have hsk:=skipN_le ((cvt tab s.data.toList).drop a)
 rw [List.length_drop,hlen.out] at hsk
 generalize hM:cvt tab s.data.toList=M at *
 have HM:=zq hM
 clear hM
 generalize hS:skipN (M.drop a)=S at *
 have HS:=zq hS
 clear hS
 have HK:=zq (show nextR M s.data.toList a=⟨errR 14,false,a+S⟩ by unfold nextR;simp only [HS.out];rw [if_pos (by rw [HRl.out];exact e1)];simp)
 have b1:((a:Int)+S==(s.size:Int))=true:=by simp;omega
 have he1:=zq e1
 clear e1
 go_enter Tryz.func39,Tryz.ntmps39
 go_wp2_with fail
 refine (lex_skip _ _ _ _ _ _ H0.lex (by omega)).mono ?_;rintro e w1 ⟨rfl,hB1⟩;rw [Int.toNat_natCast,HM.out,HS.out]
 have H1:=NHeld.call hB1 H0.lt H0
 have c1:=H1.lex.ca
 have f1:=H1.lex.fr 257
 have hl1:=H1.lex.lt
 have H2:=H1.setAt (a+S)
 clear hB1 H0 H1
 go_wp2_with fail
 generalize hw2:w1.setCell ⟨b,257,none⟩ (.int .i64 ((a:Int)+S))=w2 at *
 clear hw2 c1 f1 hl1
 have c2:=H2.lex.ca
 have d2:=H2.lex.c0
 go_quiet (fail)
 have H3:=NHeld.call (bl_drewN (Below.refl w2.heap.size w2) nq) H2.lt H2
 clear H2 c2 d2
 generalize hw3:w2.drewN nq=w3 at *
 clear hw3
 have c3:=H3.lex.ca
 obtain ⟨t6,v0,v1,v2,v3,v4,v5,t0,t1,t2,t3,t4,t5⟩:=H3.tok
 have hl3:=H3.lt
 have hb3:=H3.lex.lt
 have H4:=fun o=>NHeld.call ((Below.refl w3.heap.size w3).alloc (Nat.le_refl _) o) H3.lt H3
 go_wp2_with fail
 go_region
 go_wp2_with fail
 refine bodyPost_ret (v:=nxtTup ⟨errR 14,false,(a:Int)+S⟩) (by simp [nxtTup,errR,results,Tryz.results39,go_sem,t0,t1,t2,t3,t4,t5]) rfl ⟨?_,(only_sets H3.only (Nat.le_refl _) _ _ _ _ _ _).drew,_,(lex_sets H3.lex (by have:=H3.blt;omega) _ _ _ _ _ _).drewN 1⟩
 rw [HK.out];rfl
set_option maxHeartbeats 800000 in
theorem lex_next_open (b:Nat) (s:ByteArray) (tab:Int→Int) (a:Nat) (at0:Int) (w:World) (h:Lex w b s tab at0) (ha:a≤s.size) (e1:¬(a+skipN ((cvt tab s.data.toList).drop a))=s.size) (e2:rawAt (cvt tab s.data.toList) (a+skipN ((cvt tab s.data.toList).drop a))=47∧rawAt (cvt tab s.data.toList) ((a+skipN ((cvt tab s.data.toList).drop a))+1)=42) :
  Calls Tryz.prog 39 #[.pointer (some ⟨b,0,none⟩),.int .i64 a] w fun e w'=>GivesN (nextR (cvt tab s.data.toList) s.data.toList a) e∧Only b w w'∧∃q,Lex w' b s tab q:=by
 have H0:=NHeld.start h
 have hlt:=h.lt
 have hsz:=h.sz
 clear h
 have hlen:Hid ((cvt tab s.data.toList).length=s.size):=by show _=_;rw [cvt_len];simp
 have HRl:Hid (s.data.toList.length=s.size):=size_data s
 have hsk:=skipN_le ((cvt tab s.data.toList).drop a)
 rw [List.length_drop,hlen.out] at hsk
 generalize hM:cvt tab s.data.toList=M at *
 have HM:=zq hM
 clear hM
 generalize hS:skipN (M.drop a)=S at *
 have HS:=zq hS
 clear hS
 have b1:((a:Int)+S==(s.size:Int))=false:=by simp;omega
 have HKN:Hid (∀e,¬e=0→(tokR M s.data.toList (a+S)).err=e→Hid (nextR M s.data.toList a=⟨errR e,false,a+S⟩)):=fun e he h=>by
  show nextR M s.data.toList a=_
  unfold nextR;simp only [HS.out];rw [if_neg (by rw [HRl.out];exact e1),if_neg (by rw [h];exact he),h];simp
 have HKY:Hid ((tokR M s.data.toList (a+S)).err=0→Hid (nextR M s.data.toList a=⟨tokR M s.data.toList (a+S),decide (a<a+S),0⟩)):=fun h=>by
  show nextR M s.data.toList a=_
  unfold nextR;simp only [HS.out];rw [if_neg (by rw [HRl.out];exact e1),if_pos h]
 have hp:a+S<s.size:=by omega
 have he1:=zq e1
 clear e1
 have HK:=HKN.out 7 (by decide) (by unfold tokR;rw [if_pos e2];rfl)
 have b2:(rawAt M (a+S)==47)=true:=by simp [e2.1]
 have b3:(rawAt M (a+S+1)==42)=true:=by simp [e2.2]
 clear e2
 go_enter Tryz.func39,Tryz.ntmps39
 go_wp2_with fail
 refine (lex_skip _ _ _ _ _ _ H0.lex (by omega)).mono ?_;rintro e w1 ⟨rfl,hB1⟩;rw [Int.toNat_natCast,HM.out,HS.out]
 have H1:=NHeld.call hB1 H0.lt H0
 have c1:=H1.lex.ca
 have f1:=H1.lex.fr 257
 have hl1:=H1.lex.lt
 have H2:=H1.setAt (a+S)
 clear hB1 H0 H1
 go_wp2_with fail
 generalize hw2:w1.setCell ⟨b,257,none⟩ (.int .i64 ((a:Int)+S))=w2 at *
 clear hw2 c1 f1 hl1
 have c2:=H2.lex.ca
 have d2:=H2.lex.c0
 go_quiet (fail)
 have H3:=NHeld.call (bl_drewN (Below.refl w2.heap.size w2) nq) H2.lt H2
 clear H2 c2 d2
 generalize hw3:w2.drewN nq=w3 at *
 clear hw3
 have c3:=H3.lex.ca
 obtain ⟨t6,v0,v1,v2,v3,v4,v5,t0,t1,t2,t3,t4,t5⟩:=H3.tok
 have hl3:=H3.lt
 have hb3:=H3.lex.lt
 have H4:=fun o=>NHeld.call ((Below.refl w3.heap.size w3).alloc (Nat.le_refl _) o) H3.lt H3
 go_wp2_with fail
 refine (lex_char _ _ _ _ _ _ (H4 _).lex (by omega)).mono ?_;rintro e w5 ⟨rfl,hB5⟩;rw [show ((a:Int)+S).toNat=a+S by omega,HM.out]
 have H5:=NHeld.call hB5 (H4 _).lt (H4 _)
 have c5:=H5.lex.ca
 have r5:=hB5
 go_wp2_with fail
 refine (lex_char _ _ _ _ _ _ H5.lex (by omega)).mono ?_;rintro e w6 ⟨rfl,hB6⟩;rw [show ((a:Int)+S+1).toNat=a+S+1 by omega,HM.out]
 have H6:=NHeld.call hB6 H5.lt H5
 have c6:=H6.lex.ca
 have r6:=r5.trans (hB6.mono hB5.size)
 go_wp2_with fail
 clear t0 t1 t2 t3 t4 t5 t6
 obtain ⟨t6,x0,x1,x2,x3,x4,x5,t0,t1,t2,t3,t4,t5⟩:=H6.tok
 have hl6:=H6.lt
 have hb6:=H6.lex.lt
 go_region
 go_wp2_with fail
 refine bodyPost_ret (v:=nxtTup ⟨errR 7,false,(a:Int)+S⟩) (by simp [nxtTup,errR,results,Tryz.results39,go_sem,t0,t1,t2,t3,t4,t5]) rfl ⟨?_,(only_sets H6.only (Nat.le_refl _) _ _ _ _ _ _).drew,_,(lex_sets H6.lex (by have:=H6.blt;omega) _ _ _ _ _ _).drewN 1⟩
 rw [HK.out];rfl
set_option maxHeartbeats 800000 in
theorem lex_next_0 (b:Nat) (s:ByteArray) (tab:Int→Int) (a:Nat) (at0:Int) (w:World) (h:Lex w b s tab at0) (ha:a≤s.size) (e1:¬(a+skipN ((cvt tab s.data.toList).drop a))=s.size) (e3:¬rawAt (cvt tab s.data.toList) (a+skipN ((cvt tab s.data.toList).drop a))=47) (hc:cls (rawAt (cvt tab s.data.toList) (a+skipN ((cvt tab s.data.toList).drop a)))=0) :
  Calls Tryz.prog 39 #[.pointer (some ⟨b,0,none⟩),.int .i64 a] w fun e w'=>GivesN (nextR (cvt tab s.data.toList) s.data.toList a) e∧Only b w w'∧∃q,Lex w' b s tab q:=by
 have H0:=NHeld.start h
 have hlt:=h.lt
 have hsz:=h.sz
 clear h
 have hlen:Hid ((cvt tab s.data.toList).length=s.size):=by show _=_;rw [cvt_len];simp
 have HRl:Hid (s.data.toList.length=s.size):=size_data s
 have hsk:=skipN_le ((cvt tab s.data.toList).drop a)
 rw [List.length_drop,hlen.out] at hsk
 generalize hM:cvt tab s.data.toList=M at *
 have HM:=zq hM
 clear hM
 generalize hS:skipN (M.drop a)=S at *
 have HS:=zq hS
 clear hS
 have b1:((a:Int)+S==(s.size:Int))=false:=by simp;omega
 have HKN:Hid (∀e,¬e=0→(tokR M s.data.toList (a+S)).err=e→Hid (nextR M s.data.toList a=⟨errR e,false,a+S⟩)):=fun e he h=>by
  show nextR M s.data.toList a=_
  unfold nextR;simp only [HS.out];rw [if_neg (by rw [HRl.out];exact e1),if_neg (by rw [h];exact he),h];simp
 have HKY:Hid ((tokR M s.data.toList (a+S)).err=0→Hid (nextR M s.data.toList a=⟨tokR M s.data.toList (a+S),decide (a<a+S),0⟩)):=fun h=>by
  show nextR M s.data.toList a=_
  unfold nextR;simp only [HS.out];rw [if_neg (by rw [HRl.out];exact e1),if_pos h]
 have hp:a+S<s.size:=by omega
 have he1:=zq e1
 clear e1
 have b2:(rawAt M (a+S)==47)=false:=by simp [e3]
 have HC:=zq hc
 have HT:=zq (show tokR M s.data.toList (a+S)=errR 7 by unfold tokR;rw [if_neg (fun h=>e3 h.1),hc];rfl)
 clear e3 hc
 go_enter Tryz.func39,Tryz.ntmps39
 go_wp2_with fail
 refine (lex_skip _ _ _ _ _ _ H0.lex (by omega)).mono ?_;rintro e w1 ⟨rfl,hB1⟩;rw [Int.toNat_natCast,HM.out,HS.out]
 have H1:=NHeld.call hB1 H0.lt H0
 have c1:=H1.lex.ca
 have f1:=H1.lex.fr 257
 have hl1:=H1.lex.lt
 have H2:=H1.setAt (a+S)
 clear hB1 H0 H1
 go_wp2_with fail
 generalize hw2:w1.setCell ⟨b,257,none⟩ (.int .i64 ((a:Int)+S))=w2 at *
 clear hw2 c1 f1 hl1
 have c2:=H2.lex.ca
 have d2:=H2.lex.c0
 go_quiet (fail)
 have H3:=NHeld.call (bl_drewN (Below.refl w2.heap.size w2) nq) H2.lt H2
 clear H2 c2 d2
 generalize hw3:w2.drewN nq=w3 at *
 clear hw3
 have c3:=H3.lex.ca
 obtain ⟨t6,v0,v1,v2,v3,v4,v5,t0,t1,t2,t3,t4,t5⟩:=H3.tok
 have hl3:=H3.lt
 have hb3:=H3.lex.lt
 have H4:=fun o=>NHeld.call ((Below.refl w3.heap.size w3).alloc (Nat.le_refl _) o) H3.lt H3
 go_wp2_with fail
 refine (lex_char _ _ _ _ _ _ (H4 _).lex (by omega)).mono ?_;rintro e w6 ⟨rfl,hB6⟩;rw [show ((a:Int)+S).toNat=a+S by omega,HM.out]
 have H6:=NHeld.call hB6 (H4 _).lt (H4 _)
 have c6:=H6.lex.ca
 have r6:=hB6
 go_wp2_with fail
 refine (lex_char _ _ _ _ _ _ H6.lex (by omega)).mono ?_;rintro e w7 ⟨rfl,hB7⟩;rw [show ((a:Int)+S).toNat=a+S by omega,HM.out]
 have H7:=NHeld.call hB7 H6.lt H6
 have r7:=r6.trans (hB7.mono r6.size)
 go_wp2_with fail
 refine (chars_class _ _).mono ?_;rintro e w8 ⟨rfl,hB8⟩;rw [HC.out]
 have H8:=NHeld.call hB8 H7.lt H7
 have r8:=r7.trans (hB8.mono r7.size)
 have fk:=(r8.cell (p:=⟨w3.heap.size,0,none⟩) (by simp)).trans (reader_cell0 w3)
 clear hB7 hB8 H7 r7 r6 H6 c6 H3 H4 c3 hb3 t0 t1 t2 t3 t4 t5 t6 r8
 go_wp2_with fail
 refine (lex_none b _).mono ?_;rintro e w9 ⟨he,hB9⟩
 have H9:=NHeld.call hB9 H8.lt H8
 rw [←HT.out] at he
 generalize hr:tokR M s.data.toList (a+S)=r at *
 have HR:=zq hr
 clear hr
 unfold Gives tokTup at he;subst he
 have c9:=H9.lex.ca
 have hl9:=H9.lt
 have hb9:=H9.lex.lt
 obtain ⟨u6,x0,x1,x2,x3,x4,x5,u0,u1,u2,u3,u4,u5⟩:=H9.tok
 clear H8 hB9 fk
 by_cases he0:r.err=0
 ·have z1:(r.err != 0)=false:=by simp [he0]
  have HK:=HKY.out he0
  have HE0:=zq he0
  clear he0
  go_wp2_with fail
  have hdec:Hid (decide ((a:Int)<(a:Int)+S)=decide (a<a+S)):=by show _=_;rw [decide_eq_decide];omega
  refine bodyPost_ret (v:=nxtTup ⟨r,decide ((a:Int)<(a:Int)+S),0⟩) ?_ rfl ⟨?_,only_sets_alloc H9.only (Nat.le_refl _) _ _ _ _ _ _ _,_,lex_sets_alloc H9.lex (by have:=H9.blt;omega) _ _ _ _ _ _ _⟩
  ·simp [nxtTup,results,Tryz.results39,go_sem,u0,u1,u2,u3,u4,u5,HE0.out,hl9]
  ·rw [HK.out,←hdec.out];rfl
 ·have z1:(r.err != 0)=true:=by simp [he0]
  have HK:=HKN.out r.err he0 rfl
  clear he0
  go_wp2_with fail
  go_region
  go_wp2_with fail
  refine bodyPost_ret (v:=nxtTup ⟨errR r.err,false,(a:Int)+S⟩) ?_ rfl ⟨?_,(only_sets_alloc H9.only (Nat.le_refl _) _ _ _ _ _ _ _).drew,_,(lex_sets_alloc H9.lex (by have:=H9.blt;omega) _ _ _ _ _ _ _).drewN 1⟩
  ·simp [nxtTup,errR,results,Tryz.results39,go_sem,u0,u1,u2,u3,u4,u5,hl9]
  ·rw [HK.out];rfl
set_option maxHeartbeats 800000 in
theorem lex_next_1 (b:Nat) (s:ByteArray) (tab:Int→Int) (a:Nat) (at0:Int) (w:World) (h:Lex w b s tab at0) (ha:a≤s.size) (e1:¬(a+skipN ((cvt tab s.data.toList).drop a))=s.size) (e3:¬rawAt (cvt tab s.data.toList) (a+skipN ((cvt tab s.data.toList).drop a))=47) (hc:cls (rawAt (cvt tab s.data.toList) (a+skipN ((cvt tab s.data.toList).drop a)))=1) :
  Calls Tryz.prog 39 #[.pointer (some ⟨b,0,none⟩),.int .i64 a] w fun e w'=>GivesN (nextR (cvt tab s.data.toList) s.data.toList a) e∧Only b w w'∧∃q,Lex w' b s tab q:=by
 have H0:=NHeld.start h
 have hlt:=h.lt
 have hsz:=h.sz
 clear h
 have hlen:Hid ((cvt tab s.data.toList).length=s.size):=by show _=_;rw [cvt_len];simp
 have HRl:Hid (s.data.toList.length=s.size):=size_data s
 have hsk:=skipN_le ((cvt tab s.data.toList).drop a)
 rw [List.length_drop,hlen.out] at hsk
 generalize hM:cvt tab s.data.toList=M at *
 have HM:=zq hM
 clear hM
 generalize hS:skipN (M.drop a)=S at *
 have HS:=zq hS
 clear hS
 have b1:((a:Int)+S==(s.size:Int))=false:=by simp;omega
 have HKN:Hid (∀e,¬e=0→(tokR M s.data.toList (a+S)).err=e→Hid (nextR M s.data.toList a=⟨errR e,false,a+S⟩)):=fun e he h=>by
  show nextR M s.data.toList a=_
  unfold nextR;simp only [HS.out];rw [if_neg (by rw [HRl.out];exact e1),if_neg (by rw [h];exact he),h];simp
 have HKY:Hid ((tokR M s.data.toList (a+S)).err=0→Hid (nextR M s.data.toList a=⟨tokR M s.data.toList (a+S),decide (a<a+S),0⟩)):=fun h=>by
  show nextR M s.data.toList a=_
  unfold nextR;simp only [HS.out];rw [if_neg (by rw [HRl.out];exact e1),if_pos h]
 have hp:a+S<s.size:=by omega
 have he1:=zq e1
 clear e1
 have b2:(rawAt M (a+S)==47)=false:=by simp [e3]
 have HC:=zq hc
 have HT:=zq (show tokR M s.data.toList (a+S)=errR 7 by unfold tokR;rw [if_neg (fun h=>e3 h.1),hc];rfl)
 clear e3 hc
 go_enter Tryz.func39,Tryz.ntmps39
 go_wp2_with fail
 refine (lex_skip _ _ _ _ _ _ H0.lex (by omega)).mono ?_;rintro e w1 ⟨rfl,hB1⟩;rw [Int.toNat_natCast,HM.out,HS.out]
 have H1:=NHeld.call hB1 H0.lt H0
 have c1:=H1.lex.ca
 have f1:=H1.lex.fr 257
 have hl1:=H1.lex.lt
 have H2:=H1.setAt (a+S)
 clear hB1 H0 H1
 go_wp2_with fail
 generalize hw2:w1.setCell ⟨b,257,none⟩ (.int .i64 ((a:Int)+S))=w2 at *
 clear hw2 c1 f1 hl1
 have c2:=H2.lex.ca
 have d2:=H2.lex.c0
 go_quiet (fail)
 have H3:=NHeld.call (bl_drewN (Below.refl w2.heap.size w2) nq) H2.lt H2
 clear H2 c2 d2
 generalize hw3:w2.drewN nq=w3 at *
 clear hw3
 have c3:=H3.lex.ca
 obtain ⟨t6,v0,v1,v2,v3,v4,v5,t0,t1,t2,t3,t4,t5⟩:=H3.tok
 have hl3:=H3.lt
 have hb3:=H3.lex.lt
 have H4:=fun o=>NHeld.call ((Below.refl w3.heap.size w3).alloc (Nat.le_refl _) o) H3.lt H3
 go_wp2_with fail
 refine (lex_char _ _ _ _ _ _ (H4 _).lex (by omega)).mono ?_;rintro e w6 ⟨rfl,hB6⟩;rw [show ((a:Int)+S).toNat=a+S by omega,HM.out]
 have H6:=NHeld.call hB6 (H4 _).lt (H4 _)
 have c6:=H6.lex.ca
 have r6:=hB6
 go_wp2_with fail
 refine (lex_char _ _ _ _ _ _ H6.lex (by omega)).mono ?_;rintro e w7 ⟨rfl,hB7⟩;rw [show ((a:Int)+S).toNat=a+S by omega,HM.out]
 have H7:=NHeld.call hB7 H6.lt H6
 have r7:=r6.trans (hB7.mono r6.size)
 go_wp2_with fail
 refine (chars_class _ _).mono ?_;rintro e w8 ⟨rfl,hB8⟩;rw [HC.out]
 have H8:=NHeld.call hB8 H7.lt H7
 have r8:=r7.trans (hB8.mono r7.size)
 have fk:=(r8.cell (p:=⟨w3.heap.size,1,none⟩) (by simp)).trans (reader_cell1 w3)
 clear hB7 hB8 H7 r7 r6 H6 c6 H3 H4 c3 hb3 t0 t1 t2 t3 t4 t5 t6 r8
 go_wp2_with fail
 refine (lex_none b _).mono ?_;rintro e w9 ⟨he,hB9⟩
 have H9:=NHeld.call hB9 H8.lt H8
 rw [←HT.out] at he
 generalize hr:tokR M s.data.toList (a+S)=r at *
 have HR:=zq hr
 clear hr
 unfold Gives tokTup at he;subst he
 have c9:=H9.lex.ca
 have hl9:=H9.lt
 have hb9:=H9.lex.lt
 obtain ⟨u6,x0,x1,x2,x3,x4,x5,u0,u1,u2,u3,u4,u5⟩:=H9.tok
 clear H8 hB9 fk
 by_cases he0:r.err=0
 ·have z1:(r.err != 0)=false:=by simp [he0]
  have HK:=HKY.out he0
  have HE0:=zq he0
  clear he0
  go_wp2_with fail
  have hdec:Hid (decide ((a:Int)<(a:Int)+S)=decide (a<a+S)):=by show _=_;rw [decide_eq_decide];omega
  refine bodyPost_ret (v:=nxtTup ⟨r,decide ((a:Int)<(a:Int)+S),0⟩) ?_ rfl ⟨?_,only_sets_alloc H9.only (Nat.le_refl _) _ _ _ _ _ _ _,_,lex_sets_alloc H9.lex (by have:=H9.blt;omega) _ _ _ _ _ _ _⟩
  ·simp [nxtTup,results,Tryz.results39,go_sem,u0,u1,u2,u3,u4,u5,HE0.out,hl9]
  ·rw [HK.out,←hdec.out];rfl
 ·have z1:(r.err != 0)=true:=by simp [he0]
  have HK:=HKN.out r.err he0 rfl
  clear he0
  go_wp2_with fail
  go_region
  go_wp2_with fail
  refine bodyPost_ret (v:=nxtTup ⟨errR r.err,false,(a:Int)+S⟩) ?_ rfl ⟨?_,(only_sets_alloc H9.only (Nat.le_refl _) _ _ _ _ _ _ _).drew,_,(lex_sets_alloc H9.lex (by have:=H9.blt;omega) _ _ _ _ _ _ _).drewN 1⟩
  ·simp [nxtTup,errR,results,Tryz.results39,go_sem,u0,u1,u2,u3,u4,u5,hl9]
  ·rw [HK.out];rfl
set_option maxHeartbeats 800000 in
theorem lex_next_8 (b:Nat) (s:ByteArray) (tab:Int→Int) (a:Nat) (at0:Int) (w:World) (h:Lex w b s tab at0) (ha:a≤s.size) (e1:¬(a+skipN ((cvt tab s.data.toList).drop a))=s.size) (e3:¬rawAt (cvt tab s.data.toList) (a+skipN ((cvt tab s.data.toList).drop a))=47) (hc:cls (rawAt (cvt tab s.data.toList) (a+skipN ((cvt tab s.data.toList).drop a)))=8) :
  Calls Tryz.prog 39 #[.pointer (some ⟨b,0,none⟩),.int .i64 a] w fun e w'=>GivesN (nextR (cvt tab s.data.toList) s.data.toList a) e∧Only b w w'∧∃q,Lex w' b s tab q:=by
 have H0:=NHeld.start h
 have hlt:=h.lt
 have hsz:=h.sz
 clear h
 have hlen:Hid ((cvt tab s.data.toList).length=s.size):=by show _=_;rw [cvt_len];simp
 have HRl:Hid (s.data.toList.length=s.size):=size_data s
 have hsk:=skipN_le ((cvt tab s.data.toList).drop a)
 rw [List.length_drop,hlen.out] at hsk
 generalize hM:cvt tab s.data.toList=M at *
 have HM:=zq hM
 clear hM
 generalize hS:skipN (M.drop a)=S at *
 have HS:=zq hS
 clear hS
 have b1:((a:Int)+S==(s.size:Int))=false:=by simp;omega
 have HKN:Hid (∀e,¬e=0→(tokR M s.data.toList (a+S)).err=e→Hid (nextR M s.data.toList a=⟨errR e,false,a+S⟩)):=fun e he h=>by
  show nextR M s.data.toList a=_
  unfold nextR;simp only [HS.out];rw [if_neg (by rw [HRl.out];exact e1),if_neg (by rw [h];exact he),h];simp
 have HKY:Hid ((tokR M s.data.toList (a+S)).err=0→Hid (nextR M s.data.toList a=⟨tokR M s.data.toList (a+S),decide (a<a+S),0⟩)):=fun h=>by
  show nextR M s.data.toList a=_
  unfold nextR;simp only [HS.out];rw [if_neg (by rw [HRl.out];exact e1),if_pos h]
 have hp:a+S<s.size:=by omega
 have he1:=zq e1
 clear e1
 have b2:(rawAt M (a+S)==47)=false:=by simp [e3]
 have HC:=zq hc
 have HT:=zq (show tokR M s.data.toList (a+S)=errR 7 by unfold tokR;rw [if_neg (fun h=>e3 h.1),hc];rfl)
 clear e3 hc
 go_enter Tryz.func39,Tryz.ntmps39
 go_wp2_with fail
 refine (lex_skip _ _ _ _ _ _ H0.lex (by omega)).mono ?_;rintro e w1 ⟨rfl,hB1⟩;rw [Int.toNat_natCast,HM.out,HS.out]
 have H1:=NHeld.call hB1 H0.lt H0
 have c1:=H1.lex.ca
 have f1:=H1.lex.fr 257
 have hl1:=H1.lex.lt
 have H2:=H1.setAt (a+S)
 clear hB1 H0 H1
 go_wp2_with fail
 generalize hw2:w1.setCell ⟨b,257,none⟩ (.int .i64 ((a:Int)+S))=w2 at *
 clear hw2 c1 f1 hl1
 have c2:=H2.lex.ca
 have d2:=H2.lex.c0
 go_quiet (fail)
 have H3:=NHeld.call (bl_drewN (Below.refl w2.heap.size w2) nq) H2.lt H2
 clear H2 c2 d2
 generalize hw3:w2.drewN nq=w3 at *
 clear hw3
 have c3:=H3.lex.ca
 obtain ⟨t6,v0,v1,v2,v3,v4,v5,t0,t1,t2,t3,t4,t5⟩:=H3.tok
 have hl3:=H3.lt
 have hb3:=H3.lex.lt
 have H4:=fun o=>NHeld.call ((Below.refl w3.heap.size w3).alloc (Nat.le_refl _) o) H3.lt H3
 go_wp2_with fail
 refine (lex_char _ _ _ _ _ _ (H4 _).lex (by omega)).mono ?_;rintro e w6 ⟨rfl,hB6⟩;rw [show ((a:Int)+S).toNat=a+S by omega,HM.out]
 have H6:=NHeld.call hB6 (H4 _).lt (H4 _)
 have c6:=H6.lex.ca
 have r6:=hB6
 go_wp2_with fail
 refine (lex_char _ _ _ _ _ _ H6.lex (by omega)).mono ?_;rintro e w7 ⟨rfl,hB7⟩;rw [show ((a:Int)+S).toNat=a+S by omega,HM.out]
 have H7:=NHeld.call hB7 H6.lt H6
 have r7:=r6.trans (hB7.mono r6.size)
 go_wp2_with fail
 refine (chars_class _ _).mono ?_;rintro e w8 ⟨rfl,hB8⟩;rw [HC.out]
 have H8:=NHeld.call hB8 H7.lt H7
 have r8:=r7.trans (hB8.mono r7.size)
 have fk:=(r8.cell (p:=⟨w3.heap.size,8,none⟩) (by simp)).trans (reader_cell8 w3)
 clear hB7 hB8 H7 r7 r6 H6 c6 H3 H4 c3 hb3 t0 t1 t2 t3 t4 t5 t6 r8
 go_wp2_with fail
 refine (lex_none b _).mono ?_;rintro e w9 ⟨he,hB9⟩
 have H9:=NHeld.call hB9 H8.lt H8
 rw [←HT.out] at he
 generalize hr:tokR M s.data.toList (a+S)=r at *
 have HR:=zq hr
 clear hr
 unfold Gives tokTup at he;subst he
 have c9:=H9.lex.ca
 have hl9:=H9.lt
 have hb9:=H9.lex.lt
 obtain ⟨u6,x0,x1,x2,x3,x4,x5,u0,u1,u2,u3,u4,u5⟩:=H9.tok
 clear H8 hB9 fk
 by_cases he0:r.err=0
 ·have z1:(r.err != 0)=false:=by simp [he0]
  have HK:=HKY.out he0
  have HE0:=zq he0
  clear he0
  go_wp2_with fail
  have hdec:Hid (decide ((a:Int)<(a:Int)+S)=decide (a<a+S)):=by show _=_;rw [decide_eq_decide];omega
  refine bodyPost_ret (v:=nxtTup ⟨r,decide ((a:Int)<(a:Int)+S),0⟩) ?_ rfl ⟨?_,only_sets_alloc H9.only (Nat.le_refl _) _ _ _ _ _ _ _,_,lex_sets_alloc H9.lex (by have:=H9.blt;omega) _ _ _ _ _ _ _⟩
  ·simp [nxtTup,results,Tryz.results39,go_sem,u0,u1,u2,u3,u4,u5,HE0.out,hl9]
  ·rw [HK.out,←hdec.out];rfl
 ·have z1:(r.err != 0)=true:=by simp [he0]
  have HK:=HKN.out r.err he0 rfl
  clear he0
  go_wp2_with fail
  go_region
  go_wp2_with fail
  refine bodyPost_ret (v:=nxtTup ⟨errR r.err,false,(a:Int)+S⟩) ?_ rfl ⟨?_,(only_sets_alloc H9.only (Nat.le_refl _) _ _ _ _ _ _ _).drew,_,(lex_sets_alloc H9.lex (by have:=H9.blt;omega) _ _ _ _ _ _ _).drewN 1⟩
  ·simp [nxtTup,errR,results,Tryz.results39,go_sem,u0,u1,u2,u3,u4,u5,hl9]
  ·rw [HK.out];rfl
set_option maxHeartbeats 800000 in
theorem lex_next_2 (b:Nat) (s:ByteArray) (tab:Int→Int) (a:Nat) (at0:Int) (w:World) (h:Lex w b s tab at0) (ha:a≤s.size) (e1:¬(a+skipN ((cvt tab s.data.toList).drop a))=s.size) (e3:¬rawAt (cvt tab s.data.toList) (a+skipN ((cvt tab s.data.toList).drop a))=47) (hc:cls (rawAt (cvt tab s.data.toList) (a+skipN ((cvt tab s.data.toList).drop a)))=2) :
  Calls Tryz.prog 39 #[.pointer (some ⟨b,0,none⟩),.int .i64 a] w fun e w'=>GivesN (nextR (cvt tab s.data.toList) s.data.toList a) e∧Only b w w'∧∃q,Lex w' b s tab q:=by
 have H0:=NHeld.start h
 have hlt:=h.lt
 have hsz:=h.sz
 clear h
 have hlen:Hid ((cvt tab s.data.toList).length=s.size):=by show _=_;rw [cvt_len];simp
 have HRl:Hid (s.data.toList.length=s.size):=size_data s
 have hsk:=skipN_le ((cvt tab s.data.toList).drop a)
 rw [List.length_drop,hlen.out] at hsk
 generalize hM:cvt tab s.data.toList=M at *
 have HM:=zq hM
 clear hM
 generalize hS:skipN (M.drop a)=S at *
 have HS:=zq hS
 clear hS
 have b1:((a:Int)+S==(s.size:Int))=false:=by simp;omega
 have HKN:Hid (∀e,¬e=0→(tokR M s.data.toList (a+S)).err=e→Hid (nextR M s.data.toList a=⟨errR e,false,a+S⟩)):=fun e he h=>by
  show nextR M s.data.toList a=_
  unfold nextR;simp only [HS.out];rw [if_neg (by rw [HRl.out];exact e1),if_neg (by rw [h];exact he),h];simp
 have HKY:Hid ((tokR M s.data.toList (a+S)).err=0→Hid (nextR M s.data.toList a=⟨tokR M s.data.toList (a+S),decide (a<a+S),0⟩)):=fun h=>by
  show nextR M s.data.toList a=_
  unfold nextR;simp only [HS.out];rw [if_neg (by rw [HRl.out];exact e1),if_pos h]
 have hp:a+S<s.size:=by omega
 have he1:=zq e1
 clear e1
 have b2:(rawAt M (a+S)==47)=false:=by simp [e3]
 have HC:=zq hc
 have HT:=zq (show tokR M s.data.toList (a+S)=wordR M (a+S) by unfold tokR;rw [if_neg (fun h=>e3 h.1),hc];rfl)
 clear e3 hc
 go_enter Tryz.func39,Tryz.ntmps39
 go_wp2_with fail
 refine (lex_skip _ _ _ _ _ _ H0.lex (by omega)).mono ?_;rintro e w1 ⟨rfl,hB1⟩;rw [Int.toNat_natCast,HM.out,HS.out]
 have H1:=NHeld.call hB1 H0.lt H0
 have c1:=H1.lex.ca
 have f1:=H1.lex.fr 257
 have hl1:=H1.lex.lt
 have H2:=H1.setAt (a+S)
 clear hB1 H0 H1
 go_wp2_with fail
 generalize hw2:w1.setCell ⟨b,257,none⟩ (.int .i64 ((a:Int)+S))=w2 at *
 clear hw2 c1 f1 hl1
 have c2:=H2.lex.ca
 have d2:=H2.lex.c0
 go_quiet (fail)
 have H3:=NHeld.call (bl_drewN (Below.refl w2.heap.size w2) nq) H2.lt H2
 clear H2 c2 d2
 generalize hw3:w2.drewN nq=w3 at *
 clear hw3
 have c3:=H3.lex.ca
 obtain ⟨t6,v0,v1,v2,v3,v4,v5,t0,t1,t2,t3,t4,t5⟩:=H3.tok
 have hl3:=H3.lt
 have hb3:=H3.lex.lt
 have H4:=fun o=>NHeld.call ((Below.refl w3.heap.size w3).alloc (Nat.le_refl _) o) H3.lt H3
 go_wp2_with fail
 refine (lex_char _ _ _ _ _ _ (H4 _).lex (by omega)).mono ?_;rintro e w6 ⟨rfl,hB6⟩;rw [show ((a:Int)+S).toNat=a+S by omega,HM.out]
 have H6:=NHeld.call hB6 (H4 _).lt (H4 _)
 have c6:=H6.lex.ca
 have r6:=hB6
 go_wp2_with fail
 refine (lex_char _ _ _ _ _ _ H6.lex (by omega)).mono ?_;rintro e w7 ⟨rfl,hB7⟩;rw [show ((a:Int)+S).toNat=a+S by omega,HM.out]
 have H7:=NHeld.call hB7 H6.lt H6
 have r7:=r6.trans (hB7.mono r6.size)
 go_wp2_with fail
 refine (chars_class _ _).mono ?_;rintro e w8 ⟨rfl,hB8⟩;rw [HC.out]
 have H8:=NHeld.call hB8 H7.lt H7
 have r8:=r7.trans (hB8.mono r7.size)
 have fk:=(r8.cell (p:=⟨w3.heap.size,2,none⟩) (by simp)).trans (reader_cell2 w3)
 clear hB7 hB8 H7 r7 r6 H6 c6 H3 H4 c3 hb3 t0 t1 t2 t3 t4 t5 t6 r8
 go_wp2_with fail
 refine (lex_word b s tab (a+S) _ H8.lex (by omega)).mono ?_;rintro e w9 ⟨he,hB9⟩
 have H9:=NHeld.call hB9 H8.lt H8
 rw [HM.out] at he
 rw [←HT.out] at he
 generalize hr:tokR M s.data.toList (a+S)=r at *
 have HR:=zq hr
 clear hr
 unfold Gives tokTup at he;subst he
 have c9:=H9.lex.ca
 have hl9:=H9.lt
 have hb9:=H9.lex.lt
 obtain ⟨u6,x0,x1,x2,x3,x4,x5,u0,u1,u2,u3,u4,u5⟩:=H9.tok
 clear H8 hB9 fk
 by_cases he0:r.err=0
 ·have z1:(r.err != 0)=false:=by simp [he0]
  have HK:=HKY.out he0
  have HE0:=zq he0
  clear he0
  go_wp2_with fail
  have hdec:Hid (decide ((a:Int)<(a:Int)+S)=decide (a<a+S)):=by show _=_;rw [decide_eq_decide];omega
  refine bodyPost_ret (v:=nxtTup ⟨r,decide ((a:Int)<(a:Int)+S),0⟩) ?_ rfl ⟨?_,only_sets_alloc H9.only (Nat.le_refl _) _ _ _ _ _ _ _,_,lex_sets_alloc H9.lex (by have:=H9.blt;omega) _ _ _ _ _ _ _⟩
  ·simp [nxtTup,results,Tryz.results39,go_sem,u0,u1,u2,u3,u4,u5,HE0.out,hl9]
  ·rw [HK.out,←hdec.out];rfl
 ·have z1:(r.err != 0)=true:=by simp [he0]
  have HK:=HKN.out r.err he0 rfl
  clear he0
  go_wp2_with fail
  go_region
  go_wp2_with fail
  refine bodyPost_ret (v:=nxtTup ⟨errR r.err,false,(a:Int)+S⟩) ?_ rfl ⟨?_,(only_sets_alloc H9.only (Nat.le_refl _) _ _ _ _ _ _ _).drew,_,(lex_sets_alloc H9.lex (by have:=H9.blt;omega) _ _ _ _ _ _ _).drewN 1⟩
  ·simp [nxtTup,errR,results,Tryz.results39,go_sem,u0,u1,u2,u3,u4,u5,hl9]
  ·rw [HK.out];rfl
set_option maxHeartbeats 800000 in
theorem lex_next_3 (b:Nat) (s:ByteArray) (tab:Int→Int) (a:Nat) (at0:Int) (w:World) (h:Lex w b s tab at0) (ha:a≤s.size) (e1:¬(a+skipN ((cvt tab s.data.toList).drop a))=s.size) (e3:¬rawAt (cvt tab s.data.toList) (a+skipN ((cvt tab s.data.toList).drop a))=47) (hc:cls (rawAt (cvt tab s.data.toList) (a+skipN ((cvt tab s.data.toList).drop a)))=3) :
  Calls Tryz.prog 39 #[.pointer (some ⟨b,0,none⟩),.int .i64 a] w fun e w'=>GivesN (nextR (cvt tab s.data.toList) s.data.toList a) e∧Only b w w'∧∃q,Lex w' b s tab q:=by
 have H0:=NHeld.start h
 have hlt:=h.lt
 have hsz:=h.sz
 clear h
 have hlen:Hid ((cvt tab s.data.toList).length=s.size):=by show _=_;rw [cvt_len];simp
 have HRl:Hid (s.data.toList.length=s.size):=size_data s
 have hsk:=skipN_le ((cvt tab s.data.toList).drop a)
 rw [List.length_drop,hlen.out] at hsk
 generalize hM:cvt tab s.data.toList=M at *
 have HM:=zq hM
 clear hM
 generalize hS:skipN (M.drop a)=S at *
 have HS:=zq hS
 clear hS
 have b1:((a:Int)+S==(s.size:Int))=false:=by simp;omega
 have HKN:Hid (∀e,¬e=0→(tokR M s.data.toList (a+S)).err=e→Hid (nextR M s.data.toList a=⟨errR e,false,a+S⟩)):=fun e he h=>by
  show nextR M s.data.toList a=_
  unfold nextR;simp only [HS.out];rw [if_neg (by rw [HRl.out];exact e1),if_neg (by rw [h];exact he),h];simp
 have HKY:Hid ((tokR M s.data.toList (a+S)).err=0→Hid (nextR M s.data.toList a=⟨tokR M s.data.toList (a+S),decide (a<a+S),0⟩)):=fun h=>by
  show nextR M s.data.toList a=_
  unfold nextR;simp only [HS.out];rw [if_neg (by rw [HRl.out];exact e1),if_pos h]
 have hp:a+S<s.size:=by omega
 have he1:=zq e1
 clear e1
 have b2:(rawAt M (a+S)==47)=false:=by simp [e3]
 have HC:=zq hc
 have HT:=zq (show tokR M s.data.toList (a+S)=wordR M (a+S) by unfold tokR;rw [if_neg (fun h=>e3 h.1),hc];rfl)
 clear e3 hc
 go_enter Tryz.func39,Tryz.ntmps39
 go_wp2_with fail
 refine (lex_skip _ _ _ _ _ _ H0.lex (by omega)).mono ?_;rintro e w1 ⟨rfl,hB1⟩;rw [Int.toNat_natCast,HM.out,HS.out]
 have H1:=NHeld.call hB1 H0.lt H0
 have c1:=H1.lex.ca
 have f1:=H1.lex.fr 257
 have hl1:=H1.lex.lt
 have H2:=H1.setAt (a+S)
 clear hB1 H0 H1
 go_wp2_with fail
 generalize hw2:w1.setCell ⟨b,257,none⟩ (.int .i64 ((a:Int)+S))=w2 at *
 clear hw2 c1 f1 hl1
 have c2:=H2.lex.ca
 have d2:=H2.lex.c0
 go_quiet (fail)
 have H3:=NHeld.call (bl_drewN (Below.refl w2.heap.size w2) nq) H2.lt H2
 clear H2 c2 d2
 generalize hw3:w2.drewN nq=w3 at *
 clear hw3
 have c3:=H3.lex.ca
 obtain ⟨t6,v0,v1,v2,v3,v4,v5,t0,t1,t2,t3,t4,t5⟩:=H3.tok
 have hl3:=H3.lt
 have hb3:=H3.lex.lt
 have H4:=fun o=>NHeld.call ((Below.refl w3.heap.size w3).alloc (Nat.le_refl _) o) H3.lt H3
 go_wp2_with fail
 refine (lex_char _ _ _ _ _ _ (H4 _).lex (by omega)).mono ?_;rintro e w6 ⟨rfl,hB6⟩;rw [show ((a:Int)+S).toNat=a+S by omega,HM.out]
 have H6:=NHeld.call hB6 (H4 _).lt (H4 _)
 have c6:=H6.lex.ca
 have r6:=hB6
 go_wp2_with fail
 refine (lex_char _ _ _ _ _ _ H6.lex (by omega)).mono ?_;rintro e w7 ⟨rfl,hB7⟩;rw [show ((a:Int)+S).toNat=a+S by omega,HM.out]
 have H7:=NHeld.call hB7 H6.lt H6
 have r7:=r6.trans (hB7.mono r6.size)
 go_wp2_with fail
 refine (chars_class _ _).mono ?_;rintro e w8 ⟨rfl,hB8⟩;rw [HC.out]
 have H8:=NHeld.call hB8 H7.lt H7
 have r8:=r7.trans (hB8.mono r7.size)
 have fk:=(r8.cell (p:=⟨w3.heap.size,3,none⟩) (by simp)).trans (reader_cell3 w3)
 clear hB7 hB8 H7 r7 r6 H6 c6 H3 H4 c3 hb3 t0 t1 t2 t3 t4 t5 t6 r8
 go_wp2_with fail
 refine (lex_word b s tab (a+S) _ H8.lex (by omega)).mono ?_;rintro e w9 ⟨he,hB9⟩
 have H9:=NHeld.call hB9 H8.lt H8
 rw [HM.out] at he
 rw [←HT.out] at he
 generalize hr:tokR M s.data.toList (a+S)=r at *
 have HR:=zq hr
 clear hr
 unfold Gives tokTup at he;subst he
 have c9:=H9.lex.ca
 have hl9:=H9.lt
 have hb9:=H9.lex.lt
 obtain ⟨u6,x0,x1,x2,x3,x4,x5,u0,u1,u2,u3,u4,u5⟩:=H9.tok
 clear H8 hB9 fk
 by_cases he0:r.err=0
 ·have z1:(r.err != 0)=false:=by simp [he0]
  have HK:=HKY.out he0
  have HE0:=zq he0
  clear he0
  go_wp2_with fail
  have hdec:Hid (decide ((a:Int)<(a:Int)+S)=decide (a<a+S)):=by show _=_;rw [decide_eq_decide];omega
  refine bodyPost_ret (v:=nxtTup ⟨r,decide ((a:Int)<(a:Int)+S),0⟩) ?_ rfl ⟨?_,only_sets_alloc H9.only (Nat.le_refl _) _ _ _ _ _ _ _,_,lex_sets_alloc H9.lex (by have:=H9.blt;omega) _ _ _ _ _ _ _⟩
  ·simp [nxtTup,results,Tryz.results39,go_sem,u0,u1,u2,u3,u4,u5,HE0.out,hl9]
  ·rw [HK.out,←hdec.out];rfl
 ·have z1:(r.err != 0)=true:=by simp [he0]
  have HK:=HKN.out r.err he0 rfl
  clear he0
  go_wp2_with fail
  go_region
  go_wp2_with fail
  refine bodyPost_ret (v:=nxtTup ⟨errR r.err,false,(a:Int)+S⟩) ?_ rfl ⟨?_,(only_sets_alloc H9.only (Nat.le_refl _) _ _ _ _ _ _ _).drew,_,(lex_sets_alloc H9.lex (by have:=H9.blt;omega) _ _ _ _ _ _ _).drewN 1⟩
  ·simp [nxtTup,errR,results,Tryz.results39,go_sem,u0,u1,u2,u3,u4,u5,hl9]
  ·rw [HK.out];rfl
set_option maxHeartbeats 800000 in
theorem lex_next_4 (b:Nat) (s:ByteArray) (tab:Int→Int) (a:Nat) (at0:Int) (w:World) (h:Lex w b s tab at0) (ha:a≤s.size) (e1:¬(a+skipN ((cvt tab s.data.toList).drop a))=s.size) (e3:¬rawAt (cvt tab s.data.toList) (a+skipN ((cvt tab s.data.toList).drop a))=47) (hc:cls (rawAt (cvt tab s.data.toList) (a+skipN ((cvt tab s.data.toList).drop a)))=4) :
  Calls Tryz.prog 39 #[.pointer (some ⟨b,0,none⟩),.int .i64 a] w fun e w'=>GivesN (nextR (cvt tab s.data.toList) s.data.toList a) e∧Only b w w'∧∃q,Lex w' b s tab q:=by
 have H0:=NHeld.start h
 have hlt:=h.lt
 have hsz:=h.sz
 clear h
 have hlen:Hid ((cvt tab s.data.toList).length=s.size):=by show _=_;rw [cvt_len];simp
 have HRl:Hid (s.data.toList.length=s.size):=size_data s
 have hsk:=skipN_le ((cvt tab s.data.toList).drop a)
 rw [List.length_drop,hlen.out] at hsk
 generalize hM:cvt tab s.data.toList=M at *
 have HM:=zq hM
 clear hM
 generalize hS:skipN (M.drop a)=S at *
 have HS:=zq hS
 clear hS
 have b1:((a:Int)+S==(s.size:Int))=false:=by simp;omega
 have HKN:Hid (∀e,¬e=0→(tokR M s.data.toList (a+S)).err=e→Hid (nextR M s.data.toList a=⟨errR e,false,a+S⟩)):=fun e he h=>by
  show nextR M s.data.toList a=_
  unfold nextR;simp only [HS.out];rw [if_neg (by rw [HRl.out];exact e1),if_neg (by rw [h];exact he),h];simp
 have HKY:Hid ((tokR M s.data.toList (a+S)).err=0→Hid (nextR M s.data.toList a=⟨tokR M s.data.toList (a+S),decide (a<a+S),0⟩)):=fun h=>by
  show nextR M s.data.toList a=_
  unfold nextR;simp only [HS.out];rw [if_neg (by rw [HRl.out];exact e1),if_pos h]
 have hp:a+S<s.size:=by omega
 have he1:=zq e1
 clear e1
 have b2:(rawAt M (a+S)==47)=false:=by simp [e3]
 have HC:=zq hc
 have HT:=zq (show tokR M s.data.toList (a+S)=numR M s.data.toList (a+S) by unfold tokR;rw [if_neg (fun h=>e3 h.1),hc];rfl)
 clear e3 hc
 go_enter Tryz.func39,Tryz.ntmps39
 go_wp2_with fail
 refine (lex_skip _ _ _ _ _ _ H0.lex (by omega)).mono ?_;rintro e w1 ⟨rfl,hB1⟩;rw [Int.toNat_natCast,HM.out,HS.out]
 have H1:=NHeld.call hB1 H0.lt H0
 have c1:=H1.lex.ca
 have f1:=H1.lex.fr 257
 have hl1:=H1.lex.lt
 have H2:=H1.setAt (a+S)
 clear hB1 H0 H1
 go_wp2_with fail
 generalize hw2:w1.setCell ⟨b,257,none⟩ (.int .i64 ((a:Int)+S))=w2 at *
 clear hw2 c1 f1 hl1
 have c2:=H2.lex.ca
 have d2:=H2.lex.c0
 go_quiet (fail)
 have H3:=NHeld.call (bl_drewN (Below.refl w2.heap.size w2) nq) H2.lt H2
 clear H2 c2 d2
 generalize hw3:w2.drewN nq=w3 at *
 clear hw3
 have c3:=H3.lex.ca
 obtain ⟨t6,v0,v1,v2,v3,v4,v5,t0,t1,t2,t3,t4,t5⟩:=H3.tok
 have hl3:=H3.lt
 have hb3:=H3.lex.lt
 have H4:=fun o=>NHeld.call ((Below.refl w3.heap.size w3).alloc (Nat.le_refl _) o) H3.lt H3
 go_wp2_with fail
 refine (lex_char _ _ _ _ _ _ (H4 _).lex (by omega)).mono ?_;rintro e w6 ⟨rfl,hB6⟩;rw [show ((a:Int)+S).toNat=a+S by omega,HM.out]
 have H6:=NHeld.call hB6 (H4 _).lt (H4 _)
 have c6:=H6.lex.ca
 have r6:=hB6
 go_wp2_with fail
 refine (lex_char _ _ _ _ _ _ H6.lex (by omega)).mono ?_;rintro e w7 ⟨rfl,hB7⟩;rw [show ((a:Int)+S).toNat=a+S by omega,HM.out]
 have H7:=NHeld.call hB7 H6.lt H6
 have r7:=r6.trans (hB7.mono r6.size)
 go_wp2_with fail
 refine (chars_class _ _).mono ?_;rintro e w8 ⟨rfl,hB8⟩;rw [HC.out]
 have H8:=NHeld.call hB8 H7.lt H7
 have r8:=r7.trans (hB8.mono r7.size)
 have fk:=(r8.cell (p:=⟨w3.heap.size,4,none⟩) (by simp)).trans (reader_cell4 w3)
 clear hB7 hB8 H7 r7 r6 H6 c6 H3 H4 c3 hb3 t0 t1 t2 t3 t4 t5 t6 r8
 go_wp2_with fail
 refine (lex_number b s tab (a+S) _ H8.lex hp (by rw [HM.out];exact cls_dig _ HC.out)).mono ?_;rintro e w9 ⟨he,hB9⟩
 have H9:=NHeld.call hB9 H8.lt H8
 rw [HM.out] at he
 rw [←HT.out] at he
 generalize hr:tokR M s.data.toList (a+S)=r at *
 have HR:=zq hr
 clear hr
 unfold Gives tokTup at he;subst he
 have c9:=H9.lex.ca
 have hl9:=H9.lt
 have hb9:=H9.lex.lt
 obtain ⟨u6,x0,x1,x2,x3,x4,x5,u0,u1,u2,u3,u4,u5⟩:=H9.tok
 clear H8 hB9 fk
 by_cases he0:r.err=0
 ·have z1:(r.err != 0)=false:=by simp [he0]
  have HK:=HKY.out he0
  have HE0:=zq he0
  clear he0
  go_wp2_with fail
  have hdec:Hid (decide ((a:Int)<(a:Int)+S)=decide (a<a+S)):=by show _=_;rw [decide_eq_decide];omega
  refine bodyPost_ret (v:=nxtTup ⟨r,decide ((a:Int)<(a:Int)+S),0⟩) ?_ rfl ⟨?_,only_sets_alloc H9.only (Nat.le_refl _) _ _ _ _ _ _ _,_,lex_sets_alloc H9.lex (by have:=H9.blt;omega) _ _ _ _ _ _ _⟩
  ·simp [nxtTup,results,Tryz.results39,go_sem,u0,u1,u2,u3,u4,u5,HE0.out,hl9]
  ·rw [HK.out,←hdec.out];rfl
 ·have z1:(r.err != 0)=true:=by simp [he0]
  have HK:=HKN.out r.err he0 rfl
  clear he0
  go_wp2_with fail
  go_region
  go_wp2_with fail
  refine bodyPost_ret (v:=nxtTup ⟨errR r.err,false,(a:Int)+S⟩) ?_ rfl ⟨?_,(only_sets_alloc H9.only (Nat.le_refl _) _ _ _ _ _ _ _).drew,_,(lex_sets_alloc H9.lex (by have:=H9.blt;omega) _ _ _ _ _ _ _).drewN 1⟩
  ·simp [nxtTup,errR,results,Tryz.results39,go_sem,u0,u1,u2,u3,u4,u5,hl9]
  ·rw [HK.out];rfl
set_option maxHeartbeats 800000 in
theorem lex_next_5 (b:Nat) (s:ByteArray) (tab:Int→Int) (a:Nat) (at0:Int) (w:World) (h:Lex w b s tab at0) (ha:a≤s.size) (e1:¬(a+skipN ((cvt tab s.data.toList).drop a))=s.size) (e3:¬rawAt (cvt tab s.data.toList) (a+skipN ((cvt tab s.data.toList).drop a))=47) (hc:cls (rawAt (cvt tab s.data.toList) (a+skipN ((cvt tab s.data.toList).drop a)))=5) :
  Calls Tryz.prog 39 #[.pointer (some ⟨b,0,none⟩),.int .i64 a] w fun e w'=>GivesN (nextR (cvt tab s.data.toList) s.data.toList a) e∧Only b w w'∧∃q,Lex w' b s tab q:=by
 have H0:=NHeld.start h
 have hlt:=h.lt
 have hsz:=h.sz
 clear h
 have hlen:Hid ((cvt tab s.data.toList).length=s.size):=by show _=_;rw [cvt_len];simp
 have HRl:Hid (s.data.toList.length=s.size):=size_data s
 have hsk:=skipN_le ((cvt tab s.data.toList).drop a)
 rw [List.length_drop,hlen.out] at hsk
 generalize hM:cvt tab s.data.toList=M at *
 have HM:=zq hM
 clear hM
 generalize hS:skipN (M.drop a)=S at *
 have HS:=zq hS
 clear hS
 have b1:((a:Int)+S==(s.size:Int))=false:=by simp;omega
 have HKN:Hid (∀e,¬e=0→(tokR M s.data.toList (a+S)).err=e→Hid (nextR M s.data.toList a=⟨errR e,false,a+S⟩)):=fun e he h=>by
  show nextR M s.data.toList a=_
  unfold nextR;simp only [HS.out];rw [if_neg (by rw [HRl.out];exact e1),if_neg (by rw [h];exact he),h];simp
 have HKY:Hid ((tokR M s.data.toList (a+S)).err=0→Hid (nextR M s.data.toList a=⟨tokR M s.data.toList (a+S),decide (a<a+S),0⟩)):=fun h=>by
  show nextR M s.data.toList a=_
  unfold nextR;simp only [HS.out];rw [if_neg (by rw [HRl.out];exact e1),if_pos h]
 have hp:a+S<s.size:=by omega
 have he1:=zq e1
 clear e1
 have b2:(rawAt M (a+S)==47)=false:=by simp [e3]
 have HC:=zq hc
 have HT:=zq (show tokR M s.data.toList (a+S)=symR M (a+S) by unfold tokR;rw [if_neg (fun h=>e3 h.1),hc];rfl)
 clear e3 hc
 go_enter Tryz.func39,Tryz.ntmps39
 go_wp2_with fail
 refine (lex_skip _ _ _ _ _ _ H0.lex (by omega)).mono ?_;rintro e w1 ⟨rfl,hB1⟩;rw [Int.toNat_natCast,HM.out,HS.out]
 have H1:=NHeld.call hB1 H0.lt H0
 have c1:=H1.lex.ca
 have f1:=H1.lex.fr 257
 have hl1:=H1.lex.lt
 have H2:=H1.setAt (a+S)
 clear hB1 H0 H1
 go_wp2_with fail
 generalize hw2:w1.setCell ⟨b,257,none⟩ (.int .i64 ((a:Int)+S))=w2 at *
 clear hw2 c1 f1 hl1
 have c2:=H2.lex.ca
 have d2:=H2.lex.c0
 go_quiet (fail)
 have H3:=NHeld.call (bl_drewN (Below.refl w2.heap.size w2) nq) H2.lt H2
 clear H2 c2 d2
 generalize hw3:w2.drewN nq=w3 at *
 clear hw3
 have c3:=H3.lex.ca
 obtain ⟨t6,v0,v1,v2,v3,v4,v5,t0,t1,t2,t3,t4,t5⟩:=H3.tok
 have hl3:=H3.lt
 have hb3:=H3.lex.lt
 have H4:=fun o=>NHeld.call ((Below.refl w3.heap.size w3).alloc (Nat.le_refl _) o) H3.lt H3
 go_wp2_with fail
 refine (lex_char _ _ _ _ _ _ (H4 _).lex (by omega)).mono ?_;rintro e w6 ⟨rfl,hB6⟩;rw [show ((a:Int)+S).toNat=a+S by omega,HM.out]
 have H6:=NHeld.call hB6 (H4 _).lt (H4 _)
 have c6:=H6.lex.ca
 have r6:=hB6
 go_wp2_with fail
 refine (lex_char _ _ _ _ _ _ H6.lex (by omega)).mono ?_;rintro e w7 ⟨rfl,hB7⟩;rw [show ((a:Int)+S).toNat=a+S by omega,HM.out]
 have H7:=NHeld.call hB7 H6.lt H6
 have r7:=r6.trans (hB7.mono r6.size)
 go_wp2_with fail
 refine (chars_class _ _).mono ?_;rintro e w8 ⟨rfl,hB8⟩;rw [HC.out]
 have H8:=NHeld.call hB8 H7.lt H7
 have r8:=r7.trans (hB8.mono r7.size)
 have fk:=(r8.cell (p:=⟨w3.heap.size,5,none⟩) (by simp)).trans (reader_cell5 w3)
 clear hB7 hB8 H7 r7 r6 H6 c6 H3 H4 c3 hb3 t0 t1 t2 t3 t4 t5 t6 r8
 go_wp2_with fail
 refine (lex_symbol b s tab (a+S) _ H8.lex (by omega)).mono ?_;rintro e w9 ⟨he,hB9⟩
 have H9:=NHeld.call hB9 H8.lt H8
 rw [HM.out] at he
 rw [←HT.out] at he
 generalize hr:tokR M s.data.toList (a+S)=r at *
 have HR:=zq hr
 clear hr
 unfold Gives tokTup at he;subst he
 have c9:=H9.lex.ca
 have hl9:=H9.lt
 have hb9:=H9.lex.lt
 obtain ⟨u6,x0,x1,x2,x3,x4,x5,u0,u1,u2,u3,u4,u5⟩:=H9.tok
 clear H8 hB9 fk
 by_cases he0:r.err=0
 ·have z1:(r.err != 0)=false:=by simp [he0]
  have HK:=HKY.out he0
  have HE0:=zq he0
  clear he0
  go_wp2_with fail
  have hdec:Hid (decide ((a:Int)<(a:Int)+S)=decide (a<a+S)):=by show _=_;rw [decide_eq_decide];omega
  refine bodyPost_ret (v:=nxtTup ⟨r,decide ((a:Int)<(a:Int)+S),0⟩) ?_ rfl ⟨?_,only_sets_alloc H9.only (Nat.le_refl _) _ _ _ _ _ _ _,_,lex_sets_alloc H9.lex (by have:=H9.blt;omega) _ _ _ _ _ _ _⟩
  ·simp [nxtTup,results,Tryz.results39,go_sem,u0,u1,u2,u3,u4,u5,HE0.out,hl9]
  ·rw [HK.out,←hdec.out];rfl
 ·have z1:(r.err != 0)=true:=by simp [he0]
  have HK:=HKN.out r.err he0 rfl
  clear he0
  go_wp2_with fail
  go_region
  go_wp2_with fail
  refine bodyPost_ret (v:=nxtTup ⟨errR r.err,false,(a:Int)+S⟩) ?_ rfl ⟨?_,(only_sets_alloc H9.only (Nat.le_refl _) _ _ _ _ _ _ _).drew,_,(lex_sets_alloc H9.lex (by have:=H9.blt;omega) _ _ _ _ _ _ _).drewN 1⟩
  ·simp [nxtTup,errR,results,Tryz.results39,go_sem,u0,u1,u2,u3,u4,u5,hl9]
  ·rw [HK.out];rfl
end Go.Proofs.YtbojljpldcijgaaGreatDoor
