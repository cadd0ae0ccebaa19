/- Parts of the proof. -/
import Derived.Test.YtbojljpldcijgaaGreatDoorH05
import Derived.Test.YtbojljpldcijgaaGreatDoorH03
import Derived.RegionTactic
import Derived.BigRegion
import Derived.Test.YtbojljpldcijgaaGreatDoorH01
import Derived.Test.YtbojljpldcijgaaGreatDoorH02
import Derived.Test.YtbojljpldcijgaaGreatDoorProg
import Derived.Deep.RegionWith
import Derived.Laws.EntriesVeiled
import Derived.Deep.CutBlock
import Derived.Lib.ItoaNum
namespace Go.Proofs.YtbojljpldcijgaaGreatDoor
open Go.RowKit Hb
set_option maxRecDepth 100000
set_option maxHeartbeats 800000 in
theorem lex_next_6 (b:Nat) (s:ByteArray) (tab:Int→Int) (a:Nat) (at0:Int) (w:World) (h:Lex w b s tab at0) (ha:a≤s.size) (e1:¬(a+skipN ((cvt tab s.data.toList).drop a))=s.size) (e3:¬rawAt (cvt tab s.data.toList) (a+skipN ((cvt tab s.data.toList).drop a))=47) (hc:cls (rawAt (cvt tab s.data.toList) (a+skipN ((cvt tab s.data.toList).drop a)))=6) :
  Calls Tryz.prog 39 #[.pointer (some ⟨b,0,none⟩),.int .i64 a] w fun e w'=>GivesN (nextR (cvt tab s.data.toList) s.data.toList a) e∧Only b w w'∧∃q,Lex w' b s tab q:=by
 have H0:=NHeld.start h
 have hlt:=h.lt
 have hsz:=h.sz
 clear h
 have hlen:Hid ((cvt tab s.data.toList).length=s.size):=by show _=_;rw [cvt_len];simp
 have HRl:Hid (s.data.toList.length=s.size):=size_data s
 have hsk:=skipN_le ((cvt tab s.data.toList).drop a)
 rw [List.length_drop,hlen.out] at hsk
 generalize hM:cvt tab s.data.toList=M at *
 have HM:=zq hM
 clear hM
 generalize hS:skipN (M.drop a)=S at *
 have HS:=zq hS
 clear hS
 have b1:((a:Int)+S==(s.size:Int))=false:=by simp;omega
 have HKN:Hid (∀e,¬e=0→(tokR M s.data.toList (a+S)).err=e→Hid (nextR M s.data.toList a=⟨errR e,false,a+S⟩)):=fun e he h=>by
  show nextR M s.data.toList a=_
  unfold nextR;simp only [HS.out];rw [if_neg (by rw [HRl.out];exact e1),if_neg (by rw [h];exact he),h];simp
 have HKY:Hid ((tokR M s.data.toList (a+S)).err=0→Hid (nextR M s.data.toList a=⟨tokR M s.data.toList (a+S),decide (a<a+S),0⟩)):=fun h=>by
  show nextR M s.data.toList a=_
  unfold nextR;simp only [HS.out];rw [if_neg (by rw [HRl.out];exact e1),if_pos h]
 have hp:a+S<s.size:=by omega
 have he1:=zq e1
 clear e1
 have b2:(rawAt M (a+S)==47)=false:=by simp [e3]
 have HC:=zq hc
 have HT:=zq (show tokR M s.data.toList (a+S)=soloR M (a+S) by unfold tokR;rw [if_neg (fun h=>e3 h.1),hc];rfl)
 clear e3 hc
 go_enter Tryz.func39,Tryz.ntmps39
 go_wp2_with fail
 refine (lex_skip _ _ _ _ _ _ H0.lex (by omega)).mono ?_;rintro e w1 ⟨rfl,hB1⟩;rw [Int.toNat_natCast,HM.out,HS.out]
 have H1:=NHeld.call hB1 H0.lt H0
 have c1:=H1.lex.ca
 have f1:=H1.lex.fr 257
 have hl1:=H1.lex.lt
 have H2:=H1.setAt (a+S)
 clear hB1 H0 H1
 go_wp2_with fail
 generalize hw2:w1.setCell ⟨b,257,none⟩ (.int .i64 ((a:Int)+S))=w2 at *
 clear hw2 c1 f1 hl1
 have c2:=H2.lex.ca
 have d2:=H2.lex.c0
 go_quiet (fail)
 have H3:=NHeld.call (bl_drewN (Below.refl w2.heap.size w2) nq) H2.lt H2
 clear H2 c2 d2
 generalize hw3:w2.drewN nq=w3 at *
 clear hw3
 have c3:=H3.lex.ca
 obtain ⟨t6,v0,v1,v2,v3,v4,v5,t0,t1,t2,t3,t4,t5⟩:=H3.tok
 have hl3:=H3.lt
 have hb3:=H3.lex.lt
 have H4:=fun o=>NHeld.call ((Below.refl w3.heap.size w3).alloc (Nat.le_refl _) o) H3.lt H3
 go_wp2_with fail
 refine (lex_char _ _ _ _ _ _ (H4 _).lex (by omega)).mono ?_;rintro e w6 ⟨rfl,hB6⟩;rw [show ((a:Int)+S).toNat=a+S by omega,HM.out]
 have H6:=NHeld.call hB6 (H4 _).lt (H4 _)
 have c6:=H6.lex.ca
 have r6:=hB6
 go_wp2_with fail
 refine (lex_char _ _ _ _ _ _ H6.lex (by omega)).mono ?_;rintro e w7 ⟨rfl,hB7⟩;rw [show ((a:Int)+S).toNat=a+S by omega,HM.out]
 have H7:=NHeld.call hB7 H6.lt H6
 have r7:=r6.trans (hB7.mono r6.size)
 go_wp2_with fail
 refine (chars_class _ _).mono ?_;rintro e w8 ⟨rfl,hB8⟩;rw [HC.out]
 have H8:=NHeld.call hB8 H7.lt H7
 have r8:=r7.trans (hB8.mono r7.size)
 have fk:=(r8.cell (p:=⟨w3.heap.size,6,none⟩) (by simp)).trans (reader_cell6 w3)
 clear hB7 hB8 H7 r7 r6 H6 c6 H3 H4 c3 hb3 t0 t1 t2 t3 t4 t5 t6 r8
 go_wp2_with fail
 refine (lex_solo b s tab (a+S) _ H8.lex hp).mono ?_;rintro e w9 ⟨he,hB9⟩
 have H9:=NHeld.call hB9 H8.lt H8
 rw [HM.out] at he
 rw [←HT.out] at he
 generalize hr:tokR M s.data.toList (a+S)=r at *
 have HR:=zq hr
 clear hr
 unfold Gives tokTup at he;subst he
 have c9:=H9.lex.ca
 have hl9:=H9.lt
 have hb9:=H9.lex.lt
 obtain ⟨u6,x0,x1,x2,x3,x4,x5,u0,u1,u2,u3,u4,u5⟩:=H9.tok
 clear H8 hB9 fk
 by_cases he0:r.err=0
 ·have z1:(r.err != 0)=false:=by simp [he0]
  have HK:=HKY.out he0
  have HE0:=zq he0
  clear he0
  go_wp2_with fail
  have hdec:Hid (decide ((a:Int)<(a:Int)+S)=decide (a<a+S)):=by show _=_;rw [decide_eq_decide];omega
  refine bodyPost_ret (v:=nxtTup ⟨r,decide ((a:Int)<(a:Int)+S),0⟩) ?_ rfl ⟨?_,only_sets_alloc H9.only (Nat.le_refl _) _ _ _ _ _ _ _,_,lex_sets_alloc H9.lex (by have:=H9.blt;omega) _ _ _ _ _ _ _⟩
  ·simp [nxtTup,results,Tryz.results39,go_sem,u0,u1,u2,u3,u4,u5,HE0.out,hl9]
  ·rw [HK.out,←hdec.out];rfl
 ·have z1:(r.err != 0)=true:=by simp [he0]
  have HK:=HKN.out r.err he0 rfl
  clear he0
  go_wp2_with fail
  go_region
  go_wp2_with fail
  refine bodyPost_ret (v:=nxtTup ⟨errR r.err,false,(a:Int)+S⟩) ?_ rfl ⟨?_,(only_sets_alloc H9.only (Nat.le_refl _) _ _ _ _ _ _ _).drew,_,(lex_sets_alloc H9.lex (by have:=H9.blt;omega) _ _ _ _ _ _ _).drewN 1⟩
  ·simp [nxtTup,errR,results,Tryz.results39,go_sem,u0,u1,u2,u3,u4,u5,hl9]
  ·rw [HK.out];rfl
set_option maxHeartbeats 800000 in
theorem lex_next_7 (b:Nat) (s:ByteArray) (tab:Int→Int) (a:Nat) (at0:Int) (w:World) (h:Lex w b s tab at0) (ha:a≤s.size) (e1:¬(a+skipN ((cvt tab s.data.toList).drop a))=s.size) (e3:¬rawAt (cvt tab s.data.toList) (a+skipN ((cvt tab s.data.toList).drop a))=47) (hc:cls (rawAt (cvt tab s.data.toList) (a+skipN ((cvt tab s.data.toList).drop a)))=7) :
  Calls Tryz.prog 39 #[.pointer (some ⟨b,0,none⟩),.int .i64 a] w fun e w'=>GivesN (nextR (cvt tab s.data.toList) s.data.toList a) e∧Only b w w'∧∃q,Lex w' b s tab q:=by
 have H0:=NHeld.start h
 have hlt:=h.lt
 have hsz:=h.sz
 clear h
 have hlen:Hid ((cvt tab s.data.toList).length=s.size):=by show _=_;rw [cvt_len];simp
 have HRl:Hid (s.data.toList.length=s.size):=size_data s
 have hsk:=skipN_le ((cvt tab s.data.toList).drop a)
 rw [List.length_drop,hlen.out] at hsk
 generalize hM:cvt tab s.data.toList=M at *
 have HM:=zq hM
 clear hM
 generalize hS:skipN (M.drop a)=S at *
 have HS:=zq hS
 clear hS
 have b1:((a:Int)+S==(s.size:Int))=false:=by simp;omega
 have HKN:Hid (∀e,¬e=0→(tokR M s.data.toList (a+S)).err=e→Hid (nextR M s.data.toList a=⟨errR e,false,a+S⟩)):=fun e he h=>by
  show nextR M s.data.toList a=_
  unfold nextR;simp only [HS.out];rw [if_neg (by rw [HRl.out];exact e1),if_neg (by rw [h];exact he),h];simp
 have HKY:Hid ((tokR M s.data.toList (a+S)).err=0→Hid (nextR M s.data.toList a=⟨tokR M s.data.toList (a+S),decide (a<a+S),0⟩)):=fun h=>by
  show nextR M s.data.toList a=_
  unfold nextR;simp only [HS.out];rw [if_neg (by rw [HRl.out];exact e1),if_pos h]
 have hp:a+S<s.size:=by omega
 have he1:=zq e1
 clear e1
 have b2:(rawAt M (a+S)==47)=false:=by simp [e3]
 have HC:=zq hc
 have HT:=zq (show tokR M s.data.toList (a+S)=quoteR M s.data.toList (a+S) by unfold tokR;rw [if_neg (fun h=>e3 h.1),hc];rfl)
 clear e3 hc
 go_enter Tryz.func39,Tryz.ntmps39
 go_wp2_with fail
 refine (lex_skip _ _ _ _ _ _ H0.lex (by omega)).mono ?_;rintro e w1 ⟨rfl,hB1⟩;rw [Int.toNat_natCast,HM.out,HS.out]
 have H1:=NHeld.call hB1 H0.lt H0
 have c1:=H1.lex.ca
 have f1:=H1.lex.fr 257
 have hl1:=H1.lex.lt
 have H2:=H1.setAt (a+S)
 clear hB1 H0 H1
 go_wp2_with fail
 generalize hw2:w1.setCell ⟨b,257,none⟩ (.int .i64 ((a:Int)+S))=w2 at *
 clear hw2 c1 f1 hl1
 have c2:=H2.lex.ca
 have d2:=H2.lex.c0
 go_quiet (fail)
 have H3:=NHeld.call (bl_drewN (Below.refl w2.heap.size w2) nq) H2.lt H2
 clear H2 c2 d2
 generalize hw3:w2.drewN nq=w3 at *
 clear hw3
 have c3:=H3.lex.ca
 obtain ⟨t6,v0,v1,v2,v3,v4,v5,t0,t1,t2,t3,t4,t5⟩:=H3.tok
 have hl3:=H3.lt
 have hb3:=H3.lex.lt
 have H4:=fun o=>NHeld.call ((Below.refl w3.heap.size w3).alloc (Nat.le_refl _) o) H3.lt H3
 go_wp2_with fail
 refine (lex_char _ _ _ _ _ _ (H4 _).lex (by omega)).mono ?_;rintro e w6 ⟨rfl,hB6⟩;rw [show ((a:Int)+S).toNat=a+S by omega,HM.out]
 have H6:=NHeld.call hB6 (H4 _).lt (H4 _)
 have c6:=H6.lex.ca
 have r6:=hB6
 go_wp2_with fail
 refine (lex_char _ _ _ _ _ _ H6.lex (by omega)).mono ?_;rintro e w7 ⟨rfl,hB7⟩;rw [show ((a:Int)+S).toNat=a+S by omega,HM.out]
 have H7:=NHeld.call hB7 H6.lt H6
 have r7:=r6.trans (hB7.mono r6.size)
 go_wp2_with fail
 refine (chars_class _ _).mono ?_;rintro e w8 ⟨rfl,hB8⟩;rw [HC.out]
 have H8:=NHeld.call hB8 H7.lt H7
 have r8:=r7.trans (hB8.mono r7.size)
 have fk:=(r8.cell (p:=⟨w3.heap.size,7,none⟩) (by simp)).trans (reader_cell7 w3)
 clear hB7 hB8 H7 r7 r6 H6 c6 H3 H4 c3 hb3 t0 t1 t2 t3 t4 t5 t6 r8
 go_wp2_with fail
 refine (lex_quote b s tab (a+S) _ H8.lex hp).mono ?_;rintro e w9 ⟨he,hB9⟩
 have H9:=NHeld.call hB9 H8.lt H8
 rw [HM.out] at he
 rw [←HT.out] at he
 generalize hr:tokR M s.data.toList (a+S)=r at *
 have HR:=zq hr
 clear hr
 unfold Gives tokTup at he;subst he
 have c9:=H9.lex.ca
 have hl9:=H9.lt
 have hb9:=H9.lex.lt
 obtain ⟨u6,x0,x1,x2,x3,x4,x5,u0,u1,u2,u3,u4,u5⟩:=H9.tok
 clear H8 hB9 fk
 by_cases he0:r.err=0
 ·have z1:(r.err != 0)=false:=by simp [he0]
  have HK:=HKY.out he0
  have HE0:=zq he0
  clear he0
  go_wp2_with fail
  have hdec:Hid (decide ((a:Int)<(a:Int)+S)=decide (a<a+S)):=by show _=_;rw [decide_eq_decide];omega
  refine bodyPost_ret (v:=nxtTup ⟨r,decide ((a:Int)<(a:Int)+S),0⟩) ?_ rfl ⟨?_,only_sets_alloc H9.only (Nat.le_refl _) _ _ _ _ _ _ _,_,lex_sets_alloc H9.lex (by have:=H9.blt;omega) _ _ _ _ _ _ _⟩
  ·simp [nxtTup,results,Tryz.results39,go_sem,u0,u1,u2,u3,u4,u5,HE0.out,hl9]
  ·rw [HK.out,←hdec.out];rfl
 ·have z1:(r.err != 0)=true:=by simp [he0]
  have HK:=HKN.out r.err he0 rfl
  clear he0
  go_wp2_with fail
  go_region
  go_wp2_with fail
  refine bodyPost_ret (v:=nxtTup ⟨errR r.err,false,(a:Int)+S⟩) ?_ rfl ⟨?_,(only_sets_alloc H9.only (Nat.le_refl _) _ _ _ _ _ _ _).drew,_,(lex_sets_alloc H9.lex (by have:=H9.blt;omega) _ _ _ _ _ _ _).drewN 1⟩
  ·simp [nxtTup,errR,results,Tryz.results39,go_sem,u0,u1,u2,u3,u4,u5,hl9]
  ·rw [HK.out];rfl
set_option maxHeartbeats 800000 in
theorem lex_next_slash (b:Nat) (s:ByteArray) (tab:Int→Int) (a:Nat) (at0:Int) (w:World) (h:Lex w b s tab at0) (ha:a≤s.size) (e1:¬(a+skipN ((cvt tab s.data.toList).drop a))=s.size) (e3:rawAt (cvt tab s.data.toList) (a+skipN ((cvt tab s.data.toList).drop a))=47) (e4:¬rawAt (cvt tab s.data.toList) ((a+skipN ((cvt tab s.data.toList).drop a))+1)=42) :
  Calls Tryz.prog 39 #[.pointer (some ⟨b,0,none⟩),.int .i64 a] w fun e w'=>GivesN (nextR (cvt tab s.data.toList) s.data.toList a) e∧Only b w w'∧∃q,Lex w' b s tab q:=by
 have H0:=NHeld.start h
 have hlt:=h.lt
 have hsz:=h.sz
 clear h
 have hlen:Hid ((cvt tab s.data.toList).length=s.size):=by show _=_;rw [cvt_len];simp
 have HRl:Hid (s.data.toList.length=s.size):=size_data s
 have hsk:=skipN_le ((cvt tab s.data.toList).drop a)
 rw [List.length_drop,hlen.out] at hsk
 generalize hM:cvt tab s.data.toList=M at *
 have HM:=zq hM
 clear hM
 generalize hS:skipN (M.drop a)=S at *
 have HS:=zq hS
 clear hS
 have b1:((a:Int)+S==(s.size:Int))=false:=by simp;omega
 have HKN:Hid (∀e,¬e=0→(tokR M s.data.toList (a+S)).err=e→Hid (nextR M s.data.toList a=⟨errR e,false,a+S⟩)):=fun e he h=>by
  show nextR M s.data.toList a=_
  unfold nextR;simp only [HS.out];rw [if_neg (by rw [HRl.out];exact e1),if_neg (by rw [h];exact he),h];simp
 have HKY:Hid ((tokR M s.data.toList (a+S)).err=0→Hid (nextR M s.data.toList a=⟨tokR M s.data.toList (a+S),decide (a<a+S),0⟩)):=fun h=>by
  show nextR M s.data.toList a=_
  unfold nextR;simp only [HS.out];rw [if_neg (by rw [HRl.out];exact e1),if_pos h]
 have hp:a+S<s.size:=by omega
 have he1:=zq e1
 clear e1
 have b2:(rawAt M (a+S)==47)=true:=by simp [e3]
 have b3:(rawAt M (a+S+1)==42)=false:=by simp [e4]
 have HC:Hid (cls (rawAt M (a+S))=5):=by show _=_;rw [e3];decide
 have HT:=zq (show tokR M s.data.toList (a+S)=symR M (a+S) by unfold tokR;rw [if_neg (fun h=>e4 h.2),e3];rfl)
 clear e3 e4
 go_enter Tryz.func39,Tryz.ntmps39
 go_wp2_with fail
 refine (lex_skip _ _ _ _ _ _ H0.lex (by omega)).mono ?_;rintro e w1 ⟨rfl,hB1⟩;rw [Int.toNat_natCast,HM.out,HS.out]
 have H1:=NHeld.call hB1 H0.lt H0
 have c1:=H1.lex.ca
 have f1:=H1.lex.fr 257
 have hl1:=H1.lex.lt
 have H2:=H1.setAt (a+S)
 clear hB1 H0 H1
 go_wp2_with fail
 generalize hw2:w1.setCell ⟨b,257,none⟩ (.int .i64 ((a:Int)+S))=w2 at *
 clear hw2 c1 f1 hl1
 have c2:=H2.lex.ca
 have d2:=H2.lex.c0
 go_quiet (fail)
 have H3:=NHeld.call (bl_drewN (Below.refl w2.heap.size w2) nq) H2.lt H2
 clear H2 c2 d2
 generalize hw3:w2.drewN nq=w3 at *
 clear hw3
 have c3:=H3.lex.ca
 obtain ⟨t6,v0,v1,v2,v3,v4,v5,t0,t1,t2,t3,t4,t5⟩:=H3.tok
 have hl3:=H3.lt
 have hb3:=H3.lex.lt
 have H4:=fun o=>NHeld.call ((Below.refl w3.heap.size w3).alloc (Nat.le_refl _) o) H3.lt H3
 go_wp2_with fail
 refine (lex_char _ _ _ _ _ _ (H4 _).lex (by omega)).mono ?_;rintro e w5 ⟨rfl,hB5⟩;rw [show ((a:Int)+S).toNat=a+S by omega,HM.out]
 have H5:=NHeld.call hB5 (H4 _).lt (H4 _)
 have c5:=H5.lex.ca
 have r5:=hB5
 go_wp2_with fail
 refine (lex_char _ _ _ _ _ _ H5.lex (by omega)).mono ?_;rintro e w6 ⟨rfl,hB6⟩;rw [show ((a:Int)+S+1).toNat=a+S+1 by omega,HM.out]
 have H6:=NHeld.call hB6 H5.lt H5
 have c6:=H6.lex.ca
 have r6:=r5.trans (hB6.mono hB5.size)
 go_wp2_with fail
 refine (lex_char _ _ _ _ _ _ H6.lex (by omega)).mono ?_;rintro e w7 ⟨rfl,hB7⟩;rw [show ((a:Int)+S).toNat=a+S by omega,HM.out]
 have H7:=NHeld.call hB7 H6.lt H6
 have r7:=r6.trans (hB7.mono r6.size)
 go_wp2_with fail
 refine (chars_class _ _).mono ?_;rintro e w8 ⟨rfl,hB8⟩;rw [HC.out]
 have H8:=NHeld.call hB8 H7.lt H7
 have r8:=r7.trans (hB8.mono r7.size)
 have fk:=(r8.cell (p:=⟨w3.heap.size,5,none⟩) (by simp)).trans (reader_cell5 w3)
 clear hB7 hB8 H7 r7 r6 H6 c6 H3 H4 c3 hb3 t0 t1 t2 t3 t4 t5 t6 r8
 go_wp2_with fail
 refine (lex_symbol b s tab (a+S) _ H8.lex (by omega)).mono ?_;rintro e w9 ⟨he,hB9⟩
 have H9:=NHeld.call hB9 H8.lt H8
 rw [HM.out] at he
 rw [←HT.out] at he
 generalize hr:tokR M s.data.toList (a+S)=r at *
 have HR:=zq hr
 clear hr
 unfold Gives tokTup at he;subst he
 have c9:=H9.lex.ca
 have hl9:=H9.lt
 have hb9:=H9.lex.lt
 obtain ⟨u6,x0,x1,x2,x3,x4,x5,u0,u1,u2,u3,u4,u5⟩:=H9.tok
 clear H8 hB9 fk
 by_cases he0:r.err=0
 ·have z1:(r.err != 0)=false:=by simp [he0]
  have HK:=HKY.out he0
  have HE0:=zq he0
  clear he0
  go_wp2_with fail
  have hdec:Hid (decide ((a:Int)<(a:Int)+S)=decide (a<a+S)):=by show _=_;rw [decide_eq_decide];omega
  refine bodyPost_ret (v:=nxtTup ⟨r,decide ((a:Int)<(a:Int)+S),0⟩) ?_ rfl ⟨?_,only_sets_alloc H9.only (Nat.le_refl _) _ _ _ _ _ _ _,_,lex_sets_alloc H9.lex (by have:=H9.blt;omega) _ _ _ _ _ _ _⟩
  ·simp [nxtTup,results,Tryz.results39,go_sem,u0,u1,u2,u3,u4,u5,HE0.out,hl9]
  ·rw [HK.out,←hdec.out];rfl
 ·have z1:(r.err != 0)=true:=by simp [he0]
  have HK:=HKN.out r.err he0 rfl
  clear he0
  go_wp2_with fail
  go_region
  go_wp2_with fail
  refine bodyPost_ret (v:=nxtTup ⟨errR r.err,false,(a:Int)+S⟩) ?_ rfl ⟨?_,(only_sets_alloc H9.only (Nat.le_refl _) _ _ _ _ _ _ _).drew,_,(lex_sets_alloc H9.lex (by have:=H9.blt;omega) _ _ _ _ _ _ _).drewN 1⟩
  ·simp [nxtTup,errR,results,Tryz.results39,go_sem,u0,u1,u2,u3,u4,u5,hl9]
  ·rw [HK.out];rfl
set_option maxHeartbeats 800000 in
theorem lex_next (b:Nat) (s:ByteArray) (tab:Int→Int) (a:Nat) (at0:Int) (w:World) (h:Lex w b s tab at0) (ha:a≤s.size) :
  Calls Tryz.prog 39 #[.pointer (some ⟨b,0,none⟩),.int .i64 a] w fun e w'=>GivesN (nextR (cvt tab s.data.toList) s.data.toList a) e∧Only b w w'∧∃q,Lex w' b s tab q:=by
 by_cases e1:(a+skipN ((cvt tab s.data.toList).drop a))=s.size
 ·exact lex_next_end b s tab a at0 w h ha e1
 by_cases e3:rawAt (cvt tab s.data.toList) (a+skipN ((cvt tab s.data.toList).drop a))=47
 ·by_cases e4:rawAt (cvt tab s.data.toList) ((a+skipN ((cvt tab s.data.toList).drop a))+1)=42
  ·exact lex_next_open b s tab a at0 w h ha e1 ⟨e3,e4⟩
  ·exact lex_next_slash b s tab a at0 w h ha e1 e3 e4
 have h0:=cls_lo (rawAt (cvt tab s.data.toList) (a+skipN ((cvt tab s.data.toList).drop a)))
 have h1:=cls_hi (rawAt (cvt tab s.data.toList) (a+skipN ((cvt tab s.data.toList).drop a)))
 have hcs:cls (rawAt (cvt tab s.data.toList) (a+skipN ((cvt tab s.data.toList).drop a)))=0∨cls (rawAt (cvt tab s.data.toList) (a+skipN ((cvt tab s.data.toList).drop a)))=1∨cls (rawAt (cvt tab s.data.toList) (a+skipN ((cvt tab s.data.toList).drop a)))=2∨cls (rawAt (cvt tab s.data.toList) (a+skipN ((cvt tab s.data.toList).drop a)))=3∨cls (rawAt (cvt tab s.data.toList) (a+skipN ((cvt tab s.data.toList).drop a)))=4∨cls (rawAt (cvt tab s.data.toList) (a+skipN ((cvt tab s.data.toList).drop a)))=5∨cls (rawAt (cvt tab s.data.toList) (a+skipN ((cvt tab s.data.toList).drop a)))=6∨cls (rawAt (cvt tab s.data.toList) (a+skipN ((cvt tab s.data.toList).drop a)))=7∨cls (rawAt (cvt tab s.data.toList) (a+skipN ((cvt tab s.data.toList).drop a)))=8:=by omega
 rcases hcs with hc | hc | hc | hc | hc | hc | hc | hc | hc
 ·exact lex_next_0 b s tab a at0 w h ha e1 e3 hc
 ·exact lex_next_1 b s tab a at0 w h ha e1 e3 hc
 ·exact lex_next_2 b s tab a at0 w h ha e1 e3 hc
 ·exact lex_next_3 b s tab a at0 w h ha e1 e3 hc
 ·exact lex_next_4 b s tab a at0 w h ha e1 e3 hc
 ·exact lex_next_5 b s tab a at0 w h ha e1 e3 hc
 ·exact lex_next_6 b s tab a at0 w h ha e1 e3 hc
 ·exact lex_next_7 b s tab a at0 w h ha e1 e3 hc
 ·exact lex_next_8 b s tab a at0 w h ha e1 e3 hc
theorem chars_is_of (c:Int) (b:Bool) (h:isCh c=b) (w:World) :
  Calls Tryz.prog 54 #[.int .i64 c] w fun e w'=>e=.returned (.bool b)∧w=w':=by subst h;exact chars_is c w
set_option maxHeartbeats 2000000 in
theorem chars_valid (A:Option Addr) (n cap:Nat) (l:List (Int×Int)) (w:World) (hn:n=l.length) (hm:n≤maxLen) (hp:Pairs w A l) :
  Calls Tryz.prog 37 #[.slice A n cap] w fun e w'=>e=.returned (.bool (pvalid l))∧Below w.heap.size w w':=by
 unfold maxLen at hm
 have HN:=zq hn
 clear hn
 have HP:=zq hp
 clear hp
 go_enter Tryz.func37,Tryz.ntmps37
 go_wp2
 go_loopw [7] (fun i wr=>∃k:Nat,k≤n∧i=.int .i64 k∧Below w.heap.size w wr∧Hid (∀j,j<k→okAt l j=true)) (fun i _=>n-(intOf i).toNat)
 case atStart=>exact ⟨0,Nat.zero_le _,rfl,Below.refl _ _,fun j hj=>absurd hj (by omega)⟩
 case round=>
  obtain ⟨k,hk,rfl,hB,HA⟩:=hrel
  by_cases hlt:k<n
  ·have hs:=hB.size
   have hkl:k<l.length:=by have:=HN.out;omega
   obtain ⟨b,off,rfl,hb,c1,c2⟩:=(HP.out.below hB) k hkl
   rw [prF_get _ _ hkl] at c1
   rw [prT_get _ _ hkl] at c2
   have Hno:=zq (pvalid_no l k hkl)
   cases q1:isCh (prF l k)
   ·have Q1:=zq q1
    have Hf:=zq (okAt_1 l k q1)
    clear q1
    go_wp2
    go_quiet ((go_at_call 54;first | with_reducible exact quiet0 (chars_is_of _ _ Q1.out _) | with_reducible exact quiet0 (chars_is_of _ _ Q2.out _)))
    go_wp2
    go_ret
    exact ⟨ret_bool (Hno.out Hf.out).symm,bl_drewN (hB.alloc (by omega) _) _⟩
   have Q1:=zq q1
   clear q1
   cases q2:isCh (prT l k)
   ·have Q2:=zq q2
    have Hf:=zq (okAt_2 l k Q1.out q2)
    clear q2
    go_wp2
    go_quiet ((go_at_call 54;first | with_reducible exact quiet0 (chars_is_of _ _ Q1.out _) | with_reducible exact quiet0 (chars_is_of _ _ Q2.out _)))
    go_wp2
    go_ret
    exact ⟨ret_bool (Hno.out Hf.out).symm,bl_drewN (hB.alloc (by omega) _) _⟩
   have Q2:=zq q2
   clear q2
   cases q3:(prF l k==prT l k)
   ·by_cases h0:0<k
    ·obtain ⟨b',off',e',_,c3,_⟩:=(HP.out.below hB) (k-1) (by omega)
     injection e' with e'
     injection e' with e1 e2
     subst e1 e2
     rw [prF_get _ _ (by omega)] at c3
     by_cases q4:prF l (k-1)<prF l k
     ·have Hf:=zq (okAt_5 l k Q1.out Q2.out q3 q4)
      go_wp2
      go_quiet ((go_at_call 54;first | with_reducible exact quiet0 (chars_is_of _ _ Q1.out _) | with_reducible exact quiet0 (chars_is_of _ _ Q2.out _)))
      go_wp2
      go_roundw
      case rel=>exact ⟨k+1,by omega,by go_num,bl_drewN (hB.alloc (by omega) _) _,fun j hj=>by
       rcases Nat.lt_or_ge j k with h | h
       ·exact HA.out j h
       ·have:j=k:=by omega
        subst this;exact Hf.out⟩
      case measure=>simp [intOf];omega
     ·have Hf:=zq (okAt_6 l k Q1.out Q2.out q3 h0 q4)
      go_wp2
      go_quiet ((go_at_call 54;first | with_reducible exact quiet0 (chars_is_of _ _ Q1.out _) | with_reducible exact quiet0 (chars_is_of _ _ Q2.out _)))
      go_wp2
      go_ret
      exact ⟨ret_bool (Hno.out Hf.out).symm,bl_drewN (hB.alloc (by omega) _) _⟩
    ·have Hf:=zq (okAt_4 l k (by omega) Q1.out Q2.out q3)
     have hd:decide ((0:Int)<(k:Int))=false:=by simp;omega
     go_wp2
     go_quiet ((go_at_call 54;first | with_reducible exact quiet0 (chars_is_of _ _ Q1.out _) | with_reducible exact quiet0 (chars_is_of _ _ Q2.out _)))
     go_wp2
     go_roundw
     case rel=>exact ⟨k+1,by omega,by go_num,bl_drewN (hB.alloc (by omega) _) _,fun j hj=>by
      rcases Nat.lt_or_ge j k with h | h
      ·exact HA.out j h
      ·have:j=k:=by omega
       subst this;exact Hf.out⟩
     case measure=>simp [intOf];omega
   ·have Hf:=zq (okAt_3 l k Q1.out Q2.out q3)
    go_wp2
    go_quiet ((go_at_call 54;first | with_reducible exact quiet0 (chars_is_of _ _ Q1.out _) | with_reducible exact quiet0 (chars_is_of _ _ Q2.out _)))
    go_wp2
    go_ret
    exact ⟨ret_bool (Hno.out Hf.out).symm,bl_drewN (hB.alloc (by omega) _) _⟩
  ·have HE:=zq (pvalid_all l (fun j hj=>HA.out j (by have:=HN.out;omega)))
   go_wp2
   go_ret
   exact ⟨ret_bool HE.out.symm,hB⟩
def lexCells (s:ByteArray) (at_:Int):Array Value:=#[.string s]++Array.replicate 256 (.int .i64 0) ++ #[.int .i64 at_]
def lexV (s:ByteArray) (at_:Int):Value:=.agg (lexCells s at_)
theorem build_lexer (s:ByteArray) (at_:Int) (w:World):(Instr.build 112 #[(0,.string s),(2,.int .i64 at_)]).run Tryz.prog w=.ok (lexV s at_) w:=by kernel_rfl
theorem box_lexer (s:ByteArray) (at_:Int) (w:World):(Instr.box 112 (lexV s at_)).run Tryz.prog w=.ok (.pointer (some ⟨w.heap.size,0,none⟩)) (w.alloc (.cells (lexCells s at_) 112)):=by kernel_rfl
theorem wpList_build_lexer {ops:Array Oper} {rest:List Oper} {o:Oper} {a:Act} {Q:Exit→Act→World→Prop} {w:World} (hgd:o.guard=none) (x y:Operand) (s:ByteArray) (at_:Int)
  (ho:o.op=.build 112 #[(0,x),(2,y)]) (hx:a.eval x=.string s) (hy:a.eval y=.int .i64 at_)
  (h:wpList Tryz.prog ops Q rest (a.put o.dst (lexV s at_)) w):wpList Tryz.prog ops Q (o::rest) a w:=by
 refine wpList_plain hgd fun K hK=>?_
 have e:(execOp a.eval o).run Tryz.prog w=.ok (.value (lexV s at_)) w:=by
  unfold execOp
  rw [ho]
  have hm:Array.map (fun x=>(x.fst,a.eval x.snd)) #[(0,x),(2,y)]=#[(0,.string s),(2,.int .i64 at_)]:=by simp [hx,hy]
  simp only [hm]
  rw [Sem.run_bind,build_lexer]
  rfl
 unfold Oper.wp
 rw [e]
 exact hK _ _ h
theorem wpList_box_lexer {ops:Array Oper} {rest:List Oper} {o:Oper} {a:Act} {Q:Exit→Act→World→Prop} {w:World} (hgd:o.guard=none) (x:Operand) (s:ByteArray) (at_:Int)
  (ho:o.op=.box 112 x) (hx:a.eval x=lexV s at_)
  (h:wpList Tryz.prog ops Q rest (a.put o.dst (.pointer (some ⟨w.heap.size,0,none⟩))) (w.alloc (.cells (lexCells s at_) 112))):wpList Tryz.prog ops Q (o::rest) a w:=by
 refine wpList_plain hgd fun K hK=>?_
 have e:(execOp a.eval o).run Tryz.prog w=.ok (.value (.pointer (some ⟨w.heap.size,0,none⟩))) (w.alloc (.cells (lexCells s at_) 112)):=by
  unfold execOp
  rw [ho]
  simp only [hx]
  rw [Sem.run_bind,box_lexer]
  rfl
 unfold Oper.wp
 rw [e]
 exact hK _ _ h
theorem lexCells_get (s:ByteArray) (at_:Int):(lexCells s at_)[0]? = some (.string s)∧(lexCells s at_)[257]? = some (.int .i64 at_):=by
 unfold lexCells
 constructor
 ·rw [Array.getElem?_append_left (by simp),Array.getElem?_append_left (by simp)];rfl
 ·rw [Array.getElem?_append_right (by simp)];simp
structure LexP (w:World) (b:Nat) (s:ByteArray) (tab:Int→Int) (at_:Int):Prop where
 lt:b<w.heap.size
 c0:w.cell? ⟨b,0,none⟩=some (.string s)
 ct:∀c:Nat,c<256→w.cell? ⟨b,1+c,none⟩=some (.int .i64 (tab c))
 ca:w.cell? ⟨b,257,none⟩=some (.int .i64 at_)
 fr:∀o,w.frozen? ⟨b,o,none⟩=false
theorem lexCells_at (s:ByteArray) (at_:Int) (c:Nat) (h:c<256):(lexCells s at_)[1+c]? = some (.int .i64 0):=by
 unfold lexCells
 rw [Array.getElem?_append_left (by simp;omega),Array.getElem?_append_right (by simp)]
 simp [Array.getElem?_replicate];omega
theorem LexP.start (w:World) (s:ByteArray) (at_:Int) (t:TypeId):LexP (w.alloc (.cells (lexCells s at_) t)) w.heap.size s (fun _=>0) at_ where
 lt:=by simp
 c0:=by rw [World.cell?_alloc_new];exact (lexCells_get s at_).1
 ct:=fun c hc=>by rw [World.cell?_alloc_new];exact lexCells_at s at_ c hc
 ca:=by rw [World.cell?_alloc_new];exact (lexCells_get s at_).2
 fr:=fun o=>by
  have hb:(w.alloc (.cells (lexCells s at_) t)).heap[w.heap.size]? = some (.cells (lexCells s at_) t):=by show (w.heap.push _)[w.heap.size]? = _;simp
  unfold World.frozen?;simp only [hb];simp
theorem LexP.set {w:World} {b:Nat} {s:ByteArray} {tab:Int→Int} {at_:Int} (h:LexP w b s tab at_) (k:Nat) (hk:k<256) (v:Int):LexP (w.setCell ⟨b,1+k,none⟩ (.int .i64 v)) b s (fun x=>if x=k then v else tab x) at_ where
 lt:=by simp [World.setCell];exact h.lt
 c0:=(World.cell?_setCell_other w _ _ _ (by intro hh;injection hh with _ h2 _;omega)).trans h.c0
 ct:=fun c hc=>by
  by_cases hck:c=k
  ·subst hck
   rw [World.cell?_setCell_same w _ _ (h.ct c hc)];simp
  ·rw [World.cell?_setCell_other w _ _ _ (by intro hh;injection hh with _ h2 _;omega),h.ct c hc]
   simp [show ¬((c:Int)=(k:Int)) by omega]
 ca:=(World.cell?_setCell_other w _ _ _ (by intro hh;injection hh with _ h2 _;omega)).trans h.ca
 fr:=fun o=>(frozen_set _ _ _ _).trans (h.fr o)
theorem LexP.same {w w':World} {b:Nat} {s:ByteArray} {tab:Int→Int} {at_:Int} (h:LexP w b s tab at_) (hs:w.heap.size≤w'.heap.size) (hb:w'.heap[b]? = w.heap[b]?):LexP w' b s tab at_ where
 lt:=Nat.lt_of_lt_of_le h.lt hs
 c0:=(World.cell?_of_block (w:=w) hb).trans h.c0
 ct:=fun c hc=>(World.cell?_of_block (w:=w) hb).trans (h.ct c hc)
 ca:=(World.cell?_of_block (w:=w) hb).trans h.ca
 fr:=fun o=>(World.frozen?_of_block (w:=w) hb).trans (h.fr o)
theorem LexP.congr {w:World} {b:Nat} {s:ByteArray} {tab tab':Int→Int} {at_:Int} (h:LexP w b s tab at_) (e:∀c:Nat,c<256→tab c=tab' c):LexP w b s tab' at_ :=
 ⟨h.lt,h.c0,fun c hc=>by rw [h.ct c hc,e c hc],h.ca,h.fr⟩
theorem LexP.lex {w:World} {b:Nat} {s:ByteArray} {tab:Int→Int} {at_:Int} (h:LexP w b s tab at_) (hz:s.size≤16384) (ht:TabOk tab):Lex w b s tab at_:=⟨h.lt,h.c0,h.ct,h.ca,h.fr,hz,ht⟩
theorem convT_snoc (l:List (Int×Int)) (k:Nat) (h:k<l.length) (c:Int):convT (l.take (k+1)) c=if prF l k=c then prT l k else convT (l.take k) c:=by
 unfold convT
 rw [List.take_succ_eq_append_getElem h,List.foldl_append]
 simp only [List.foldl_cons,List.foldl_nil]
 rw [prF_get _ _ h,prT_get _ _ h]
theorem convT_ok (l:List (Int×Int)) (h:∀j,j<l.length→0≤prT l j∧prT l j≤255):∀k,k≤l.length→TabOk (convT (l.take k))
 | 0,_=>fun c h0 h1=>by simp [convT];omega
 | k+1,hk=>fun c h0 h1=>by
  rw [convT_snoc l k (by omega)]
  split
  ·exact h k (by omega)
  ·exact convT_ok l h k (by omega) c h0 h1
def openOk (s:ByteArray) (at_:Int) (l:List (Int×Int)):Prop:=s.size≤16384∧0≤at_∧at_≤s.size∧pvalid l=true
set_option maxHeartbeats 800000 in
theorem lex_open_no (s:ByteArray) (at_:Int) (A:Option Addr) (n cap:Nat) (l:List (Int×Int)) (w:World) (hn:n=l.length) (hm:n≤maxLen) (hs:s.size≤maxLen) (hp:Pairs w A l) (ho:¬openOk s at_ l) :
  Calls Tryz.prog 38 #[.string s,.int .i64 at_,.slice A n cap] w fun e w'=>e=.returned (.tuple #[.pointer none,.bool false])∧Below w.heap.size w w':=by
 unfold maxLen at hs
 have hd:(16384:Int)<s.size∨((s.size:Int)≤16384∧at_<0)∨((s.size:Int)≤16384∧0≤at_∧(s.size:Int)<at_)∨((s.size:Int)≤16384∧0≤at_∧at_≤s.size∧pvalid l=false):=by
  unfold openOk at ho
  by_cases c1:s.size≤16384
  ·by_cases c2:0≤at_
   ·by_cases c3:at_≤s.size
    ·refine .inr (.inr (.inr ⟨by omega,c2,c3,?_⟩))
     cases hv:pvalid l
     ·rfl
     ·exact absurd ⟨c1,c2,c3,hv⟩ ho
    ·exact .inr (.inr (.inl ⟨by omega,c2,by omega⟩))
   ·exact .inr (.inl ⟨by omega,by omega⟩)
  ·exact .inl (by omega)
 have HV:=zq (chars_valid A n cap l w hn hm hp)
 clear hn hp ho
 rcases hd with d1 | ⟨d1,d2⟩ | ⟨d1,d2,d3⟩ | ⟨d1,d2,d3,d4⟩
 ·have e1:decide (16384<s.size)=true:=by simp;omega
  go_enter Tryz.func38,Tryz.ntmps38
  go_wp2_with fail
  go_ret2
  exact ⟨rfl,Below.refl _ _⟩
 ·have e1:decide (16384<s.size)=false:=by simp;omega
  have e2:decide (at_<0)=true:=by simp;omega
  go_enter Tryz.func38,Tryz.ntmps38
  go_wp2_with fail
  go_ret2
  exact ⟨rfl,Below.refl _ _⟩
 ·have e1:decide (16384<s.size)=false:=by simp;omega
  have e2:decide (at_<0)=false:=by simp;omega
  have e3:decide ((s.size:Int)<at_)=true:=by simp;omega
  go_enter Tryz.func38,Tryz.ntmps38
  go_wp2_with fail
  go_ret2
  exact ⟨rfl,Below.refl _ _⟩
 ·have e1:decide (16384<s.size)=false:=by simp;omega
  have e2:decide (at_<0)=false:=by simp;omega
  have e3:decide ((s.size:Int)<at_)=false:=by simp;omega
  have D4:=zq d4
  clear d4
  go_enter Tryz.func38,Tryz.ntmps38
  go_wp2_with fail
  refine HV.out.mono ?_;rintro e w1 ⟨rfl,hB⟩;rw [D4.out]
  go_wp2_with fail
  go_ret2
  exact ⟨rfl,hB⟩
set_option maxHeartbeats 1600000 in
theorem lex_open_yes (s:ByteArray) (at_:Int) (A:Option Addr) (n cap:Nat) (l:List (Int×Int)) (w:World) (hn:n=l.length) (hm:n≤maxLen) (hp:Pairs w A l) (ho:openOk s at_ l) :
  Calls Tryz.prog 38 #[.string s,.int .i64 at_,.slice A n cap] w fun e w'=>∃b,e=.returned (.tuple #[.pointer (some ⟨b,0,none⟩),.bool true])∧w.heap.size≤b∧Below w.heap.size w w'∧Lex w' b s (convT l) at_:=by
 obtain ⟨d1,d2,d3,d4⟩:=ho
 have e1:decide (16384<s.size)=false:=by simp;omega
 have e2:decide (at_<0)=false:=by simp;omega
 have e3:decide ((s.size:Int)<at_)=false:=by simp;omega
 have HV:=zq (chars_valid A n cap l w hn hm hp)
 have HP:=zq hp
 have HN:=zq hn
 have D4:=zq d4
 unfold maxLen at hm
 have hbd:Hid (∀j,j<l.length→(0≤prF l j∧prF l j≤255)∧0≤prT l j∧prT l j≤255):=fun j hj=>by
  have:=pvalid_at l D4.out j hj
  unfold okAt at this
  simp only [Bool.and_eq_true] at this
  exact ⟨(isCh_iff _).1 this.1,(isCh_iff _).1 this.2.1⟩
 clear hn hp d4
 go_enter Tryz.func38,Tryz.ntmps38
 go_wp2_with fail
 refine HV.out.mono ?_;rintro e w1 ⟨rfl,hB⟩;rw [D4.out]
 go_wp2_with (first | (refine wpList_build_lexer rfl _ _ s at_ rfl rfl rfl ?_) | (refine wpList_box_lexer rfl _ s at_ rfl rfl ?_))
 have P0:=LexP.start w1 s at_ 112
 have hB0:=hB.trans (((Below.refl w1.heap.size w1).alloc (Nat.le_refl _) (.cells (lexCells s at_) 112)).mono hB.size)
 have hbge:=hB.size
 generalize hw2:w1.alloc (.cells (lexCells s at_) 112)=w2 at *
 generalize hbb:w1.heap.size=b at *
 clear hw2 hbb hB
 go_loopw [34] (fun i wr=>∃k:Nat,k≤256∧i=.int .i64 k∧Below w.heap.size w wr∧LexP wr b s (fun x=>if x<k then x else 0) at_) (fun i _=>256-(intOf i).toNat)
 case atStart=>exact ⟨0,Nat.zero_le _,rfl,hB0,P0.congr fun c _=>by rw [if_neg (by omega)]⟩
 case round=>
  obtain ⟨k,hk,rfl,hB1,P1⟩:=hrel
  by_cases hlt:k<256
  ·have ck:=P1.ct k hlt
   have fk:=P1.fr (1+k)
   have hbl:=P1.lt
   have P2:=P1.set k hlt k
   go_wp2_with fail
   go_roundw
   case rel=>exact ⟨k+1,by omega,by go_num,hB1.setCell (p:=⟨b,_,none⟩) hbge _,P2.congr fun c _=>by grind⟩
   case measure=>simp [intOf];omega
  ·obtain rfl:k=256:=by omega
   have Q0:LexP wr b s (convT (l.take 0)) at_:=P1.congr fun c hc=>by rw [if_pos (by omega)];rfl
   clear P1
   go_wp2_with fail
   go_loopw [46] (fun i wx=>∃k:Nat,k≤n∧i=.int .i64 k∧Below w.heap.size w wx∧LexP wx b s (convT (l.take k)) at_) (fun i _=>n-(intOf i).toNat)
   case atStart=>exact ⟨0,Nat.zero_le _,rfl,hB1,Q0⟩
   case round=>
    obtain ⟨k,hk,rfl,hB2,P2⟩:=hrel
    by_cases hlt2:k<n
    ·have hkl:k<l.length:=by have:=HN.out;omega
     obtain ⟨b',off,rfl,hb',c1,c2⟩:=(HP.out.below hB2) k hkl
     rw [prF_get _ _ hkl] at c1
     rw [prT_get _ _ hkl] at c2
     obtain ⟨⟨q0,q1⟩,q2,q3⟩:=hbd.out k hkl
     obtain ⟨m,hmF⟩:=Int.eq_ofNat_of_zero_le q0
     rw [hmF] at c1
     have hm1:m<256:=by omega
     have HT:=zq (convT_snoc l k hkl)
     have HmF:=zq hmF
     clear q0 q1 hmF
     go_wp2_with fail
     have hA:=(Below.refl wr.heap.size wr).alloc (Nat.le_refl _) (.cells #[.int .i64 m,.int .i64 (prT l k)] 109)
     have P4:=P2.same hA.size (hA.block b P2.lt)
     have hB4:=hB2.trans (hA.mono hB2.size)
     have g0:(wr.alloc (.cells #[.int .i64 m,.int .i64 (prT l k)] 109)).cell? ⟨wr.heap.size,0,none⟩=some (.int .i64 m):=by rw [World.cell?_alloc_new];rfl
     have g1:(wr.alloc (.cells #[.int .i64 m,.int .i64 (prT l k)] 109)).cell? ⟨wr.heap.size,1,none⟩=some (.int .i64 (prT l k)):=by rw [World.cell?_alloc_new];rfl
     generalize hw4:wr.alloc (.cells #[.int .i64 m,.int .i64 (prT l k)] 109)=w4 at *
     clear hw4 hA P2
     have ck:=P4.ct m hm1
     have fk:=P4.fr (1+m)
     have hbl:=P4.lt
     have P5:=P4.set m hm1 (prT l k)
     go_region
     go_wp2_with fail
     go_roundw
     case rel=>exact ⟨k+1,by omega,by go_num,(hB4.setCell (p:=⟨b,_,none⟩) hbge _).drew,(P5.congr fun c _=>by rw [HT.out,HmF.out];grind).same (Nat.le_refl _) rfl⟩
     case measure=>simp [intOf];omega
    ·have hkn:k=l.length:=by have:=HN.out;omega
     have HT:=zq (show l.take k=l from List.take_of_length_le (by omega))
     rw [HT.out] at P2
     have hok:=convT_ok l (fun j hj=>(hbd.out j hj).2) l.length (Nat.le_refl _)
     rw [List.take_length] at hok
     have HO:=zq hok
     clear hok
     go_wp2_with fail
     go_ret2
     exact ⟨b,rfl,hbge,hB2,P2.lex d1 HO.out⟩
def okArgs (L:List UInt8) (at_:Int) (conv:List (Int×Int)):Bool:=decide (L.length≤16384)&&(decide (0≤at_)&&(decide (at_≤L.length)&&pvalid conv))
theorem okArgs_iff (s:ByteArray) (at_:Int) (conv:List (Int×Int)):okArgs s.data.toList at_ conv=true↔openOk s at_ conv:=by
 unfold okArgs openOk;rw [size_data];simp
end Go.Proofs.YtbojljpldcijgaaGreatDoor
namespace Hb
open Go Go.RowKit
theorem own_slice {w:World} {base e size:Nat} {v:Value} {n:Nat} {xs:List Value} (h:w.ownsRow base e size v n xs):∃A cap,v=.slice A n cap:=by
 rcases h.2 with ⟨rfl,rfl⟩ | ⟨g,cap,cur,rfl,_⟩
 ·exact ⟨_,_,rfl⟩
 ·exact ⟨_,_,rfl⟩
theorem own_mono {w:World} {base base' e size:Nat} {v:Value} {n:Nat} {xs:List Value} (h:w.ownsRow base e size v n xs) (hb:base'≤base):w.ownsRow base' e size v n xs:=by
 refine ⟨h.1,?_⟩
 rcases h.2 with hn | ⟨g,cap,cur,hv,hbg,rest⟩
 ·exact .inl hn
 ·exact .inr ⟨g,cap,cur,hv,by omega,rest⟩
theorem own_nil (w:World) (base e size:Nat):w.ownsRow base e size (.slice none 0 0) 0 []:=⟨by simp,.inl ⟨rfl,rfl⟩⟩
theorem own_only {w w':World} {base e size b:Nat} {v:Value} {n:Nat} {xs:List Value} (h:w.ownsRow base e size v n xs) (hb:b<base) (ho:∀k,k<w.heap.size→k≠b→w'.heap[k]? = w.heap[k]?):w'.ownsRow base e size v n xs:=by
 refine ⟨h.1,?_⟩
 rcases h.2 with hn | ⟨g,cap,cur,hv,hbg,hh,rest⟩
 ·exact .inl hn
 ·exact .inr ⟨g,cap,cur,hv,hbg,(ho g (by rw [Array.getElem?_eq_some_iff] at hh;exact hh.1) (by omega)).trans hh,rest⟩
def nxtCells (r:NextR):List Value:=[.int .i64 r.r.kind,.string ⟨r.r.text.toArray⟩,.int .i64 r.r.n,.int .i64 r.r.at_,.int .i64 r.r.end_,.bool r.lay]
def toksCells (l:List NextR):List Value:=l.flatMap nxtCells
theorem toksCells_snoc (l:List NextR) (r:NextR):toksCells (l++[r])=toksCells l++nxtCells r:=by simp [toksCells]
theorem cell_two (w:World) (cs:Array Value) (e:TypeId) (o:Obj) (j:Nat) (v:Value) (h:cs[j]? = some v):((w.alloc (.cells cs e)).alloc o).cell? ⟨w.heap.size,j,none⟩=some v :=
 (World.grownBy_alloc _ o none).cell ((World.cell?_alloc_new w cs e j).trans h) (by simp)
theorem slice_next (w:World) (o:Obj):Value.slice (some ⟨w.heap.size+1,0,none⟩) 1 1=Value.slice (some ⟨(w.alloc o).heap.size,0,none⟩) 1 1:=by simp
theorem own_ne {w:World} {base e size:Nat} {v:Value} {n:Nat} {xs:List Value} (h:w.ownsRow base e size v n xs) {k:Nat} (hk:w.heap.size≤k):some k≠v.ownBlock:=fun hh=>by
 have:=h.lt k hh.symm
 omega
end Hb
namespace Go.Proofs.YtbojljpldcijgaaGreatDoor
open Go.RowKit Hb
set_option maxRecDepth 100000
theorem infoTok:(Tryz.prog.info? 70).map (fun i=>(i.zero,i.size,i.bytes))=some (some (.agg #[.int .i64 0,.string ⟨#[]⟩,.int .i64 0,.int .i64 0,.int .i64 0,.bool false]),6,56):=by kernel_rfl
def allTop (L:List UInt8) (at_:Int) (conv:List (Int×Int)):AllR:=if okArgs L at_ conv=true then allR (cvt (convT conv) L) L at_.toNat else ⟨[],0,1⟩
def GivesA (r:AllR) (w:World) (e:Ending) (w':World):Prop:=∃v,e=.returned (.tuple #[v,.int .i64 r.where_,.int .i64 r.err])∧Below w.heap.size w w'∧w'.ownsRow w.heap.size 70 6 v r.l.length (toksCells r.l)
set_option maxHeartbeats 1600000 in
theorem token_all (s:ByteArray) (at_:Int) (A:Option Addr) (n cap:Nat) (l:List (Int×Int)) (w:World) (hn:n=l.length) (hm:n≤maxLen) (hs:s.size≤maxLen) (hp:Pairs w A l) :
  Calls Tryz.prog 21 #[.string s,.int .i64 at_,.slice A n cap] w (GivesA (allTop s.data.toList at_ l) w):=by
 by_cases ho:openOk s at_ l
 ·have HK:=zq (show allTop s.data.toList at_ l=allR (cvt (convT l) s.data.toList) s.data.toList at_.toNat by unfold allTop;rw [if_pos ((okArgs_iff s at_ l).2 ho)])
  obtain ⟨k,hk⟩:=Int.eq_ofNat_of_zero_le ho.2.1
  subst hk
  have hk2:k≤s.size:=by have:=ho.2.2.1;omega
  have hsz:=ho.1
  have HO:=zq (lex_open_yes s k A n cap l w hn hm hp ho)
  clear hn hp ho
  rw [Int.toNat_natCast] at HK
  have HRl:Hid (s.data.toList.length=s.size):=size_data s
  have HMl:Hid ((cvt (convT l) s.data.toList).length=s.data.toList.length):=cvt_len _ _
  rw [HK.out]
  clear HK
  go_enter Tryz.func21,Tryz.ntmps21
  go_wp2_with fail
  refine HO.out.mono ?_;rintro e w1 ⟨b,rfl,hb,hB1,L⟩
  have hbl:=L.lt
  go_wp2_with fail
  go_loopw [1,6] (fun i v wr=>∃a f:Nat,∃q:Int,∃acc:List NextR,i=.int .i64 a∧a≤s.size∧s.size-a<f∧acc.length≤a∧Below w.heap.size w wr∧w1.heap.size≤wr.heap.size∧Lex wr b s (convT l) q∧wr.ownsRow w1.heap.size 70 6 v acc.length (toksCells acc)∧Hid (allF f (cvt (convT l) s.data.toList) s.data.toList a acc=allR (cvt (convT l) s.data.toList) s.data.toList k)) (fun i _ _=>s.size-(intOf i).toNat)
  case atStart=>exact ⟨k,s.size+1,_,[],rfl,hk2,by omega,Nat.zero_le _,hB1,Nat.le_refl _,L,own_nil _ _ _ _,by show _=_;unfold allR;rw [HRl.out]⟩
  case round=>
   obtain ⟨a,f,q,acc,rfl,ha,hf,hal,hB,hw1,Lr,hown,HE⟩:=hrel
   obtain ⟨f',rfl⟩:∃f',f=f'+1:=⟨f-1,by omega⟩
   obtain ⟨A',cap',rfl⟩:=own_slice hown
   have hbs:=hB.size
   have hne:=next_end (cvt (convT l) s.data.toList) s.data.toList HMl.out a (by rw [HRl.out];exact ha)
   rw [HRl.out] at hne
   have HF:=zq (allF_succ f' (cvt (convT l) s.data.toList) s.data.toList a acc)
   have HX:=zq (lex_next b s _ a _ wr Lr ha)
   generalize hr:nextR (cvt (convT l) s.data.toList) s.data.toList a=r at *
   clear hr Lr
   by_cases c1:r.r.err=14
   ·have b1:(r.r.err==14)=true:=by simp [c1]
    cases acc with
    | nil=>
     have b2:(r.r.err != 0)=true:=by simp [c1]
     have HV:=zq (HF.out.trans (by rw [if_neg (by simp),if_pos (by omega)]))
     clear hne c1
     go_wp2_with fail
     refine HX.out.mono ?_;rintro e w2 ⟨he,ho2,q2,L2⟩
     unfold GivesN nxtTup at he;subst he
     have hB2:=hB.trans (ho2.toBelow' hb hbs)
     go_wp2_with fail
     refine bodyPost_ret (v:=.tuple #[.slice none 0 0,.int .i64 r.where_,.int .i64 r.r.err]) (by simp [results,Tryz.results21,go_sem]) rfl ⟨_,by rw [←HE.out,HV.out],hB2.alloc hB2.size _,by rw [←HE.out,HV.out];exact own_nil _ _ _ _⟩
    | cons x xs=>
     have HV:=zq (HF.out.trans (by rw [if_pos ⟨c1,by simp⟩]))
     clear hne c1
     go_wp2_with fail
     refine HX.out.mono ?_;rintro e w2 ⟨he,ho2,q2,L2⟩
     unfold GivesN nxtTup at he;subst he
     have hB2:=hB.trans (ho2.toBelow' hb hbs)
     go_wp2_with fail
     refine bodyPost_ret (v:=.tuple #[.slice none 0 0,.int .i64 r.where_,.int .i64 7]) (by simp [results,Tryz.results21,go_sem]) rfl ⟨_,by rw [←HE.out,HV.out],hB2.alloc hB2.size _,by rw [←HE.out,HV.out];exact own_nil _ _ _ _⟩
   have b1:(r.r.err==14)=false:=by simp [c1]
   by_cases c2:r.r.err=0
   ·have b2:(r.r.err != 0)=false:=by simp [c2]
    obtain ⟨p,en,e1,e2,e3,e4,e5,e6,e7⟩:=hne c2
    by_cases c3:r.r.kind=7
    ·have b3:(r.r.kind==7)=true:=by simp [c3]
     have HV:=zq (HF.out.trans (by rw [if_neg (by simp [c1]),if_neg (by simpa using c2),if_pos c3]))
     clear hne c1 c2 c3 e1 e3 e6 e7
     go_wp2_with fail
     refine HX.out.mono ?_;rintro e w2 ⟨he,ho2,q2,L2⟩
     unfold GivesN nxtTup at he;subst he
     have hB2:=hB.trans (ho2.toBelow' hb hbs)
     have HOwn:=zq ((own_only hown hbl ho2.block).alloc (.cells #[.int .i64 r.r.kind,.string ⟨r.r.text.toArray⟩,.int .i64 r.r.n,.int .i64 r.r.at_,.int .i64 r.r.end_,.bool r.lay] 70))
     go_wp2_with (at_builtin;go_must (refine wpList_append_one rfl _ _ 58 70 rfl Tryz.underlying58 _ 6 56 infoTok rfl (by decide) w1.heap.size _ _ _ rfl _ HOwn.out #[.int .i64 r.r.kind,.string ⟨r.r.text.toArray⟩,.int .i64 r.r.n,.int .i64 r.r.at_,.int .i64 r.r.end_,.bool r.lay] rfl (by simp [Value.oneCell']) rfl (slice_next _ _) (by omega) (by omega) (by simp;have:=ho2.size;omega) ?_;intro v1 w3 hown3 hB3 hg3;have t0:=hg3.cell (cell_two w2 _ _ _ 0 _ rfl) (own_ne hown ho2.size);have t4:=hg3.cell (cell_two w2 _ _ _ 4 _ rfl) (own_ne hown ho2.size);clear HOwn))
     refine bodyPost_ret (v:=.tuple #[v1,.int .i64 0,.int .i64 0]) (by simp [results,Tryz.results21,go_sem]) rfl ⟨v1,by rw [←HE.out,HV.out],(hB2.alloc hB2.size _).trans (hB3.mono hB1.size),by rw [←HE.out,HV.out,toksCells_snoc,List.length_append];exact own_mono hown3 hB1.size⟩
    ·have b3:(r.r.kind==7)=false:=by simp [c3]
     have HV:=zq (HF.out.trans (by rw [if_neg (by simp [c1]),if_neg (by simpa using c2),if_neg c3,e3,Int.toNat_natCast]))
     have HE3:=zq e3
     clear hne c1 c2 c3 e1 e3 e6 e7
     go_wp2_with fail
     refine HX.out.mono ?_;rintro e w2 ⟨he,ho2,q2,L2⟩
     unfold GivesN nxtTup at he;subst he
     have hB2:=hB.trans (ho2.toBelow' hb hbs)
     have HOwn:=zq ((own_only hown hbl ho2.block).alloc (.cells #[.int .i64 r.r.kind,.string ⟨r.r.text.toArray⟩,.int .i64 r.r.n,.int .i64 r.r.at_,.int .i64 r.r.end_,.bool r.lay] 70))
     go_wp2_with (at_builtin;go_must (refine wpList_append_one rfl _ _ 58 70 rfl Tryz.underlying58 _ 6 56 infoTok rfl (by decide) w1.heap.size _ _ _ rfl _ HOwn.out #[.int .i64 r.r.kind,.string ⟨r.r.text.toArray⟩,.int .i64 r.r.n,.int .i64 r.r.at_,.int .i64 r.r.end_,.bool r.lay] rfl (by simp [Value.oneCell']) rfl (slice_next _ _) (by omega) (by omega) (by simp;have:=ho2.size;omega) ?_;intro v1 w3 hown3 hB3 hg3;have t0:=hg3.cell (cell_two w2 _ _ _ 0 _ rfl) (own_ne hown ho2.size);have t4:=hg3.cell (cell_two w2 _ _ _ 4 _ rfl) (own_ne hown ho2.size);clear HOwn))
     go_roundw
     case rel=>exact ⟨en,f',q2,acc++[r],congrArg (Value.int IntKind.i64) HE3.out,by omega,by omega,by simp;omega,(hB2.alloc hB2.size _).trans (hB3.mono hB1.size),Nat.le_trans hw1 (Nat.le_trans ho2.size (Nat.le_trans (by simp) hB3.size)),L2.below (((Below.refl w1.heap.size w2).alloc (Nat.le_trans hw1 ho2.size) _).trans hB3) hbl,by rw [toksCells_snoc,List.length_append];exact hown3,HV.out.symm.trans HE.out⟩
     case measure=>rw [HE3.out];simp [intOf];omega
   ·have b2:(r.r.err != 0)=true:=by simp [c2]
    have HV:=zq (HF.out.trans (by rw [if_neg (by simp [c1]),if_pos c2]))
    clear hne c1 c2
    go_wp2_with fail
    refine HX.out.mono ?_;rintro e w2 ⟨he,ho2,q2,L2⟩
    unfold GivesN nxtTup at he;subst he
    have hB2:=hB.trans (ho2.toBelow' hb hbs)
    go_wp2_with fail
    refine bodyPost_ret (v:=.tuple #[.slice none 0 0,.int .i64 r.where_,.int .i64 r.r.err]) (by simp [results,Tryz.results21,go_sem]) rfl ⟨_,by rw [←HE.out,HV.out],hB2.alloc hB2.size _,by rw [←HE.out,HV.out];exact own_nil _ _ _ _⟩
 ·have HK:=zq (show allTop s.data.toList at_ l=⟨[],0,1⟩ by unfold allTop;rw [if_neg (fun h=>ho ((okArgs_iff s at_ l).1 h))])
  have HO:=zq (lex_open_no s at_ A n cap l w hn hm hs hp ho)
  clear hn hp ho
  rw [HK.out]
  go_enter Tryz.func21,Tryz.ntmps21
  go_wp2_with fail
  refine HO.out.mono ?_;rintro e w1 ⟨rfl,hB1⟩
  go_wp2_with fail
  refine bodyPost_ret (v:=.tuple #[.slice none 0 0,.int .i64 0,.int .i64 1]) (by simp [results,Tryz.results21,go_sem]) rfl ⟨_,rfl,hB1,own_nil _ _ _ _⟩
end Go.Proofs.YtbojljpldcijgaaGreatDoor
namespace Hb
open Go Go.RowKit
def sumN (l:List Tm) (k:Nat):Nat:=((l.take k).map Tm.nodes).sum
theorem sumN_zero (l:List Tm):sumN l 0=0:=rfl
theorem sumN_succ (l:List Tm) (k:Nat) (hk:k<l.length):sumN l (k+1)=sumN l k+l[k].nodes:=by
 unfold sumN
 rw [List.take_succ_eq_append_getElem hk,List.map_append,List.sum_append]
 simp
theorem sumN_le (l:List Tm):∀d k,sumN l k≤sumN l (k+d):=by
 intro d
 induction d with
 | zero=>intro k;exact Nat.le_refl _
 | succ d ih=>
  intro k
  refine Nat.le_trans (ih k) ?_
  rcases Nat.lt_or_ge (k+d) l.length with h | h
  ·rw [show k+(d+1)=(k+d)+1 by omega,sumN_succ l (k+d) h];omega
  ·unfold sumN
   rw [List.take_of_length_le h,List.take_of_length_le (by omega)]
   exact Nat.le_refl _
theorem sumN_all (t:Tm):t.nodes=1+sumN t.args t.args.length:=by
 rw [Tm.nodes_eq];unfold sumN;rw [List.take_length]
structure TBoxT (w0 w:World) (t:Tm) (A:Option Addr) (cap:Nat):Prop where
 bel:Below w0.heap.size w0 w
 lt:w0.heap.size<w.heap.size
 c0:w.cell? ⟨w0.heap.size,0,none⟩=some (.int .i64 t.kind)
 c1:w.cell? ⟨w0.heap.size,1,none⟩=some (.int .i64 t.num)
 c2:w.cell? ⟨w0.heap.size,2,none⟩=some (.string t.name)
 c3:w.cell? ⟨w0.heap.size,3,none⟩=some (.slice A t.args.length cap)
theorem TBoxT.call {w0 w w':World} {t:Tm} {A:Option Addr} {cap:Nat} (h:TBoxT w0 w t A cap) (hB:Below w.heap.size w w'):TBoxT w0 w' t A cap where
 bel:=h.bel.trans (hB.mono (Nat.le_of_lt h.lt))
 lt:=Nat.lt_of_lt_of_le h.lt hB.size
 c0:=(hB.cell (p:=⟨_,_,none⟩) h.lt).trans h.c0
 c1:=(hB.cell (p:=⟨_,_,none⟩) h.lt).trans h.c1
 c2:=(hB.cell (p:=⟨_,_,none⟩) h.lt).trans h.c2
 c3:=(hB.cell (p:=⟨_,_,none⟩) h.lt).trans h.c3
theorem TBoxT.start (w:World) (t:Tm) (A:Option Addr) (cap:Nat) (e:TypeId):TBoxT w (w.alloc (.cells #[.int .i64 t.kind,.int .i64 t.num,.string t.name,.slice A t.args.length cap] e)) t A cap where
 bel:=(Below.refl _ _).alloc (Nat.le_refl _) _
 lt:=by simp
 c0:=World.cell?_alloc_new _ _ _ 0
 c1:=World.cell?_alloc_new _ _ _ 1
 c2:=World.cell?_alloc_new _ _ _ 2
 c3:=World.cell?_alloc_new _ _ _ 3
end Hb
namespace Go.Proofs.YtbojljpldcijgaaGreatDoor
open Go.RowKit Hb
set_option maxRecDepth 100000
set_option maxHeartbeats 3200000 in
theorem ref_count:∀(t:Tm) (A:Option Addr) (cap most:Nat) (w:World),TmsAt w.heap.size w A t.args→1≤most→most≤2001 →
  Calls Tryz.prog 74 #[tmV t A cap,.int .i64 most] w fun e w'=>e=.returned (.int .i64 (min t.nodes most:Nat))∧Below w.heap.size w w':=by
 refine Tm.ind fun t ih=>?_
 intro A cap most w hT h1 h2
 have HX:=zq (TBoxT.start w t A cap 26)
 have HT:=zq hT
 have hm:=hT.len
 unfold maxLen at hm
 have HALL:=zq (sumN_all t)
 have HIH:=zq ih
 clear hT ih
 obtain ⟨L,HL⟩:=lz (t.args.length)
 unfold tmV
 rw [←HL.out] at hm ⊢
 go_enter Tryz.func74,Tryz.ntmps74
 go_wp2_with fail
 go_loopw [5,6] (fun c i wr=>∃k n:Nat,k≤L∧c=.int .i64 n∧i=.int .i64 k∧n=min (1+sumN t.args k) most∧Hid (TBoxT w wr t A cap)) (fun _ i _=>L-(intOf i).toNat)
 case atStart=>exact ⟨0,1,Nat.zero_le _,rfl,rfl,by rw [sumN_zero];omega,by rw [HL.out];exact HX⟩
 case round=>
  obtain ⟨k,n,hk,rfl,rfl,hn,HB⟩:=hrel
  have b3:=HB.out.c3
  rw [←HL.out] at b3
  by_cases hlt:k<L
  ·by_cases hnm:n<most
   ·have hkl:k<t.args.length:=by have:=HL.out;omega
    obtain ⟨b,off,A',cap',rfl,hb,c0,c1,c2,c3,hs⟩:=(HT.out.keep HB.out.bel).get k hkl
    have hss:=hs.mono HB.out.bel.size
    have hC:=zq (HIH.out t.args[k] (List.getElem_mem hkl) A' cap' (most-n) wr hss (by omega) (by omega))
    have hsum:=sumN_succ t.args k hkl
    unfold tmV at hC
    have hmn:((most:Int)-(n:Int))=((most-n:Nat):Int):=by omega
    obtain ⟨q,hq⟩:∃q,q=min t.args[k].nodes (most-n):=⟨_,rfl⟩
    rw [←hq] at hC
    have hq2:n+q=min (1+sumN t.args (k+1)) most:=by rw [hsum];omega
    clear hs hss hq hsum hn
    generalize t.args[k].kind=a0 at *
    generalize t.args[k].num=a1 at *
    generalize t.args[k].name=a2 at *
    generalize t.args[k].args.length=a3 at *
    have HQ:=zq hq2
    clear hq2
    go_wp2_with fail
    refine hC.out.mono ?_;rintro e w1 ⟨rfl,hB1⟩
    have HB1:=zq (HB.out.call hB1)
    have hnq:n+q≤2001:=by have:=HQ.out;omega
    clear b3 c0 c1 c2 c3 hB1
    go_wp2_with fail
    go_roundw
    case rel=>exact ⟨k+1,n+q,by omega,by go_num,by go_num,HQ.out,HB1⟩
    case measure=>simp [intOf] <;> omega
   ·have hend:n=min t.nodes most:=by
     have h3:=sumN_le t.args (t.args.length-k) k
     have h4:=HL.out
     rw [show k+(t.args.length-k)=t.args.length by omega] at h3
     rw [HALL.out];omega
    have HE:=zq hend
    have hbel:=HB.out.bel
    have hnm2:¬(n:Int)<(most:Int):=by omega
    clear hend hn
    go_wp2_with fail
    go_ret
    exact ⟨ret_int (by rw [HE.out]),hbel⟩
  ·have hend:n=min t.nodes most:=by
    have h4:=HL.out
    rw [HALL.out,←h4,hn,show k=L by omega]
   have HE:=zq hend
   have hbel:=HB.out.bel
   clear hend hn
   go_wp2_with fail
   go_ret
   exact ⟨ret_int (by rw [HE.out]),hbel⟩
theorem ref_size (t:Tm) (A:Option Addr) (cap:Nat) (w:World) (hT:TmsAt w.heap.size w A t.args):Calls Tryz.prog 47 #[tmV t A cap] w fun e w'=>e=.returned (.int .i64 (min t.nodes 2001:Nat))∧Below w.heap.size w w':=by
 have HX:=zq (TBoxT.start w t A cap 26)
 have HC:=zq (fun (w1:World) (h:TBoxT w w1 t A cap)=>ref_count t A cap 2001 w1 ((hT.keep h.bel).mono h.bel.size) (by decide) (by decide))
 unfold tmV at *
 clear hT
 generalize min t.nodes 2001=m at *
 generalize t.kind=a0 at *
 generalize t.num=a1 at *
 generalize t.name=a2 at *
 generalize t.args.length=a3 at *
 go_enter Tryz.func47,Tryz.ntmps47
 go_wp2_with fail
 refine (HC.out _ HX.out).mono ?_;rintro e w1 ⟨rfl,hB1⟩
 have hbel:=(HX.out.call hB1).bel
 go_wp2_with fail
 go_ret
 exact ⟨rfl,hbel⟩
set_option maxHeartbeats 3200000 in
theorem ref_node (t:Tm) (A:Option Addr) (cap:Nat) (w:World) (_hm:t.args.length≤maxLen):Calls Tryz.prog 75 #[tmV t A cap] w fun e w'=>e=.returned (.bool (nodeOk t))∧Below w.heap.size w w':=by
 unfold tmV
 go_enter Tryz.func75,Tryz.ntmps75
 go_wp2_with fail
 all_goals go_ret
 all_goals refine ⟨ret_bool ?_,(Below.refl _ _).alloc (Nat.le_refl _) _⟩
 all_goals unfold nodeOk
 all_goals grind
set_option maxHeartbeats 3200000 in
theorem ref_nodes:∀(t:Tm) (A:Option Addr) (cap:Nat) (w:World),TmsAt w.heap.size w A t.args →
  Calls Tryz.prog 48 #[tmV t A cap] w fun e w'=>e=.returned (.bool t.allOk)∧Below w.heap.size w w':=by
 refine Tm.ind fun t ih=>?_
 intro A cap w hT
 have HX:=zq (TBoxT.start w t A cap 26)
 have HT:=zq hT
 have hm:=hT.len
 have HND:=zq (fun w1 (h:TBoxT w w1 t A cap)=>(ref_node t A cap w1 hm).mono fun _ _ hh=>(⟨hh.1,h.call hh.2⟩:_∧TBoxT w _ t A cap))
 unfold maxLen at hm
 have HIH:=zq ih
 have HALL:=zq (Tm.allOk_eq t)
 clear hT ih
 obtain ⟨L,HL⟩:=lz (t.args.length)
 unfold tmV at *
 rw [←HL.out] at hm HND ⊢
 cases hno:nodeOk t
 ·rw [hno] at HND HALL
  clear hno
  go_enter Tryz.func48,Tryz.ntmps48
  go_wp2_with fail
  rw [←HL.out] at HX
  refine (HND.out _ HX.out).mono ?_;rintro e w1 ⟨rfl,hX1⟩
  have hbel:=hX1.bel
  go_wp2_with fail
  go_ret
  exact ⟨ret_bool (by rw [HALL.out];rfl),hbel⟩
 ·rw [hno] at HND HALL
  clear hno
  rw [←HL.out] at HX
  go_enter Tryz.func48,Tryz.ntmps48
  go_wp2_with fail
  refine (HND.out _ HX.out).mono ?_;rintro e w1 ⟨rfl,hX1⟩
  have HX1:=zq hX1
  clear hX1
  go_wp2_with fail
  go_loopw [3] (fun i wr=>∃k:Nat,k≤L∧i=.int .i64 k∧Hid (TBoxT w wr t A cap)∧Hid (∀j (hj:j<t.args.length),j<k→t.args[j].allOk=true)) (fun i _=>L-(intOf i).toNat)
  case atStart=>exact ⟨0,Nat.zero_le _,rfl,HX1,zq fun j _ hj=>absurd hj (by omega)⟩
  case round=>
   obtain ⟨k,hk,rfl,HB,HA⟩:=hrel
   have b3:=HB.out.c3
   rw [←HL.out] at b3
   by_cases hlt:k<L
   ·have hkl:k<t.args.length:=by have:=HL.out;omega
    obtain ⟨b,off,A',cap',rfl,hb,c0,c1,c2,c3,hs⟩:=(HT.out.keep HB.out.bel).get k hkl
    have hC:=zq (HIH.out t.args[k] (List.getElem_mem hkl) A' cap' wr (hs.mono HB.out.bel.size))
    have HNO:Hid (t.args[k].allOk=false→t.allOk=false):=zq fun h=>by
     rw [HALL.out,Bool.true_and,List.all_eq_false]
     exact ⟨_,List.getElem_mem hkl,by rw [h];simp⟩
    have HYES:Hid (t.args[k].allOk=true→∀j (hj:j<t.args.length),j<k+1→t.args[j].allOk=true):=zq fun h j hj hjk=>by
     rcases Nat.lt_or_ge j k with h' | h'
     ·exact HA.out j hj h'
     ·have:j=k:=by omega
      subst this;exact h
    clear hs
    generalize t.args[k].kind=a0 at *
    generalize t.args[k].num=a1 at *
    generalize t.args[k].name=a2 at *
    generalize t.args[k].args.length=a3 at *
    generalize t.args[k].allOk=q at *
    cases q
    ·go_wp2_with fail
     refine hC.out.mono ?_;rintro e w2 ⟨rfl,hB2⟩
     have hbel:=(HB.out.call hB2).bel
     go_wp2_with fail
     go_ret
     exact ⟨ret_bool (HNO.out (by first | rfl | trivial)).symm,hbel⟩
    ·go_wp2_with fail
     refine hC.out.mono ?_;rintro e w2 ⟨rfl,hB2⟩
     have HB2:=zq (HB.out.call hB2)
     go_wp2_with fail
     go_roundw
     case rel=>exact ⟨k+1,by omega,by go_num,HB2,zq (HYES.out (by first | rfl | trivial))⟩
     case measure=>simp [intOf] <;> omega
   ·have HE:Hid (t.allOk=true):=zq (by
     rw [HALL.out,Bool.true_and,List.all_eq_true]
     intro a ha
     obtain ⟨j,hj,rfl⟩:=List.getElem_of_mem ha
     exact HA.out j hj (by have:=HL.out;omega))
    have hbel:=HB.out.bel
    go_wp2_with fail
    go_ret
    exact ⟨ret_bool HE.out.symm,hbel⟩
theorem ref_tvalid (t:Tm) (A:Option Addr) (cap:Nat) (w:World) (hT:TmsAt w.heap.size w A t.args):Calls Tryz.prog 27 #[tmV t A cap] w fun e w'=>e=.returned (.bool (validT t))∧Below w.heap.size w w':=by
 have HX:=zq (TBoxT.start w t A cap 26)
 have HC:=zq (fun (w1:World) (h:TBoxT w w1 t A cap)=>(ref_size t A cap w1 ((hT.keep h.bel).mono h.bel.size)).mono fun _ _ hh=>(⟨hh.1,h.call hh.2⟩:_∧TBoxT w _ t A cap))
 have HN:=zq (fun (w1:World) (h:TBoxT w w1 t A cap)=>(ref_nodes t A cap w1 ((hT.keep h.bel).mono h.bel.size)).mono fun _ _ hh=>(⟨hh.1,h.call hh.2⟩:_∧TBoxT w _ t A cap))
 unfold tmV at *
 clear hT
 by_cases hsz:t.nodes≤2000
 ·have HV:Hid (validT t=t.allOk):=zq (by unfold validT;simp [hsz])
  have hmn:min t.nodes 2001=t.nodes:=by omega
  rw [hmn] at HC
  have b1:decide ((t.nodes:Int)≤2000)=true:=by simp;omega
  go_enter Tryz.func27,Tryz.ntmps27
  go_wp2_with fail
  refine (HC.out _ HX.out).mono ?_;rintro e w1 ⟨rfl,hX1⟩
  have c0:=hX1.c0
  have c1:=hX1.c1
  have c2:=hX1.c2
  have c3:=hX1.c3
  go_wp2_with fail
  refine (HN.out _ hX1).mono ?_;rintro e w2 ⟨rfl,hX2⟩
  have hbel:=hX2.bel
  go_wp2_with fail
  go_ret
  exact ⟨ret_bool HV.out.symm,hbel⟩
 ·have HV:Hid (validT t=false):=zq (by unfold validT;simp [hsz])
  have hmn:min t.nodes 2001=2001:=by omega
  rw [hmn] at HC
  go_enter Tryz.func27,Tryz.ntmps27
  go_wp2_with fail
  refine (HC.out _ HX.out).mono ?_;rintro e w1 ⟨rfl,hX1⟩
  have hbel:=hX1.bel
  go_wp2_with fail
  go_ret
  exact ⟨ret_bool HV.out.symm,hbel⟩
end Go.Proofs.YtbojljpldcijgaaGreatDoor
namespace Hb
open Go Go.RowKit
structure WalkH (w0 w:World) (t:Tm) (A:Option Addr) (cap gl M:Nat):Prop where
 only:Hb.Only gl w0 w
 lt:w0.heap.size<w.heap.size
 b3:w.cell? ⟨w0.heap.size,3,none⟩=some (.slice A t.args.length cap)
 cell:w.cell? ⟨gl,0,none⟩=some (.int .i64 M)
 fr:∀o,w.frozen? ⟨gl,o,none⟩=false
structure LeftN (w0 w:World) (gl:Nat) (M:Nat):Prop where
 only:Hb.Only gl w0 w
 cell:w.cell? ⟨gl,0,none⟩=some (.int .i64 M)
 fr:∀o,w.frozen? ⟨gl,o,none⟩=false
theorem WalkH.left {w0 w:World} {t:Tm} {A:Option Addr} {cap gl M:Nat} (h:WalkH w0 w t A cap gl M):LeftN w0 w gl M:=⟨h.only,h.cell,h.fr⟩
theorem WalkH.call {w0 w w':World} {t:Tm} {A:Option Addr} {cap gl M M':Nat} (h:WalkH w0 w t A cap gl M) (hg:gl<w0.heap.size) (hl:LeftN w w' gl M'):WalkH w0 w' t A cap gl M' where
 only:=h.only.trans hl.only
 lt:=Nat.lt_of_lt_of_le h.lt hl.only.size
 b3:=(hl.only.cell (p:=⟨w0.heap.size,3,none⟩) h.lt (by show w0.heap.size≠gl;omega)).trans h.b3
 cell:=hl.cell
 fr:=hl.fr
theorem WalkH.start (w:World) (t:Tm) (A:Option Addr) (cap gl M LN:Nat) (e:TypeId) (hL:LN=t.args.length) (hgl:gl<w.heap.size) {u:Value} (hc:w.cell? ⟨gl,0,none⟩=some u) (hf:∀o,w.frozen? ⟨gl,o,none⟩=false) :
  WalkH w ((w.setCell ⟨gl,0,none⟩ (.int .i64 M)).alloc (.cells #[.int .i64 t.kind,.int .i64 t.num,.string t.name,.slice A LN cap] e)) t A cap gl M where
 only:=(Hb.Only.set gl 0 w _).trans (Hb.Only.alloc gl _ _)
 lt:=by simp
 b3:=by
  have h:=World.cell?_alloc_new (w.setCell ⟨gl,0,none⟩ (.int .i64 M)) #[.int .i64 t.kind,.int .i64 t.num,.string t.name,.slice A LN cap] e 3
  have hs:(w.setCell ⟨gl,0,none⟩ (.int .i64 M)).heap.size=w.heap.size:=by simp
  rw [hs] at h
  rw [h,hL];rfl
 cell:=by
  have hB:=(Below.refl (w.setCell ⟨gl,0,none⟩ (.int .i64 M)).heap.size (w.setCell ⟨gl,0,none⟩ (.int .i64 M))).alloc (Nat.le_refl _) (.cells #[.int .i64 t.kind,.int .i64 t.num,.string t.name,.slice A LN cap] e)
  rw [hB.cell (p:=⟨gl,0,none⟩) (by simpa using hgl)]
  exact World.cell?_setCell_same _ _ _ hc
 fr:=fun o=>by
  have hB:=(Below.refl (w.setCell ⟨gl,0,none⟩ (.int .i64 M)).heap.size (w.setCell ⟨gl,0,none⟩ (.int .i64 M))).alloc (Nat.le_refl _) (.cells #[.int .i64 t.kind,.int .i64 t.num,.string t.name,.slice A LN cap] e)
  rw [hB.frozen (p:=⟨gl,o,none⟩) (by simpa using hgl),World.frozen?_setCell]
  exact hf o
structure SizeH (w W:World) (F:Value):Prop where
 bel:Below w.heap.size w W
 lt1:w.heap.size+1<W.heap.size
 lt2:w.heap.size+1+1<W.heap.size
 left:LeftN W W (w.heap.size+1) 2001
 fn:W.cell? ⟨w.heap.size+1+1,0,none⟩=some F
theorem size_start (w:World) (o:Obj) (t1 t2:TypeId) (F:Value):SizeH w (((w.alloc o).alloc (.cells #[.int .i64 2001] t1)).alloc (.cells #[F] t2)) F where
 bel:=(((Below.refl _ _).alloc (Nat.le_refl _) _).alloc (by simp) _).alloc (by simp;omega) _
 lt1:=by simp
 lt2:=by simp
 left:=by
  have h1:=World.cell?_alloc_new (w.alloc o) #[.int .i64 2001] t1 0
  have hs:(w.alloc o).heap.size=w.heap.size+1:=by simp
  rw [hs] at h1
  have hB:=(Below.refl ((w.alloc o).alloc (.cells #[.int .i64 2001] t1)).heap.size ((w.alloc o).alloc (.cells #[.int .i64 2001] t1))).alloc (Nat.le_refl _) (.cells #[F] t2)
  refine ⟨Hb.Only.refl _ _,(hB.cell (p:=⟨w.heap.size+1,0,none⟩) (by simp)).trans h1,fun k=>?_⟩
  rw [hB.frozen (p:=⟨w.heap.size+1,k,none⟩) (by simp)]
  exact World.frozen?_alloc_at (w:=w.alloc o) #[.int .i64 2001] t1 (w.heap.size+1) k hs.symm
 fn:=by
  have h1:=World.cell?_alloc_new ((w.alloc o).alloc (.cells #[.int .i64 2001] t1)) #[F] t2 0
  have hs:((w.alloc o).alloc (.cells #[.int .i64 2001] t1)).heap.size=w.heap.size+1+1:=by simp
  rw [hs] at h1
  exact h1
end Hb
namespace Go.Proofs.YtbojljpldcijgaaGreatDoor
open Go.RowKit Hb
set_option maxRecDepth 100000
def walkF (gl gw:Nat):Value:=.func (.func 68) #[] #[.pointer (some ⟨gl,0,none⟩),.pointer (some ⟨gw,0,none⟩)]
set_option maxHeartbeats 3200000 in
theorem size_walk:∀(t:Tm) (A:Option Addr) (cap B gl gw L:Nat) (w:World),TmsAt B w A t.args→B≤gl→B≤gw→gl≠gw→gl<w.heap.size→gw<w.heap.size→1≤L→L≤2001→LeftN w w gl L→w.cell? ⟨gw,0,none⟩=some (walkF gl gw) →
  Calls Tryz.prog 68 #[tmV t A cap,.pointer (some ⟨gl,0,none⟩),.pointer (some ⟨gw,0,none⟩)] w fun e w'=>e=.returned (.tuple #[])∧LeftN w w' gl (L-t.nodes):=by
 refine Tm.ind fun t ih=>?_
 intro A cap B gl gw L w hT hBl hBw hne hgl hgw h1 h2 hL hgc
 have hm:=hT.len
 unfold maxLen at hm
 have HT:=zq hT
 have HALL:=zq (sumN_all t)
 have HIH:=zq ih
 have gl0:=hL.cell
 have glf:=hL.fr
 have glf0:=glf 0
 have hl1:(L:Int)-1=((L-1:Nat):Int):=by omega
 obtain ⟨LN,HL⟩:=lz (t.args.length)
 clear hT ih
 unfold tmV
 rw [←HL.out] at hm ⊢
 have HWS:=zq (WalkH.start w t A cap gl (L-1) LN 26 HL.out hgl gl0 glf)
 have HGW:=zq hgc
 go_enter Tryz.func68,Tryz.ntmps68
 go_wp2_with fail
 clear hL hgc gl0 glf glf0 hl1
 go_loopw [4] (fun i wr=>∃k M:Nat,k≤LN∧i=.int .i64 k∧M=L-(1+sumN t.args k)∧Hid (WalkH w wr t A cap gl M)) (fun i _=>LN-(intOf i).toNat)
 case atStart=>exact ⟨0,L-1,Nat.zero_le _,rfl,by rw [sumN_zero],HWS⟩
 case round=>
  clear HWS
  obtain ⟨k,M,hk,rfl,hM,HB⟩:=hrel
  have b3:=HB.out.b3
  rw [←HL.out] at b3
  have gl0:=HB.out.cell
  by_cases hlt:k<LN
  ·by_cases hm0:0<M
   ·have hkl:k<t.args.length:=by have:=HL.out;omega
    have hBw':Below B w wr:=HB.out.only.below hBl (by omega)
    obtain ⟨b,off,A',cap',rfl,hb,c0,c1,c2,c3,hs⟩:=(HT.out.keep hBw').get k hkl
    have gwc:wr.cell? ⟨gw,0,none⟩=some (walkF gl gw):=(HB.out.only.cell (p:=⟨gw,0,none⟩) hgw (fun h=>hne h.symm)).trans HGW.out
    have hsz:=HB.out.only.size
    have HC:=zq (HIH.out t.args[k] (List.getElem_mem hkl) A' cap' B gl gw M wr.drew (hs.keep (Below.refl B wr).drew) hBl hBw hne (by show gl<wr.heap.size;omega) (by show gw<wr.heap.size;omega) hm0 (by omega) ⟨Hb.Only.refl _ _,gl0,HB.out.fr⟩ gwc)
    have hsum:=sumN_succ t.args k hkl
    have HQ:Hid (M-t.args[k].nodes=L-(1+sumN t.args (k+1))):=zq (by rw [hsum];omega)
    unfold tmV at HC
    unfold walkF at gwc
    clear hs hsum hM
    have hk0:(0:Int)≤(k:Int):=by omega
    have hk1:(k:Int)<(LN:Int):=by omega
    generalize t.args[k].kind=a0 at *
    generalize t.args[k].num=a1 at *
    generalize t.args[k].name=a2 at *
    generalize t.args[k].args.length=a3 at *
    generalize t.args[k].nodes=q at *
    go_wp2_with fail
    go_region_with (first | (go_at_call 68;(with_reducible refine HC.out.mono ?_);rintro e w2 ⟨rfl,hL2⟩))
    all_goals
     have HBn:=zq (HB.out.call hgl (⟨(Hb.Only.of (Below.refl wr.heap.size wr).drew).trans hL2.only,hL2.cell,hL2.fr⟩:LeftN wr w2 gl (M-q)))
     clear b3 gl0 c0 c1 c2 c3 gwc hL2
     go_wp2_with fail
     go_roundw
     case rel=>exact ⟨k+1,M-q,by omega,by go_num,HQ.out,HBn⟩
     case measure=>simp [intOf] <;> omega
   ·have hM0:M=0:=by omega
    subst hM0
    have h3:=sumN_le t.args (t.args.length-k) k
    have h4:=HL.out
    rw [show k+(t.args.length-k)=t.args.length by omega] at h3
    have hend:L-t.nodes=0:=by rw [HALL.out];omega
    have HE:=zq hend
    have hlf:=HB.out.left
    clear hend h3 h4 hM
    go_wp2_with fail
    refine bodyPost_end (v:=.tuple #[]) (by simp [results,Tryz.results68,go_sem]) rfl ⟨rfl,by rw [HE.out];exact hlf⟩
  ·have hend:M=L-t.nodes:=by
    have h4:=HL.out
    rw [HALL.out,←h4,hM,show k=LN by omega]
   have HE:=zq hend
   have hlf:=HB.out.left
   clear hend hM
   go_wp2_with fail
   refine bodyPost_end (v:=.tuple #[]) (by simp [results,Tryz.results68,go_sem]) rfl ⟨rfl,by rw [←HE.out];exact hlf⟩
theorem size_left (t:Tm) (A:Option Addr) (cap:Nat) (w:World) (hT:TmsAt w.heap.size w A t.args):Calls Tryz.prog 43 #[tmV t A cap] w fun e w'=>e=.returned (.int .i64 (min t.nodes 2001:Nat))∧Below w.heap.size w w':=by
 have HS:=zq (fun (o:Obj)=>size_start w o 3 121 (walkF (w.heap.size+1) (w.heap.size+1+1)))
 have HW:=zq (fun (o:Obj)=>size_walk t A cap w.heap.size (w.heap.size+1) (w.heap.size+1+1) 2001 _ (hT.keep (HS.out o).bel) (by omega) (by omega) (by omega) (HS.out o).lt1 (HS.out o).lt2 (by decide) (by decide) (HS.out o).left (HS.out o).fn)
 clear hT
 have hmin:(2001:Int)-((2001-t.nodes:Nat):Int)=((min t.nodes 2001:Nat):Int):=by omega
 have HMIN:=zq hmin
 clear hmin
 unfold tmV walkF at *
 generalize t.kind=a0 at *
 generalize t.num=a1 at *
 generalize t.name=a2 at *
 generalize t.args.length=a3 at *
 go_enter Tryz.func43,Tryz.ntmps43
 go_wp2_with fail
 refine (HW.out _).mono ?_;rintro e w1 ⟨rfl,hL1⟩
 have c0:=hL1.cell
 have hbel:=(HS.out (.cells #[.int .i64 a0,.int .i64 a1,.string a2,.slice A a3 cap] 26)).bel.trans (hL1.only.below (by omega) (HS.out (.cells #[.int .i64 a0,.int .i64 a1,.string a2,.slice A a3 cap] 26)).bel.size)
 have hr0:(0:Int)≤((2001-t.nodes:Nat):Int):=by omega
 have hr1:((2001-t.nodes:Nat):Int)≤2001:=by omega
 go_wp2_with fail
 go_ret
 exact ⟨ret_int (by rw [←HMIN.out]),hbel⟩
end Go.Proofs.YtbojljpldcijgaaGreatDoor
namespace Hb
open Go Go.RowKit
def okTo (t:Tm) (k:Nat):Bool:=nodeOk t&&(t.args.take k).all Tm.allOk
theorem okTo_zero (t:Tm):okTo t 0=nodeOk t:=by unfold okTo;simp
theorem okTo_succ (t:Tm) (k:Nat) (h:k<t.args.length):okTo t (k+1)=(okTo t k&&t.args[k].allOk):=by
 unfold okTo;rw [List.take_succ_eq_append_getElem h,List.all_append,Bool.and_assoc];simp
theorem okTo_end (t:Tm) (k:Nat) (h:t.args.length≤k):okTo t k=t.allOk:=by
 rw [Tm.allOk_eq];unfold okTo;rw [List.take_of_length_le h]
theorem okTo_no (t:Tm) (k:Nat) (h:okTo t k=false):t.allOk=false:=by
 rw [Tm.allOk_eq]
 unfold okTo at h
 cases h1:nodeOk t
 ·rfl
 ·rw [h1,Bool.true_and] at h
  rw [Bool.true_and,List.all_eq_false] at *
  obtain ⟨x,hx,hx2⟩:=h
  exact ⟨x,List.mem_of_mem_take hx,hx2⟩
end Hb
namespace Go.Proofs.YtbojljpldcijgaaGreatDoor
open Go.RowKit Hb
set_option maxRecDepth 100000
set_option maxHeartbeats 6400000 in
theorem fits_all:∀(t:Tm) (A:Option Addr) (cap:Nat) (w:World),TmsAt w.heap.size w A t.args →
  Calls Tryz.prog 44 #[tmV t A cap] w fun e w'=>e=.returned (.bool t.allOk)∧Below w.heap.size w w':=by
 refine Tm.ind fun t ih=>?_
 intro A cap w hT
 have HX:=zq (TBoxT.start w t A cap 26)
 have HT:=zq hT
 have hm:=hT.len
 unfold maxLen at hm
 have HIH:=zq ih
 have H0:=zq (okTo_zero t)
 clear hT ih
 obtain ⟨L,HL⟩:=lz (t.args.length)
 unfold tmV at *
 rw [←HL.out] at hm ⊢ HX
 go_enter Tryz.func44,Tryz.ntmps44
 go_upto_block 0 with fail
 go_cut [0,3] from 4 (fun p q wc=>p=.agg #[.int .i64 t.kind,.int .i64 t.num,.string t.name,.slice A L cap]∧q=.bool (nodeOk t)∧wc=w.alloc (.cells #[.int .i64 t.kind,.int .i64 t.num,.string t.name,.slice A L cap] 26))
 case first=>
  go_wp2_with fail
  all_goals
   go_meet
   case rel=>
    refine ⟨?_,?_,?_⟩
    ·first | rfl | simp only [*]
    ·unfold nodeOk
     rw [←HL.out]
     congr 1
     grind
    ·first | rfl | simp only [*]
 case rest=>
  obtain ⟨rfl,rfl,rfl⟩:=hcut
  go_wp2_with fail
  go_loopw [3,4] (fun b i wr=>∃k:Nat,∃q:Bool,k≤L∧b=.bool q∧i=.int .i64 k∧Hid (TBoxT w wr t A cap)∧Hid (q=okTo t k)) (fun b i _=>L-(intOf i).toNat)
  case atStart=>exact ⟨0,_,Nat.zero_le _,rfl,rfl,HX,zq H0.out.symm⟩
  case round=>
   obtain ⟨k,q,hk,rfl,rfl,HB,HQ⟩:=hrel
   have b3:=HB.out.c3
   rw [←HL.out] at b3
   cases q
   ·have HE:=zq (okTo_no t k HQ.out.symm)
    have hbel:=HB.out.bel
    by_cases hlt:k<L
    all_goals
     go_wp2_with fail
     go_ret
     exact ⟨ret_bool HE.out.symm,hbel⟩
   ·by_cases hlt:k<L
    ·have hkl:k<t.args.length:=by have:=HL.out;omega
     obtain ⟨b,off,A',cap',rfl,hb,c0,c1,c2,c3,hs⟩:=(HT.out.keep HB.out.bel).get k hkl
     have hC:=zq (HIH.out t.args[k] (List.getElem_mem hkl) A' cap' wr (hs.mono HB.out.bel.size))
     have HN:=zq (okTo_succ t k hkl)
     rw [←HQ.out,Bool.true_and] at HN
     clear hs
     generalize t.args[k].kind=a0 at *
     generalize t.args[k].num=a1 at *
     generalize t.args[k].name=a2 at *
     generalize t.args[k].args.length=a3 at *
     generalize t.args[k].allOk=q at *
     go_wp2_with fail
     refine hC.out.mono ?_;rintro e w2 ⟨rfl,hB2⟩
     have HB2:=zq (HB.out.call hB2)
     go_wp2_with fail
     go_roundw
     case rel=>first | exact ⟨k+1,by omega,q,rfl,by go_num,HB2,zq HN.out.symm⟩ | exact ⟨k+1,q,by omega,rfl,by go_num,HB2,zq HN.out.symm⟩ | exact ⟨k+1,by omega,by go_num,HB2,zq HN.out.symm⟩ 
     case measure=>simp [intOf] <;> omega
    ·have HE:=zq (okTo_end t k (by have:=HL.out;omega))
     rw [←HQ.out] at HE
     have hbel:=HB.out.bel
     go_wp2_with fail
     go_ret
     exact ⟨ret_bool HE.out,hbel⟩
theorem t_valid (t:Tm) (A:Option Addr) (cap:Nat) (w:World) (hT:TmsAt w.heap.size w A t.args):Calls Tryz.prog 23 #[tmV t A cap] w fun e w'=>e=.returned (.bool (validT t))∧Below w.heap.size w w':=by
 have HX:=zq (TBoxT.start w t A cap 26)
 have HC:=zq (fun (w1:World) (h:TBoxT w w1 t A cap)=>(size_left t A cap w1 ((hT.keep h.bel).mono h.bel.size)).mono fun _ _ hh=>(⟨hh.1,h.call hh.2⟩:_∧TBoxT w _ t A cap))
 have HN:=zq (fun (w1:World) (h:TBoxT w w1 t A cap)=>(fits_all t A cap w1 ((hT.keep h.bel).mono h.bel.size)).mono fun _ _ hh=>(⟨hh.1,h.call hh.2⟩:_∧TBoxT w _ t A cap))
 unfold tmV at *
 clear hT
 by_cases hsz:t.nodes≤2000
 ·have HV:Hid (validT t=t.allOk):=zq (by unfold validT;simp [hsz])
  have hmn:min t.nodes 2001=t.nodes:=by omega
  rw [hmn] at HC
  have b1:decide ((t.nodes:Int)≤2000)=true:=by simp;omega
  go_enter Tryz.func23,Tryz.ntmps23
  go_wp2_with fail
  refine (HC.out _ HX.out).mono ?_;rintro e w1 ⟨rfl,hX1⟩
  have c0:=hX1.c0
  have c1:=hX1.c1
  have c2:=hX1.c2
  have c3:=hX1.c3
  go_wp2_with fail
  refine (HN.out _ hX1).mono ?_;rintro e w2 ⟨rfl,hX2⟩
  have hbel:=hX2.bel
  go_wp2_with fail
  go_ret
  exact ⟨ret_bool HV.out.symm,hbel⟩
 ·have HV:Hid (validT t=false):=zq (by unfold validT;simp [hsz])
  have hmn:min t.nodes 2001=2001:=by omega
  rw [hmn] at HC
  go_enter Tryz.func23,Tryz.ntmps23
  go_wp2_with fail
  refine (HC.out _ HX.out).mono ?_;rintro e w1 ⟨rfl,hX1⟩
  have hbel:=hX1.bel
  go_wp2_with fail
  go_ret
  exact ⟨ret_bool HV.out.symm,hbel⟩
end Go.Proofs.YtbojljpldcijgaaGreatDoor
namespace Hb
open Go Go.RowKit
def tm0:Tm:=.mk 0 0 ⟨#[]⟩ []
def s1 (c:UInt8):ByteArray:=⟨#[c]⟩
def has (T:List OpR) (s:ByteArray) (c:Int):Bool:=(findR T s c).isSome
def hd (l:List ByteArray):ByteArray:=l.headD ⟨#[]⟩
end Hb
