/- Parts of the proof. -/
import Derived.Test.YtbojljpldcijgaaGreatH01
import Derived.Test.YtbojljpldcijgaaGreatH04
import Derived.Test.YtbojljpldcijgaaGreatH02
import Derived.RegionTactic
import Derived.BigRegion
namespace Go.Proofs.YtbojljpldcijgaaGreat
open Go.RowKit Hb
set_option maxRecDepth 100000
set_option maxHeartbeats 800000 in
theorem lex_next_0 (b:Nat) (s:ByteArray) (tab:Int→Int) (a:Nat) (at0:Int) (w:World) (h:Lex w b s tab at0) (ha:a≤s.size) (e1:¬(a+skipN ((cvt tab s.data.toList).drop a))=s.size) (e3:¬rawAt (cvt tab s.data.toList) (a+skipN ((cvt tab s.data.toList).drop a))=47) (hc:cls (rawAt (cvt tab s.data.toList) (a+skipN ((cvt tab s.data.toList).drop a)))=0) :
  Calls Tryz.prog 54 #[.pointer (some ⟨b,0,none⟩),.int .i64 a] w fun e w'=>GivesN (nextR (cvt tab s.data.toList) s.data.toList a) e∧Only b w w'∧∃q,Lex w' b s tab q:=by
 have H0:=NHeld.start h
 have hlt:=h.lt
 have hsz:=h.sz
 clear h
 have hlen:Hid ((cvt tab s.data.toList).length=s.size):=by show _=_;rw [cvt_len];simp
 have HRl:Hid (s.data.toList.length=s.size):=size_data s
 have hsk:=skipN_le ((cvt tab s.data.toList).drop a)
 rw [List.length_drop,hlen.out] at hsk
 generalize hM:cvt tab s.data.toList=M at *
 have HM:=zq hM
 clear hM
 generalize hS:skipN (M.drop a)=S at *
 have HS:=zq hS
 clear hS
 have b1:((a:Int)+S==(s.size:Int))=false:=by simp;omega
 have HKN:Hid (∀e,¬e=0→(tokR M s.data.toList (a+S)).err=e→Hid (nextR M s.data.toList a=⟨errR e,false,a+S⟩)):=fun e he h=>by
  show nextR M s.data.toList a=_
  unfold nextR;simp only [HS.out];rw [if_neg (by rw [HRl.out];exact e1),if_neg (by rw [h];exact he),h];simp
 have HKY:Hid ((tokR M s.data.toList (a+S)).err=0→Hid (nextR M s.data.toList a=⟨tokR M s.data.toList (a+S),decide (a<a+S),0⟩)):=fun h=>by
  show nextR M s.data.toList a=_
  unfold nextR;simp only [HS.out];rw [if_neg (by rw [HRl.out];exact e1),if_pos h]
 have hp:a+S<s.size:=by omega
 have he1:=zq e1
 clear e1
 have b2:(rawAt M (a+S)==47)=false:=by simp [e3]
 have HC:=zq hc
 have HT:=zq (show tokR M s.data.toList (a+S)=errR 7 by unfold tokR;rw [if_neg (fun h=>e3 h.1),hc];rfl)
 clear e3 hc
 go_enter Tryz.func54,Tryz.ntmps54
 go_wp2_with fail
 refine (lex_skip _ _ _ _ _ _ H0.lex (by omega)).mono ?_;rintro e w1 ⟨rfl,hB1⟩;rw [Int.toNat_natCast,HM.out,HS.out]
 have H1:=NHeld.call hB1 H0.lt H0
 have c1:=H1.lex.ca
 have f1:=H1.lex.fr 257
 have hl1:=H1.lex.lt
 have H2:=H1.setAt (a+S)
 clear hB1 H0 H1
 go_wp2_with fail
 generalize hw2:w1.setCell ⟨b,257,none⟩ (.int .i64 ((a:Int)+S))=w2 at *
 clear hw2 c1 f1 hl1
 have c2:=H2.lex.ca
 have d2:=H2.lex.c0
 go_quiet (fail)
 have H3:=NHeld.call (bl_drewN (Below.refl w2.heap.size w2) nq) H2.lt H2
 clear H2 c2 d2
 generalize hw3:w2.drewN nq=w3 at *
 clear hw3
 have c3:=H3.lex.ca
 obtain ⟨t6,v0,v1,v2,v3,v4,v5,t0,t1,t2,t3,t4,t5⟩:=H3.tok
 have hl3:=H3.lt
 have hb3:=H3.lex.lt
 have H4:=fun o=>NHeld.call ((Below.refl w3.heap.size w3).alloc (Nat.le_refl _) o) H3.lt H3
 go_wp2_with fail
 refine (lex_char _ _ _ _ _ _ (H4 _).lex (by omega)).mono ?_;rintro e w6 ⟨rfl,hB6⟩;rw [show ((a:Int)+S).toNat=a+S by omega,HM.out]
 have H6:=NHeld.call hB6 (H4 _).lt (H4 _)
 have c6:=H6.lex.ca
 have r6:=hB6
 go_wp2_with fail
 refine (lex_char _ _ _ _ _ _ H6.lex (by omega)).mono ?_;rintro e w7 ⟨rfl,hB7⟩;rw [show ((a:Int)+S).toNat=a+S by omega,HM.out]
 have H7:=NHeld.call hB7 H6.lt H6
 have r7:=r6.trans (hB7.mono r6.size)
 go_wp2_with fail
 refine (chars_class _ _).mono ?_;rintro e w8 ⟨rfl,hB8⟩;rw [HC.out]
 have H8:=NHeld.call hB8 H7.lt H7
 have r8:=r7.trans (hB8.mono r7.size)
 have fk:=(r8.cell (p:=⟨w3.heap.size,0,none⟩) (by simp)).trans (reader_cell0 w3)
 clear hB7 hB8 H7 r7 r6 H6 c6 H3 H4 c3 hb3 t0 t1 t2 t3 t4 t5 t6 r8
 go_wp2_with fail
 refine (lex_none b _).mono ?_;rintro e w9 ⟨he,hB9⟩
 have H9:=NHeld.call hB9 H8.lt H8
 rw [←HT.out] at he
 generalize hr:tokR M s.data.toList (a+S)=r at *
 have HR:=zq hr
 clear hr
 unfold Gives tokTup at he;subst he
 have c9:=H9.lex.ca
 have hl9:=H9.lt
 have hb9:=H9.lex.lt
 obtain ⟨u6,x0,x1,x2,x3,x4,x5,u0,u1,u2,u3,u4,u5⟩:=H9.tok
 clear H8 hB9 fk
 by_cases he0:r.err=0
 ·have z1:(r.err != 0)=false:=by simp [he0]
  have HK:=HKY.out he0
  have HE0:=zq he0
  clear he0
  go_wp2_with fail
  have hdec:Hid (decide ((a:Int)<(a:Int)+S)=decide (a<a+S)):=by show _=_;rw [decide_eq_decide];omega
  refine bodyPost_ret (v:=nxtTup ⟨r,decide ((a:Int)<(a:Int)+S),0⟩) ?_ rfl ⟨?_,only_sets_alloc H9.only (Nat.le_refl _) _ _ _ _ _ _ _,_,lex_sets_alloc H9.lex (by have:=H9.blt;omega) _ _ _ _ _ _ _⟩
  ·simp [nxtTup,results,Tryz.results54,go_sem,u0,u1,u2,u3,u4,u5,HE0.out,hl9]
  ·rw [HK.out,←hdec.out];rfl
 ·have z1:(r.err != 0)=true:=by simp [he0]
  have HK:=HKN.out r.err he0 rfl
  clear he0
  go_wp2_with fail
  go_region
  go_wp2_with fail
  refine bodyPost_ret (v:=nxtTup ⟨errR r.err,false,(a:Int)+S⟩) ?_ rfl ⟨?_,(only_sets_alloc H9.only (Nat.le_refl _) _ _ _ _ _ _ _).drew,_,(lex_sets_alloc H9.lex (by have:=H9.blt;omega) _ _ _ _ _ _ _).drewN 1⟩
  ·simp [nxtTup,errR,results,Tryz.results54,go_sem,u0,u1,u2,u3,u4,u5,hl9]
  ·rw [HK.out];rfl
set_option maxHeartbeats 800000 in
theorem lex_next_1 (b:Nat) (s:ByteArray) (tab:Int→Int) (a:Nat) (at0:Int) (w:World) (h:Lex w b s tab at0) (ha:a≤s.size) (e1:¬(a+skipN ((cvt tab s.data.toList).drop a))=s.size) (e3:¬rawAt (cvt tab s.data.toList) (a+skipN ((cvt tab s.data.toList).drop a))=47) (hc:cls (rawAt (cvt tab s.data.toList) (a+skipN ((cvt tab s.data.toList).drop a)))=1) :
  Calls Tryz.prog 54 #[.pointer (some ⟨b,0,none⟩),.int .i64 a] w fun e w'=>GivesN (nextR (cvt tab s.data.toList) s.data.toList a) e∧Only b w w'∧∃q,Lex w' b s tab q:=by
 have H0:=NHeld.start h
 have hlt:=h.lt
 have hsz:=h.sz
 clear h
 have hlen:Hid ((cvt tab s.data.toList).length=s.size):=by show _=_;rw [cvt_len];simp
 have HRl:Hid (s.data.toList.length=s.size):=size_data s
 have hsk:=skipN_le ((cvt tab s.data.toList).drop a)
 rw [List.length_drop,hlen.out] at hsk
 generalize hM:cvt tab s.data.toList=M at *
 have HM:=zq hM
 clear hM
 generalize hS:skipN (M.drop a)=S at *
 have HS:=zq hS
 clear hS
 have b1:((a:Int)+S==(s.size:Int))=false:=by simp;omega
 have HKN:Hid (∀e,¬e=0→(tokR M s.data.toList (a+S)).err=e→Hid (nextR M s.data.toList a=⟨errR e,false,a+S⟩)):=fun e he h=>by
  show nextR M s.data.toList a=_
  unfold nextR;simp only [HS.out];rw [if_neg (by rw [HRl.out];exact e1),if_neg (by rw [h];exact he),h];simp
 have HKY:Hid ((tokR M s.data.toList (a+S)).err=0→Hid (nextR M s.data.toList a=⟨tokR M s.data.toList (a+S),decide (a<a+S),0⟩)):=fun h=>by
  show nextR M s.data.toList a=_
  unfold nextR;simp only [HS.out];rw [if_neg (by rw [HRl.out];exact e1),if_pos h]
 have hp:a+S<s.size:=by omega
 have he1:=zq e1
 clear e1
 have b2:(rawAt M (a+S)==47)=false:=by simp [e3]
 have HC:=zq hc
 have HT:=zq (show tokR M s.data.toList (a+S)=errR 7 by unfold tokR;rw [if_neg (fun h=>e3 h.1),hc];rfl)
 clear e3 hc
 go_enter Tryz.func54,Tryz.ntmps54
 go_wp2_with fail
 refine (lex_skip _ _ _ _ _ _ H0.lex (by omega)).mono ?_;rintro e w1 ⟨rfl,hB1⟩;rw [Int.toNat_natCast,HM.out,HS.out]
 have H1:=NHeld.call hB1 H0.lt H0
 have c1:=H1.lex.ca
 have f1:=H1.lex.fr 257
 have hl1:=H1.lex.lt
 have H2:=H1.setAt (a+S)
 clear hB1 H0 H1
 go_wp2_with fail
 generalize hw2:w1.setCell ⟨b,257,none⟩ (.int .i64 ((a:Int)+S))=w2 at *
 clear hw2 c1 f1 hl1
 have c2:=H2.lex.ca
 have d2:=H2.lex.c0
 go_quiet (fail)
 have H3:=NHeld.call (bl_drewN (Below.refl w2.heap.size w2) nq) H2.lt H2
 clear H2 c2 d2
 generalize hw3:w2.drewN nq=w3 at *
 clear hw3
 have c3:=H3.lex.ca
 obtain ⟨t6,v0,v1,v2,v3,v4,v5,t0,t1,t2,t3,t4,t5⟩:=H3.tok
 have hl3:=H3.lt
 have hb3:=H3.lex.lt
 have H4:=fun o=>NHeld.call ((Below.refl w3.heap.size w3).alloc (Nat.le_refl _) o) H3.lt H3
 go_wp2_with fail
 refine (lex_char _ _ _ _ _ _ (H4 _).lex (by omega)).mono ?_;rintro e w6 ⟨rfl,hB6⟩;rw [show ((a:Int)+S).toNat=a+S by omega,HM.out]
 have H6:=NHeld.call hB6 (H4 _).lt (H4 _)
 have c6:=H6.lex.ca
 have r6:=hB6
 go_wp2_with fail
 refine (lex_char _ _ _ _ _ _ H6.lex (by omega)).mono ?_;rintro e w7 ⟨rfl,hB7⟩;rw [show ((a:Int)+S).toNat=a+S by omega,HM.out]
 have H7:=NHeld.call hB7 H6.lt H6
 have r7:=r6.trans (hB7.mono r6.size)
 go_wp2_with fail
 refine (chars_class _ _).mono ?_;rintro e w8 ⟨rfl,hB8⟩;rw [HC.out]
 have H8:=NHeld.call hB8 H7.lt H7
 have r8:=r7.trans (hB8.mono r7.size)
 have fk:=(r8.cell (p:=⟨w3.heap.size,1,none⟩) (by simp)).trans (reader_cell1 w3)
 clear hB7 hB8 H7 r7 r6 H6 c6 H3 H4 c3 hb3 t0 t1 t2 t3 t4 t5 t6 r8
 go_wp2_with fail
 refine (lex_none b _).mono ?_;rintro e w9 ⟨he,hB9⟩
 have H9:=NHeld.call hB9 H8.lt H8
 rw [←HT.out] at he
 generalize hr:tokR M s.data.toList (a+S)=r at *
 have HR:=zq hr
 clear hr
 unfold Gives tokTup at he;subst he
 have c9:=H9.lex.ca
 have hl9:=H9.lt
 have hb9:=H9.lex.lt
 obtain ⟨u6,x0,x1,x2,x3,x4,x5,u0,u1,u2,u3,u4,u5⟩:=H9.tok
 clear H8 hB9 fk
 by_cases he0:r.err=0
 ·have z1:(r.err != 0)=false:=by simp [he0]
  have HK:=HKY.out he0
  have HE0:=zq he0
  clear he0
  go_wp2_with fail
  have hdec:Hid (decide ((a:Int)<(a:Int)+S)=decide (a<a+S)):=by show _=_;rw [decide_eq_decide];omega
  refine bodyPost_ret (v:=nxtTup ⟨r,decide ((a:Int)<(a:Int)+S),0⟩) ?_ rfl ⟨?_,only_sets_alloc H9.only (Nat.le_refl _) _ _ _ _ _ _ _,_,lex_sets_alloc H9.lex (by have:=H9.blt;omega) _ _ _ _ _ _ _⟩
  ·simp [nxtTup,results,Tryz.results54,go_sem,u0,u1,u2,u3,u4,u5,HE0.out,hl9]
  ·rw [HK.out,←hdec.out];rfl
 ·have z1:(r.err != 0)=true:=by simp [he0]
  have HK:=HKN.out r.err he0 rfl
  clear he0
  go_wp2_with fail
  go_region
  go_wp2_with fail
  refine bodyPost_ret (v:=nxtTup ⟨errR r.err,false,(a:Int)+S⟩) ?_ rfl ⟨?_,(only_sets_alloc H9.only (Nat.le_refl _) _ _ _ _ _ _ _).drew,_,(lex_sets_alloc H9.lex (by have:=H9.blt;omega) _ _ _ _ _ _ _).drewN 1⟩
  ·simp [nxtTup,errR,results,Tryz.results54,go_sem,u0,u1,u2,u3,u4,u5,hl9]
  ·rw [HK.out];rfl
set_option maxHeartbeats 800000 in
theorem lex_next_8 (b:Nat) (s:ByteArray) (tab:Int→Int) (a:Nat) (at0:Int) (w:World) (h:Lex w b s tab at0) (ha:a≤s.size) (e1:¬(a+skipN ((cvt tab s.data.toList).drop a))=s.size) (e3:¬rawAt (cvt tab s.data.toList) (a+skipN ((cvt tab s.data.toList).drop a))=47) (hc:cls (rawAt (cvt tab s.data.toList) (a+skipN ((cvt tab s.data.toList).drop a)))=8) :
  Calls Tryz.prog 54 #[.pointer (some ⟨b,0,none⟩),.int .i64 a] w fun e w'=>GivesN (nextR (cvt tab s.data.toList) s.data.toList a) e∧Only b w w'∧∃q,Lex w' b s tab q:=by
 have H0:=NHeld.start h
 have hlt:=h.lt
 have hsz:=h.sz
 clear h
 have hlen:Hid ((cvt tab s.data.toList).length=s.size):=by show _=_;rw [cvt_len];simp
 have HRl:Hid (s.data.toList.length=s.size):=size_data s
 have hsk:=skipN_le ((cvt tab s.data.toList).drop a)
 rw [List.length_drop,hlen.out] at hsk
 generalize hM:cvt tab s.data.toList=M at *
 have HM:=zq hM
 clear hM
 generalize hS:skipN (M.drop a)=S at *
 have HS:=zq hS
 clear hS
 have b1:((a:Int)+S==(s.size:Int))=false:=by simp;omega
 have HKN:Hid (∀e,¬e=0→(tokR M s.data.toList (a+S)).err=e→Hid (nextR M s.data.toList a=⟨errR e,false,a+S⟩)):=fun e he h=>by
  show nextR M s.data.toList a=_
  unfold nextR;simp only [HS.out];rw [if_neg (by rw [HRl.out];exact e1),if_neg (by rw [h];exact he),h];simp
 have HKY:Hid ((tokR M s.data.toList (a+S)).err=0→Hid (nextR M s.data.toList a=⟨tokR M s.data.toList (a+S),decide (a<a+S),0⟩)):=fun h=>by
  show nextR M s.data.toList a=_
  unfold nextR;simp only [HS.out];rw [if_neg (by rw [HRl.out];exact e1),if_pos h]
 have hp:a+S<s.size:=by omega
 have he1:=zq e1
 clear e1
 have b2:(rawAt M (a+S)==47)=false:=by simp [e3]
 have HC:=zq hc
 have HT:=zq (show tokR M s.data.toList (a+S)=errR 7 by unfold tokR;rw [if_neg (fun h=>e3 h.1),hc];rfl)
 clear e3 hc
 go_enter Tryz.func54,Tryz.ntmps54
 go_wp2_with fail
 refine (lex_skip _ _ _ _ _ _ H0.lex (by omega)).mono ?_;rintro e w1 ⟨rfl,hB1⟩;rw [Int.toNat_natCast,HM.out,HS.out]
 have H1:=NHeld.call hB1 H0.lt H0
 have c1:=H1.lex.ca
 have f1:=H1.lex.fr 257
 have hl1:=H1.lex.lt
 have H2:=H1.setAt (a+S)
 clear hB1 H0 H1
 go_wp2_with fail
 generalize hw2:w1.setCell ⟨b,257,none⟩ (.int .i64 ((a:Int)+S))=w2 at *
 clear hw2 c1 f1 hl1
 have c2:=H2.lex.ca
 have d2:=H2.lex.c0
 go_quiet (fail)
 have H3:=NHeld.call (bl_drewN (Below.refl w2.heap.size w2) nq) H2.lt H2
 clear H2 c2 d2
 generalize hw3:w2.drewN nq=w3 at *
 clear hw3
 have c3:=H3.lex.ca
 obtain ⟨t6,v0,v1,v2,v3,v4,v5,t0,t1,t2,t3,t4,t5⟩:=H3.tok
 have hl3:=H3.lt
 have hb3:=H3.lex.lt
 have H4:=fun o=>NHeld.call ((Below.refl w3.heap.size w3).alloc (Nat.le_refl _) o) H3.lt H3
 go_wp2_with fail
 refine (lex_char _ _ _ _ _ _ (H4 _).lex (by omega)).mono ?_;rintro e w6 ⟨rfl,hB6⟩;rw [show ((a:Int)+S).toNat=a+S by omega,HM.out]
 have H6:=NHeld.call hB6 (H4 _).lt (H4 _)
 have c6:=H6.lex.ca
 have r6:=hB6
 go_wp2_with fail
 refine (lex_char _ _ _ _ _ _ H6.lex (by omega)).mono ?_;rintro e w7 ⟨rfl,hB7⟩;rw [show ((a:Int)+S).toNat=a+S by omega,HM.out]
 have H7:=NHeld.call hB7 H6.lt H6
 have r7:=r6.trans (hB7.mono r6.size)
 go_wp2_with fail
 refine (chars_class _ _).mono ?_;rintro e w8 ⟨rfl,hB8⟩;rw [HC.out]
 have H8:=NHeld.call hB8 H7.lt H7
 have r8:=r7.trans (hB8.mono r7.size)
 have fk:=(r8.cell (p:=⟨w3.heap.size,8,none⟩) (by simp)).trans (reader_cell8 w3)
 clear hB7 hB8 H7 r7 r6 H6 c6 H3 H4 c3 hb3 t0 t1 t2 t3 t4 t5 t6 r8
 go_wp2_with fail
 refine (lex_none b _).mono ?_;rintro e w9 ⟨he,hB9⟩
 have H9:=NHeld.call hB9 H8.lt H8
 rw [←HT.out] at he
 generalize hr:tokR M s.data.toList (a+S)=r at *
 have HR:=zq hr
 clear hr
 unfold Gives tokTup at he;subst he
 have c9:=H9.lex.ca
 have hl9:=H9.lt
 have hb9:=H9.lex.lt
 obtain ⟨u6,x0,x1,x2,x3,x4,x5,u0,u1,u2,u3,u4,u5⟩:=H9.tok
 clear H8 hB9 fk
 by_cases he0:r.err=0
 ·have z1:(r.err != 0)=false:=by simp [he0]
  have HK:=HKY.out he0
  have HE0:=zq he0
  clear he0
  go_wp2_with fail
  have hdec:Hid (decide ((a:Int)<(a:Int)+S)=decide (a<a+S)):=by show _=_;rw [decide_eq_decide];omega
  refine bodyPost_ret (v:=nxtTup ⟨r,decide ((a:Int)<(a:Int)+S),0⟩) ?_ rfl ⟨?_,only_sets_alloc H9.only (Nat.le_refl _) _ _ _ _ _ _ _,_,lex_sets_alloc H9.lex (by have:=H9.blt;omega) _ _ _ _ _ _ _⟩
  ·simp [nxtTup,results,Tryz.results54,go_sem,u0,u1,u2,u3,u4,u5,HE0.out,hl9]
  ·rw [HK.out,←hdec.out];rfl
 ·have z1:(r.err != 0)=true:=by simp [he0]
  have HK:=HKN.out r.err he0 rfl
  clear he0
  go_wp2_with fail
  go_region
  go_wp2_with fail
  refine bodyPost_ret (v:=nxtTup ⟨errR r.err,false,(a:Int)+S⟩) ?_ rfl ⟨?_,(only_sets_alloc H9.only (Nat.le_refl _) _ _ _ _ _ _ _).drew,_,(lex_sets_alloc H9.lex (by have:=H9.blt;omega) _ _ _ _ _ _ _).drewN 1⟩
  ·simp [nxtTup,errR,results,Tryz.results54,go_sem,u0,u1,u2,u3,u4,u5,hl9]
  ·rw [HK.out];rfl
set_option maxHeartbeats 800000 in
theorem lex_next_2 (b:Nat) (s:ByteArray) (tab:Int→Int) (a:Nat) (at0:Int) (w:World) (h:Lex w b s tab at0) (ha:a≤s.size) (e1:¬(a+skipN ((cvt tab s.data.toList).drop a))=s.size) (e3:¬rawAt (cvt tab s.data.toList) (a+skipN ((cvt tab s.data.toList).drop a))=47) (hc:cls (rawAt (cvt tab s.data.toList) (a+skipN ((cvt tab s.data.toList).drop a)))=2) :
  Calls Tryz.prog 54 #[.pointer (some ⟨b,0,none⟩),.int .i64 a] w fun e w'=>GivesN (nextR (cvt tab s.data.toList) s.data.toList a) e∧Only b w w'∧∃q,Lex w' b s tab q:=by
 have H0:=NHeld.start h
 have hlt:=h.lt
 have hsz:=h.sz
 clear h
 have hlen:Hid ((cvt tab s.data.toList).length=s.size):=by show _=_;rw [cvt_len];simp
 have HRl:Hid (s.data.toList.length=s.size):=size_data s
 have hsk:=skipN_le ((cvt tab s.data.toList).drop a)
 rw [List.length_drop,hlen.out] at hsk
 generalize hM:cvt tab s.data.toList=M at *
 have HM:=zq hM
 clear hM
 generalize hS:skipN (M.drop a)=S at *
 have HS:=zq hS
 clear hS
 have b1:((a:Int)+S==(s.size:Int))=false:=by simp;omega
 have HKN:Hid (∀e,¬e=0→(tokR M s.data.toList (a+S)).err=e→Hid (nextR M s.data.toList a=⟨errR e,false,a+S⟩)):=fun e he h=>by
  show nextR M s.data.toList a=_
  unfold nextR;simp only [HS.out];rw [if_neg (by rw [HRl.out];exact e1),if_neg (by rw [h];exact he),h];simp
 have HKY:Hid ((tokR M s.data.toList (a+S)).err=0→Hid (nextR M s.data.toList a=⟨tokR M s.data.toList (a+S),decide (a<a+S),0⟩)):=fun h=>by
  show nextR M s.data.toList a=_
  unfold nextR;simp only [HS.out];rw [if_neg (by rw [HRl.out];exact e1),if_pos h]
 have hp:a+S<s.size:=by omega
 have he1:=zq e1
 clear e1
 have b2:(rawAt M (a+S)==47)=false:=by simp [e3]
 have HC:=zq hc
 have HT:=zq (show tokR M s.data.toList (a+S)=wordR M (a+S) by unfold tokR;rw [if_neg (fun h=>e3 h.1),hc];rfl)
 clear e3 hc
 go_enter Tryz.func54,Tryz.ntmps54
 go_wp2_with fail
 refine (lex_skip _ _ _ _ _ _ H0.lex (by omega)).mono ?_;rintro e w1 ⟨rfl,hB1⟩;rw [Int.toNat_natCast,HM.out,HS.out]
 have H1:=NHeld.call hB1 H0.lt H0
 have c1:=H1.lex.ca
 have f1:=H1.lex.fr 257
 have hl1:=H1.lex.lt
 have H2:=H1.setAt (a+S)
 clear hB1 H0 H1
 go_wp2_with fail
 generalize hw2:w1.setCell ⟨b,257,none⟩ (.int .i64 ((a:Int)+S))=w2 at *
 clear hw2 c1 f1 hl1
 have c2:=H2.lex.ca
 have d2:=H2.lex.c0
 go_quiet (fail)
 have H3:=NHeld.call (bl_drewN (Below.refl w2.heap.size w2) nq) H2.lt H2
 clear H2 c2 d2
 generalize hw3:w2.drewN nq=w3 at *
 clear hw3
 have c3:=H3.lex.ca
 obtain ⟨t6,v0,v1,v2,v3,v4,v5,t0,t1,t2,t3,t4,t5⟩:=H3.tok
 have hl3:=H3.lt
 have hb3:=H3.lex.lt
 have H4:=fun o=>NHeld.call ((Below.refl w3.heap.size w3).alloc (Nat.le_refl _) o) H3.lt H3
 go_wp2_with fail
 refine (lex_char _ _ _ _ _ _ (H4 _).lex (by omega)).mono ?_;rintro e w6 ⟨rfl,hB6⟩;rw [show ((a:Int)+S).toNat=a+S by omega,HM.out]
 have H6:=NHeld.call hB6 (H4 _).lt (H4 _)
 have c6:=H6.lex.ca
 have r6:=hB6
 go_wp2_with fail
 refine (lex_char _ _ _ _ _ _ H6.lex (by omega)).mono ?_;rintro e w7 ⟨rfl,hB7⟩;rw [show ((a:Int)+S).toNat=a+S by omega,HM.out]
 have H7:=NHeld.call hB7 H6.lt H6
 have r7:=r6.trans (hB7.mono r6.size)
 go_wp2_with fail
 refine (chars_class _ _).mono ?_;rintro e w8 ⟨rfl,hB8⟩;rw [HC.out]
 have H8:=NHeld.call hB8 H7.lt H7
 have r8:=r7.trans (hB8.mono r7.size)
 have fk:=(r8.cell (p:=⟨w3.heap.size,2,none⟩) (by simp)).trans (reader_cell2 w3)
 clear hB7 hB8 H7 r7 r6 H6 c6 H3 H4 c3 hb3 t0 t1 t2 t3 t4 t5 t6 r8
 go_wp2_with fail
 refine (lex_word b s tab (a+S) _ H8.lex (by omega)).mono ?_;rintro e w9 ⟨he,hB9⟩
 have H9:=NHeld.call hB9 H8.lt H8
 rw [HM.out] at he
 rw [←HT.out] at he
 generalize hr:tokR M s.data.toList (a+S)=r at *
 have HR:=zq hr
 clear hr
 unfold Gives tokTup at he;subst he
 have c9:=H9.lex.ca
 have hl9:=H9.lt
 have hb9:=H9.lex.lt
 obtain ⟨u6,x0,x1,x2,x3,x4,x5,u0,u1,u2,u3,u4,u5⟩:=H9.tok
 clear H8 hB9 fk
 by_cases he0:r.err=0
 ·have z1:(r.err != 0)=false:=by simp [he0]
  have HK:=HKY.out he0
  have HE0:=zq he0
  clear he0
  go_wp2_with fail
  have hdec:Hid (decide ((a:Int)<(a:Int)+S)=decide (a<a+S)):=by show _=_;rw [decide_eq_decide];omega
  refine bodyPost_ret (v:=nxtTup ⟨r,decide ((a:Int)<(a:Int)+S),0⟩) ?_ rfl ⟨?_,only_sets_alloc H9.only (Nat.le_refl _) _ _ _ _ _ _ _,_,lex_sets_alloc H9.lex (by have:=H9.blt;omega) _ _ _ _ _ _ _⟩
  ·simp [nxtTup,results,Tryz.results54,go_sem,u0,u1,u2,u3,u4,u5,HE0.out,hl9]
  ·rw [HK.out,←hdec.out];rfl
 ·have z1:(r.err != 0)=true:=by simp [he0]
  have HK:=HKN.out r.err he0 rfl
  clear he0
  go_wp2_with fail
  go_region
  go_wp2_with fail
  refine bodyPost_ret (v:=nxtTup ⟨errR r.err,false,(a:Int)+S⟩) ?_ rfl ⟨?_,(only_sets_alloc H9.only (Nat.le_refl _) _ _ _ _ _ _ _).drew,_,(lex_sets_alloc H9.lex (by have:=H9.blt;omega) _ _ _ _ _ _ _).drewN 1⟩
  ·simp [nxtTup,errR,results,Tryz.results54,go_sem,u0,u1,u2,u3,u4,u5,hl9]
  ·rw [HK.out];rfl
set_option maxHeartbeats 800000 in
theorem lex_next_3 (b:Nat) (s:ByteArray) (tab:Int→Int) (a:Nat) (at0:Int) (w:World) (h:Lex w b s tab at0) (ha:a≤s.size) (e1:¬(a+skipN ((cvt tab s.data.toList).drop a))=s.size) (e3:¬rawAt (cvt tab s.data.toList) (a+skipN ((cvt tab s.data.toList).drop a))=47) (hc:cls (rawAt (cvt tab s.data.toList) (a+skipN ((cvt tab s.data.toList).drop a)))=3) :
  Calls Tryz.prog 54 #[.pointer (some ⟨b,0,none⟩),.int .i64 a] w fun e w'=>GivesN (nextR (cvt tab s.data.toList) s.data.toList a) e∧Only b w w'∧∃q,Lex w' b s tab q:=by
 have H0:=NHeld.start h
 have hlt:=h.lt
 have hsz:=h.sz
 clear h
 have hlen:Hid ((cvt tab s.data.toList).length=s.size):=by show _=_;rw [cvt_len];simp
 have HRl:Hid (s.data.toList.length=s.size):=size_data s
 have hsk:=skipN_le ((cvt tab s.data.toList).drop a)
 rw [List.length_drop,hlen.out] at hsk
 generalize hM:cvt tab s.data.toList=M at *
 have HM:=zq hM
 clear hM
 generalize hS:skipN (M.drop a)=S at *
 have HS:=zq hS
 clear hS
 have b1:((a:Int)+S==(s.size:Int))=false:=by simp;omega
 have HKN:Hid (∀e,¬e=0→(tokR M s.data.toList (a+S)).err=e→Hid (nextR M s.data.toList a=⟨errR e,false,a+S⟩)):=fun e he h=>by
  show nextR M s.data.toList a=_
  unfold nextR;simp only [HS.out];rw [if_neg (by rw [HRl.out];exact e1),if_neg (by rw [h];exact he),h];simp
 have HKY:Hid ((tokR M s.data.toList (a+S)).err=0→Hid (nextR M s.data.toList a=⟨tokR M s.data.toList (a+S),decide (a<a+S),0⟩)):=fun h=>by
  show nextR M s.data.toList a=_
  unfold nextR;simp only [HS.out];rw [if_neg (by rw [HRl.out];exact e1),if_pos h]
 have hp:a+S<s.size:=by omega
 have he1:=zq e1
 clear e1
 have b2:(rawAt M (a+S)==47)=false:=by simp [e3]
 have HC:=zq hc
 have HT:=zq (show tokR M s.data.toList (a+S)=wordR M (a+S) by unfold tokR;rw [if_neg (fun h=>e3 h.1),hc];rfl)
 clear e3 hc
 go_enter Tryz.func54,Tryz.ntmps54
 go_wp2_with fail
 refine (lex_skip _ _ _ _ _ _ H0.lex (by omega)).mono ?_;rintro e w1 ⟨rfl,hB1⟩;rw [Int.toNat_natCast,HM.out,HS.out]
 have H1:=NHeld.call hB1 H0.lt H0
 have c1:=H1.lex.ca
 have f1:=H1.lex.fr 257
 have hl1:=H1.lex.lt
 have H2:=H1.setAt (a+S)
 clear hB1 H0 H1
 go_wp2_with fail
 generalize hw2:w1.setCell ⟨b,257,none⟩ (.int .i64 ((a:Int)+S))=w2 at *
 clear hw2 c1 f1 hl1
 have c2:=H2.lex.ca
 have d2:=H2.lex.c0
 go_quiet (fail)
 have H3:=NHeld.call (bl_drewN (Below.refl w2.heap.size w2) nq) H2.lt H2
 clear H2 c2 d2
 generalize hw3:w2.drewN nq=w3 at *
 clear hw3
 have c3:=H3.lex.ca
 obtain ⟨t6,v0,v1,v2,v3,v4,v5,t0,t1,t2,t3,t4,t5⟩:=H3.tok
 have hl3:=H3.lt
 have hb3:=H3.lex.lt
 have H4:=fun o=>NHeld.call ((Below.refl w3.heap.size w3).alloc (Nat.le_refl _) o) H3.lt H3
 go_wp2_with fail
 refine (lex_char _ _ _ _ _ _ (H4 _).lex (by omega)).mono ?_;rintro e w6 ⟨rfl,hB6⟩;rw [show ((a:Int)+S).toNat=a+S by omega,HM.out]
 have H6:=NHeld.call hB6 (H4 _).lt (H4 _)
 have c6:=H6.lex.ca
 have r6:=hB6
 go_wp2_with fail
 refine (lex_char _ _ _ _ _ _ H6.lex (by omega)).mono ?_;rintro e w7 ⟨rfl,hB7⟩;rw [show ((a:Int)+S).toNat=a+S by omega,HM.out]
 have H7:=NHeld.call hB7 H6.lt H6
 have r7:=r6.trans (hB7.mono r6.size)
 go_wp2_with fail
 refine (chars_class _ _).mono ?_;rintro e w8 ⟨rfl,hB8⟩;rw [HC.out]
 have H8:=NHeld.call hB8 H7.lt H7
 have r8:=r7.trans (hB8.mono r7.size)
 have fk:=(r8.cell (p:=⟨w3.heap.size,3,none⟩) (by simp)).trans (reader_cell3 w3)
 clear hB7 hB8 H7 r7 r6 H6 c6 H3 H4 c3 hb3 t0 t1 t2 t3 t4 t5 t6 r8
 go_wp2_with fail
 refine (lex_word b s tab (a+S) _ H8.lex (by omega)).mono ?_;rintro e w9 ⟨he,hB9⟩
 have H9:=NHeld.call hB9 H8.lt H8
 rw [HM.out] at he
 rw [←HT.out] at he
 generalize hr:tokR M s.data.toList (a+S)=r at *
 have HR:=zq hr
 clear hr
 unfold Gives tokTup at he;subst he
 have c9:=H9.lex.ca
 have hl9:=H9.lt
 have hb9:=H9.lex.lt
 obtain ⟨u6,x0,x1,x2,x3,x4,x5,u0,u1,u2,u3,u4,u5⟩:=H9.tok
 clear H8 hB9 fk
 by_cases he0:r.err=0
 ·have z1:(r.err != 0)=false:=by simp [he0]
  have HK:=HKY.out he0
  have HE0:=zq he0
  clear he0
  go_wp2_with fail
  have hdec:Hid (decide ((a:Int)<(a:Int)+S)=decide (a<a+S)):=by show _=_;rw [decide_eq_decide];omega
  refine bodyPost_ret (v:=nxtTup ⟨r,decide ((a:Int)<(a:Int)+S),0⟩) ?_ rfl ⟨?_,only_sets_alloc H9.only (Nat.le_refl _) _ _ _ _ _ _ _,_,lex_sets_alloc H9.lex (by have:=H9.blt;omega) _ _ _ _ _ _ _⟩
  ·simp [nxtTup,results,Tryz.results54,go_sem,u0,u1,u2,u3,u4,u5,HE0.out,hl9]
  ·rw [HK.out,←hdec.out];rfl
 ·have z1:(r.err != 0)=true:=by simp [he0]
  have HK:=HKN.out r.err he0 rfl
  clear he0
  go_wp2_with fail
  go_region
  go_wp2_with fail
  refine bodyPost_ret (v:=nxtTup ⟨errR r.err,false,(a:Int)+S⟩) ?_ rfl ⟨?_,(only_sets_alloc H9.only (Nat.le_refl _) _ _ _ _ _ _ _).drew,_,(lex_sets_alloc H9.lex (by have:=H9.blt;omega) _ _ _ _ _ _ _).drewN 1⟩
  ·simp [nxtTup,errR,results,Tryz.results54,go_sem,u0,u1,u2,u3,u4,u5,hl9]
  ·rw [HK.out];rfl
set_option maxHeartbeats 800000 in
theorem lex_next_4 (b:Nat) (s:ByteArray) (tab:Int→Int) (a:Nat) (at0:Int) (w:World) (h:Lex w b s tab at0) (ha:a≤s.size) (e1:¬(a+skipN ((cvt tab s.data.toList).drop a))=s.size) (e3:¬rawAt (cvt tab s.data.toList) (a+skipN ((cvt tab s.data.toList).drop a))=47) (hc:cls (rawAt (cvt tab s.data.toList) (a+skipN ((cvt tab s.data.toList).drop a)))=4) :
  Calls Tryz.prog 54 #[.pointer (some ⟨b,0,none⟩),.int .i64 a] w fun e w'=>GivesN (nextR (cvt tab s.data.toList) s.data.toList a) e∧Only b w w'∧∃q,Lex w' b s tab q:=by
 have H0:=NHeld.start h
 have hlt:=h.lt
 have hsz:=h.sz
 clear h
 have hlen:Hid ((cvt tab s.data.toList).length=s.size):=by show _=_;rw [cvt_len];simp
 have HRl:Hid (s.data.toList.length=s.size):=size_data s
 have hsk:=skipN_le ((cvt tab s.data.toList).drop a)
 rw [List.length_drop,hlen.out] at hsk
 generalize hM:cvt tab s.data.toList=M at *
 have HM:=zq hM
 clear hM
 generalize hS:skipN (M.drop a)=S at *
 have HS:=zq hS
 clear hS
 have b1:((a:Int)+S==(s.size:Int))=false:=by simp;omega
 have HKN:Hid (∀e,¬e=0→(tokR M s.data.toList (a+S)).err=e→Hid (nextR M s.data.toList a=⟨errR e,false,a+S⟩)):=fun e he h=>by
  show nextR M s.data.toList a=_
  unfold nextR;simp only [HS.out];rw [if_neg (by rw [HRl.out];exact e1),if_neg (by rw [h];exact he),h];simp
 have HKY:Hid ((tokR M s.data.toList (a+S)).err=0→Hid (nextR M s.data.toList a=⟨tokR M s.data.toList (a+S),decide (a<a+S),0⟩)):=fun h=>by
  show nextR M s.data.toList a=_
  unfold nextR;simp only [HS.out];rw [if_neg (by rw [HRl.out];exact e1),if_pos h]
 have hp:a+S<s.size:=by omega
 have he1:=zq e1
 clear e1
 have b2:(rawAt M (a+S)==47)=false:=by simp [e3]
 have HC:=zq hc
 have HT:=zq (show tokR M s.data.toList (a+S)=numR M s.data.toList (a+S) by unfold tokR;rw [if_neg (fun h=>e3 h.1),hc];rfl)
 clear e3 hc
 go_enter Tryz.func54,Tryz.ntmps54
 go_wp2_with fail
 refine (lex_skip _ _ _ _ _ _ H0.lex (by omega)).mono ?_;rintro e w1 ⟨rfl,hB1⟩;rw [Int.toNat_natCast,HM.out,HS.out]
 have H1:=NHeld.call hB1 H0.lt H0
 have c1:=H1.lex.ca
 have f1:=H1.lex.fr 257
 have hl1:=H1.lex.lt
 have H2:=H1.setAt (a+S)
 clear hB1 H0 H1
 go_wp2_with fail
 generalize hw2:w1.setCell ⟨b,257,none⟩ (.int .i64 ((a:Int)+S))=w2 at *
 clear hw2 c1 f1 hl1
 have c2:=H2.lex.ca
 have d2:=H2.lex.c0
 go_quiet (fail)
 have H3:=NHeld.call (bl_drewN (Below.refl w2.heap.size w2) nq) H2.lt H2
 clear H2 c2 d2
 generalize hw3:w2.drewN nq=w3 at *
 clear hw3
 have c3:=H3.lex.ca
 obtain ⟨t6,v0,v1,v2,v3,v4,v5,t0,t1,t2,t3,t4,t5⟩:=H3.tok
 have hl3:=H3.lt
 have hb3:=H3.lex.lt
 have H4:=fun o=>NHeld.call ((Below.refl w3.heap.size w3).alloc (Nat.le_refl _) o) H3.lt H3
 go_wp2_with fail
 refine (lex_char _ _ _ _ _ _ (H4 _).lex (by omega)).mono ?_;rintro e w6 ⟨rfl,hB6⟩;rw [show ((a:Int)+S).toNat=a+S by omega,HM.out]
 have H6:=NHeld.call hB6 (H4 _).lt (H4 _)
 have c6:=H6.lex.ca
 have r6:=hB6
 go_wp2_with fail
 refine (lex_char _ _ _ _ _ _ H6.lex (by omega)).mono ?_;rintro e w7 ⟨rfl,hB7⟩;rw [show ((a:Int)+S).toNat=a+S by omega,HM.out]
 have H7:=NHeld.call hB7 H6.lt H6
 have r7:=r6.trans (hB7.mono r6.size)
 go_wp2_with fail
 refine (chars_class _ _).mono ?_;rintro e w8 ⟨rfl,hB8⟩;rw [HC.out]
 have H8:=NHeld.call hB8 H7.lt H7
 have r8:=r7.trans (hB8.mono r7.size)
 have fk:=(r8.cell (p:=⟨w3.heap.size,4,none⟩) (by simp)).trans (reader_cell4 w3)
 clear hB7 hB8 H7 r7 r6 H6 c6 H3 H4 c3 hb3 t0 t1 t2 t3 t4 t5 t6 r8
 go_wp2_with fail
 refine (lex_number b s tab (a+S) _ H8.lex hp (by rw [HM.out];exact cls_dig _ HC.out)).mono ?_;rintro e w9 ⟨he,hB9⟩
 have H9:=NHeld.call hB9 H8.lt H8
 rw [HM.out] at he
 rw [←HT.out] at he
 generalize hr:tokR M s.data.toList (a+S)=r at *
 have HR:=zq hr
 clear hr
 unfold Gives tokTup at he;subst he
 have c9:=H9.lex.ca
 have hl9:=H9.lt
 have hb9:=H9.lex.lt
 obtain ⟨u6,x0,x1,x2,x3,x4,x5,u0,u1,u2,u3,u4,u5⟩:=H9.tok
 clear H8 hB9 fk
 by_cases he0:r.err=0
 ·have z1:(r.err != 0)=false:=by simp [he0]
  have HK:=HKY.out he0
  have HE0:=zq he0
  clear he0
  go_wp2_with fail
  have hdec:Hid (decide ((a:Int)<(a:Int)+S)=decide (a<a+S)):=by show _=_;rw [decide_eq_decide];omega
  refine bodyPost_ret (v:=nxtTup ⟨r,decide ((a:Int)<(a:Int)+S),0⟩) ?_ rfl ⟨?_,only_sets_alloc H9.only (Nat.le_refl _) _ _ _ _ _ _ _,_,lex_sets_alloc H9.lex (by have:=H9.blt;omega) _ _ _ _ _ _ _⟩
  ·simp [nxtTup,results,Tryz.results54,go_sem,u0,u1,u2,u3,u4,u5,HE0.out,hl9]
  ·rw [HK.out,←hdec.out];rfl
 ·have z1:(r.err != 0)=true:=by simp [he0]
  have HK:=HKN.out r.err he0 rfl
  clear he0
  go_wp2_with fail
  go_region
  go_wp2_with fail
  refine bodyPost_ret (v:=nxtTup ⟨errR r.err,false,(a:Int)+S⟩) ?_ rfl ⟨?_,(only_sets_alloc H9.only (Nat.le_refl _) _ _ _ _ _ _ _).drew,_,(lex_sets_alloc H9.lex (by have:=H9.blt;omega) _ _ _ _ _ _ _).drewN 1⟩
  ·simp [nxtTup,errR,results,Tryz.results54,go_sem,u0,u1,u2,u3,u4,u5,hl9]
  ·rw [HK.out];rfl
set_option maxHeartbeats 800000 in
theorem lex_next_5 (b:Nat) (s:ByteArray) (tab:Int→Int) (a:Nat) (at0:Int) (w:World) (h:Lex w b s tab at0) (ha:a≤s.size) (e1:¬(a+skipN ((cvt tab s.data.toList).drop a))=s.size) (e3:¬rawAt (cvt tab s.data.toList) (a+skipN ((cvt tab s.data.toList).drop a))=47) (hc:cls (rawAt (cvt tab s.data.toList) (a+skipN ((cvt tab s.data.toList).drop a)))=5) :
  Calls Tryz.prog 54 #[.pointer (some ⟨b,0,none⟩),.int .i64 a] w fun e w'=>GivesN (nextR (cvt tab s.data.toList) s.data.toList a) e∧Only b w w'∧∃q,Lex w' b s tab q:=by
 have H0:=NHeld.start h
 have hlt:=h.lt
 have hsz:=h.sz
 clear h
 have hlen:Hid ((cvt tab s.data.toList).length=s.size):=by show _=_;rw [cvt_len];simp
 have HRl:Hid (s.data.toList.length=s.size):=size_data s
 have hsk:=skipN_le ((cvt tab s.data.toList).drop a)
 rw [List.length_drop,hlen.out] at hsk
 generalize hM:cvt tab s.data.toList=M at *
 have HM:=zq hM
 clear hM
 generalize hS:skipN (M.drop a)=S at *
 have HS:=zq hS
 clear hS
 have b1:((a:Int)+S==(s.size:Int))=false:=by simp;omega
 have HKN:Hid (∀e,¬e=0→(tokR M s.data.toList (a+S)).err=e→Hid (nextR M s.data.toList a=⟨errR e,false,a+S⟩)):=fun e he h=>by
  show nextR M s.data.toList a=_
  unfold nextR;simp only [HS.out];rw [if_neg (by rw [HRl.out];exact e1),if_neg (by rw [h];exact he),h];simp
 have HKY:Hid ((tokR M s.data.toList (a+S)).err=0→Hid (nextR M s.data.toList a=⟨tokR M s.data.toList (a+S),decide (a<a+S),0⟩)):=fun h=>by
  show nextR M s.data.toList a=_
  unfold nextR;simp only [HS.out];rw [if_neg (by rw [HRl.out];exact e1),if_pos h]
 have hp:a+S<s.size:=by omega
 have he1:=zq e1
 clear e1
 have b2:(rawAt M (a+S)==47)=false:=by simp [e3]
 have HC:=zq hc
 have HT:=zq (show tokR M s.data.toList (a+S)=symR M (a+S) by unfold tokR;rw [if_neg (fun h=>e3 h.1),hc];rfl)
 clear e3 hc
 go_enter Tryz.func54,Tryz.ntmps54
 go_wp2_with fail
 refine (lex_skip _ _ _ _ _ _ H0.lex (by omega)).mono ?_;rintro e w1 ⟨rfl,hB1⟩;rw [Int.toNat_natCast,HM.out,HS.out]
 have H1:=NHeld.call hB1 H0.lt H0
 have c1:=H1.lex.ca
 have f1:=H1.lex.fr 257
 have hl1:=H1.lex.lt
 have H2:=H1.setAt (a+S)
 clear hB1 H0 H1
 go_wp2_with fail
 generalize hw2:w1.setCell ⟨b,257,none⟩ (.int .i64 ((a:Int)+S))=w2 at *
 clear hw2 c1 f1 hl1
 have c2:=H2.lex.ca
 have d2:=H2.lex.c0
 go_quiet (fail)
 have H3:=NHeld.call (bl_drewN (Below.refl w2.heap.size w2) nq) H2.lt H2
 clear H2 c2 d2
 generalize hw3:w2.drewN nq=w3 at *
 clear hw3
 have c3:=H3.lex.ca
 obtain ⟨t6,v0,v1,v2,v3,v4,v5,t0,t1,t2,t3,t4,t5⟩:=H3.tok
 have hl3:=H3.lt
 have hb3:=H3.lex.lt
 have H4:=fun o=>NHeld.call ((Below.refl w3.heap.size w3).alloc (Nat.le_refl _) o) H3.lt H3
 go_wp2_with fail
 refine (lex_char _ _ _ _ _ _ (H4 _).lex (by omega)).mono ?_;rintro e w6 ⟨rfl,hB6⟩;rw [show ((a:Int)+S).toNat=a+S by omega,HM.out]
 have H6:=NHeld.call hB6 (H4 _).lt (H4 _)
 have c6:=H6.lex.ca
 have r6:=hB6
 go_wp2_with fail
 refine (lex_char _ _ _ _ _ _ H6.lex (by omega)).mono ?_;rintro e w7 ⟨rfl,hB7⟩;rw [show ((a:Int)+S).toNat=a+S by omega,HM.out]
 have H7:=NHeld.call hB7 H6.lt H6
 have r7:=r6.trans (hB7.mono r6.size)
 go_wp2_with fail
 refine (chars_class _ _).mono ?_;rintro e w8 ⟨rfl,hB8⟩;rw [HC.out]
 have H8:=NHeld.call hB8 H7.lt H7
 have r8:=r7.trans (hB8.mono r7.size)
 have fk:=(r8.cell (p:=⟨w3.heap.size,5,none⟩) (by simp)).trans (reader_cell5 w3)
 clear hB7 hB8 H7 r7 r6 H6 c6 H3 H4 c3 hb3 t0 t1 t2 t3 t4 t5 t6 r8
 go_wp2_with fail
 refine (lex_symbol b s tab (a+S) _ H8.lex (by omega)).mono ?_;rintro e w9 ⟨he,hB9⟩
 have H9:=NHeld.call hB9 H8.lt H8
 rw [HM.out] at he
 rw [←HT.out] at he
 generalize hr:tokR M s.data.toList (a+S)=r at *
 have HR:=zq hr
 clear hr
 unfold Gives tokTup at he;subst he
 have c9:=H9.lex.ca
 have hl9:=H9.lt
 have hb9:=H9.lex.lt
 obtain ⟨u6,x0,x1,x2,x3,x4,x5,u0,u1,u2,u3,u4,u5⟩:=H9.tok
 clear H8 hB9 fk
 by_cases he0:r.err=0
 ·have z1:(r.err != 0)=false:=by simp [he0]
  have HK:=HKY.out he0
  have HE0:=zq he0
  clear he0
  go_wp2_with fail
  have hdec:Hid (decide ((a:Int)<(a:Int)+S)=decide (a<a+S)):=by show _=_;rw [decide_eq_decide];omega
  refine bodyPost_ret (v:=nxtTup ⟨r,decide ((a:Int)<(a:Int)+S),0⟩) ?_ rfl ⟨?_,only_sets_alloc H9.only (Nat.le_refl _) _ _ _ _ _ _ _,_,lex_sets_alloc H9.lex (by have:=H9.blt;omega) _ _ _ _ _ _ _⟩
  ·simp [nxtTup,results,Tryz.results54,go_sem,u0,u1,u2,u3,u4,u5,HE0.out,hl9]
  ·rw [HK.out,←hdec.out];rfl
 ·have z1:(r.err != 0)=true:=by simp [he0]
  have HK:=HKN.out r.err he0 rfl
  clear he0
  go_wp2_with fail
  go_region
  go_wp2_with fail
  refine bodyPost_ret (v:=nxtTup ⟨errR r.err,false,(a:Int)+S⟩) ?_ rfl ⟨?_,(only_sets_alloc H9.only (Nat.le_refl _) _ _ _ _ _ _ _).drew,_,(lex_sets_alloc H9.lex (by have:=H9.blt;omega) _ _ _ _ _ _ _).drewN 1⟩
  ·simp [nxtTup,errR,results,Tryz.results54,go_sem,u0,u1,u2,u3,u4,u5,hl9]
  ·rw [HK.out];rfl
set_option maxHeartbeats 800000 in
theorem lex_next_6 (b:Nat) (s:ByteArray) (tab:Int→Int) (a:Nat) (at0:Int) (w:World) (h:Lex w b s tab at0) (ha:a≤s.size) (e1:¬(a+skipN ((cvt tab s.data.toList).drop a))=s.size) (e3:¬rawAt (cvt tab s.data.toList) (a+skipN ((cvt tab s.data.toList).drop a))=47) (hc:cls (rawAt (cvt tab s.data.toList) (a+skipN ((cvt tab s.data.toList).drop a)))=6) :
  Calls Tryz.prog 54 #[.pointer (some ⟨b,0,none⟩),.int .i64 a] w fun e w'=>GivesN (nextR (cvt tab s.data.toList) s.data.toList a) e∧Only b w w'∧∃q,Lex w' b s tab q:=by
 have H0:=NHeld.start h
 have hlt:=h.lt
 have hsz:=h.sz
 clear h
 have hlen:Hid ((cvt tab s.data.toList).length=s.size):=by show _=_;rw [cvt_len];simp
 have HRl:Hid (s.data.toList.length=s.size):=size_data s
 have hsk:=skipN_le ((cvt tab s.data.toList).drop a)
 rw [List.length_drop,hlen.out] at hsk
 generalize hM:cvt tab s.data.toList=M at *
 have HM:=zq hM
 clear hM
 generalize hS:skipN (M.drop a)=S at *
 have HS:=zq hS
 clear hS
 have b1:((a:Int)+S==(s.size:Int))=false:=by simp;omega
 have HKN:Hid (∀e,¬e=0→(tokR M s.data.toList (a+S)).err=e→Hid (nextR M s.data.toList a=⟨errR e,false,a+S⟩)):=fun e he h=>by
  show nextR M s.data.toList a=_
  unfold nextR;simp only [HS.out];rw [if_neg (by rw [HRl.out];exact e1),if_neg (by rw [h];exact he),h];simp
 have HKY:Hid ((tokR M s.data.toList (a+S)).err=0→Hid (nextR M s.data.toList a=⟨tokR M s.data.toList (a+S),decide (a<a+S),0⟩)):=fun h=>by
  show nextR M s.data.toList a=_
  unfold nextR;simp only [HS.out];rw [if_neg (by rw [HRl.out];exact e1),if_pos h]
 have hp:a+S<s.size:=by omega
 have he1:=zq e1
 clear e1
 have b2:(rawAt M (a+S)==47)=false:=by simp [e3]
 have HC:=zq hc
 have HT:=zq (show tokR M s.data.toList (a+S)=soloR M (a+S) by unfold tokR;rw [if_neg (fun h=>e3 h.1),hc];rfl)
 clear e3 hc
 go_enter Tryz.func54,Tryz.ntmps54
 go_wp2_with fail
 refine (lex_skip _ _ _ _ _ _ H0.lex (by omega)).mono ?_;rintro e w1 ⟨rfl,hB1⟩;rw [Int.toNat_natCast,HM.out,HS.out]
 have H1:=NHeld.call hB1 H0.lt H0
 have c1:=H1.lex.ca
 have f1:=H1.lex.fr 257
 have hl1:=H1.lex.lt
 have H2:=H1.setAt (a+S)
 clear hB1 H0 H1
 go_wp2_with fail
 generalize hw2:w1.setCell ⟨b,257,none⟩ (.int .i64 ((a:Int)+S))=w2 at *
 clear hw2 c1 f1 hl1
 have c2:=H2.lex.ca
 have d2:=H2.lex.c0
 go_quiet (fail)
 have H3:=NHeld.call (bl_drewN (Below.refl w2.heap.size w2) nq) H2.lt H2
 clear H2 c2 d2
 generalize hw3:w2.drewN nq=w3 at *
 clear hw3
 have c3:=H3.lex.ca
 obtain ⟨t6,v0,v1,v2,v3,v4,v5,t0,t1,t2,t3,t4,t5⟩:=H3.tok
 have hl3:=H3.lt
 have hb3:=H3.lex.lt
 have H4:=fun o=>NHeld.call ((Below.refl w3.heap.size w3).alloc (Nat.le_refl _) o) H3.lt H3
 go_wp2_with fail
 refine (lex_char _ _ _ _ _ _ (H4 _).lex (by omega)).mono ?_;rintro e w6 ⟨rfl,hB6⟩;rw [show ((a:Int)+S).toNat=a+S by omega,HM.out]
 have H6:=NHeld.call hB6 (H4 _).lt (H4 _)
 have c6:=H6.lex.ca
 have r6:=hB6
 go_wp2_with fail
 refine (lex_char _ _ _ _ _ _ H6.lex (by omega)).mono ?_;rintro e w7 ⟨rfl,hB7⟩;rw [show ((a:Int)+S).toNat=a+S by omega,HM.out]
 have H7:=NHeld.call hB7 H6.lt H6
 have r7:=r6.trans (hB7.mono r6.size)
 go_wp2_with fail
 refine (chars_class _ _).mono ?_;rintro e w8 ⟨rfl,hB8⟩;rw [HC.out]
 have H8:=NHeld.call hB8 H7.lt H7
 have r8:=r7.trans (hB8.mono r7.size)
 have fk:=(r8.cell (p:=⟨w3.heap.size,6,none⟩) (by simp)).trans (reader_cell6 w3)
 clear hB7 hB8 H7 r7 r6 H6 c6 H3 H4 c3 hb3 t0 t1 t2 t3 t4 t5 t6 r8
 go_wp2_with fail
 refine (lex_solo b s tab (a+S) _ H8.lex hp).mono ?_;rintro e w9 ⟨he,hB9⟩
 have H9:=NHeld.call hB9 H8.lt H8
 rw [HM.out] at he
 rw [←HT.out] at he
 generalize hr:tokR M s.data.toList (a+S)=r at *
 have HR:=zq hr
 clear hr
 unfold Gives tokTup at he;subst he
 have c9:=H9.lex.ca
 have hl9:=H9.lt
 have hb9:=H9.lex.lt
 obtain ⟨u6,x0,x1,x2,x3,x4,x5,u0,u1,u2,u3,u4,u5⟩:=H9.tok
 clear H8 hB9 fk
 by_cases he0:r.err=0
 ·have z1:(r.err != 0)=false:=by simp [he0]
  have HK:=HKY.out he0
  have HE0:=zq he0
  clear he0
  go_wp2_with fail
  have hdec:Hid (decide ((a:Int)<(a:Int)+S)=decide (a<a+S)):=by show _=_;rw [decide_eq_decide];omega
  refine bodyPost_ret (v:=nxtTup ⟨r,decide ((a:Int)<(a:Int)+S),0⟩) ?_ rfl ⟨?_,only_sets_alloc H9.only (Nat.le_refl _) _ _ _ _ _ _ _,_,lex_sets_alloc H9.lex (by have:=H9.blt;omega) _ _ _ _ _ _ _⟩
  ·simp [nxtTup,results,Tryz.results54,go_sem,u0,u1,u2,u3,u4,u5,HE0.out,hl9]
  ·rw [HK.out,←hdec.out];rfl
 ·have z1:(r.err != 0)=true:=by simp [he0]
  have HK:=HKN.out r.err he0 rfl
  clear he0
  go_wp2_with fail
  go_region
  go_wp2_with fail
  refine bodyPost_ret (v:=nxtTup ⟨errR r.err,false,(a:Int)+S⟩) ?_ rfl ⟨?_,(only_sets_alloc H9.only (Nat.le_refl _) _ _ _ _ _ _ _).drew,_,(lex_sets_alloc H9.lex (by have:=H9.blt;omega) _ _ _ _ _ _ _).drewN 1⟩
  ·simp [nxtTup,errR,results,Tryz.results54,go_sem,u0,u1,u2,u3,u4,u5,hl9]
  ·rw [HK.out];rfl
set_option maxHeartbeats 800000 in
theorem lex_next_7 (b:Nat) (s:ByteArray) (tab:Int→Int) (a:Nat) (at0:Int) (w:World) (h:Lex w b s tab at0) (ha:a≤s.size) (e1:¬(a+skipN ((cvt tab s.data.toList).drop a))=s.size) (e3:¬rawAt (cvt tab s.data.toList) (a+skipN ((cvt tab s.data.toList).drop a))=47) (hc:cls (rawAt (cvt tab s.data.toList) (a+skipN ((cvt tab s.data.toList).drop a)))=7) :
  Calls Tryz.prog 54 #[.pointer (some ⟨b,0,none⟩),.int .i64 a] w fun e w'=>GivesN (nextR (cvt tab s.data.toList) s.data.toList a) e∧Only b w w'∧∃q,Lex w' b s tab q:=by
 have H0:=NHeld.start h
 have hlt:=h.lt
 have hsz:=h.sz
 clear h
 have hlen:Hid ((cvt tab s.data.toList).length=s.size):=by show _=_;rw [cvt_len];simp
 have HRl:Hid (s.data.toList.length=s.size):=size_data s
 have hsk:=skipN_le ((cvt tab s.data.toList).drop a)
 rw [List.length_drop,hlen.out] at hsk
 generalize hM:cvt tab s.data.toList=M at *
 have HM:=zq hM
 clear hM
 generalize hS:skipN (M.drop a)=S at *
 have HS:=zq hS
 clear hS
 have b1:((a:Int)+S==(s.size:Int))=false:=by simp;omega
 have HKN:Hid (∀e,¬e=0→(tokR M s.data.toList (a+S)).err=e→Hid (nextR M s.data.toList a=⟨errR e,false,a+S⟩)):=fun e he h=>by
  show nextR M s.data.toList a=_
  unfold nextR;simp only [HS.out];rw [if_neg (by rw [HRl.out];exact e1),if_neg (by rw [h];exact he),h];simp
 have HKY:Hid ((tokR M s.data.toList (a+S)).err=0→Hid (nextR M s.data.toList a=⟨tokR M s.data.toList (a+S),decide (a<a+S),0⟩)):=fun h=>by
  show nextR M s.data.toList a=_
  unfold nextR;simp only [HS.out];rw [if_neg (by rw [HRl.out];exact e1),if_pos h]
 have hp:a+S<s.size:=by omega
 have he1:=zq e1
 clear e1
 have b2:(rawAt M (a+S)==47)=false:=by simp [e3]
 have HC:=zq hc
 have HT:=zq (show tokR M s.data.toList (a+S)=quoteR M s.data.toList (a+S) by unfold tokR;rw [if_neg (fun h=>e3 h.1),hc];rfl)
 clear e3 hc
 go_enter Tryz.func54,Tryz.ntmps54
 go_wp2_with fail
 refine (lex_skip _ _ _ _ _ _ H0.lex (by omega)).mono ?_;rintro e w1 ⟨rfl,hB1⟩;rw [Int.toNat_natCast,HM.out,HS.out]
 have H1:=NHeld.call hB1 H0.lt H0
 have c1:=H1.lex.ca
 have f1:=H1.lex.fr 257
 have hl1:=H1.lex.lt
 have H2:=H1.setAt (a+S)
 clear hB1 H0 H1
 go_wp2_with fail
 generalize hw2:w1.setCell ⟨b,257,none⟩ (.int .i64 ((a:Int)+S))=w2 at *
 clear hw2 c1 f1 hl1
 have c2:=H2.lex.ca
 have d2:=H2.lex.c0
 go_quiet (fail)
 have H3:=NHeld.call (bl_drewN (Below.refl w2.heap.size w2) nq) H2.lt H2
 clear H2 c2 d2
 generalize hw3:w2.drewN nq=w3 at *
 clear hw3
 have c3:=H3.lex.ca
 obtain ⟨t6,v0,v1,v2,v3,v4,v5,t0,t1,t2,t3,t4,t5⟩:=H3.tok
 have hl3:=H3.lt
 have hb3:=H3.lex.lt
 have H4:=fun o=>NHeld.call ((Below.refl w3.heap.size w3).alloc (Nat.le_refl _) o) H3.lt H3
 go_wp2_with fail
 refine (lex_char _ _ _ _ _ _ (H4 _).lex (by omega)).mono ?_;rintro e w6 ⟨rfl,hB6⟩;rw [show ((a:Int)+S).toNat=a+S by omega,HM.out]
 have H6:=NHeld.call hB6 (H4 _).lt (H4 _)
 have c6:=H6.lex.ca
 have r6:=hB6
 go_wp2_with fail
 refine (lex_char _ _ _ _ _ _ H6.lex (by omega)).mono ?_;rintro e w7 ⟨rfl,hB7⟩;rw [show ((a:Int)+S).toNat=a+S by omega,HM.out]
 have H7:=NHeld.call hB7 H6.lt H6
 have r7:=r6.trans (hB7.mono r6.size)
 go_wp2_with fail
 refine (chars_class _ _).mono ?_;rintro e w8 ⟨rfl,hB8⟩;rw [HC.out]
 have H8:=NHeld.call hB8 H7.lt H7
 have r8:=r7.trans (hB8.mono r7.size)
 have fk:=(r8.cell (p:=⟨w3.heap.size,7,none⟩) (by simp)).trans (reader_cell7 w3)
 clear hB7 hB8 H7 r7 r6 H6 c6 H3 H4 c3 hb3 t0 t1 t2 t3 t4 t5 t6 r8
 go_wp2_with fail
 refine (lex_quote b s tab (a+S) _ H8.lex hp).mono ?_;rintro e w9 ⟨he,hB9⟩
 have H9:=NHeld.call hB9 H8.lt H8
 rw [HM.out] at he
 rw [←HT.out] at he
 generalize hr:tokR M s.data.toList (a+S)=r at *
 have HR:=zq hr
 clear hr
 unfold Gives tokTup at he;subst he
 have c9:=H9.lex.ca
 have hl9:=H9.lt
 have hb9:=H9.lex.lt
 obtain ⟨u6,x0,x1,x2,x3,x4,x5,u0,u1,u2,u3,u4,u5⟩:=H9.tok
 clear H8 hB9 fk
 by_cases he0:r.err=0
 ·have z1:(r.err != 0)=false:=by simp [he0]
  have HK:=HKY.out he0
  have HE0:=zq he0
  clear he0
  go_wp2_with fail
  have hdec:Hid (decide ((a:Int)<(a:Int)+S)=decide (a<a+S)):=by show _=_;rw [decide_eq_decide];omega
  refine bodyPost_ret (v:=nxtTup ⟨r,decide ((a:Int)<(a:Int)+S),0⟩) ?_ rfl ⟨?_,only_sets_alloc H9.only (Nat.le_refl _) _ _ _ _ _ _ _,_,lex_sets_alloc H9.lex (by have:=H9.blt;omega) _ _ _ _ _ _ _⟩
  ·simp [nxtTup,results,Tryz.results54,go_sem,u0,u1,u2,u3,u4,u5,HE0.out,hl9]
  ·rw [HK.out,←hdec.out];rfl
 ·have z1:(r.err != 0)=true:=by simp [he0]
  have HK:=HKN.out r.err he0 rfl
  clear he0
  go_wp2_with fail
  go_region
  go_wp2_with fail
  refine bodyPost_ret (v:=nxtTup ⟨errR r.err,false,(a:Int)+S⟩) ?_ rfl ⟨?_,(only_sets_alloc H9.only (Nat.le_refl _) _ _ _ _ _ _ _).drew,_,(lex_sets_alloc H9.lex (by have:=H9.blt;omega) _ _ _ _ _ _ _).drewN 1⟩
  ·simp [nxtTup,errR,results,Tryz.results54,go_sem,u0,u1,u2,u3,u4,u5,hl9]
  ·rw [HK.out];rfl
set_option maxHeartbeats 800000 in
theorem lex_next_slash (b:Nat) (s:ByteArray) (tab:Int→Int) (a:Nat) (at0:Int) (w:World) (h:Lex w b s tab at0) (ha:a≤s.size) (e1:¬(a+skipN ((cvt tab s.data.toList).drop a))=s.size) (e3:rawAt (cvt tab s.data.toList) (a+skipN ((cvt tab s.data.toList).drop a))=47) (e4:¬rawAt (cvt tab s.data.toList) ((a+skipN ((cvt tab s.data.toList).drop a))+1)=42) :
  Calls Tryz.prog 54 #[.pointer (some ⟨b,0,none⟩),.int .i64 a] w fun e w'=>GivesN (nextR (cvt tab s.data.toList) s.data.toList a) e∧Only b w w'∧∃q,Lex w' b s tab q:=by
 have H0:=NHeld.start h
 have hlt:=h.lt
 have hsz:=h.sz
 clear h
 have hlen:Hid ((cvt tab s.data.toList).length=s.size):=by show _=_;rw [cvt_len];simp
 have HRl:Hid (s.data.toList.length=s.size):=size_data s
 have hsk:=skipN_le ((cvt tab s.data.toList).drop a)
 rw [List.length_drop,hlen.out] at hsk
 generalize hM:cvt tab s.data.toList=M at *
 have HM:=zq hM
 clear hM
 generalize hS:skipN (M.drop a)=S at *
 have HS:=zq hS
 clear hS
 have b1:((a:Int)+S==(s.size:Int))=false:=by simp;omega
 have HKN:Hid (∀e,¬e=0→(tokR M s.data.toList (a+S)).err=e→Hid (nextR M s.data.toList a=⟨errR e,false,a+S⟩)):=fun e he h=>by
  show nextR M s.data.toList a=_
  unfold nextR;simp only [HS.out];rw [if_neg (by rw [HRl.out];exact e1),if_neg (by rw [h];exact he),h];simp
 have HKY:Hid ((tokR M s.data.toList (a+S)).err=0→Hid (nextR M s.data.toList a=⟨tokR M s.data.toList (a+S),decide (a<a+S),0⟩)):=fun h=>by
  show nextR M s.data.toList a=_
  unfold nextR;simp only [HS.out];rw [if_neg (by rw [HRl.out];exact e1),if_pos h]
 have hp:a+S<s.size:=by omega
 have he1:=zq e1
 clear e1
 have b2:(rawAt M (a+S)==47)=true:=by simp [e3]
 have b3:(rawAt M (a+S+1)==42)=false:=by simp [e4]
 have HC:Hid (cls (rawAt M (a+S))=5):=by show _=_;rw [e3];decide
 have HT:=zq (show tokR M s.data.toList (a+S)=symR M (a+S) by unfold tokR;rw [if_neg (fun h=>e4 h.2),e3];rfl)
 clear e3 e4
 go_enter Tryz.func54,Tryz.ntmps54
 go_wp2_with fail
 refine (lex_skip _ _ _ _ _ _ H0.lex (by omega)).mono ?_;rintro e w1 ⟨rfl,hB1⟩;rw [Int.toNat_natCast,HM.out,HS.out]
 have H1:=NHeld.call hB1 H0.lt H0
 have c1:=H1.lex.ca
 have f1:=H1.lex.fr 257
 have hl1:=H1.lex.lt
 have H2:=H1.setAt (a+S)
 clear hB1 H0 H1
 go_wp2_with fail
 generalize hw2:w1.setCell ⟨b,257,none⟩ (.int .i64 ((a:Int)+S))=w2 at *
 clear hw2 c1 f1 hl1
 have c2:=H2.lex.ca
 have d2:=H2.lex.c0
 go_quiet (fail)
 have H3:=NHeld.call (bl_drewN (Below.refl w2.heap.size w2) nq) H2.lt H2
 clear H2 c2 d2
 generalize hw3:w2.drewN nq=w3 at *
 clear hw3
 have c3:=H3.lex.ca
 obtain ⟨t6,v0,v1,v2,v3,v4,v5,t0,t1,t2,t3,t4,t5⟩:=H3.tok
 have hl3:=H3.lt
 have hb3:=H3.lex.lt
 have H4:=fun o=>NHeld.call ((Below.refl w3.heap.size w3).alloc (Nat.le_refl _) o) H3.lt H3
 go_wp2_with fail
 refine (lex_char _ _ _ _ _ _ (H4 _).lex (by omega)).mono ?_;rintro e w5 ⟨rfl,hB5⟩;rw [show ((a:Int)+S).toNat=a+S by omega,HM.out]
 have H5:=NHeld.call hB5 (H4 _).lt (H4 _)
 have c5:=H5.lex.ca
 have r5:=hB5
 go_wp2_with fail
 refine (lex_char _ _ _ _ _ _ H5.lex (by omega)).mono ?_;rintro e w6 ⟨rfl,hB6⟩;rw [show ((a:Int)+S+1).toNat=a+S+1 by omega,HM.out]
 have H6:=NHeld.call hB6 H5.lt H5
 have c6:=H6.lex.ca
 have r6:=r5.trans (hB6.mono hB5.size)
 go_wp2_with fail
 refine (lex_char _ _ _ _ _ _ H6.lex (by omega)).mono ?_;rintro e w7 ⟨rfl,hB7⟩;rw [show ((a:Int)+S).toNat=a+S by omega,HM.out]
 have H7:=NHeld.call hB7 H6.lt H6
 have r7:=r6.trans (hB7.mono r6.size)
 go_wp2_with fail
 refine (chars_class _ _).mono ?_;rintro e w8 ⟨rfl,hB8⟩;rw [HC.out]
 have H8:=NHeld.call hB8 H7.lt H7
 have r8:=r7.trans (hB8.mono r7.size)
 have fk:=(r8.cell (p:=⟨w3.heap.size,5,none⟩) (by simp)).trans (reader_cell5 w3)
 clear hB7 hB8 H7 r7 r6 H6 c6 H3 H4 c3 hb3 t0 t1 t2 t3 t4 t5 t6 r8
 go_wp2_with fail
 refine (lex_symbol b s tab (a+S) _ H8.lex (by omega)).mono ?_;rintro e w9 ⟨he,hB9⟩
 have H9:=NHeld.call hB9 H8.lt H8
 rw [HM.out] at he
 rw [←HT.out] at he
 generalize hr:tokR M s.data.toList (a+S)=r at *
 have HR:=zq hr
 clear hr
 unfold Gives tokTup at he;subst he
 have c9:=H9.lex.ca
 have hl9:=H9.lt
 have hb9:=H9.lex.lt
 obtain ⟨u6,x0,x1,x2,x3,x4,x5,u0,u1,u2,u3,u4,u5⟩:=H9.tok
 clear H8 hB9 fk
 by_cases he0:r.err=0
 ·have z1:(r.err != 0)=false:=by simp [he0]
  have HK:=HKY.out he0
  have HE0:=zq he0
  clear he0
  go_wp2_with fail
  have hdec:Hid (decide ((a:Int)<(a:Int)+S)=decide (a<a+S)):=by show _=_;rw [decide_eq_decide];omega
  refine bodyPost_ret (v:=nxtTup ⟨r,decide ((a:Int)<(a:Int)+S),0⟩) ?_ rfl ⟨?_,only_sets_alloc H9.only (Nat.le_refl _) _ _ _ _ _ _ _,_,lex_sets_alloc H9.lex (by have:=H9.blt;omega) _ _ _ _ _ _ _⟩
  ·simp [nxtTup,results,Tryz.results54,go_sem,u0,u1,u2,u3,u4,u5,HE0.out,hl9]
  ·rw [HK.out,←hdec.out];rfl
 ·have z1:(r.err != 0)=true:=by simp [he0]
  have HK:=HKN.out r.err he0 rfl
  clear he0
  go_wp2_with fail
  go_region
  go_wp2_with fail
  refine bodyPost_ret (v:=nxtTup ⟨errR r.err,false,(a:Int)+S⟩) ?_ rfl ⟨?_,(only_sets_alloc H9.only (Nat.le_refl _) _ _ _ _ _ _ _).drew,_,(lex_sets_alloc H9.lex (by have:=H9.blt;omega) _ _ _ _ _ _ _).drewN 1⟩
  ·simp [nxtTup,errR,results,Tryz.results54,go_sem,u0,u1,u2,u3,u4,u5,hl9]
  ·rw [HK.out];rfl
set_option maxHeartbeats 800000 in
theorem lex_next (b:Nat) (s:ByteArray) (tab:Int→Int) (a:Nat) (at0:Int) (w:World) (h:Lex w b s tab at0) (ha:a≤s.size) :
  Calls Tryz.prog 54 #[.pointer (some ⟨b,0,none⟩),.int .i64 a] w fun e w'=>GivesN (nextR (cvt tab s.data.toList) s.data.toList a) e∧Only b w w'∧∃q,Lex w' b s tab q:=by
 by_cases e1:(a+skipN ((cvt tab s.data.toList).drop a))=s.size
 ·exact lex_next_end b s tab a at0 w h ha e1
 by_cases e3:rawAt (cvt tab s.data.toList) (a+skipN ((cvt tab s.data.toList).drop a))=47
 ·by_cases e4:rawAt (cvt tab s.data.toList) ((a+skipN ((cvt tab s.data.toList).drop a))+1)=42
  ·exact lex_next_open b s tab a at0 w h ha e1 ⟨e3,e4⟩
  ·exact lex_next_slash b s tab a at0 w h ha e1 e3 e4
 have h0:=cls_lo (rawAt (cvt tab s.data.toList) (a+skipN ((cvt tab s.data.toList).drop a)))
 have h1:=cls_hi (rawAt (cvt tab s.data.toList) (a+skipN ((cvt tab s.data.toList).drop a)))
 have hcs:cls (rawAt (cvt tab s.data.toList) (a+skipN ((cvt tab s.data.toList).drop a)))=0∨cls (rawAt (cvt tab s.data.toList) (a+skipN ((cvt tab s.data.toList).drop a)))=1∨cls (rawAt (cvt tab s.data.toList) (a+skipN ((cvt tab s.data.toList).drop a)))=2∨cls (rawAt (cvt tab s.data.toList) (a+skipN ((cvt tab s.data.toList).drop a)))=3∨cls (rawAt (cvt tab s.data.toList) (a+skipN ((cvt tab s.data.toList).drop a)))=4∨cls (rawAt (cvt tab s.data.toList) (a+skipN ((cvt tab s.data.toList).drop a)))=5∨cls (rawAt (cvt tab s.data.toList) (a+skipN ((cvt tab s.data.toList).drop a)))=6∨cls (rawAt (cvt tab s.data.toList) (a+skipN ((cvt tab s.data.toList).drop a)))=7∨cls (rawAt (cvt tab s.data.toList) (a+skipN ((cvt tab s.data.toList).drop a)))=8:=by omega
 rcases hcs with hc | hc | hc | hc | hc | hc | hc | hc | hc
 ·exact lex_next_0 b s tab a at0 w h ha e1 e3 hc
 ·exact lex_next_1 b s tab a at0 w h ha e1 e3 hc
 ·exact lex_next_2 b s tab a at0 w h ha e1 e3 hc
 ·exact lex_next_3 b s tab a at0 w h ha e1 e3 hc
 ·exact lex_next_4 b s tab a at0 w h ha e1 e3 hc
 ·exact lex_next_5 b s tab a at0 w h ha e1 e3 hc
 ·exact lex_next_6 b s tab a at0 w h ha e1 e3 hc
 ·exact lex_next_7 b s tab a at0 w h ha e1 e3 hc
 ·exact lex_next_8 b s tab a at0 w h ha e1 e3 hc
theorem chars_is_of (c:Int) (b:Bool) (h:isCh c=b) (w:World) :
  Calls Tryz.prog 84 #[.int .i64 c] w fun e w'=>e=.returned (.bool b)∧w=w':=by subst h;exact chars_is c w
set_option maxHeartbeats 2000000 in
theorem chars_valid (A:Option Addr) (n cap:Nat) (l:List (Int×Int)) (w:World) (hn:n=l.length) (hm:n≤maxLen) (hp:Pairs w A l) :
  Calls Tryz.prog 52 #[.slice A n cap] w fun e w'=>e=.returned (.bool (pvalid l))∧Below w.heap.size w w':=by
 unfold maxLen at hm
 have HN:=zq hn
 clear hn
 have HP:=zq hp
 clear hp
 go_enter Tryz.func52,Tryz.ntmps52
 go_wp2
 go_loopw [7] (fun i wr=>∃k:Nat,k≤n∧i=.int .i64 k∧Below w.heap.size w wr∧Hid (∀j,j<k→okAt l j=true)) (fun i _=>n-(intOf i).toNat)
 case atStart=>exact ⟨0,Nat.zero_le _,rfl,Below.refl _ _,fun j hj=>absurd hj (by omega)⟩
 case round=>
  obtain ⟨k,hk,rfl,hB,HA⟩:=hrel
  by_cases hlt:k<n
  ·have hs:=hB.size
   have hkl:k<l.length:=by have:=HN.out;omega
   obtain ⟨b,off,rfl,hb,c1,c2⟩:=(HP.out.below hB) k hkl
   rw [prF_get _ _ hkl] at c1
   rw [prT_get _ _ hkl] at c2
   have Hno:=zq (pvalid_no l k hkl)
   cases q1:isCh (prF l k)
   ·have Q1:=zq q1
    have Hf:=zq (okAt_1 l k q1)
    clear q1
    go_wp2
    go_quiet ((go_at_call 84;first | with_reducible exact quiet0 (chars_is_of _ _ Q1.out _) | with_reducible exact quiet0 (chars_is_of _ _ Q2.out _)))
    go_wp2
    go_ret
    exact ⟨ret_bool (Hno.out Hf.out).symm,bl_drewN (hB.alloc (by omega) _) _⟩
   have Q1:=zq q1
   clear q1
   cases q2:isCh (prT l k)
   ·have Q2:=zq q2
    have Hf:=zq (okAt_2 l k Q1.out q2)
    clear q2
    go_wp2
    go_quiet ((go_at_call 84;first | with_reducible exact quiet0 (chars_is_of _ _ Q1.out _) | with_reducible exact quiet0 (chars_is_of _ _ Q2.out _)))
    go_wp2
    go_ret
    exact ⟨ret_bool (Hno.out Hf.out).symm,bl_drewN (hB.alloc (by omega) _) _⟩
   have Q2:=zq q2
   clear q2
   cases q3:(prF l k==prT l k)
   ·by_cases h0:0<k
    ·obtain ⟨b',off',e',_,c3,_⟩:=(HP.out.below hB) (k-1) (by omega)
     injection e' with e'
     injection e' with e1 e2
     subst e1 e2
     rw [prF_get _ _ (by omega)] at c3
     by_cases q4:prF l (k-1)<prF l k
     ·have Hf:=zq (okAt_5 l k Q1.out Q2.out q3 q4)
      go_wp2
      go_quiet ((go_at_call 84;first | with_reducible exact quiet0 (chars_is_of _ _ Q1.out _) | with_reducible exact quiet0 (chars_is_of _ _ Q2.out _)))
      go_wp2
      go_roundw
      case rel=>exact ⟨k+1,by omega,by go_num,bl_drewN (hB.alloc (by omega) _) _,fun j hj=>by
       rcases Nat.lt_or_ge j k with h | h
       ·exact HA.out j h
       ·have:j=k:=by omega
        subst this;exact Hf.out⟩
      case measure=>simp [intOf];omega
     ·have Hf:=zq (okAt_6 l k Q1.out Q2.out q3 h0 q4)
      go_wp2
      go_quiet ((go_at_call 84;first | with_reducible exact quiet0 (chars_is_of _ _ Q1.out _) | with_reducible exact quiet0 (chars_is_of _ _ Q2.out _)))
      go_wp2
      go_ret
      exact ⟨ret_bool (Hno.out Hf.out).symm,bl_drewN (hB.alloc (by omega) _) _⟩
    ·have Hf:=zq (okAt_4 l k (by omega) Q1.out Q2.out q3)
     have hd:decide ((0:Int)<(k:Int))=false:=by simp;omega
     go_wp2
     go_quiet ((go_at_call 84;first | with_reducible exact quiet0 (chars_is_of _ _ Q1.out _) | with_reducible exact quiet0 (chars_is_of _ _ Q2.out _)))
     go_wp2
     go_roundw
     case rel=>exact ⟨k+1,by omega,by go_num,bl_drewN (hB.alloc (by omega) _) _,fun j hj=>by
      rcases Nat.lt_or_ge j k with h | h
      ·exact HA.out j h
      ·have:j=k:=by omega
       subst this;exact Hf.out⟩
     case measure=>simp [intOf];omega
   ·have Hf:=zq (okAt_3 l k Q1.out Q2.out q3)
    go_wp2
    go_quiet ((go_at_call 84;first | with_reducible exact quiet0 (chars_is_of _ _ Q1.out _) | with_reducible exact quiet0 (chars_is_of _ _ Q2.out _)))
    go_wp2
    go_ret
    exact ⟨ret_bool (Hno.out Hf.out).symm,bl_drewN (hB.alloc (by omega) _) _⟩
  ·have HE:=zq (pvalid_all l (fun j hj=>HA.out j (by have:=HN.out;omega)))
   go_wp2
   go_ret
   exact ⟨ret_bool HE.out.symm,hB⟩
def lexCells (s:ByteArray) (at_:Int):Array Value:=#[.string s]++Array.replicate 256 (.int .i64 0) ++ #[.int .i64 at_]
def lexV (s:ByteArray) (at_:Int):Value:=.agg (lexCells s at_)
theorem build_lexer (s:ByteArray) (at_:Int) (w:World):(Instr.build 134 #[(0,.string s),(2,.int .i64 at_)]).run Tryz.prog w=.ok (lexV s at_) w:=by kernel_rfl
theorem box_lexer (s:ByteArray) (at_:Int) (w:World):(Instr.box 134 (lexV s at_)).run Tryz.prog w=.ok (.pointer (some ⟨w.heap.size,0,none⟩)) (w.alloc (.cells (lexCells s at_) 134)):=by kernel_rfl
theorem wpList_build_lexer {ops:Array Oper} {rest:List Oper} {o:Oper} {a:Act} {Q:Exit→Act→World→Prop} {w:World} (hgd:o.guard=none) (x y:Operand) (s:ByteArray) (at_:Int)
  (ho:o.op=.build 134 #[(0,x),(2,y)]) (hx:a.eval x=.string s) (hy:a.eval y=.int .i64 at_)
  (h:wpList Tryz.prog ops Q rest (a.put o.dst (lexV s at_)) w):wpList Tryz.prog ops Q (o::rest) a w:=by
 refine wpList_plain hgd fun K hK=>?_
 have e:(execOp a.eval o).run Tryz.prog w=.ok (.value (lexV s at_)) w:=by
  unfold execOp
  rw [ho]
  have hm:Array.map (fun x=>(x.fst,a.eval x.snd)) #[(0,x),(2,y)]=#[(0,.string s),(2,.int .i64 at_)]:=by simp [hx,hy]
  simp only [hm]
  rw [Sem.run_bind,build_lexer]
  rfl
 unfold Oper.wp
 rw [e]
 exact hK _ _ h
theorem wpList_box_lexer {ops:Array Oper} {rest:List Oper} {o:Oper} {a:Act} {Q:Exit→Act→World→Prop} {w:World} (hgd:o.guard=none) (x:Operand) (s:ByteArray) (at_:Int)
  (ho:o.op=.box 134 x) (hx:a.eval x=lexV s at_)
  (h:wpList Tryz.prog ops Q rest (a.put o.dst (.pointer (some ⟨w.heap.size,0,none⟩))) (w.alloc (.cells (lexCells s at_) 134))):wpList Tryz.prog ops Q (o::rest) a w:=by
 refine wpList_plain hgd fun K hK=>?_
 have e:(execOp a.eval o).run Tryz.prog w=.ok (.value (.pointer (some ⟨w.heap.size,0,none⟩))) (w.alloc (.cells (lexCells s at_) 134)):=by
  unfold execOp
  rw [ho]
  simp only [hx]
  rw [Sem.run_bind,box_lexer]
  rfl
 unfold Oper.wp
 rw [e]
 exact hK _ _ h
theorem lexCells_get (s:ByteArray) (at_:Int):(lexCells s at_)[0]? = some (.string s)∧(lexCells s at_)[257]? = some (.int .i64 at_):=by
 unfold lexCells
 constructor
 ·rw [Array.getElem?_append_left (by simp),Array.getElem?_append_left (by simp)];rfl
 ·rw [Array.getElem?_append_right (by simp)];simp
structure LexP (w:World) (b:Nat) (s:ByteArray) (tab:Int→Int) (at_:Int):Prop where
 lt:b<w.heap.size
 c0:w.cell? ⟨b,0,none⟩=some (.string s)
 ct:∀c:Nat,c<256→w.cell? ⟨b,1+c,none⟩=some (.int .i64 (tab c))
 ca:w.cell? ⟨b,257,none⟩=some (.int .i64 at_)
 fr:∀o,w.frozen? ⟨b,o,none⟩=false
theorem lexCells_at (s:ByteArray) (at_:Int) (c:Nat) (h:c<256):(lexCells s at_)[1+c]? = some (.int .i64 0):=by
 unfold lexCells
 rw [Array.getElem?_append_left (by simp;omega),Array.getElem?_append_right (by simp)]
 simp [Array.getElem?_replicate];omega
theorem LexP.start (w:World) (s:ByteArray) (at_:Int) (t:TypeId):LexP (w.alloc (.cells (lexCells s at_) t)) w.heap.size s (fun _=>0) at_ where
 lt:=by simp
 c0:=by rw [World.cell?_alloc_new];exact (lexCells_get s at_).1
 ct:=fun c hc=>by rw [World.cell?_alloc_new];exact lexCells_at s at_ c hc
 ca:=by rw [World.cell?_alloc_new];exact (lexCells_get s at_).2
 fr:=fun o=>by
  have hb:(w.alloc (.cells (lexCells s at_) t)).heap[w.heap.size]? = some (.cells (lexCells s at_) t):=by show (w.heap.push _)[w.heap.size]? = _;simp
  unfold World.frozen?;simp only [hb];simp
theorem LexP.set {w:World} {b:Nat} {s:ByteArray} {tab:Int→Int} {at_:Int} (h:LexP w b s tab at_) (k:Nat) (hk:k<256) (v:Int):LexP (w.setCell ⟨b,1+k,none⟩ (.int .i64 v)) b s (fun x=>if x=k then v else tab x) at_ where
 lt:=by simp [World.setCell];exact h.lt
 c0:=(World.cell?_setCell_other w _ _ _ (by intro hh;injection hh with _ h2 _;omega)).trans h.c0
 ct:=fun c hc=>by
  by_cases hck:c=k
  ·subst hck
   rw [World.cell?_setCell_same w _ _ (h.ct c hc)];simp
  ·rw [World.cell?_setCell_other w _ _ _ (by intro hh;injection hh with _ h2 _;omega),h.ct c hc]
   simp [show ¬((c:Int)=(k:Int)) by omega]
 ca:=(World.cell?_setCell_other w _ _ _ (by intro hh;injection hh with _ h2 _;omega)).trans h.ca
 fr:=fun o=>(frozen_set _ _ _ _).trans (h.fr o)
theorem LexP.same {w w':World} {b:Nat} {s:ByteArray} {tab:Int→Int} {at_:Int} (h:LexP w b s tab at_) (hs:w.heap.size≤w'.heap.size) (hb:w'.heap[b]? = w.heap[b]?):LexP w' b s tab at_ where
 lt:=Nat.lt_of_lt_of_le h.lt hs
 c0:=(World.cell?_of_block (w:=w) hb).trans h.c0
 ct:=fun c hc=>(World.cell?_of_block (w:=w) hb).trans (h.ct c hc)
 ca:=(World.cell?_of_block (w:=w) hb).trans h.ca
 fr:=fun o=>(World.frozen?_of_block (w:=w) hb).trans (h.fr o)
theorem LexP.congr {w:World} {b:Nat} {s:ByteArray} {tab tab':Int→Int} {at_:Int} (h:LexP w b s tab at_) (e:∀c:Nat,c<256→tab c=tab' c):LexP w b s tab' at_ :=
 ⟨h.lt,h.c0,fun c hc=>by rw [h.ct c hc,e c hc],h.ca,h.fr⟩
theorem LexP.lex {w:World} {b:Nat} {s:ByteArray} {tab:Int→Int} {at_:Int} (h:LexP w b s tab at_) (hz:s.size≤16384) (ht:TabOk tab):Lex w b s tab at_:=⟨h.lt,h.c0,h.ct,h.ca,h.fr,hz,ht⟩
theorem convT_snoc (l:List (Int×Int)) (k:Nat) (h:k<l.length) (c:Int):convT (l.take (k+1)) c=if prF l k=c then prT l k else convT (l.take k) c:=by
 unfold convT
 rw [List.take_succ_eq_append_getElem h,List.foldl_append]
 simp only [List.foldl_cons,List.foldl_nil]
 rw [prF_get _ _ h,prT_get _ _ h]
theorem convT_ok (l:List (Int×Int)) (h:∀j,j<l.length→0≤prT l j∧prT l j≤255):∀k,k≤l.length→TabOk (convT (l.take k))
 | 0,_=>fun c h0 h1=>by simp [convT];omega
 | k+1,hk=>fun c h0 h1=>by
  rw [convT_snoc l k (by omega)]
  split
  ·exact h k (by omega)
  ·exact convT_ok l h k (by omega) c h0 h1
def openOk (s:ByteArray) (at_:Int) (l:List (Int×Int)):Prop:=s.size≤16384∧0≤at_∧at_≤s.size∧pvalid l=true
set_option maxHeartbeats 800000 in
theorem lex_open_no (s:ByteArray) (at_:Int) (A:Option Addr) (n cap:Nat) (l:List (Int×Int)) (w:World) (hn:n=l.length) (hm:n≤maxLen) (hs:s.size≤maxLen) (hp:Pairs w A l) (ho:¬openOk s at_ l) :
  Calls Tryz.prog 53 #[.string s,.int .i64 at_,.slice A n cap] w fun e w'=>e=.returned (.tuple #[.pointer none,.bool false])∧Below w.heap.size w w':=by
 unfold maxLen at hs
 have hd:(16384:Int)<s.size∨((s.size:Int)≤16384∧at_<0)∨((s.size:Int)≤16384∧0≤at_∧(s.size:Int)<at_)∨((s.size:Int)≤16384∧0≤at_∧at_≤s.size∧pvalid l=false):=by
  unfold openOk at ho
  by_cases c1:s.size≤16384
  ·by_cases c2:0≤at_
   ·by_cases c3:at_≤s.size
    ·refine .inr (.inr (.inr ⟨by omega,c2,c3,?_⟩))
     cases hv:pvalid l
     ·rfl
     ·exact absurd ⟨c1,c2,c3,hv⟩ ho
    ·exact .inr (.inr (.inl ⟨by omega,c2,by omega⟩))
   ·exact .inr (.inl ⟨by omega,by omega⟩)
  ·exact .inl (by omega)
 have HV:=zq (chars_valid A n cap l w hn hm hp)
 clear hn hp ho
 rcases hd with d1 | ⟨d1,d2⟩ | ⟨d1,d2,d3⟩ | ⟨d1,d2,d3,d4⟩
 ·have e1:decide (16384<s.size)=true:=by simp;omega
  go_enter Tryz.func53,Tryz.ntmps53
  go_wp2_with fail
  go_ret2
  exact ⟨rfl,Below.refl _ _⟩
 ·have e1:decide (16384<s.size)=false:=by simp;omega
  have e2:decide (at_<0)=true:=by simp;omega
  go_enter Tryz.func53,Tryz.ntmps53
  go_wp2_with fail
  go_ret2
  exact ⟨rfl,Below.refl _ _⟩
 ·have e1:decide (16384<s.size)=false:=by simp;omega
  have e2:decide (at_<0)=false:=by simp;omega
  have e3:decide ((s.size:Int)<at_)=true:=by simp;omega
  go_enter Tryz.func53,Tryz.ntmps53
  go_wp2_with fail
  go_ret2
  exact ⟨rfl,Below.refl _ _⟩
 ·have e1:decide (16384<s.size)=false:=by simp;omega
  have e2:decide (at_<0)=false:=by simp;omega
  have e3:decide ((s.size:Int)<at_)=false:=by simp;omega
  have D4:=zq d4
  clear d4
  go_enter Tryz.func53,Tryz.ntmps53
  go_wp2_with fail
  refine HV.out.mono ?_;rintro e w1 ⟨rfl,hB⟩;rw [D4.out]
  go_wp2_with fail
  go_ret2
  exact ⟨rfl,hB⟩
set_option maxHeartbeats 1600000 in
theorem lex_open_yes (s:ByteArray) (at_:Int) (A:Option Addr) (n cap:Nat) (l:List (Int×Int)) (w:World) (hn:n=l.length) (hm:n≤maxLen) (hp:Pairs w A l) (ho:openOk s at_ l) :
  Calls Tryz.prog 53 #[.string s,.int .i64 at_,.slice A n cap] w fun e w'=>∃b,e=.returned (.tuple #[.pointer (some ⟨b,0,none⟩),.bool true])∧w.heap.size≤b∧Below w.heap.size w w'∧Lex w' b s (convT l) at_:=by
 obtain ⟨d1,d2,d3,d4⟩:=ho
 have e1:decide (16384<s.size)=false:=by simp;omega
 have e2:decide (at_<0)=false:=by simp;omega
 have e3:decide ((s.size:Int)<at_)=false:=by simp;omega
 have HV:=zq (chars_valid A n cap l w hn hm hp)
 have HP:=zq hp
 have HN:=zq hn
 have D4:=zq d4
 unfold maxLen at hm
 have hbd:Hid (∀j,j<l.length→(0≤prF l j∧prF l j≤255)∧0≤prT l j∧prT l j≤255):=fun j hj=>by
  have:=pvalid_at l D4.out j hj
  unfold okAt at this
  simp only [Bool.and_eq_true] at this
  exact ⟨(isCh_iff _).1 this.1,(isCh_iff _).1 this.2.1⟩
 clear hn hp d4
 go_enter Tryz.func53,Tryz.ntmps53
 go_wp2_with fail
 refine HV.out.mono ?_;rintro e w1 ⟨rfl,hB⟩;rw [D4.out]
 go_wp2_with (first | (refine wpList_build_lexer rfl _ _ s at_ rfl rfl rfl ?_) | (refine wpList_box_lexer rfl _ s at_ rfl rfl ?_))
 have P0:=LexP.start w1 s at_ 134
 have hB0:=hB.trans (((Below.refl w1.heap.size w1).alloc (Nat.le_refl _) (.cells (lexCells s at_) 134)).mono hB.size)
 have hbge:=hB.size
 generalize hw2:w1.alloc (.cells (lexCells s at_) 134)=w2 at *
 generalize hbb:w1.heap.size=b at *
 clear hw2 hbb hB
 go_loopw [34] (fun i wr=>∃k:Nat,k≤256∧i=.int .i64 k∧Below w.heap.size w wr∧LexP wr b s (fun x=>if x<k then x else 0) at_) (fun i _=>256-(intOf i).toNat)
 case atStart=>exact ⟨0,Nat.zero_le _,rfl,hB0,P0.congr fun c _=>by rw [if_neg (by omega)]⟩
 case round=>
  obtain ⟨k,hk,rfl,hB1,P1⟩:=hrel
  by_cases hlt:k<256
  ·have ck:=P1.ct k hlt
   have fk:=P1.fr (1+k)
   have hbl:=P1.lt
   have P2:=P1.set k hlt k
   go_wp2_with fail
   go_roundw
   case rel=>exact ⟨k+1,by omega,by go_num,hB1.setCell (p:=⟨b,_,none⟩) hbge _,P2.congr fun c _=>by grind⟩
   case measure=>simp [intOf];omega
  ·obtain rfl:k=256:=by omega
   have Q0:LexP wr b s (convT (l.take 0)) at_:=P1.congr fun c hc=>by rw [if_pos (by omega)];rfl
   clear P1
   go_wp2_with fail
   go_loopw [46] (fun i wx=>∃k:Nat,k≤n∧i=.int .i64 k∧Below w.heap.size w wx∧LexP wx b s (convT (l.take k)) at_) (fun i _=>n-(intOf i).toNat)
   case atStart=>exact ⟨0,Nat.zero_le _,rfl,hB1,Q0⟩
   case round=>
    obtain ⟨k,hk,rfl,hB2,P2⟩:=hrel
    by_cases hlt2:k<n
    ·have hkl:k<l.length:=by have:=HN.out;omega
     obtain ⟨b',off,rfl,hb',c1,c2⟩:=(HP.out.below hB2) k hkl
     rw [prF_get _ _ hkl] at c1
     rw [prT_get _ _ hkl] at c2
     obtain ⟨⟨q0,q1⟩,q2,q3⟩:=hbd.out k hkl
     obtain ⟨m,hmF⟩:=Int.eq_ofNat_of_zero_le q0
     rw [hmF] at c1
     have hm1:m<256:=by omega
     have HT:=zq (convT_snoc l k hkl)
     have HmF:=zq hmF
     clear q0 q1 hmF
     go_wp2_with fail
     have hA:=(Below.refl wr.heap.size wr).alloc (Nat.le_refl _) (.cells #[.int .i64 m,.int .i64 (prT l k)] 131)
     have P4:=P2.same hA.size (hA.block b P2.lt)
     have hB4:=hB2.trans (hA.mono hB2.size)
     have g0:(wr.alloc (.cells #[.int .i64 m,.int .i64 (prT l k)] 131)).cell? ⟨wr.heap.size,0,none⟩=some (.int .i64 m):=by rw [World.cell?_alloc_new];rfl
     have g1:(wr.alloc (.cells #[.int .i64 m,.int .i64 (prT l k)] 131)).cell? ⟨wr.heap.size,1,none⟩=some (.int .i64 (prT l k)):=by rw [World.cell?_alloc_new];rfl
     generalize hw4:wr.alloc (.cells #[.int .i64 m,.int .i64 (prT l k)] 131)=w4 at *
     clear hw4 hA P2
     have ck:=P4.ct m hm1
     have fk:=P4.fr (1+m)
     have hbl:=P4.lt
     have P5:=P4.set m hm1 (prT l k)
     go_region
     go_wp2_with fail
     go_roundw
     case rel=>exact ⟨k+1,by omega,by go_num,(hB4.setCell (p:=⟨b,_,none⟩) hbge _).drew,(P5.congr fun c _=>by rw [HT.out,HmF.out];grind).same (Nat.le_refl _) rfl⟩
     case measure=>simp [intOf];omega
    ·have hkn:k=l.length:=by have:=HN.out;omega
     have HT:=zq (show l.take k=l from List.take_of_length_le (by omega))
     rw [HT.out] at P2
     have hok:=convT_ok l (fun j hj=>(hbd.out j hj).2) l.length (Nat.le_refl _)
     rw [List.take_length] at hok
     have HO:=zq hok
     clear hok
     go_wp2_with fail
     go_ret2
     exact ⟨b,rfl,hbge,hB2,P2.lex d1 HO.out⟩
def okArgs (L:List UInt8) (at_:Int) (conv:List (Int×Int)):Bool:=decide (L.length≤16384)&&(decide (0≤at_)&&(decide (at_≤L.length)&&pvalid conv))
theorem okArgs_iff (s:ByteArray) (at_:Int) (conv:List (Int×Int)):okArgs s.data.toList at_ conv=true↔openOk s at_ conv:=by
 unfold okArgs openOk;rw [size_data];simp
end Go.Proofs.YtbojljpldcijgaaGreat
