/- Parts of the proof. -/
import Derived.Test.YtbojljpldcijgaaGreatH01
import Derived.Test.YtbojljpldcijgaaGreatH03
import Derived.Test.YtbojljpldcijgaaGreatH02
import Derived.WalkMore
import Derived.Deep.LoopGhost
import Derived.RegionTactic
import Derived.BigRegion
import Derived.Laws.EntriesVeiled
namespace Go.Proofs.YtbojljpldcijgaaGreat
open Go.RowKit Hb
set_option maxRecDepth 100000
theorem base_cs (c n:Int) (h:n=(if c=120 then 16 else if c=111 then 8 else if c=98 then 2 else 0)):((c==120)=true∧n=16)∨((c==120)=false∧(c==111)=true∧n=8)∨((c==120)=false∧(c==111)=false∧(c==98)=true∧n=2)∨((c==120)=false∧(c==111)=false∧(c==98)=false∧n=0):=by
 by_cases h1:c=120
 ·left;simp [h1] at h ⊢;exact h
 by_cases h2:c=111
 ·right;left;simp [h2] at h ⊢;exact h
 by_cases h3:c=98
 ·right;right;left;simp [h3] at h ⊢;exact h
 ·right;right;right;simp [h1,h2,h3] at h ⊢;exact h
theorem bAt_take (l:List UInt8) (n k:Nat) (h:k<n):bAt (l.take n) k=bAt l k:=by
 unfold bAt;simp only [List.getD_eq_getElem?_getD,List.getElem?_take_of_lt h]
theorem digits_ok (base:Int) (h0:2≤base) (h1:base≤36) (l:List UInt8) (k:Nat) (hk:k<(l.take (span (isDig base) l)).length):dgt (bAt (l.take (span (isDig base) l)) k)<base:=by
 have hk':k<span (isDig base) l:=by simp at hk;omega
 obtain ⟨hq,hl⟩:=span_rest _ _ _ hk'
 rw [rawAt_in _ _ hl] at hq
 unfold isDig at hq
 rw [digOk_dgt _ _ h0 h1] at hq
 rw [bAt_take _ _ _ hk']
 simpa using hq
theorem digits_len (base:Int) (l:List UInt8):(l.take (span (isDig base) l)).length=span (isDig base) l:=by
 have:=span_le (isDig base) l
 rw [List.length_take,Nat.min_eq_left this]
set_option maxHeartbeats 1600000 in
theorem lex_number (b:Nat) (s:ByteArray) (tab:Int→Int) (p:Nat) (w:World) (h:Lex w b s tab p) (hp:p<s.size) (hdig:isDig 10 (rawAt (cvt tab s.data.toList) p)=true) :
  Calls Tryz.prog 88 #[.pointer (some ⟨b,0,none⟩)] w fun e w'=>Gives (numR (cvt tab s.data.toList) s.data.toList p) e∧Below w.heap.size w w':=by
 have H0:=Held.start h
 have hlt:=h.lt
 have ca:=h.ca
 have hsz:=h.sz
 clear h
 have hlen:Hid ((cvt tab s.data.toList).length=s.size):=by show _=_;rw [cvt_len];simp
 generalize hM:cvt tab s.data.toList=M at *
 have HM:=zq hM
 clear hM
 have hsd:1≤span (isDig 10) (M.drop p):=span_pos _ _ (by simp;have:=hlen.out;omega) (by rw [rawAt_drop,Nat.add_zero];exact hdig)
 clear hdig
 by_cases a1:rawAt M p=48
 ·have b1:(rawAt M p==48)=true:=by simp [a1]
  by_cases a2:rawAt M (p+1)=39
  ·have b2:(rawAt M (p+1)==39)=true:=by simp [a2]
   cases hq:quotedS (s.data.toList.drop (p+2)) 39 with
   | none=>
    have HK:=zq (show numR M s.data.toList p=errR 7 by unfold numR;rw [if_pos ⟨a1,a2⟩,hq])
    have HQ:=zq hq
    clear a1 a2 hq
    go_enter Tryz.func88,Tryz.ntmps88
    go_wp2_with fail
    refine (lex_char _ _ _ _ _ _ H0.lex (by omega)).mono ?_;rintro e w1 ⟨rfl,hB1⟩;rw [Int.toNat_natCast,HM.out]
    have H1:=Held.call hB1 H0
    have c1:=H1.lex.ca
    go_wp2_with fail
    refine (lex_char _ _ _ _ _ _ H1.lex (by omega)).mono ?_;rintro e w2 ⟨rfl,hB2⟩;rw [show ((p:Int)+1).toNat=p+1 by omega,HM.out]
    have H2:=Held.call hB2 H1
    have c2:=H2.lex.ca
    clear hB1 hB2 H1 c1 H0
    go_wp2_with fail
    refine (lex_quoted _ _ _ _ _ _ _ H2.lex (by omega) (by omega)).mono ?_;rintro e w3 ⟨he,rfl⟩;rw [show ((p:Int)+2).toNat=p+2 by omega,HQ.out] at he
    obtain ⟨x,y,rfl⟩:=he
    obtain ⟨t6,v0,v1,v2,v3,v4,v5,t0,t1,t2,t3,t4,t5⟩:=H2.tok
    have hltc:=H2.lt
    go_wp2_with fail
    refine bodyPost_ret (v:=tokTup (errR 7)) (by simp [tokTup,errR,results,Tryz.results88,go_sem,t0,t1,t2,t3,t4,t5]) rfl ⟨?_,(H2.sets _ _ _ _ _ _).bel⟩
    rw [HK.out];rfl
   | some ck=>
    obtain ⟨c,k⟩:=ck
    have HK:=zq (show numR M s.data.toList p=⟨4,[],c,p,p+2+k,0⟩ by unfold numR;rw [if_pos ⟨a1,a2⟩,hq])
    have HQ:=zq hq
    clear a1 a2 hq
    go_enter Tryz.func88,Tryz.ntmps88
    go_wp2_with fail
    refine (lex_char _ _ _ _ _ _ H0.lex (by omega)).mono ?_;rintro e w1 ⟨rfl,hB1⟩;rw [Int.toNat_natCast,HM.out]
    have H1:=Held.call hB1 H0
    have c1:=H1.lex.ca
    go_wp2_with fail
    refine (lex_char _ _ _ _ _ _ H1.lex (by omega)).mono ?_;rintro e w2 ⟨rfl,hB2⟩;rw [show ((p:Int)+1).toNat=p+1 by omega,HM.out]
    have H2:=Held.call hB2 H1
    have c2:=H2.lex.ca
    clear hB1 hB2 H1 c1 H0
    go_wp2_with fail
    refine (lex_quoted _ _ _ _ _ _ _ H2.lex (by omega) (by omega)).mono ?_;rintro e w3 ⟨he,rfl⟩;rw [show ((p:Int)+2).toNat=p+2 by omega,HQ.out] at he
    unfold QRes at he
    simp only [] at he
    subst he
    obtain ⟨t6,v0,v1,v2,v3,v4,v5,t0,t1,t2,t3,t4,t5⟩:=H2.tok
    have hltc:=H2.lt
    go_wp2_with fail
    refine bodyPost_ret (v:=tokTup ⟨4,[],c,p,p+2+k,0⟩) (by simp [tokTup,results,Tryz.results88,go_sem,t0,t1,t2,t3,t4,t5]) rfl ⟨?_,(H2.sets _ _ _ _ _ _).bel⟩
    rw [HK.out];rfl
  ·have b2:(rawAt M (p+1)==39)=false:=by simp [a2]
   by_cases a3:0<numBase M p∧0<span (isDig (numBase M p)) (M.drop (p+2))
   ·have HK:=zq (show numR M s.data.toList p=intR (numBase M p) ((M.drop (p+2)).take (span (isDig (numBase M p)) (M.drop (p+2)))) p (p+2+span (isDig (numBase M p)) (M.drop (p+2))) by unfold numR;rw [if_neg (fun h=>a2 h.2),if_pos a3])
    have HN:=zq (show numBase M p=(if rawAt M (p+1)=120 then 16 else if rawAt M (p+1)=111 then 8 else if rawAt M (p+1)=98 then 2 else 0) by unfold numBase;rw [if_pos a1])
    have hcs:((rawAt M (p+1)==120)=true∧numBase M p=16)∨((rawAt M (p+1)==120)=false∧(rawAt M (p+1)==111)=true∧numBase M p=8)∨((rawAt M (p+1)==120)=false∧(rawAt M (p+1)==111)=false∧(rawAt M (p+1)==98)=true∧numBase M p=2):=by
     have h2:=a3.1
     rcases base_cs _ _ HN.out with h | h | h | h
     ·exact .inl h
     ·exact .inr (.inl h)
     ·exact .inr (.inr h)
     ·exact absurd h.2.2.2 (by omega)
    have h3:=a3.2
    clear a1 a2 a3 HN
    have hb2:2≤numBase M p∧numBase M p≤36:=by omega
    generalize hbs:numBase M p=bs at *
    have HBS:=zq hbs
    clear hbs
    have hspd:=span_le (isDig bs) (M.drop (p+2))
    rw [List.length_drop,hlen.out] at hspd
    have HDl:=zq (digits_len bs (M.drop (p+2)))
    have HOKd:=zq (digits_ok bs hb2.1 hb2.2 (M.drop (p+2)))
    generalize hDD:span (isDig bs) (M.drop (p+2))=D at *
    have HDD:=zq hDD
    clear hDD
    rcases hcs with ⟨x1,rfl⟩ | ⟨x1,x2,rfl⟩ | ⟨x1,x2,x3,rfl⟩
    all_goals
     go_enter Tryz.func88,Tryz.ntmps88
     go_wp2_with fail
     refine (lex_char _ _ _ _ _ _ H0.lex (by omega)).mono ?_;rintro e w1 ⟨rfl,hB1⟩;rw [Int.toNat_natCast,HM.out]
     have H1:=Held.call hB1 H0
     have c1:=H1.lex.ca
     go_wp2_with fail
     refine (lex_char _ _ _ _ _ _ H1.lex (by omega)).mono ?_;rintro e w2 ⟨rfl,hB2⟩;rw [show ((p:Int)+1).toNat=p+1 by omega,HM.out]
     have H2:=Held.call hB2 H1
     have c2:=H2.lex.ca
     clear hB1 hB2 H1 c1 H0
     go_wp2_with fail
     refine (lex_digits _ _ _ _ _ _ _ H2.lex (by omega)).mono ?_;rintro e wA ⟨rfl,hBA⟩;rw [show ((p:Int)+2).toNat=p+2 by omega,HM.out,HDD.out]
     have HA:=Held.call hBA H2
     have cA:=HA.lex.ca
     go_wp2_with fail
     refine (lex_part _ _ _ _ _ _ _ HA.lex (by omega) (by omega) (by omega)).mono ?_;rintro e wB ⟨rfl,hBB⟩;rw [show ((p:Int)+2).toNat=p+2 by omega,HM.out,show ((p:Int)+2+D-(p+2)).toNat=D by omega]
     have HB:=Held.call hBB HA
     go_wp2_with fail
     refine (lex_integer _ _ _ _ _ _ _ _ HB.lex (by rw [HDl.out];omega) (by rw [HDl.out];omega) (by decide) (by decide) HOKd.out).mono ?_;rintro e wC ⟨he,hBC⟩
     have HC:=Held.call hBC HB
     generalize hr:intR _ _ _ _=r at he
     have HR:=zq hr
     clear hr hBA hBB hBC HA HB H2 c2 cA
     unfold Gives tokTup at he;subst he
     obtain ⟨t6,v0,v1,v2,v3,v4,v5,t0,t1,t2,t3,t4,t5⟩:=HC.tok
     have hltc:=HC.lt
     go_wp2_with fail
     refine bodyPost_ret (v:=tokTup r) (by simp [tokTup,results,Tryz.results88,go_sem,t0,t1,t2,t3,t4,t5]) rfl ⟨?_,(HC.sets _ _ _ _ _ _).bel⟩
     rw [HK.out,HR.out];rfl
   ·have HK:=zq (show numR M s.data.toList p=intR 10 ((M.drop p).take (span (isDig 10) (M.drop p))) p (p+span (isDig 10) (M.drop p)) by unfold numR;rw [if_neg (fun h=>a2 h.2),if_neg a3])
    have HN:=zq (show numBase M p=(if rawAt M (p+1)=120 then 16 else if rawAt M (p+1)=111 then 8 else if rawAt M (p+1)=98 then 2 else 0) by unfold numBase;rw [if_pos a1])
    have hcs:((rawAt M (p+1)==120)=true∧numBase M p=16)∨((rawAt M (p+1)==120)=false∧(rawAt M (p+1)==111)=true∧numBase M p=8)∨((rawAt M (p+1)==120)=false∧(rawAt M (p+1)==111)=false∧(rawAt M (p+1)==98)=true∧numBase M p=2)∨((rawAt M (p+1)==120)=false∧(rawAt M (p+1)==111)=false∧(rawAt M (p+1)==98)=false∧numBase M p=0):=base_cs _ _ HN.out
    have A3:=zq a3
    clear a1 a2 a3 HN
    generalize hbs:numBase M p=bs at *
    have HBS:=zq hbs
    clear hbs
    rcases hcs with ⟨x1,rfl⟩ | ⟨x1,x2,rfl⟩ | ⟨x1,x2,x3,rfl⟩ | ⟨x1,x2,x3,rfl⟩
    ·have HD0:=zq (show span (isDig 16) (M.drop (p+2))=0 by have:=A3.out;omega)
     go_enter Tryz.func88,Tryz.ntmps88
     go_wp2_with fail
     refine (lex_char _ _ _ _ _ _ H0.lex (by omega)).mono ?_;rintro e w1 ⟨rfl,hB1⟩;rw [Int.toNat_natCast,HM.out]
     have H1:=Held.call hB1 H0
     have c1:=H1.lex.ca
     go_wp2_with fail
     refine (lex_char _ _ _ _ _ _ H1.lex (by omega)).mono ?_;rintro e w2 ⟨rfl,hB2⟩;rw [show ((p:Int)+1).toNat=p+1 by omega,HM.out]
     have H2:=Held.call hB2 H1
     have c2:=H2.lex.ca
     clear hB1 hB2 H1 c1 H0
     go_wp2_with fail
     refine (lex_digits _ _ _ _ _ _ _ H2.lex (by omega)).mono ?_;rintro e wA ⟨rfl,hBA⟩;rw [show ((p:Int)+2).toNat=p+2 by omega,HM.out,show span (isDig 16) (M.drop (p+2))=0 from HD0.out]
     have Hn:=Held.call hBA H2
     clear hBA H2 c2
     have cm:=Hn.lex.ca
     go_wp2_with fail
     have hspd:=span_le (isDig 10) (M.drop p)
     rw [List.length_drop,hlen.out] at hspd
     have HDl:=zq (digits_len 10 (M.drop p))
     have HOKd:=zq (digits_ok 10 (by decide) (by decide) (M.drop p))
     have cN:=Hn.lex.ca
     generalize hDD:span (isDig 10) (M.drop p)=D at *
     have HDD:=zq hDD
     clear hDD
     go_wp2_with fail
     refine (lex_digits _ _ _ _ _ _ _ Hn.lex (by omega)).mono ?_;rintro e wA ⟨rfl,hBA⟩;rw [Int.toNat_natCast,HM.out,HDD.out]
     have HA:=Held.call hBA Hn
     have cA:=HA.lex.ca
     go_wp2_with fail
     refine (lex_part _ _ _ _ _ _ _ HA.lex (by omega) (by omega) (by omega)).mono ?_;rintro e wB ⟨rfl,hBB⟩;rw [Int.toNat_natCast,HM.out,show ((p:Int)+D-p).toNat=D by omega]
     have HB:=Held.call hBB HA
     go_wp2_with fail
     refine (lex_integer _ _ _ _ _ _ _ _ HB.lex (by rw [HDl.out];omega) (by rw [HDl.out];omega) (by decide) (by decide) HOKd.out).mono ?_;rintro e wC ⟨he,hBC⟩
     have HC:=Held.call hBC HB
     generalize hr:intR _ _ _ _=r at he
     have HR:=zq hr
     clear hr hBA hBB hBC HA HB Hn cN cA
     unfold Gives tokTup at he;subst he
     obtain ⟨t6,v0,v1,v2,v3,v4,v5,t0,t1,t2,t3,t4,t5⟩:=HC.tok
     have hltc:=HC.lt
     go_wp2_with fail
     refine bodyPost_ret (v:=tokTup r) (by simp [tokTup,results,Tryz.results88,go_sem,t0,t1,t2,t3,t4,t5]) rfl ⟨?_,(HC.sets _ _ _ _ _ _).bel⟩
     rw [HK.out,HR.out];rfl
    ·have HD0:=zq (show span (isDig 8) (M.drop (p+2))=0 by have:=A3.out;omega)
     go_enter Tryz.func88,Tryz.ntmps88
     go_wp2_with fail
     refine (lex_char _ _ _ _ _ _ H0.lex (by omega)).mono ?_;rintro e w1 ⟨rfl,hB1⟩;rw [Int.toNat_natCast,HM.out]
     have H1:=Held.call hB1 H0
     have c1:=H1.lex.ca
     go_wp2_with fail
     refine (lex_char _ _ _ _ _ _ H1.lex (by omega)).mono ?_;rintro e w2 ⟨rfl,hB2⟩;rw [show ((p:Int)+1).toNat=p+1 by omega,HM.out]
     have H2:=Held.call hB2 H1
     have c2:=H2.lex.ca
     clear hB1 hB2 H1 c1 H0
     go_wp2_with fail
     refine (lex_digits _ _ _ _ _ _ _ H2.lex (by omega)).mono ?_;rintro e wA ⟨rfl,hBA⟩;rw [show ((p:Int)+2).toNat=p+2 by omega,HM.out,show span (isDig 8) (M.drop (p+2))=0 from HD0.out]
     have Hn:=Held.call hBA H2
     clear hBA H2 c2
     have cm:=Hn.lex.ca
     go_wp2_with fail
     have hspd:=span_le (isDig 10) (M.drop p)
     rw [List.length_drop,hlen.out] at hspd
     have HDl:=zq (digits_len 10 (M.drop p))
     have HOKd:=zq (digits_ok 10 (by decide) (by decide) (M.drop p))
     have cN:=Hn.lex.ca
     generalize hDD:span (isDig 10) (M.drop p)=D at *
     have HDD:=zq hDD
     clear hDD
     go_wp2_with fail
     refine (lex_digits _ _ _ _ _ _ _ Hn.lex (by omega)).mono ?_;rintro e wA ⟨rfl,hBA⟩;rw [Int.toNat_natCast,HM.out,HDD.out]
     have HA:=Held.call hBA Hn
     have cA:=HA.lex.ca
     go_wp2_with fail
     refine (lex_part _ _ _ _ _ _ _ HA.lex (by omega) (by omega) (by omega)).mono ?_;rintro e wB ⟨rfl,hBB⟩;rw [Int.toNat_natCast,HM.out,show ((p:Int)+D-p).toNat=D by omega]
     have HB:=Held.call hBB HA
     go_wp2_with fail
     refine (lex_integer _ _ _ _ _ _ _ _ HB.lex (by rw [HDl.out];omega) (by rw [HDl.out];omega) (by decide) (by decide) HOKd.out).mono ?_;rintro e wC ⟨he,hBC⟩
     have HC:=Held.call hBC HB
     generalize hr:intR _ _ _ _=r at he
     have HR:=zq hr
     clear hr hBA hBB hBC HA HB Hn cN cA
     unfold Gives tokTup at he;subst he
     obtain ⟨t6,v0,v1,v2,v3,v4,v5,t0,t1,t2,t3,t4,t5⟩:=HC.tok
     have hltc:=HC.lt
     go_wp2_with fail
     refine bodyPost_ret (v:=tokTup r) (by simp [tokTup,results,Tryz.results88,go_sem,t0,t1,t2,t3,t4,t5]) rfl ⟨?_,(HC.sets _ _ _ _ _ _).bel⟩
     rw [HK.out,HR.out];rfl
    ·have HD0:=zq (show span (isDig 2) (M.drop (p+2))=0 by have:=A3.out;omega)
     go_enter Tryz.func88,Tryz.ntmps88
     go_wp2_with fail
     refine (lex_char _ _ _ _ _ _ H0.lex (by omega)).mono ?_;rintro e w1 ⟨rfl,hB1⟩;rw [Int.toNat_natCast,HM.out]
     have H1:=Held.call hB1 H0
     have c1:=H1.lex.ca
     go_wp2_with fail
     refine (lex_char _ _ _ _ _ _ H1.lex (by omega)).mono ?_;rintro e w2 ⟨rfl,hB2⟩;rw [show ((p:Int)+1).toNat=p+1 by omega,HM.out]
     have H2:=Held.call hB2 H1
     have c2:=H2.lex.ca
     clear hB1 hB2 H1 c1 H0
     go_wp2_with fail
     refine (lex_digits _ _ _ _ _ _ _ H2.lex (by omega)).mono ?_;rintro e wA ⟨rfl,hBA⟩;rw [show ((p:Int)+2).toNat=p+2 by omega,HM.out,show span (isDig 2) (M.drop (p+2))=0 from HD0.out]
     have Hn:=Held.call hBA H2
     clear hBA H2 c2
     have cm:=Hn.lex.ca
     go_wp2_with fail
     have hspd:=span_le (isDig 10) (M.drop p)
     rw [List.length_drop,hlen.out] at hspd
     have HDl:=zq (digits_len 10 (M.drop p))
     have HOKd:=zq (digits_ok 10 (by decide) (by decide) (M.drop p))
     have cN:=Hn.lex.ca
     generalize hDD:span (isDig 10) (M.drop p)=D at *
     have HDD:=zq hDD
     clear hDD
     go_wp2_with fail
     refine (lex_digits _ _ _ _ _ _ _ Hn.lex (by omega)).mono ?_;rintro e wA ⟨rfl,hBA⟩;rw [Int.toNat_natCast,HM.out,HDD.out]
     have HA:=Held.call hBA Hn
     have cA:=HA.lex.ca
     go_wp2_with fail
     refine (lex_part _ _ _ _ _ _ _ HA.lex (by omega) (by omega) (by omega)).mono ?_;rintro e wB ⟨rfl,hBB⟩;rw [Int.toNat_natCast,HM.out,show ((p:Int)+D-p).toNat=D by omega]
     have HB:=Held.call hBB HA
     go_wp2_with fail
     refine (lex_integer _ _ _ _ _ _ _ _ HB.lex (by rw [HDl.out];omega) (by rw [HDl.out];omega) (by decide) (by decide) HOKd.out).mono ?_;rintro e wC ⟨he,hBC⟩
     have HC:=Held.call hBC HB
     generalize hr:intR _ _ _ _=r at he
     have HR:=zq hr
     clear hr hBA hBB hBC HA HB Hn cN cA
     unfold Gives tokTup at he;subst he
     obtain ⟨t6,v0,v1,v2,v3,v4,v5,t0,t1,t2,t3,t4,t5⟩:=HC.tok
     have hltc:=HC.lt
     go_wp2_with fail
     refine bodyPost_ret (v:=tokTup r) (by simp [tokTup,results,Tryz.results88,go_sem,t0,t1,t2,t3,t4,t5]) rfl ⟨?_,(HC.sets _ _ _ _ _ _).bel⟩
     rw [HK.out,HR.out];rfl
    ·have Hq:True:=trivial
     go_enter Tryz.func88,Tryz.ntmps88
     go_wp2_with fail
     refine (lex_char _ _ _ _ _ _ H0.lex (by omega)).mono ?_;rintro e w1 ⟨rfl,hB1⟩;rw [Int.toNat_natCast,HM.out]
     have H1:=Held.call hB1 H0
     have c1:=H1.lex.ca
     go_wp2_with fail
     refine (lex_char _ _ _ _ _ _ H1.lex (by omega)).mono ?_;rintro e w2 ⟨rfl,hB2⟩;rw [show ((p:Int)+1).toNat=p+1 by omega,HM.out]
     have H2:=Held.call hB2 H1
     have c2:=H2.lex.ca
     clear hB1 hB2 H1 c1 H0
     go_wp2_with fail
     have Hn:=H2
     clear H2
     have hspd:=span_le (isDig 10) (M.drop p)
     rw [List.length_drop,hlen.out] at hspd
     have HDl:=zq (digits_len 10 (M.drop p))
     have HOKd:=zq (digits_ok 10 (by decide) (by decide) (M.drop p))
     have cN:=Hn.lex.ca
     generalize hDD:span (isDig 10) (M.drop p)=D at *
     have HDD:=zq hDD
     clear hDD
     refine (lex_digits _ _ _ _ _ _ _ Hn.lex (by omega)).mono ?_;rintro e wA ⟨rfl,hBA⟩;rw [Int.toNat_natCast,HM.out,HDD.out]
     have HA:=Held.call hBA Hn
     have cA:=HA.lex.ca
     go_wp2_with fail
     refine (lex_part _ _ _ _ _ _ _ HA.lex (by omega) (by omega) (by omega)).mono ?_;rintro e wB ⟨rfl,hBB⟩;rw [Int.toNat_natCast,HM.out,show ((p:Int)+D-p).toNat=D by omega]
     have HB:=Held.call hBB HA
     go_wp2_with fail
     refine (lex_integer _ _ _ _ _ _ _ _ HB.lex (by rw [HDl.out];omega) (by rw [HDl.out];omega) (by decide) (by decide) HOKd.out).mono ?_;rintro e wC ⟨he,hBC⟩
     have HC:=Held.call hBC HB
     generalize hr:intR _ _ _ _=r at he
     have HR:=zq hr
     clear hr hBA hBB hBC HA HB Hn cN cA
     unfold Gives tokTup at he;subst he
     obtain ⟨t6,v0,v1,v2,v3,v4,v5,t0,t1,t2,t3,t4,t5⟩:=HC.tok
     have hltc:=HC.lt
     go_wp2_with fail
     refine bodyPost_ret (v:=tokTup r) (by simp [tokTup,results,Tryz.results88,go_sem,t0,t1,t2,t3,t4,t5]) rfl ⟨?_,(HC.sets _ _ _ _ _ _).bel⟩
     rw [HK.out,HR.out];rfl
 ·have b1:(rawAt M p==48)=false:=by simp [a1]
  have HK:=zq (show numR M s.data.toList p=intR 10 ((M.drop p).take (span (isDig 10) (M.drop p))) p (p+span (isDig 10) (M.drop p)) by unfold numR;rw [if_neg (fun h=>a1 h.1),if_neg (fun h=>absurd h.1 (by unfold numBase;rw [if_neg a1];decide))])
  clear a1
  go_enter Tryz.func88,Tryz.ntmps88
  go_wp2_with fail
  refine (lex_char _ _ _ _ _ _ H0.lex (by omega)).mono ?_;rintro e w1 ⟨rfl,hB1⟩;rw [Int.toNat_natCast,HM.out]
  have H1:=Held.call hB1 H0
  have c1:=H1.lex.ca
  go_wp2_with fail
  have Hn:=H1
  clear H1
  have hspd:=span_le (isDig 10) (M.drop p)
  rw [List.length_drop,hlen.out] at hspd
  have HDl:=zq (digits_len 10 (M.drop p))
  have HOKd:=zq (digits_ok 10 (by decide) (by decide) (M.drop p))
  have cN:=Hn.lex.ca
  generalize hDD:span (isDig 10) (M.drop p)=D at *
  have HDD:=zq hDD
  clear hDD
  refine (lex_digits _ _ _ _ _ _ _ Hn.lex (by omega)).mono ?_;rintro e wA ⟨rfl,hBA⟩;rw [Int.toNat_natCast,HM.out,HDD.out]
  have HA:=Held.call hBA Hn
  have cA:=HA.lex.ca
  go_wp2_with fail
  refine (lex_part _ _ _ _ _ _ _ HA.lex (by omega) (by omega) (by omega)).mono ?_;rintro e wB ⟨rfl,hBB⟩;rw [Int.toNat_natCast,HM.out,show ((p:Int)+D-p).toNat=D by omega]
  have HB:=Held.call hBB HA
  go_wp2_with fail
  refine (lex_integer _ _ _ _ _ _ _ _ HB.lex (by rw [HDl.out];omega) (by rw [HDl.out];omega) (by decide) (by decide) HOKd.out).mono ?_;rintro e wC ⟨he,hBC⟩
  have HC:=Held.call hBC HB
  generalize hr:intR _ _ _ _=r at he
  have HR:=zq hr
  clear hr hBA hBB hBC HA HB Hn cN cA
  unfold Gives tokTup at he;subst he
  obtain ⟨t6,v0,v1,v2,v3,v4,v5,t0,t1,t2,t3,t4,t5⟩:=HC.tok
  have hltc:=HC.lt
  go_wp2_with fail
  refine bodyPost_ret (v:=tokTup r) (by simp [tokTup,results,Tryz.results88,go_sem,t0,t1,t2,t3,t4,t5]) rfl ⟨?_,(HC.sets _ _ _ _ _ _).bel⟩
  rw [HK.out,HR.out];rfl
theorem hown1_len {w:World} {base:Nat} {v:Value} {acc:List UInt8} {x:UInt8} (h:w.ownsRow base 5 1 v (acc.length+1) (Hb.byteCells (acc++[x]))):w.ownsRow base 5 1 v (acc++[x]).length (Hb.byteCells (acc++[x])):=by
 rw [List.length_append];exact h
set_option maxHeartbeats 3200000 in
theorem lex_quote_str (b:Nat) (s:ByteArray) (tab:Int→Int) (p:Nat) (w:World) (h:Lex w b s tab p) (hp:p<s.size) (hq:rawAt (cvt tab s.data.toList) p=34) :
  Calls Tryz.prog 91 #[.pointer (some ⟨b,0,none⟩)] w fun e w'=>Gives (quoteR (cvt tab s.data.toList) s.data.toList p) e∧Below w.heap.size w w':=by
 have H0:=Held.start h
 have hlt:=h.lt
 have ca:=h.ca
 have hsz:=h.sz
 clear h
 have hlen:Hid ((cvt tab s.data.toList).length=s.size):=by show _=_;rw [cvt_len];simp
 generalize hM:cvt tab s.data.toList=M at *
 have HM:=zq hM
 clear hM
 have b1:(rawAt M p==34)=true:=by simp [hq]
 have HK:=zq (show quoteR M s.data.toList p=strRes p (itemAt (s.data.toList.drop (p+1)) 34 [] 0) by unfold quoteR;rw [if_pos hq];unfold itemAt;simp)
 have A1:=zq hq
 clear hq
 have hRl:(s.data.toList.drop (p+1)).length=s.size-(p+1):=by rw [List.length_drop,size_data]
 have HRl:=zq hRl
 clear hRl
 go_enter Tryz.func91,Tryz.ntmps91
 go_wp2_with fail
 go_step3
 go_wp2_with fail
 refine (lex_char _ _ _ _ _ _ H0.lex (by omega)).mono ?_;rintro e w1 ⟨rfl,hB1⟩;rw [Int.toNat_natCast,HM.out]
 have H1:=Held.call hB1 H0
 have c1:=H1.lex.ca
 rw [A1.out]
 go_wp2_with fail
 go_step3
 go_wp2_with fail
 go_loopw [6,7] (fun v i wr=>∃j:Nat,∃acc:List UInt8,p+1+j≤s.size∧acc.length≤j∧i=.int .i64 (p+1+j:Nat)∧Held w wr b s tab p∧wr.ownsRow (w.heap.size+1) 5 1 v acc.length (Hb.byteCells acc)∧Hid (itemAt (s.data.toList.drop (p+1)) 34 acc j=itemAt (s.data.toList.drop (p+1)) 34 [] 0)) (fun _ i _=>s.size-(intOf i).toNat)
 case atStart=>exact ⟨0,[],by omega,Nat.le_refl _,by go_num,H1,⟨by simp [Hb.byteCells],.inl ⟨rfl,rfl⟩⟩,rfl⟩
 case round=>
  obtain ⟨j,acc,hj,hal,rfl,HX,hown,HE⟩:=hrel
  have hlenX:=HX.lt
  have cX:=HX.lex.ca
  have E0:=zq (rawAt_drop s.data.toList (p+1) j)
  have E1:Hid (rawAt (s.data.toList.drop (p+1)) (j+1)=rawAt s.data.toList (p+1+j+1)):=rawAt_drop s.data.toList (p+1) (j+1)
  by_cases d0:rawAt s.data.toList (p+1+j)=34
  ·have b0:(rawAt s.data.toList (p+1+j)==34)=true:=by simp [d0]
   have b2:(rawAt s.data.toList (p+1+j)==92)=false:=by simp [d0]
   by_cases d1:rawAt s.data.toList (p+1+j+1)=34
   ·have b3:(rawAt s.data.toList (p+1+j+1) != 34)=false:=by simp [d1]
    have hn1:¬(rawAt s.data.toList (p+1+j)=34∧¬rawAt s.data.toList (p+1+j+1)=34):=fun h=>h.2 d1
    have hn2:¬(rawAt s.data.toList (p+1+j)=92∧rawAt s.data.toList (p+1+j+1)=10):=fun h=>absurd h.1 (by rw [d0];decide)
    clear d0 d1
    cases hqs:quotedS (s.data.toList.drop (p+1+j)) 34 with
    | none=>
     have HI:=zq (itemAt_none (s.data.toList.drop (p+1)) 34 (by decide) acc j (by rw [E0.out,E1.out];exact hn1) (by rw [E0.out,E1.out];exact hn2) (by rw [List.drop_drop];exact hqs))
     have HQ:=zq hqs
     clear hqs hn1 hn2
     go_wp2_with fail
     refine (lex_raw _ _ _ _ _ _ HX.lex (by omega)).mono ?_;rintro e wz ⟨rfl,rfl⟩;rw [show ((p:Int)+1+j).toNat=p+1+j by omega]
     go_wp2_with fail
     refine (lex_raw _ _ _ _ _ _ HX.lex (by omega)).mono ?_;rintro e wz ⟨rfl,rfl⟩;rw [show ((p:Int)+1+j+1).toNat=p+1+j+1 by omega]
     go_wp2_with fail
     refine (lex_raw _ _ _ _ _ _ HX.lex (by omega)).mono ?_;rintro e wz ⟨rfl,rfl⟩;rw [show ((p:Int)+1+j).toNat=p+1+j by omega]
     go_wp2_with fail
     refine (lex_quoted _ _ _ _ _ _ _ HX.lex (by omega) (by omega)).mono ?_;rintro e wz ⟨he,rfl⟩;rw [show ((p:Int)+1+j).toNat=p+1+j by omega,HQ.out] at he
     obtain ⟨x,y,rfl⟩:=he
     obtain ⟨t6,v0,v1,v2,v3,v4,v5,t0,t1,t2,t3,t4,t5⟩:=HX.tok
     have hltc:=HX.lt
     go_wp2_with fail
     try rw [Exit.noGoto_ret]
     refine bodyPost_ret (v:=tokTup (errR 7)) (by simp [tokTup,errR,results,Tryz.results91,go_sem,t0,t1,t2,t3,t4,t5]) rfl ⟨?_,(HX.sets _ _ _ _ _ _).bel⟩
     rw [HK.out,←HE.out,HI.out];rfl
    | some ck=>
     obtain ⟨c,k⟩:=ck
     have hok:=quotedS_ok _ _ _ _ (by decide) hqs
     rw [List.length_drop] at hok
     have HI:=zq (itemAt_some (s.data.toList.drop (p+1)) 34 (by decide) acc j k c (by rw [E0.out,E1.out];exact hn1) (by rw [E0.out,E1.out];exact hn2) (by rw [List.drop_drop];exact hqs))
     have HQ:=zq hqs
     have hk1:1≤k:=hok.1
     have hk2:p+1+j+k≤s.size:=by have:=hok.2.1;have:=hok.1;rw [size_data] at *;omega
     have hc0:0≤c:=hok.2.2.1
     have hc1:c≤255:=hok.2.2.2
     clear hqs hn1 hn2 hok
     go_wp2_with fail
     refine (lex_raw _ _ _ _ _ _ HX.lex (by omega)).mono ?_;rintro e wz ⟨rfl,rfl⟩;rw [show ((p:Int)+1+j).toNat=p+1+j by omega]
     go_wp2_with fail
     refine (lex_raw _ _ _ _ _ _ HX.lex (by omega)).mono ?_;rintro e wz ⟨rfl,rfl⟩;rw [show ((p:Int)+1+j+1).toNat=p+1+j+1 by omega]
     go_wp2_with fail
     refine (lex_raw _ _ _ _ _ _ HX.lex (by omega)).mono ?_;rintro e wz ⟨rfl,rfl⟩;rw [show ((p:Int)+1+j).toNat=p+1+j by omega]
     go_wp2_with fail
     refine (lex_quoted _ _ _ _ _ _ _ HX.lex (by omega) (by omega)).mono ?_;rintro e wz ⟨he,rfl⟩;rw [show ((p:Int)+1+j).toNat=p+1+j by omega,HQ.out] at he
     unfold QRes at he
     simp only [] at he
     subst he
     go_wp2_with (at_builtin;go_must (refine wpList_append_byte rfl _ _ 168 5 rfl Tryz.underlying168 infoU8 (w.heap.size+1) _ _ _ rfl _ hown _ hc0 hc1 rfl rfl (by omega) (by have:=HX.lt;omega) ?_;intro v1 w2 hown1 hB2))
     have HX2:=Held.callB hB2 (by omega) HX
     go_roundw
     case rel=>exact ⟨j+k,acc++[c.toNat.toUInt8],by omega,by simp;omega,by go_num,HX2,hown1_len hown1,by rw [←HI.out];exact HE.out⟩
     case measure=>simp [intOf];omega
   ·have b3:(rawAt s.data.toList (p+1+j+1) != 34)=true:=by simp [d1]
    have HI:=zq (itemAt_end (s.data.toList.drop (p+1)) 34 (by decide) acc j (by rw [E0.out];exact d0) (by rw [E1.out];exact d1))
    clear d0 d1
    have hc:=conv_own (P:=Tryz.prog) wr 168 9 5 Tryz.underlying168 Tryz.underlying5 Tryz.underlying9 _ _ _ _ hown
    obtain ⟨t6,v0,v1,v2,v3,v4,v5,t0,t1,t2,t3,t4,t5⟩:=HX.tok
    go_wp2_with fail
    refine (lex_raw _ _ _ _ _ _ HX.lex (by omega)).mono ?_;rintro e wz ⟨rfl,rfl⟩;rw [show ((p:Int)+1+j).toNat=p+1+j by omega]
    go_wp2_with fail
    refine (lex_raw _ _ _ _ _ _ HX.lex (by omega)).mono ?_;rintro e wz ⟨rfl,rfl⟩;rw [show ((p:Int)+1+j+1).toNat=p+1+j+1 by omega]
    go_wp2_with fail
    have hltc:=HX.lt
    have hcd:=conv_own (P:=Tryz.prog) wr.drew 168 9 5 Tryz.underlying168 Tryz.underlying5 Tryz.underlying9 _ _ _ _ hown.drew
    go_region
    go_wp2_with fail
    try rw [Exit.noGoto_ret]
    refine bodyPost_ret (v:=tokTup ⟨5,acc,0,p,p+1+j+1,0⟩) (by simp [tokTup,results,Tryz.results91,go_sem,t0,t1,t2,t3,t4,t5]) rfl ⟨?_,(HX.sets _ _ _ _ _ _).drew.bel⟩
    rw [HK.out,←HE.out,HI.out];rfl
  ·have b0:(rawAt s.data.toList (p+1+j)==34)=false:=by simp [d0]
   have hn1:¬(rawAt s.data.toList (p+1+j)=34∧¬rawAt s.data.toList (p+1+j+1)=34):=fun h=>d0 h.1
   clear d0
   by_cases d2:rawAt s.data.toList (p+1+j)=92
   ·have b2:(rawAt s.data.toList (p+1+j)==92)=true:=by simp [d2]
    by_cases d3:rawAt s.data.toList (p+1+j+1)=10
    ·have b3:(rawAt s.data.toList (p+1+j+1)==10)=true:=by simp [d3]
     have HI:=zq (itemAt_cont (s.data.toList.drop (p+1)) 34 (by decide) acc j (by rw [E0.out,E1.out];exact hn1) (by rw [E0.out];exact d2) (by rw [E1.out];exact d3))
     have hk2:p+1+j+2≤s.size:=by have:=rawAt_neg s.data.toList (p+1+j+1);rw [size_data] at this;omega
     clear d2 d3 hn1
     go_wp2_with fail
     refine (lex_raw _ _ _ _ _ _ HX.lex (by omega)).mono ?_;rintro e wz ⟨rfl,rfl⟩;rw [show ((p:Int)+1+j).toNat=p+1+j by omega]
     go_wp2_with fail
     refine (lex_raw _ _ _ _ _ _ HX.lex (by omega)).mono ?_;rintro e wz ⟨rfl,rfl⟩;rw [show ((p:Int)+1+j).toNat=p+1+j by omega]
     go_wp2_with fail
     refine (lex_raw _ _ _ _ _ _ HX.lex (by omega)).mono ?_;rintro e wz ⟨rfl,rfl⟩;rw [show ((p:Int)+1+j+1).toNat=p+1+j+1 by omega]
     go_wp2_with fail
     go_roundw
     case rel=>exact ⟨j+2,acc,by omega,by omega,by go_num,HX,hown,by rw [←HI.out];exact HE.out⟩
     case measure=>simp [intOf];omega
    ·have b3:(rawAt s.data.toList (p+1+j+1)==10)=false:=by simp [d3]
     have hn2:¬(rawAt s.data.toList (p+1+j)=92∧rawAt s.data.toList (p+1+j+1)=10):=fun h=>d3 h.2
     clear d2 d3
     cases hqs:quotedS (s.data.toList.drop (p+1+j)) 34 with
     | none=>
      have HI:=zq (itemAt_none (s.data.toList.drop (p+1)) 34 (by decide) acc j (by rw [E0.out,E1.out];exact hn1) (by rw [E0.out,E1.out];exact hn2) (by rw [List.drop_drop];exact hqs))
      have HQ:=zq hqs
      clear hqs hn1 hn2
      go_wp2_with fail
      refine (lex_raw _ _ _ _ _ _ HX.lex (by omega)).mono ?_;rintro e wz ⟨rfl,rfl⟩;rw [show ((p:Int)+1+j).toNat=p+1+j by omega]
      go_wp2_with fail
      refine (lex_raw _ _ _ _ _ _ HX.lex (by omega)).mono ?_;rintro e wz ⟨rfl,rfl⟩;rw [show ((p:Int)+1+j).toNat=p+1+j by omega]
      go_wp2_with fail
      refine (lex_raw _ _ _ _ _ _ HX.lex (by omega)).mono ?_;rintro e wz ⟨rfl,rfl⟩;rw [show ((p:Int)+1+j+1).toNat=p+1+j+1 by omega]
      go_wp2_with fail
      refine (lex_quoted _ _ _ _ _ _ _ HX.lex (by omega) (by omega)).mono ?_;rintro e wz ⟨he,rfl⟩;rw [show ((p:Int)+1+j).toNat=p+1+j by omega,HQ.out] at he
      obtain ⟨x,y,rfl⟩:=he
      obtain ⟨t6,v0,v1,v2,v3,v4,v5,t0,t1,t2,t3,t4,t5⟩:=HX.tok
      have hltc:=HX.lt
      go_wp2_with fail
      try rw [Exit.noGoto_ret]
      refine bodyPost_ret (v:=tokTup (errR 7)) (by simp [tokTup,errR,results,Tryz.results91,go_sem,t0,t1,t2,t3,t4,t5]) rfl ⟨?_,(HX.sets _ _ _ _ _ _).bel⟩
      rw [HK.out,←HE.out,HI.out];rfl
     | some ck=>
      obtain ⟨c,k⟩:=ck
      have hok:=quotedS_ok _ _ _ _ (by decide) hqs
      rw [List.length_drop] at hok
      have HI:=zq (itemAt_some (s.data.toList.drop (p+1)) 34 (by decide) acc j k c (by rw [E0.out,E1.out];exact hn1) (by rw [E0.out,E1.out];exact hn2) (by rw [List.drop_drop];exact hqs))
      have HQ:=zq hqs
      have hk1:1≤k:=hok.1
      have hk2:p+1+j+k≤s.size:=by have:=hok.2.1;have:=hok.1;rw [size_data] at *;omega
      have hc0:0≤c:=hok.2.2.1
      have hc1:c≤255:=hok.2.2.2
      clear hqs hn1 hn2 hok
      go_wp2_with fail
      refine (lex_raw _ _ _ _ _ _ HX.lex (by omega)).mono ?_;rintro e wz ⟨rfl,rfl⟩;rw [show ((p:Int)+1+j).toNat=p+1+j by omega]
      go_wp2_with fail
      refine (lex_raw _ _ _ _ _ _ HX.lex (by omega)).mono ?_;rintro e wz ⟨rfl,rfl⟩;rw [show ((p:Int)+1+j).toNat=p+1+j by omega]
      go_wp2_with fail
      refine (lex_raw _ _ _ _ _ _ HX.lex (by omega)).mono ?_;rintro e wz ⟨rfl,rfl⟩;rw [show ((p:Int)+1+j+1).toNat=p+1+j+1 by omega]
      go_wp2_with fail
      refine (lex_quoted _ _ _ _ _ _ _ HX.lex (by omega) (by omega)).mono ?_;rintro e wz ⟨he,rfl⟩;rw [show ((p:Int)+1+j).toNat=p+1+j by omega,HQ.out] at he
      unfold QRes at he
      simp only [] at he
      subst he
      go_wp2_with (at_builtin;go_must (refine wpList_append_byte rfl _ _ 168 5 rfl Tryz.underlying168 infoU8 (w.heap.size+1) _ _ _ rfl _ hown _ hc0 hc1 rfl rfl (by omega) (by have:=HX.lt;omega) ?_;intro v1 w2 hown1 hB2))
      have HX2:=Held.callB hB2 (by omega) HX
      go_roundw
      case rel=>exact ⟨j+k,acc++[c.toNat.toUInt8],by omega,by simp;omega,by go_num,HX2,hown1_len hown1,by rw [←HI.out];exact HE.out⟩
      case measure=>simp [intOf];omega
   ·have b2:(rawAt s.data.toList (p+1+j)==92)=false:=by simp [d2]
    have hn2:¬(rawAt s.data.toList (p+1+j)=92∧rawAt s.data.toList (p+1+j+1)=10):=fun h=>d2 h.1
    clear d2
    cases hqs:quotedS (s.data.toList.drop (p+1+j)) 34 with
    | none=>
     have HI:=zq (itemAt_none (s.data.toList.drop (p+1)) 34 (by decide) acc j (by rw [E0.out,E1.out];exact hn1) (by rw [E0.out,E1.out];exact hn2) (by rw [List.drop_drop];exact hqs))
     have HQ:=zq hqs
     clear hqs hn1 hn2
     go_wp2_with fail
     refine (lex_raw _ _ _ _ _ _ HX.lex (by omega)).mono ?_;rintro e wz ⟨rfl,rfl⟩;rw [show ((p:Int)+1+j).toNat=p+1+j by omega]
     go_wp2_with fail
     refine (lex_raw _ _ _ _ _ _ HX.lex (by omega)).mono ?_;rintro e wz ⟨rfl,rfl⟩;rw [show ((p:Int)+1+j).toNat=p+1+j by omega]
     go_wp2_with fail
     refine (lex_quoted _ _ _ _ _ _ _ HX.lex (by omega) (by omega)).mono ?_;rintro e wz ⟨he,rfl⟩;rw [show ((p:Int)+1+j).toNat=p+1+j by omega,HQ.out] at he
     obtain ⟨x,y,rfl⟩:=he
     obtain ⟨t6,v0,v1,v2,v3,v4,v5,t0,t1,t2,t3,t4,t5⟩:=HX.tok
     have hltc:=HX.lt
     go_wp2_with fail
     try rw [Exit.noGoto_ret]
     refine bodyPost_ret (v:=tokTup (errR 7)) (by simp [tokTup,errR,results,Tryz.results91,go_sem,t0,t1,t2,t3,t4,t5]) rfl ⟨?_,(HX.sets _ _ _ _ _ _).bel⟩
     rw [HK.out,←HE.out,HI.out];rfl
    | some ck=>
     obtain ⟨c,k⟩:=ck
     have hok:=quotedS_ok _ _ _ _ (by decide) hqs
     rw [List.length_drop] at hok
     have HI:=zq (itemAt_some (s.data.toList.drop (p+1)) 34 (by decide) acc j k c (by rw [E0.out,E1.out];exact hn1) (by rw [E0.out,E1.out];exact hn2) (by rw [List.drop_drop];exact hqs))
     have HQ:=zq hqs
     have hk1:1≤k:=hok.1
     have hk2:p+1+j+k≤s.size:=by have:=hok.2.1;have:=hok.1;rw [size_data] at *;omega
     have hc0:0≤c:=hok.2.2.1
     have hc1:c≤255:=hok.2.2.2
     clear hqs hn1 hn2 hok
     go_wp2_with fail
     refine (lex_raw _ _ _ _ _ _ HX.lex (by omega)).mono ?_;rintro e wz ⟨rfl,rfl⟩;rw [show ((p:Int)+1+j).toNat=p+1+j by omega]
     go_wp2_with fail
     refine (lex_raw _ _ _ _ _ _ HX.lex (by omega)).mono ?_;rintro e wz ⟨rfl,rfl⟩;rw [show ((p:Int)+1+j).toNat=p+1+j by omega]
     go_wp2_with fail
     refine (lex_quoted _ _ _ _ _ _ _ HX.lex (by omega) (by omega)).mono ?_;rintro e wz ⟨he,rfl⟩;rw [show ((p:Int)+1+j).toNat=p+1+j by omega,HQ.out] at he
     unfold QRes at he
     simp only [] at he
     subst he
     go_wp2_with (at_builtin;go_must (refine wpList_append_byte rfl _ _ 168 5 rfl Tryz.underlying168 infoU8 (w.heap.size+1) _ _ _ rfl _ hown _ hc0 hc1 rfl rfl (by omega) (by have:=HX.lt;omega) ?_;intro v1 w2 hown1 hB2))
     have HX2:=Held.callB hB2 (by omega) HX
     go_roundw
     case rel=>exact ⟨j+k,acc++[c.toNat.toUInt8],by omega,by simp;omega,by go_num,HX2,hown1_len hown1,by rw [←HI.out];exact HE.out⟩
     case measure=>simp [intOf];omega
set_option maxHeartbeats 3200000 in
theorem lex_quote_nm (b:Nat) (s:ByteArray) (tab:Int→Int) (p:Nat) (w:World) (h:Lex w b s tab p) (hp:p<s.size) (hq:rawAt (cvt tab s.data.toList) p=39) :
  Calls Tryz.prog 91 #[.pointer (some ⟨b,0,none⟩)] w fun e w'=>Gives (quoteR (cvt tab s.data.toList) s.data.toList p) e∧Below w.heap.size w w':=by
 have H0:=Held.start h
 have hlt:=h.lt
 have ca:=h.ca
 have hsz:=h.sz
 clear h
 have hlen:Hid ((cvt tab s.data.toList).length=s.size):=by show _=_;rw [cvt_len];simp
 generalize hM:cvt tab s.data.toList=M at *
 have HM:=zq hM
 clear hM
 have b1:(rawAt M p==39)=true:=by simp [hq]
 have HK:=zq (show quoteR M s.data.toList p=nmRes p (itemAt (s.data.toList.drop (p+1)) 39 [] 0) by unfold quoteR;rw [if_neg (by rw [hq];decide),if_pos hq];unfold itemAt;simp)
 have A1:=zq hq
 clear hq
 have hRl:(s.data.toList.drop (p+1)).length=s.size-(p+1):=by rw [List.length_drop,size_data]
 have HRl:=zq hRl
 clear hRl
 go_enter Tryz.func91,Tryz.ntmps91
 go_wp2_with fail
 go_step3
 go_wp2_with fail
 refine (lex_char _ _ _ _ _ _ H0.lex (by omega)).mono ?_;rintro e w1 ⟨rfl,hB1⟩;rw [Int.toNat_natCast,HM.out]
 have H1:=Held.call hB1 H0
 have c1:=H1.lex.ca
 rw [A1.out]
 go_wp2_with fail
 go_step3
 go_wp2_with fail
 go_loopw [6,7] (fun v i wr=>∃j:Nat,∃acc:List UInt8,p+1+j≤s.size∧acc.length≤j∧i=.int .i64 (p+1+j:Nat)∧Held w wr b s tab p∧wr.ownsRow (w.heap.size+1) 5 1 v acc.length (Hb.byteCells acc)∧Hid (itemAt (s.data.toList.drop (p+1)) 39 acc j=itemAt (s.data.toList.drop (p+1)) 39 [] 0)) (fun _ i _=>s.size-(intOf i).toNat)
 case atStart=>exact ⟨0,[],by omega,Nat.le_refl _,by go_num,H1,⟨by simp [Hb.byteCells],.inl ⟨rfl,rfl⟩⟩,rfl⟩
 case round=>
  obtain ⟨j,acc,hj,hal,rfl,HX,hown,HE⟩:=hrel
  have hlenX:=HX.lt
  have cX:=HX.lex.ca
  have E0:=zq (rawAt_drop s.data.toList (p+1) j)
  have E1:Hid (rawAt (s.data.toList.drop (p+1)) (j+1)=rawAt s.data.toList (p+1+j+1)):=rawAt_drop s.data.toList (p+1) (j+1)
  by_cases d0:rawAt s.data.toList (p+1+j)=39
  ·have b0:(rawAt s.data.toList (p+1+j)==39)=true:=by simp [d0]
   have b2:(rawAt s.data.toList (p+1+j)==92)=false:=by simp [d0]
   by_cases d1:rawAt s.data.toList (p+1+j+1)=39
   ·have b3:(rawAt s.data.toList (p+1+j+1) != 39)=false:=by simp [d1]
    have hn1:¬(rawAt s.data.toList (p+1+j)=39∧¬rawAt s.data.toList (p+1+j+1)=39):=fun h=>h.2 d1
    have hn2:¬(rawAt s.data.toList (p+1+j)=92∧rawAt s.data.toList (p+1+j+1)=10):=fun h=>absurd h.1 (by rw [d0];decide)
    clear d0 d1
    cases hqs:quotedS (s.data.toList.drop (p+1+j)) 39 with
    | none=>
     have HI:=zq (itemAt_none (s.data.toList.drop (p+1)) 39 (by decide) acc j (by rw [E0.out,E1.out];exact hn1) (by rw [E0.out,E1.out];exact hn2) (by rw [List.drop_drop];exact hqs))
     have HQ:=zq hqs
     clear hqs hn1 hn2
     go_wp2_with fail
     refine (lex_raw _ _ _ _ _ _ HX.lex (by omega)).mono ?_;rintro e wz ⟨rfl,rfl⟩;rw [show ((p:Int)+1+j).toNat=p+1+j by omega]
     go_wp2_with fail
     refine (lex_raw _ _ _ _ _ _ HX.lex (by omega)).mono ?_;rintro e wz ⟨rfl,rfl⟩;rw [show ((p:Int)+1+j+1).toNat=p+1+j+1 by omega]
     go_wp2_with fail
     refine (lex_raw _ _ _ _ _ _ HX.lex (by omega)).mono ?_;rintro e wz ⟨rfl,rfl⟩;rw [show ((p:Int)+1+j).toNat=p+1+j by omega]
     go_wp2_with fail
     refine (lex_quoted _ _ _ _ _ _ _ HX.lex (by omega) (by omega)).mono ?_;rintro e wz ⟨he,rfl⟩;rw [show ((p:Int)+1+j).toNat=p+1+j by omega,HQ.out] at he
     obtain ⟨x,y,rfl⟩:=he
     obtain ⟨t6,v0,v1,v2,v3,v4,v5,t0,t1,t2,t3,t4,t5⟩:=HX.tok
     have hltc:=HX.lt
     go_wp2_with fail
     try rw [Exit.noGoto_ret]
     refine bodyPost_ret (v:=tokTup (errR 7)) (by simp [tokTup,errR,results,Tryz.results91,go_sem,t0,t1,t2,t3,t4,t5]) rfl ⟨?_,(HX.sets _ _ _ _ _ _).bel⟩
     rw [HK.out,←HE.out,HI.out];rfl
    | some ck=>
     obtain ⟨c,k⟩:=ck
     have hok:=quotedS_ok _ _ _ _ (by decide) hqs
     rw [List.length_drop] at hok
     have HI:=zq (itemAt_some (s.data.toList.drop (p+1)) 39 (by decide) acc j k c (by rw [E0.out,E1.out];exact hn1) (by rw [E0.out,E1.out];exact hn2) (by rw [List.drop_drop];exact hqs))
     have HQ:=zq hqs
     have hk1:1≤k:=hok.1
     have hk2:p+1+j+k≤s.size:=by have:=hok.2.1;have:=hok.1;rw [size_data] at *;omega
     have hc0:0≤c:=hok.2.2.1
     have hc1:c≤255:=hok.2.2.2
     clear hqs hn1 hn2 hok
     go_wp2_with fail
     refine (lex_raw _ _ _ _ _ _ HX.lex (by omega)).mono ?_;rintro e wz ⟨rfl,rfl⟩;rw [show ((p:Int)+1+j).toNat=p+1+j by omega]
     go_wp2_with fail
     refine (lex_raw _ _ _ _ _ _ HX.lex (by omega)).mono ?_;rintro e wz ⟨rfl,rfl⟩;rw [show ((p:Int)+1+j+1).toNat=p+1+j+1 by omega]
     go_wp2_with fail
     refine (lex_raw _ _ _ _ _ _ HX.lex (by omega)).mono ?_;rintro e wz ⟨rfl,rfl⟩;rw [show ((p:Int)+1+j).toNat=p+1+j by omega]
     go_wp2_with fail
     refine (lex_quoted _ _ _ _ _ _ _ HX.lex (by omega) (by omega)).mono ?_;rintro e wz ⟨he,rfl⟩;rw [show ((p:Int)+1+j).toNat=p+1+j by omega,HQ.out] at he
     unfold QRes at he
     simp only [] at he
     subst he
     go_wp2_with (at_builtin;go_must (refine wpList_append_byte rfl _ _ 168 5 rfl Tryz.underlying168 infoU8 (w.heap.size+1) _ _ _ rfl _ hown _ hc0 hc1 rfl rfl (by omega) (by have:=HX.lt;omega) ?_;intro v1 w2 hown1 hB2))
     have HX2:=Held.callB hB2 (by omega) HX
     go_roundw
     case rel=>exact ⟨j+k,acc++[c.toNat.toUInt8],by omega,by simp;omega,by go_num,HX2,hown1_len hown1,by rw [←HI.out];exact HE.out⟩
     case measure=>simp [intOf];omega
   ·have b3:(rawAt s.data.toList (p+1+j+1) != 39)=true:=by simp [d1]
    have HI:=zq (itemAt_end (s.data.toList.drop (p+1)) 39 (by decide) acc j (by rw [E0.out];exact d0) (by rw [E1.out];exact d1))
    clear d0 d1
    have hc:=conv_own (P:=Tryz.prog) wr 168 9 5 Tryz.underlying168 Tryz.underlying5 Tryz.underlying9 _ _ _ _ hown
    obtain ⟨t6,v0,v1,v2,v3,v4,v5,t0,t1,t2,t3,t4,t5⟩:=HX.tok
    go_wp2_with fail
    refine (lex_raw _ _ _ _ _ _ HX.lex (by omega)).mono ?_;rintro e wz ⟨rfl,rfl⟩;rw [show ((p:Int)+1+j).toNat=p+1+j by omega]
    go_wp2_with fail
    refine (lex_raw _ _ _ _ _ _ HX.lex (by omega)).mono ?_;rintro e wz ⟨rfl,rfl⟩;rw [show ((p:Int)+1+j+1).toNat=p+1+j+1 by omega]
    go_wp2_with fail
    refine (lex_named _ _ _ _ _ _ _ _ HX.lex (by omega)).mono ?_;rintro e w2 ⟨he,hB2⟩
    have HC:=Held.call hB2 HX
    generalize hr:namedR _ _ _ _=r at he
    have HR:=zq hr
    clear hr t0 t1 t2 t3 t4 t5 t6
    unfold Gives tokTup at he;subst he
    obtain ⟨t6,v0,v1,v2,v3,v4,v5,t0,t1,t2,t3,t4,t5⟩:=HC.tok
    have hltc:=HC.lt
    go_wp2_with fail
    try rw [Exit.noGoto_ret]
    refine bodyPost_ret (v:=tokTup r) (by simp [tokTup,results,Tryz.results91,go_sem,t0,t1,t2,t3,t4,t5]) rfl ⟨?_,(HC.sets _ _ _ _ _ _).bel⟩
    rw [HK.out,←HE.out,HI.out,←HR.out];rfl
  ·have b0:(rawAt s.data.toList (p+1+j)==39)=false:=by simp [d0]
   have hn1:¬(rawAt s.data.toList (p+1+j)=39∧¬rawAt s.data.toList (p+1+j+1)=39):=fun h=>d0 h.1
   clear d0
   by_cases d2:rawAt s.data.toList (p+1+j)=92
   ·have b2:(rawAt s.data.toList (p+1+j)==92)=true:=by simp [d2]
    by_cases d3:rawAt s.data.toList (p+1+j+1)=10
    ·have b3:(rawAt s.data.toList (p+1+j+1)==10)=true:=by simp [d3]
     have HI:=zq (itemAt_cont (s.data.toList.drop (p+1)) 39 (by decide) acc j (by rw [E0.out,E1.out];exact hn1) (by rw [E0.out];exact d2) (by rw [E1.out];exact d3))
     have hk2:p+1+j+2≤s.size:=by have:=rawAt_neg s.data.toList (p+1+j+1);rw [size_data] at this;omega
     clear d2 d3 hn1
     go_wp2_with fail
     refine (lex_raw _ _ _ _ _ _ HX.lex (by omega)).mono ?_;rintro e wz ⟨rfl,rfl⟩;rw [show ((p:Int)+1+j).toNat=p+1+j by omega]
     go_wp2_with fail
     refine (lex_raw _ _ _ _ _ _ HX.lex (by omega)).mono ?_;rintro e wz ⟨rfl,rfl⟩;rw [show ((p:Int)+1+j).toNat=p+1+j by omega]
     go_wp2_with fail
     refine (lex_raw _ _ _ _ _ _ HX.lex (by omega)).mono ?_;rintro e wz ⟨rfl,rfl⟩;rw [show ((p:Int)+1+j+1).toNat=p+1+j+1 by omega]
     go_wp2_with fail
     go_roundw
     case rel=>exact ⟨j+2,acc,by omega,by omega,by go_num,HX,hown,by rw [←HI.out];exact HE.out⟩
     case measure=>simp [intOf];omega
    ·have b3:(rawAt s.data.toList (p+1+j+1)==10)=false:=by simp [d3]
     have hn2:¬(rawAt s.data.toList (p+1+j)=92∧rawAt s.data.toList (p+1+j+1)=10):=fun h=>d3 h.2
     clear d2 d3
     cases hqs:quotedS (s.data.toList.drop (p+1+j)) 39 with
     | none=>
      have HI:=zq (itemAt_none (s.data.toList.drop (p+1)) 39 (by decide) acc j (by rw [E0.out,E1.out];exact hn1) (by rw [E0.out,E1.out];exact hn2) (by rw [List.drop_drop];exact hqs))
      have HQ:=zq hqs
      clear hqs hn1 hn2
      go_wp2_with fail
      refine (lex_raw _ _ _ _ _ _ HX.lex (by omega)).mono ?_;rintro e wz ⟨rfl,rfl⟩;rw [show ((p:Int)+1+j).toNat=p+1+j by omega]
      go_wp2_with fail
      refine (lex_raw _ _ _ _ _ _ HX.lex (by omega)).mono ?_;rintro e wz ⟨rfl,rfl⟩;rw [show ((p:Int)+1+j).toNat=p+1+j by omega]
      go_wp2_with fail
      refine (lex_raw _ _ _ _ _ _ HX.lex (by omega)).mono ?_;rintro e wz ⟨rfl,rfl⟩;rw [show ((p:Int)+1+j+1).toNat=p+1+j+1 by omega]
      go_wp2_with fail
      refine (lex_quoted _ _ _ _ _ _ _ HX.lex (by omega) (by omega)).mono ?_;rintro e wz ⟨he,rfl⟩;rw [show ((p:Int)+1+j).toNat=p+1+j by omega,HQ.out] at he
      obtain ⟨x,y,rfl⟩:=he
      obtain ⟨t6,v0,v1,v2,v3,v4,v5,t0,t1,t2,t3,t4,t5⟩:=HX.tok
      have hltc:=HX.lt
      go_wp2_with fail
      try rw [Exit.noGoto_ret]
      refine bodyPost_ret (v:=tokTup (errR 7)) (by simp [tokTup,errR,results,Tryz.results91,go_sem,t0,t1,t2,t3,t4,t5]) rfl ⟨?_,(HX.sets _ _ _ _ _ _).bel⟩
      rw [HK.out,←HE.out,HI.out];rfl
     | some ck=>
      obtain ⟨c,k⟩:=ck
      have hok:=quotedS_ok _ _ _ _ (by decide) hqs
      rw [List.length_drop] at hok
      have HI:=zq (itemAt_some (s.data.toList.drop (p+1)) 39 (by decide) acc j k c (by rw [E0.out,E1.out];exact hn1) (by rw [E0.out,E1.out];exact hn2) (by rw [List.drop_drop];exact hqs))
      have HQ:=zq hqs
      have hk1:1≤k:=hok.1
      have hk2:p+1+j+k≤s.size:=by have:=hok.2.1;have:=hok.1;rw [size_data] at *;omega
      have hc0:0≤c:=hok.2.2.1
      have hc1:c≤255:=hok.2.2.2
      clear hqs hn1 hn2 hok
      go_wp2_with fail
      refine (lex_raw _ _ _ _ _ _ HX.lex (by omega)).mono ?_;rintro e wz ⟨rfl,rfl⟩;rw [show ((p:Int)+1+j).toNat=p+1+j by omega]
      go_wp2_with fail
      refine (lex_raw _ _ _ _ _ _ HX.lex (by omega)).mono ?_;rintro e wz ⟨rfl,rfl⟩;rw [show ((p:Int)+1+j).toNat=p+1+j by omega]
      go_wp2_with fail
      refine (lex_raw _ _ _ _ _ _ HX.lex (by omega)).mono ?_;rintro e wz ⟨rfl,rfl⟩;rw [show ((p:Int)+1+j+1).toNat=p+1+j+1 by omega]
      go_wp2_with fail
      refine (lex_quoted _ _ _ _ _ _ _ HX.lex (by omega) (by omega)).mono ?_;rintro e wz ⟨he,rfl⟩;rw [show ((p:Int)+1+j).toNat=p+1+j by omega,HQ.out] at he
      unfold QRes at he
      simp only [] at he
      subst he
      go_wp2_with (at_builtin;go_must (refine wpList_append_byte rfl _ _ 168 5 rfl Tryz.underlying168 infoU8 (w.heap.size+1) _ _ _ rfl _ hown _ hc0 hc1 rfl rfl (by omega) (by have:=HX.lt;omega) ?_;intro v1 w2 hown1 hB2))
      have HX2:=Held.callB hB2 (by omega) HX
      go_roundw
      case rel=>exact ⟨j+k,acc++[c.toNat.toUInt8],by omega,by simp;omega,by go_num,HX2,hown1_len hown1,by rw [←HI.out];exact HE.out⟩
      case measure=>simp [intOf];omega
   ·have b2:(rawAt s.data.toList (p+1+j)==92)=false:=by simp [d2]
    have hn2:¬(rawAt s.data.toList (p+1+j)=92∧rawAt s.data.toList (p+1+j+1)=10):=fun h=>d2 h.1
    clear d2
    cases hqs:quotedS (s.data.toList.drop (p+1+j)) 39 with
    | none=>
     have HI:=zq (itemAt_none (s.data.toList.drop (p+1)) 39 (by decide) acc j (by rw [E0.out,E1.out];exact hn1) (by rw [E0.out,E1.out];exact hn2) (by rw [List.drop_drop];exact hqs))
     have HQ:=zq hqs
     clear hqs hn1 hn2
     go_wp2_with fail
     refine (lex_raw _ _ _ _ _ _ HX.lex (by omega)).mono ?_;rintro e wz ⟨rfl,rfl⟩;rw [show ((p:Int)+1+j).toNat=p+1+j by omega]
     go_wp2_with fail
     refine (lex_raw _ _ _ _ _ _ HX.lex (by omega)).mono ?_;rintro e wz ⟨rfl,rfl⟩;rw [show ((p:Int)+1+j).toNat=p+1+j by omega]
     go_wp2_with fail
     refine (lex_quoted _ _ _ _ _ _ _ HX.lex (by omega) (by omega)).mono ?_;rintro e wz ⟨he,rfl⟩;rw [show ((p:Int)+1+j).toNat=p+1+j by omega,HQ.out] at he
     obtain ⟨x,y,rfl⟩:=he
     obtain ⟨t6,v0,v1,v2,v3,v4,v5,t0,t1,t2,t3,t4,t5⟩:=HX.tok
     have hltc:=HX.lt
     go_wp2_with fail
     try rw [Exit.noGoto_ret]
     refine bodyPost_ret (v:=tokTup (errR 7)) (by simp [tokTup,errR,results,Tryz.results91,go_sem,t0,t1,t2,t3,t4,t5]) rfl ⟨?_,(HX.sets _ _ _ _ _ _).bel⟩
     rw [HK.out,←HE.out,HI.out];rfl
    | some ck=>
     obtain ⟨c,k⟩:=ck
     have hok:=quotedS_ok _ _ _ _ (by decide) hqs
     rw [List.length_drop] at hok
     have HI:=zq (itemAt_some (s.data.toList.drop (p+1)) 39 (by decide) acc j k c (by rw [E0.out,E1.out];exact hn1) (by rw [E0.out,E1.out];exact hn2) (by rw [List.drop_drop];exact hqs))
     have HQ:=zq hqs
     have hk1:1≤k:=hok.1
     have hk2:p+1+j+k≤s.size:=by have:=hok.2.1;have:=hok.1;rw [size_data] at *;omega
     have hc0:0≤c:=hok.2.2.1
     have hc1:c≤255:=hok.2.2.2
     clear hqs hn1 hn2 hok
     go_wp2_with fail
     refine (lex_raw _ _ _ _ _ _ HX.lex (by omega)).mono ?_;rintro e wz ⟨rfl,rfl⟩;rw [show ((p:Int)+1+j).toNat=p+1+j by omega]
     go_wp2_with fail
     refine (lex_raw _ _ _ _ _ _ HX.lex (by omega)).mono ?_;rintro e wz ⟨rfl,rfl⟩;rw [show ((p:Int)+1+j).toNat=p+1+j by omega]
     go_wp2_with fail
     refine (lex_quoted _ _ _ _ _ _ _ HX.lex (by omega) (by omega)).mono ?_;rintro e wz ⟨he,rfl⟩;rw [show ((p:Int)+1+j).toNat=p+1+j by omega,HQ.out] at he
     unfold QRes at he
     simp only [] at he
     subst he
     go_wp2_with (at_builtin;go_must (refine wpList_append_byte rfl _ _ 168 5 rfl Tryz.underlying168 infoU8 (w.heap.size+1) _ _ _ rfl _ hown _ hc0 hc1 rfl rfl (by omega) (by have:=HX.lt;omega) ?_;intro v1 w2 hown1 hB2))
     have HX2:=Held.callB hB2 (by omega) HX
     go_roundw
     case rel=>exact ⟨j+k,acc++[c.toNat.toUInt8],by omega,by simp;omega,by go_num,HX2,hown1_len hown1,by rw [←HI.out];exact HE.out⟩
     case measure=>simp [intOf];omega
set_option maxHeartbeats 800000 in
theorem lex_quote (b:Nat) (s:ByteArray) (tab:Int→Int) (p:Nat) (w:World) (h:Lex w b s tab p) (hp:p<s.size) :
  Calls Tryz.prog 91 #[.pointer (some ⟨b,0,none⟩)] w fun e w'=>Gives (quoteR (cvt tab s.data.toList) s.data.toList p) e∧Below w.heap.size w w':=by
 by_cases h1:rawAt (cvt tab s.data.toList) p=34
 ·exact lex_quote_str b s tab p w h hp h1
 by_cases h2:rawAt (cvt tab s.data.toList) p=39
 ·exact lex_quote_nm b s tab p w h hp h2
 have HK:=zq (show quoteR (cvt tab s.data.toList) s.data.toList p=errR 7 by unfold quoteR;rw [if_neg h1,if_neg h2])
 have b1:(rawAt (cvt tab s.data.toList) p==34)=false:=by simp [h1]
 have b2:(rawAt (cvt tab s.data.toList) p==39)=false:=by simp [h2]
 have H0:=Held.start h
 have hlt:=h.lt
 have ca:=h.ca
 clear h h1 h2
 go_enter Tryz.func91,Tryz.ntmps91
 go_wp2_with fail
 go_step3
 go_wp2_with fail
 refine (lex_char _ _ _ _ _ _ H0.lex (by omega)).mono ?_;rintro e w1 ⟨rfl,hB1⟩;rw [Int.toNat_natCast]
 have H1:=Held.call hB1 H0
 obtain ⟨t6,v0,v1,v2,v3,v4,v5,t0,t1,t2,t3,t4,t5⟩:=H1.tok
 have hltc:=H1.lt
 go_wp2_with fail
 try rw [Exit.noGoto_ret]
 refine bodyPost_ret (v:=tokTup (errR 7)) (by simp [tokTup,errR,results,Tryz.results91,go_sem,t0,t1,t2,t3,t4,t5]) rfl ⟨?_,(H1.sets _ _ _ _ _ _).bel⟩
 rw [HK.out];rfl
set_option maxHeartbeats 400000 in
theorem lex_none (b:Nat) (w:World) :
  Calls Tryz.prog 86 #[.pointer (some ⟨b,0,none⟩)] w fun e w'=>Gives (errR 7) e∧Below w.heap.size w w':=by
 go_enter Tryz.func86,Tryz.ntmps86
 go_wp2
 refine bodyPost_ret (v:=tokTup (errR 7)) (by simp [tokTup,errR,results,Tryz.results86,go_sem]) rfl ⟨rfl,(Below.refl _ _).alloc (Nat.le_refl _) _⟩
theorem cls_dig (c:Int) (h:cls c=4):isDig 10 c=true:=by
 have hc:48≤c∧c≤57:=by unfold cls at h;grind (splits:=30)
 unfold isDig;rw [digOk_dgt _ _ (by decide) (by decide)];unfold dgt;rw [if_pos hc];simp;omega
structure Only (g:Nat) (w w':World):Prop where
 os:w'.os=w.os
 tape:w'.tape=w.tape
 output:w'.output=w.output
 size:w.heap.size≤w'.heap.size
 block:∀k,k<w.heap.size→k≠g→w'.heap[k]? = w.heap[k]?
theorem Only.refl (g:Nat) (w:World):Only g w w:=⟨rfl,rfl,rfl,Nat.le_refl _,fun _ _ _=>rfl⟩
theorem Only.below {g:Nat} {a b c:World} (h:Only g a b) {B:Nat} (hb:Below B b c) (hB:a.heap.size≤B):Only g a c :=
 ⟨hb.os.trans h.os,hb.tape.trans h.tape,hb.output.trans h.output,Nat.le_trans h.size hb.size,fun i hi hg=>(hb.block i (by omega)).trans (h.block i hi hg)⟩
theorem Only.drew {g:Nat} {a b:World} (h:Only g a b):Only g a b.drew:=⟨h.os,h.tape,h.output,h.size,h.block⟩
theorem Only.set {g:Nat} {a b:World} (h:Only g a b) (o:Nat) (v:Value):Only g a (b.setCell ⟨g,o,none⟩ v) :=
 ⟨h.os,h.tape,h.output,by simp [World.setCell];exact h.size,fun i hi hg=>(Below.heap_setCell b _ v i hg).trans (h.block i hi hg)⟩
theorem Only.setNew {g:Nat} {a b:World} (h:Only g a b) (p:Addr) (hp:a.heap.size≤p.block) (v:Value):Only g a (b.setCell p v) :=
 ⟨h.os,h.tape,h.output,by simp [World.setCell];exact h.size,fun i hi hg=>(Below.heap_setCell b _ v i (by omega)).trans (h.block i hi hg)⟩
theorem Only.toBelow' {g:Nat} {a b:World} (h:Only g a b) {B:Nat} (hg:B≤g) (hB:B≤a.heap.size):Below B a b:=⟨h.os,h.tape,h.output,h.size,fun k hk=>h.block k (by omega) (by omega)⟩
theorem Lex.setAt {w:World} {b:Nat} {s:ByteArray} {tab:Int→Int} {a:Int} (h:Lex w b s tab a) (p:Int):Lex (w.setCell ⟨b,257,none⟩ (.int .i64 p)) b s tab p where
 lt:=by simp [World.setCell];exact h.lt
 c0:=(World.cell?_setCell_other w _ _ _ (by intro hh;injection hh with _ h2 _;omega)).trans h.c0
 ct:=fun c hc=>(World.cell?_setCell_other w _ _ _ (by intro hh;injection hh with _ h2 _;omega)).trans (h.ct c hc)
 ca:=World.cell?_setCell_same w _ _ h.ca
 fr:=fun o=>(frozen_set _ _ _ _).trans (h.fr o)
 sz:=h.sz
 tb:=h.tb
structure NHeld (w0 w:World) (b:Nat) (s:ByteArray) (tab:Int→Int) (p:Int):Prop where
 lex:Lex w b s tab p
 only:Only b w0 w
 tok:Tok6 w w0.heap.size
 lt:w0.heap.size<w.heap.size
 blt:b<w0.heap.size
section
variable {w0 w w':World} {b:Nat} {s:ByteArray} {tab:Int→Int} {p:Int}
theorem NHeld.start (h:Lex w0 b s tab p):NHeld w0 (w0.alloc tokZero) b s tab p:=by
 have H:=Held.start h
 exact ⟨H.lex,(Only.refl b w0).below H.bel (Nat.le_refl _),H.tok,H.lt,H.blt⟩
theorem Tok6.below {B g:Nat} (h:Tok6 w g) (hB:Below B w w') (hg:g<B):Tok6 w' g:=by
 obtain ⟨t6,v0,v1,v2,v3,v4,v5,t0,t1,t2,t3,t4,t5⟩:=h
 have e:∀o,w'.cell? ⟨g,o,none⟩=w.cell? ⟨g,o,none⟩:=fun o=>hB.cell (p:=⟨g,o,none⟩) hg
 exact ⟨fun o=>(hB.frozen (p:=⟨g,o,none⟩) hg).trans (t6 o),v0,v1,v2,v3,v4,v5,(e 0).trans t0,(e 1).trans t1,(e 2).trans t2,(e 3).trans t3,(e 4).trans t4,(e 5).trans t5⟩
theorem NHeld.call {B:Nat} (hB:Below B w w') (h1:w0.heap.size<B) (h:NHeld w0 w b s tab p):NHeld w0 w' b s tab p :=
 ⟨h.lex.below hB (Nat.lt_trans h.blt h1),h.only.below hB (Nat.le_of_lt h1),h.tok.below hB h1,Nat.lt_of_lt_of_le h.lt hB.size,h.blt⟩
theorem NHeld.setAt (h:NHeld w0 w b s tab p) (q:Int):NHeld w0 (w.setCell ⟨b,257,none⟩ (.int .i64 q)) b s tab q:=by
 obtain ⟨t6,v0,v1,v2,v3,v4,v5,t0,t1,t2,t3,t4,t5⟩:=h.tok
 have hne:b≠w0.heap.size:=by have:=h.blt;omega
 have e:∀o,(w.setCell ⟨b,257,none⟩ (.int .i64 q)).cell? ⟨w0.heap.size,o,none⟩=w.cell? ⟨w0.heap.size,o,none⟩:=fun o=>World.cell?_setCell_other w _ _ _ (by intro hh;injection hh with h1 _ _;exact hne h1)
 exact ⟨h.lex.setAt q,h.only.set 257 _,⟨fun o=>(frozen_set _ _ _ _).trans (t6 o),v0,v1,v2,v3,v4,v5,(e 0).trans t0,(e 1).trans t1,(e 2).trans t2,(e 3).trans t3,(e 4).trans t4,(e 5).trans t5⟩,by simp [World.setCell];exact h.lt,h.blt⟩
end
theorem only_sets {w w':World} {b g:Nat} (h:Only b w w') (hg:w.heap.size≤g) (a0 a1 a2 a3 a4 a5:Value):Only b w ((((((w'.setCell ⟨g,0,none⟩ a0).setCell ⟨g,1,none⟩ a1).setCell ⟨g,2,none⟩ a2).setCell ⟨g,3,none⟩ a3).setCell ⟨g,4,none⟩ a4).setCell ⟨g,5,none⟩ a5) :=
 (((((h.setNew ⟨g,_,none⟩ hg _).setNew ⟨g,_,none⟩ hg _).setNew ⟨g,_,none⟩ hg _).setNew ⟨g,_,none⟩ hg _).setNew ⟨g,_,none⟩ hg _).setNew ⟨g,_,none⟩ hg _
theorem lex_sets {w:World} {b g:Nat} {s:ByteArray} {tab:Int→Int} {p:Int} (h:Lex w b s tab p) (hg:b≠g) (a0 a1 a2 a3 a4 a5:Value):Lex ((((((w.setCell ⟨g,0,none⟩ a0).setCell ⟨g,1,none⟩ a1).setCell ⟨g,2,none⟩ a2).setCell ⟨g,3,none⟩ a3).setCell ⟨g,4,none⟩ a4).setCell ⟨g,5,none⟩ a5) b s tab p:=by
 refine h.same (by simp [World.setCell]) ?_
 rw [Below.heap_setCell _ _ _ _ hg,Below.heap_setCell _ _ _ _ hg,Below.heap_setCell _ _ _ _ hg,Below.heap_setCell _ _ _ _ hg,Below.heap_setCell _ _ _ _ hg,Below.heap_setCell _ _ _ _ hg]
theorem only_sets_alloc {w w':World} {b g:Nat} (h:Only b w w') (hg:w.heap.size≤g) (a0 a1 a2 a3 a4 a5:Value) (o:Obj):Only b w (((((((w'.setCell ⟨g,0,none⟩ a0).setCell ⟨g,1,none⟩ a1).setCell ⟨g,2,none⟩ a2).setCell ⟨g,3,none⟩ a3).setCell ⟨g,4,none⟩ a4).setCell ⟨g,5,none⟩ a5).alloc o) :=
 (only_sets h hg a0 a1 a2 a3 a4 a5).below ((Below.refl _ _).alloc (Nat.le_refl _) o) (only_sets h hg a0 a1 a2 a3 a4 a5).size
theorem lex_sets_alloc {w:World} {b g:Nat} {s:ByteArray} {tab:Int→Int} {p:Int} (h:Lex w b s tab p) (hg:b≠g) (a0 a1 a2 a3 a4 a5:Value) (o:Obj):Lex (((((((w.setCell ⟨g,0,none⟩ a0).setCell ⟨g,1,none⟩ a1).setCell ⟨g,2,none⟩ a2).setCell ⟨g,3,none⟩ a3).setCell ⟨g,4,none⟩ a4).setCell ⟨g,5,none⟩ a5).alloc o) b s tab p :=
 (lex_sets h hg a0 a1 a2 a3 a4 a5).below ((Below.refl _ _).alloc (Nat.le_refl _) o) (lex_sets h hg a0 a1 a2 a3 a4 a5).lt
def nxtTup (r:NextR):Value:=.tuple #[.agg #[.int .i64 r.r.kind,.string ⟨r.r.text.toArray⟩,.int .i64 r.r.n,.int .i64 r.r.at_,.int .i64 r.r.end_,.bool r.lay],.int .i64 r.where_,.int .i64 r.r.err]
def GivesN (r:NextR) (e:Ending):Prop:=e=.returned (nxtTup r)
def readers:Obj:=.cells #[.func (.func 86) #[] #[],.func (.func 86) #[] #[],.func (.func 87) #[] #[],.func (.func 87) #[] #[],.func (.func 88) #[] #[],.func (.func 89) #[] #[],.func (.func 90) #[] #[],.func (.func 91) #[] #[],.func (.func 86) #[] #[]] 137
theorem reader_cell0 (w:World):(w.alloc readers).cell? ⟨w.heap.size,0,none⟩=some (.func (.func 86) #[] #[]):=by unfold readers;rw [World.cell?_alloc_new];rfl
theorem reader_cell1 (w:World):(w.alloc readers).cell? ⟨w.heap.size,1,none⟩=some (.func (.func 86) #[] #[]):=by unfold readers;rw [World.cell?_alloc_new];rfl
theorem reader_cell2 (w:World):(w.alloc readers).cell? ⟨w.heap.size,2,none⟩=some (.func (.func 87) #[] #[]):=by unfold readers;rw [World.cell?_alloc_new];rfl
theorem reader_cell3 (w:World):(w.alloc readers).cell? ⟨w.heap.size,3,none⟩=some (.func (.func 87) #[] #[]):=by unfold readers;rw [World.cell?_alloc_new];rfl
theorem reader_cell4 (w:World):(w.alloc readers).cell? ⟨w.heap.size,4,none⟩=some (.func (.func 88) #[] #[]):=by unfold readers;rw [World.cell?_alloc_new];rfl
theorem reader_cell5 (w:World):(w.alloc readers).cell? ⟨w.heap.size,5,none⟩=some (.func (.func 89) #[] #[]):=by unfold readers;rw [World.cell?_alloc_new];rfl
theorem reader_cell6 (w:World):(w.alloc readers).cell? ⟨w.heap.size,6,none⟩=some (.func (.func 90) #[] #[]):=by unfold readers;rw [World.cell?_alloc_new];rfl
theorem reader_cell7 (w:World):(w.alloc readers).cell? ⟨w.heap.size,7,none⟩=some (.func (.func 91) #[] #[]):=by unfold readers;rw [World.cell?_alloc_new];rfl
theorem reader_cell8 (w:World):(w.alloc readers).cell? ⟨w.heap.size,8,none⟩=some (.func (.func 86) #[] #[]):=by unfold readers;rw [World.cell?_alloc_new];rfl
set_option maxHeartbeats 800000 in
theorem lex_next_end (b:Nat) (s:ByteArray) (tab:Int→Int) (a:Nat) (at0:Int) (w:World) (h:Lex w b s tab at0) (_ha:a≤s.size) (e1:(a+skipN ((cvt tab s.data.toList).drop a))=s.size) :
  Calls Tryz.prog 54 #[.pointer (some ⟨b,0,none⟩),.int .i64 a] w fun e w'=>GivesN (nextR (cvt tab s.data.toList) s.data.toList a) e∧Only b w w'∧∃q,Lex w' b s tab q:=by
 have H0:=NHeld.start h
 have hlt:=h.lt
 have hsz:=h.sz
 clear h
 have hlen:Hid ((cvt tab s.data.toList).length=s.size):=by show _=_;rw [cvt_len];simp
 have HRl:Hid (s.data.toList.length=s.size):=size_data s
 have hsk:=skipN_le ((cvt tab s.data.toList).drop a)
 rw [List.length_drop,hlen.out] at hsk
 generalize hM:cvt tab s.data.toList=M at *
 have HM:=zq hM
 clear hM
 generalize hS:skipN (M.drop a)=S at *
 have HS:=zq hS
 clear hS
 have HK:=zq (show nextR M s.data.toList a=⟨errR 14,false,a+S⟩ by unfold nextR;simp only [HS.out];rw [if_pos (by rw [HRl.out];exact e1)];simp)
 have b1:((a:Int)+S==(s.size:Int))=true:=by simp;omega
 have he1:=zq e1
 clear e1
 go_enter Tryz.func54,Tryz.ntmps54
 go_wp2_with fail
 refine (lex_skip _ _ _ _ _ _ H0.lex (by omega)).mono ?_;rintro e w1 ⟨rfl,hB1⟩;rw [Int.toNat_natCast,HM.out,HS.out]
 have H1:=NHeld.call hB1 H0.lt H0
 have c1:=H1.lex.ca
 have f1:=H1.lex.fr 257
 have hl1:=H1.lex.lt
 have H2:=H1.setAt (a+S)
 clear hB1 H0 H1
 go_wp2_with fail
 generalize hw2:w1.setCell ⟨b,257,none⟩ (.int .i64 ((a:Int)+S))=w2 at *
 clear hw2 c1 f1 hl1
 have c2:=H2.lex.ca
 have d2:=H2.lex.c0
 go_quiet (fail)
 have H3:=NHeld.call (bl_drewN (Below.refl w2.heap.size w2) nq) H2.lt H2
 clear H2 c2 d2
 generalize hw3:w2.drewN nq=w3 at *
 clear hw3
 have c3:=H3.lex.ca
 obtain ⟨t6,v0,v1,v2,v3,v4,v5,t0,t1,t2,t3,t4,t5⟩:=H3.tok
 have hl3:=H3.lt
 have hb3:=H3.lex.lt
 have H4:=fun o=>NHeld.call ((Below.refl w3.heap.size w3).alloc (Nat.le_refl _) o) H3.lt H3
 go_wp2_with fail
 go_region
 go_wp2_with fail
 refine bodyPost_ret (v:=nxtTup ⟨errR 14,false,(a:Int)+S⟩) (by simp [nxtTup,errR,results,Tryz.results54,go_sem,t0,t1,t2,t3,t4,t5]) rfl ⟨?_,(only_sets H3.only (Nat.le_refl _) _ _ _ _ _ _).drew,_,(lex_sets H3.lex (by have:=H3.blt;omega) _ _ _ _ _ _).drewN 1⟩
 rw [HK.out];rfl
set_option maxHeartbeats 800000 in
theorem lex_next_open (b:Nat) (s:ByteArray) (tab:Int→Int) (a:Nat) (at0:Int) (w:World) (h:Lex w b s tab at0) (ha:a≤s.size) (e1:¬(a+skipN ((cvt tab s.data.toList).drop a))=s.size) (e2:rawAt (cvt tab s.data.toList) (a+skipN ((cvt tab s.data.toList).drop a))=47∧rawAt (cvt tab s.data.toList) ((a+skipN ((cvt tab s.data.toList).drop a))+1)=42) :
  Calls Tryz.prog 54 #[.pointer (some ⟨b,0,none⟩),.int .i64 a] w fun e w'=>GivesN (nextR (cvt tab s.data.toList) s.data.toList a) e∧Only b w w'∧∃q,Lex w' b s tab q:=by
 have H0:=NHeld.start h
 have hlt:=h.lt
 have hsz:=h.sz
 clear h
 have hlen:Hid ((cvt tab s.data.toList).length=s.size):=by show _=_;rw [cvt_len];simp
 have HRl:Hid (s.data.toList.length=s.size):=size_data s
 have hsk:=skipN_le ((cvt tab s.data.toList).drop a)
 rw [List.length_drop,hlen.out] at hsk
 generalize hM:cvt tab s.data.toList=M at *
 have HM:=zq hM
 clear hM
 generalize hS:skipN (M.drop a)=S at *
 have HS:=zq hS
 clear hS
 have b1:((a:Int)+S==(s.size:Int))=false:=by simp;omega
 have HKN:Hid (∀e,¬e=0→(tokR M s.data.toList (a+S)).err=e→Hid (nextR M s.data.toList a=⟨errR e,false,a+S⟩)):=fun e he h=>by
  show nextR M s.data.toList a=_
  unfold nextR;simp only [HS.out];rw [if_neg (by rw [HRl.out];exact e1),if_neg (by rw [h];exact he),h];simp
 have HKY:Hid ((tokR M s.data.toList (a+S)).err=0→Hid (nextR M s.data.toList a=⟨tokR M s.data.toList (a+S),decide (a<a+S),0⟩)):=fun h=>by
  show nextR M s.data.toList a=_
  unfold nextR;simp only [HS.out];rw [if_neg (by rw [HRl.out];exact e1),if_pos h]
 have hp:a+S<s.size:=by omega
 have he1:=zq e1
 clear e1
 have HK:=HKN.out 7 (by decide) (by unfold tokR;rw [if_pos e2];rfl)
 have b2:(rawAt M (a+S)==47)=true:=by simp [e2.1]
 have b3:(rawAt M (a+S+1)==42)=true:=by simp [e2.2]
 clear e2
 go_enter Tryz.func54,Tryz.ntmps54
 go_wp2_with fail
 refine (lex_skip _ _ _ _ _ _ H0.lex (by omega)).mono ?_;rintro e w1 ⟨rfl,hB1⟩;rw [Int.toNat_natCast,HM.out,HS.out]
 have H1:=NHeld.call hB1 H0.lt H0
 have c1:=H1.lex.ca
 have f1:=H1.lex.fr 257
 have hl1:=H1.lex.lt
 have H2:=H1.setAt (a+S)
 clear hB1 H0 H1
 go_wp2_with fail
 generalize hw2:w1.setCell ⟨b,257,none⟩ (.int .i64 ((a:Int)+S))=w2 at *
 clear hw2 c1 f1 hl1
 have c2:=H2.lex.ca
 have d2:=H2.lex.c0
 go_quiet (fail)
 have H3:=NHeld.call (bl_drewN (Below.refl w2.heap.size w2) nq) H2.lt H2
 clear H2 c2 d2
 generalize hw3:w2.drewN nq=w3 at *
 clear hw3
 have c3:=H3.lex.ca
 obtain ⟨t6,v0,v1,v2,v3,v4,v5,t0,t1,t2,t3,t4,t5⟩:=H3.tok
 have hl3:=H3.lt
 have hb3:=H3.lex.lt
 have H4:=fun o=>NHeld.call ((Below.refl w3.heap.size w3).alloc (Nat.le_refl _) o) H3.lt H3
 go_wp2_with fail
 refine (lex_char _ _ _ _ _ _ (H4 _).lex (by omega)).mono ?_;rintro e w5 ⟨rfl,hB5⟩;rw [show ((a:Int)+S).toNat=a+S by omega,HM.out]
 have H5:=NHeld.call hB5 (H4 _).lt (H4 _)
 have c5:=H5.lex.ca
 have r5:=hB5
 go_wp2_with fail
 refine (lex_char _ _ _ _ _ _ H5.lex (by omega)).mono ?_;rintro e w6 ⟨rfl,hB6⟩;rw [show ((a:Int)+S+1).toNat=a+S+1 by omega,HM.out]
 have H6:=NHeld.call hB6 H5.lt H5
 have c6:=H6.lex.ca
 have r6:=r5.trans (hB6.mono hB5.size)
 go_wp2_with fail
 clear t0 t1 t2 t3 t4 t5 t6
 obtain ⟨t6,x0,x1,x2,x3,x4,x5,t0,t1,t2,t3,t4,t5⟩:=H6.tok
 have hl6:=H6.lt
 have hb6:=H6.lex.lt
 go_region
 go_wp2_with fail
 refine bodyPost_ret (v:=nxtTup ⟨errR 7,false,(a:Int)+S⟩) (by simp [nxtTup,errR,results,Tryz.results54,go_sem,t0,t1,t2,t3,t4,t5]) rfl ⟨?_,(only_sets H6.only (Nat.le_refl _) _ _ _ _ _ _).drew,_,(lex_sets H6.lex (by have:=H6.blt;omega) _ _ _ _ _ _).drewN 1⟩
 rw [HK.out];rfl
end Go.Proofs.YtbojljpldcijgaaGreat
