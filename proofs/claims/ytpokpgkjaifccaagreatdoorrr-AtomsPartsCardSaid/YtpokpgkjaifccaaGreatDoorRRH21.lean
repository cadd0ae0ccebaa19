/- Parts of the proof. -/
import Derived.Test.YtpokpgkjaifccaaGreatDoorRRH09
import Derived.Deep.QuietTactic
import Derived.BigQuiet
import Derived.LoopTactic
import Derived.Test.YtpokpgkjaifccaaGreatDoorRRH01
import Derived.Deep.DeepMust
import Derived.Test.YtpokpgkjaifccaaGreatDoorRRH02
import Derived.Deep.RegionHeld3
import Derived.RegionTactic
import Derived.BigRegion
import Derived.Deep.RegionWith
import Derived.Test.YtpokpgkjaifccaaGreatDoorRRProg
import Derived.Lib.Strings
import Derived.Laws.Strings
namespace Go.Proofs.YtpokpgkjaifccaaGreatDoorRR
open Go.RowKit Hb
def rowStr (j:Nat):ByteArray:=⟨(rowOf.getD j []).toArray⟩
theorem rowIx_step (c:Int) (k:Nat) (hk:k<7) (h:k≤rowIx c):(among (rowStr k).data.toList c=true→rowIx c=k)∧(among (rowStr k).data.toList c=false→k+1≤rowIx c):=by
 have hl:k<rowOf.length:=hk
 have e:(rowStr k).data.toList=rowOf[k]:=by
  unfold rowStr;rw [List.getD_eq_getElem?_getD,List.getElem?_eq_getElem hl];simp
 rw [e]
 constructor
 ·intro ha
  have h2:¬k<rowIx c:=fun hlt=>by
   have:=List.not_of_lt_findIdx (p:=fun l=>among l c) hlt
   simp [ha] at this
  omega
 ·intro ha
  have h2:rowIx c≠k:=fun he=>by
   have hlt:rowOf.findIdx (fun l=>among l c)<rowOf.length:=by show rowIx c<_;omega
   have:=List.findIdx_getElem (w:=hlt)
   have e2:rowOf[rowOf.findIdx (fun l=>among l c)]=rowOf[k]:=by congr 1
   rw [e2] at this
   simp [ha] at this
  omega
def rowRes (c:Int):Int:=if rowIx c=7 then -1 else rowIx c
set_option maxHeartbeats 400000 in
theorem class_indexFunc (c:Int) (g b:Nat) (w:World) (hb:b<w.heap.size) (hp:w.cell? ⟨b,0,none⟩=some (.int .i64 c)) (h0:0≤c) (h1:c≤255)
  (hg:g<w.heap.size) (hk:∀j:Nat,j<7→w.cell? ⟨g,j * 2,none⟩=some (.int .i64 (j+1))∧w.cell? ⟨g,j * 2+1,none⟩=some (.string (rowStr j))) :
  Calls Tryz.prog 132 #[.slice (some ⟨g,0,none⟩) 7 7,.func (.func 133) #[] #[.pointer (some ⟨b,0,none⟩)]] w fun e w'=>e=.returned (.int .i64 (rowRes c))∧Below w.heap.size w w':=by
 have HK:=zq hk
 clear hk
 have hle:=rowIx_le c
 go_enter Tryz.func132,Tryz.ntmps132
 go_wp2
 go_loopw [8] (fun i wr=>∃k:Nat,k≤7∧i=.int .i64 k∧k≤rowIx c∧Below w.heap.size w wr) (fun i _=>7-(intOf i).toNat)
 case atStart=>exact ⟨0,Nat.zero_le _,rfl,Nat.zero_le _,Below.refl _ _⟩
 case round=>
  obtain ⟨k,hk,rfl,hi,hB⟩:=hrel
  by_cases hlt:k<7
  ·obtain ⟨a1,a2⟩:=HK.out k hlt
   have c1:=(hB.cell (p:=⟨g,k * 2,none⟩) hg).trans a1
   have c2:=(hB.cell (p:=⟨g,k * 2+1,none⟩) hg).trans a2
   have c3:=(hB.cell (p:=⟨b,0,none⟩) hb).trans hp
   have hs:=hB.size
   have hb':b<wr.heap.size:=by omega
   clear a1 a2 hp
   have Hs:=zq (rowIx_step c k hlt hi)
   cases hm:among (rowStr k).data.toList c
   all_goals
    have Hm:=zq hm
    clear hm
    go_wp2_with (go_at_call 133;refine (class_closure _ _ _ _ _ _ hb' c3 h0 h1).mono ?_;rintro e w' ⟨rfl,hB2⟩;rw [Hm.out])
   ·have hs1:=Hs.out.2 Hm.out
    go_roundw
    case rel=>exact ⟨k+1,by omega,by go_num,hs1,hB.trans (hB2.mono hs)⟩
    case measure=>simp [intOf];omega
   ·have hs1:=Hs.out.1 Hm.out
    go_ret
    exact ⟨ret_int (by unfold rowRes;rw [hs1,if_neg (by omega)]),hB.trans (hB2.mono hs)⟩
  ·have h7:=zq (show rowIx c=7 by omega)
   go_wp2
   go_ret
   exact ⟨ret_int (by unfold rowRes;rw [h7.out,if_pos rfl]),hB⟩
abbrev rowArr:Array Value:=#[.int .i64 1,.string { data:=#[9,10,11,12,13,32] },.int .i64 2,.string { data:=#[97,98,99,100,101,102,103,104,105,106,107,108,109,110,111,112,113,114,115,116,117,118,119,120,121,122] },.int .i64 3,.string { data:=#[65,66,67,68,69,70,71,72,73,74,75,76,77,78,79,80,81,82,83,84,85,86,87,88,89,90,95] },.int .i64 4,.string { data:=#[48,49,50,51,52,53,54,55,56,57] },.int .i64 5,.string { data:=#[35,36,38,42,43,45,46,47,58,60,61,62,63,64,94,126,92] },.int .i64 6,.string { data:=#[33,40,41,44,59,91,93,123,125,37,124] },.int .i64 7,.string { data:=#[39,34,96] }]
theorem rows_at (w:World) (t:TypeId) (g j:Nat) (hg:g=w.heap.size) (hj:j<7):(w.alloc (.cells rowArr t)).cell? ⟨g,j * 2,none⟩=some (.int .i64 (j+1))∧(w.alloc (.cells rowArr t)).cell? ⟨g,j * 2+1,none⟩=some (.string (rowStr j)):=by
 subst hg
 rw [World.cell?_alloc_new,World.cell?_alloc_new]
 match j,hj with
 | 0,_=>exact ⟨rfl,rfl⟩
 | 1,_=>exact ⟨rfl,rfl⟩
 | 2,_=>exact ⟨rfl,rfl⟩
 | 3,_=>exact ⟨rfl,rfl⟩
 | 4,_=>exact ⟨rfl,rfl⟩
 | 5,_=>exact ⟨rfl,rfl⟩
 | 6,_=>exact ⟨rfl,rfl⟩
theorem cls_row (c:Int) (h0:0≤c) (h1:c≤255):cls c=(rowIx c:Int)+1:=by
 obtain ⟨n,rfl⟩:=Int.eq_ofNat_of_zero_le h0
 exact rowIx_cls n (by omega)
set_option maxHeartbeats 400000 in
theorem chars_class (c:Int) (w:World) :
  Calls Tryz.prog 120 #[.int .i64 c] w fun e w'=>e=.returned (.int .i64 (cls c))∧Below w.heap.size w w':=by
 cases hc:isCh c
 ·have h0:=zq (cls_out c (by rw [←isCh_iff];simp [hc]))
  go_enter Tryz.func120,Tryz.ntmps120
  go_wp2_with (go_at_call 121;refine (chars_is _ _).mono ?_;rintro e w' ⟨rfl,rfl⟩)
  go_ret
  exact ⟨ret_int h0.out.symm,(Below.refl _ _).alloc (Nat.le_refl _) _⟩
 ·obtain ⟨h0,h1⟩:=(isCh_iff c).1 hc
  have HC:=zq (cls_row c h0 h1)
  go_enter Tryz.func120,Tryz.ntmps120
  go_wp2_with (first | (go_at_call 121;refine (chars_is _ _).mono ?_;rintro e w' ⟨rfl,rfl⟩) | fail)
  have hrow:=fun t=>rows_at (w.alloc (.cells #[.int .i64 c] 3)) t (w.heap.size+1)
  refine (class_indexFunc c (w.heap.size+1) w.heap.size _ ?_ ?_ h0 h1 ?_ ?_).mono ?_
  ·simp;omega
  ·simp [go_sem]
  ·simp
  ·exact fun j hj=>hrow _ j (by simp) hj
  rintro e w1 ⟨rfl,hB⟩
  by_cases h7:rowIx c=7
  ·have HR:=zq (show rowRes c=-1 by unfold rowRes;rw [if_pos h7])
   have HX:=zq h7
   clear h7
   rw [HR.out]
   go_wp2
   go_ret
   exact ⟨ret_int (by rw [HC.out,HX.out];rfl),(((Below.refl _ _).alloc (Nat.le_refl _) _).alloc (by simp) _).trans (hB.mono (by simp;omega))⟩
  ·have HR:=zq (show rowRes c=rowIx c by unfold rowRes;rw [if_neg h7])
   have hlt:rowIx c<7:=by have:=rowIx_le c;omega
   rw [HR.out]
   have hc1:=(hB.cell (p:=⟨w.heap.size+1,rowIx c * 2,none⟩) (by simp)).trans (hrow _ (rowIx c) (by simp) hlt).1
   clear hrow h7
   go_wp2
   go_ret
   exact ⟨ret_int HC.out.symm,(((Below.refl _ _).alloc (Nat.le_refl _) _).alloc (by simp) _).trans (hB.mono (by simp;omega))⟩
set_option maxHeartbeats 1000000 in
theorem chars_digit (c base:Int) (w:World) :
  Calls Tryz.prog 136 #[.int .i64 c,.int .i64 base] w fun e w'=>e=.returned (.tuple #[.int .i64 (digV c base),.bool (digOk c base)])∧w=w':=by
 go_enter Tryz.func136,Tryz.ntmps136
 go_wp2
 all_goals (go_ret2;exact ⟨ret_ib (by grind [digV,dig]) (by grind [digOk,dig]),rfl⟩)
end Go.Proofs.YtpokpgkjaifccaaGreatDoorRR
namespace Go.Proofs.YtpokpgkjaifccaaGreatDoorRR
open Go.RowKit Hb
set_option maxRecDepth 100000
structure Lex (w:World) (b:Nat) (s:ByteArray) (tab:Int→Int) (at_:Int):Prop where
 lt:b<w.heap.size
 c0:w.cell? ⟨b,0,none⟩=some (.string s)
 ct:∀c:Nat,c<256→w.cell? ⟨b,1+c,none⟩=some (.int .i64 (tab c))
 ca:w.cell? ⟨b,257,none⟩=some (.int .i64 at_)
 fr:∀o,w.frozen? ⟨b,o,none⟩=false
 sz:s.size≤16384
 tb:TabOk tab
theorem Lex.same {w w':World} {b:Nat} {s:ByteArray} {tab:Int→Int} {at_:Int} (h:Lex w b s tab at_) (hs:w.heap.size≤w'.heap.size) (hb:w'.heap[b]? = w.heap[b]?):Lex w' b s tab at_ where
 lt:=Nat.lt_of_lt_of_le h.lt hs
 c0:=(World.cell?_of_block (w:=w) hb).trans h.c0
 ct:=fun c hc=>(World.cell?_of_block (w:=w) hb).trans (h.ct c hc)
 ca:=(World.cell?_of_block (w:=w) hb).trans h.ca
 fr:=fun o=>(World.frozen?_of_block (w:=w) hb).trans (h.fr o)
 sz:=h.sz
 tb:=h.tb
theorem Lex.below {w w':World} {b:Nat} {s:ByteArray} {tab:Int→Int} {at_:Int} (h:Lex w b s tab at_) {B:Nat} (hb:Below B w w') (hB:b<B):Lex w' b s tab at_:=h.same hb.size (hb.block b hB)
theorem Lex.drewN {w:World} {b:Nat} {s:ByteArray} {tab:Int→Int} {at_:Int} (h:Lex w b s tab at_) (n:Nat):Lex (w.drewN n) b s tab at_:=h.same (Nat.le_refl _) rfl
theorem Lex.tabc {w:World} {b:Nat} {s:ByteArray} {tab:Int→Int} {at_:Int} (h:Lex w b s tab at_) (k:Nat) (hk:k<s.size):w.cell? ⟨b,1+s[k].toNat,none⟩=some (.int .i64 (rawAt (cvt tab s.data.toList) k)):=by
 have hl:k<s.data.toList.length:=by simpa using hk
 have e:(tab (bAt s.data.toList k))=rawAt (cvt tab s.data.toList) k:=by
  rw [cvt_at tab h.tb _ _ hl,rawAt_in _ _ (by rw [cvt_len];exact hl)]
 rw [h.ct s[k].toNat s[k].toNat_lt,bAt_mk s k hk,e]
set_option maxHeartbeats 400000 in
theorem lex_char (b:Nat) (s:ByteArray) (tab:Int→Int) (at_ i:Int) (w:World) (h:Lex w b s tab at_) (h0:0≤i) :
  Calls Tryz.prog 119 #[.pointer (some ⟨b,0,none⟩),.int .i64 i] w fun e w'=>e=.returned (.int .i64 (rawAt (cvt tab s.data.toList) i.toNat))∧Below w.heap.size w w':=by
 obtain ⟨k,rfl⟩:=Int.eq_ofNat_of_zero_le h0
 have hsz:=h.sz
 have c0:=h.c0
 by_cases hlt:k<s.size
 ·have c1:=h.tabc k hlt
  have hb:=bAt_lo s.data.toList k
  have hlt':(s[k].toNat:Int)<256:=by have:=s[k].toNat_lt;omega
  go_enter Tryz.func119,Tryz.ntmps119
  go_wp2
  go_quiet (fail)
  go_wp2
  go_ret
  exact ⟨ret_int rfl,bl_drewN (Below.refl _ _) _⟩
 ·have HR:=zq (rawAt_out (cvt tab s.data.toList) k (by rw [cvt_len];simp;omega))
  go_enter Tryz.func119,Tryz.ntmps119
  go_wp2
  go_ret
  exact ⟨ret_int HR.out.symm,Below.refl _ _⟩
set_option maxHeartbeats 400000 in
theorem lex_raw (b:Nat) (s:ByteArray) (tab:Int→Int) (at_ i:Int) (w:World) (h:Lex w b s tab at_) (h0:0≤i) :
  Calls Tryz.prog 131 #[.pointer (some ⟨b,0,none⟩),.int .i64 i] w fun e w'=>e=.returned (.int .i64 (rawAt s.data.toList i.toNat))∧w=w':=by
 obtain ⟨k,rfl⟩:=Int.eq_ofNat_of_zero_le h0
 have hsz:=h.sz
 have c0:=h.c0
 by_cases hlt:k<s.size
 ·have hb:=bAt_mk s k hlt
  have HR:=zq (rawAt_in s.data.toList k (by simpa using hlt))
  have hb0:=bAt_lo s.data.toList k
  have hb1:=bAt_hi s.data.toList k
  go_enter Tryz.func131,Tryz.ntmps131
  go_wp2
  go_ret
  exact ⟨ret_int HR.out.symm,rfl⟩
 ·have HR:=zq (rawAt_out s.data.toList k (by simp;omega))
  go_enter Tryz.func131,Tryz.ntmps131
  go_wp2
  go_ret
  exact ⟨ret_int HR.out.symm,rfl⟩
set_option maxHeartbeats 400000 in
theorem lex_notNl (c:Int) (w:World) :
  Calls Tryz.prog 123 #[.int .i64 c] w fun e w'=>e=.returned (.bool (notNl c))∧Below w.heap.size w w':=by
 go_enter Tryz.func123,Tryz.ntmps123
 go_wp2
 go_ret
 exact ⟨ret_bool (by unfold notNl;simp [bne]),Below.refl _ _⟩
set_option maxHeartbeats 400000 in
theorem lex_isSym (c:Int) (w:World) :
  Calls Tryz.prog 130 #[.int .i64 c] w fun e w'=>e=.returned (.bool (isSym c))∧Below w.heap.size w w':=by
 go_enter Tryz.func130,Tryz.ntmps130
 go_wp2_with (go_at_call 120;refine (chars_class _ _).mono ?_;rintro e w' ⟨rfl,hB⟩)
 go_ret
 exact ⟨ret_bool rfl,hB⟩
set_option maxHeartbeats 400000 in
theorem lex_alnum (c:Int) (w:World) :
  Calls Tryz.prog 124 #[.int .i64 c] w fun e w'=>e=.returned (.bool (alnum c))∧Below w.heap.size w w':=by
 go_enter Tryz.func124,Tryz.ntmps124
 go_wp2_with (go_at_call 120;refine (chars_class _ _).mono ?_;rintro e w' ⟨rfl,hB⟩)
 all_goals (go_ret;exact ⟨ret_bool (by grind [alnum]),hB⟩)
set_option maxHeartbeats 400000 in
theorem lex_isDig (c base:Int) (g:Nat) (w:World) (hg:w.cell? ⟨g,0,none⟩=some (.int .i64 base)) :
  Calls Tryz.prog 137 #[.int .i64 c,.pointer (some ⟨g,0,none⟩)] w fun e w'=>e=.returned (.bool (digOk c base))∧Below w.heap.size w w':=by
 go_enter Tryz.func137,Tryz.ntmps137
 go_wp2_with (go_at_call 136;refine (chars_digit _ _ _).mono ?_;rintro e w' ⟨rfl,rfl⟩)
 go_ret
 exact ⟨ret_bool rfl,Below.refl _ _⟩
set_option maxHeartbeats 800000 in
theorem run_notNl (b:Nat) (s:ByteArray) (tab:Int→Int) (at_ i:Int) (w:World) (h:Lex w b s tab at_) (h0:0≤i) :
  Calls Tryz.prog 122 #[.pointer (some ⟨b,0,none⟩),.int .i64 i,.func (.func 123) #[] #[]] w fun e w'=>e=.returned (.int .i64 (i+span (notNl) ((cvt tab s.data.toList).drop i.toNat)))∧Below w.heap.size w w':=by
 obtain ⟨k0,rfl⟩:=Int.eq_ofNat_of_zero_le h0
 have hsz:=h.sz
 have HL:=zq h
 have hlt0:=h.lt
 clear h
 rw [Int.toNat_natCast]
 go_enter Tryz.func122,Tryz.ntmps122
 go_wp2
 go_loopw [1] (fun i wr=>∃k:Nat,i=.int .i64 k∧Below w.heap.size w wr∧Hid (k+span (notNl) ((cvt tab s.data.toList).drop k)=k0+span (notNl) ((cvt tab s.data.toList).drop k0))) (fun i _=>s.size-(intOf i).toNat)
 case atStart=>exact ⟨k0,rfl,Below.refl _ _,rfl⟩
 case round=>
  obtain ⟨k,rfl,hB,HE⟩:=hrel
  have L:=HL.out.below hB hlt0
  have c0:=L.c0
  have hs:=hB.size
  by_cases hlt:k<s.size
  ·have hkl:k<(cvt tab s.data.toList).length:=by rw [cvt_len];simpa using hlt
   have HR:=zq (rawAt_in (cvt tab s.data.toList) k hkl)
   cases hq:(notNl) (rawAt (cvt tab s.data.toList) k)
   ·have HN:=zq (span_no (notNl) (cvt tab s.data.toList) k hkl (by rw [←HR.out];exact hq))
    have Hq:=zq hq
    clear hq
    go_wp2_with (first | (go_at_call 119;refine (lex_char _ _ _ _ _ _ L (by omega)).mono ?_;rintro e w1 ⟨rfl,hB1⟩;rw [Int.toNat_natCast]) | (go_at_call 123;refine (lex_notNl _ _).mono ?_;rintro e w2 ⟨rfl,hB2⟩;rw [show notNl (rawAt (cvt tab s.data.toList) k)=false from Hq.out]))
    go_ret
    exact ⟨ret_int (by have h1:=HE.out;have h2:=HN.out;omega),hB.trans ((hB1.mono (by omega)).trans (hB2.mono (by have:=hB1.size;omega)))⟩
   ·have HN:=zq (span_yes (notNl) (cvt tab s.data.toList) k hkl (by rw [←HR.out];exact hq))
    have Hq:=zq hq
    clear hq
    go_wp2_with (first | (go_at_call 119;refine (lex_char _ _ _ _ _ _ L (by omega)).mono ?_;rintro e w1 ⟨rfl,hB1⟩;rw [Int.toNat_natCast]) | (go_at_call 123;refine (lex_notNl _ _).mono ?_;rintro e w2 ⟨rfl,hB2⟩;rw [show notNl (rawAt (cvt tab s.data.toList) k)=true from Hq.out]))
    go_roundw
    case rel=>exact ⟨k+1,by go_num,hB.trans ((hB1.mono (by omega)).trans (hB2.mono (by have:=hB1.size;omega))),by have h1:=HE.out;have h2:=HN.out;show _=_;omega⟩
    case measure=>simp [intOf];omega
  ·have HN:=zq (span_end (notNl) (cvt tab s.data.toList) k (by rw [cvt_len];simp;omega))
   go_wp2
   go_ret
   exact ⟨ret_int (by have h1:=HE.out;have h2:=HN.out;omega),hB⟩
set_option maxHeartbeats 800000 in
theorem run_sym (b:Nat) (s:ByteArray) (tab:Int→Int) (at_ i:Int) (w:World) (h:Lex w b s tab at_) (h0:0≤i) :
  Calls Tryz.prog 122 #[.pointer (some ⟨b,0,none⟩),.int .i64 i,.func (.func 130) #[] #[]] w fun e w'=>e=.returned (.int .i64 (i+span (isSym) ((cvt tab s.data.toList).drop i.toNat)))∧Below w.heap.size w w':=by
 obtain ⟨k0,rfl⟩:=Int.eq_ofNat_of_zero_le h0
 have hsz:=h.sz
 have HL:=zq h
 have hlt0:=h.lt
 clear h
 rw [Int.toNat_natCast]
 go_enter Tryz.func122,Tryz.ntmps122
 go_wp2
 go_loopw [1] (fun i wr=>∃k:Nat,i=.int .i64 k∧Below w.heap.size w wr∧Hid (k+span (isSym) ((cvt tab s.data.toList).drop k)=k0+span (isSym) ((cvt tab s.data.toList).drop k0))) (fun i _=>s.size-(intOf i).toNat)
 case atStart=>exact ⟨k0,rfl,Below.refl _ _,rfl⟩
 case round=>
  obtain ⟨k,rfl,hB,HE⟩:=hrel
  have L:=HL.out.below hB hlt0
  have c0:=L.c0
  have hs:=hB.size
  by_cases hlt:k<s.size
  ·have hkl:k<(cvt tab s.data.toList).length:=by rw [cvt_len];simpa using hlt
   have HR:=zq (rawAt_in (cvt tab s.data.toList) k hkl)
   cases hq:(isSym) (rawAt (cvt tab s.data.toList) k)
   ·have HN:=zq (span_no (isSym) (cvt tab s.data.toList) k hkl (by rw [←HR.out];exact hq))
    have Hq:=zq hq
    clear hq
    go_wp2_with (first | (go_at_call 119;refine (lex_char _ _ _ _ _ _ L (by omega)).mono ?_;rintro e w1 ⟨rfl,hB1⟩;rw [Int.toNat_natCast]) | (go_at_call 130;refine (lex_isSym _ _).mono ?_;rintro e w2 ⟨rfl,hB2⟩;rw [show isSym (rawAt (cvt tab s.data.toList) k)=false from Hq.out]))
    go_ret
    exact ⟨ret_int (by have h1:=HE.out;have h2:=HN.out;omega),hB.trans ((hB1.mono (by omega)).trans (hB2.mono (by have:=hB1.size;omega)))⟩
   ·have HN:=zq (span_yes (isSym) (cvt tab s.data.toList) k hkl (by rw [←HR.out];exact hq))
    have Hq:=zq hq
    clear hq
    go_wp2_with (first | (go_at_call 119;refine (lex_char _ _ _ _ _ _ L (by omega)).mono ?_;rintro e w1 ⟨rfl,hB1⟩;rw [Int.toNat_natCast]) | (go_at_call 130;refine (lex_isSym _ _).mono ?_;rintro e w2 ⟨rfl,hB2⟩;rw [show isSym (rawAt (cvt tab s.data.toList) k)=true from Hq.out]))
    go_roundw
    case rel=>exact ⟨k+1,by go_num,hB.trans ((hB1.mono (by omega)).trans (hB2.mono (by have:=hB1.size;omega))),by have h1:=HE.out;have h2:=HN.out;show _=_;omega⟩
    case measure=>simp [intOf];omega
  ·have HN:=zq (span_end (isSym) (cvt tab s.data.toList) k (by rw [cvt_len];simp;omega))
   go_wp2
   go_ret
   exact ⟨ret_int (by have h1:=HE.out;have h2:=HN.out;omega),hB⟩
set_option maxHeartbeats 800000 in
theorem run_alnum (b:Nat) (s:ByteArray) (tab:Int→Int) (at_ i:Int) (w:World) (h:Lex w b s tab at_) (h0:0≤i) :
  Calls Tryz.prog 122 #[.pointer (some ⟨b,0,none⟩),.int .i64 i,.func (.func 124) #[] #[]] w fun e w'=>e=.returned (.int .i64 (i+span (alnum) ((cvt tab s.data.toList).drop i.toNat)))∧Below w.heap.size w w':=by
 obtain ⟨k0,rfl⟩:=Int.eq_ofNat_of_zero_le h0
 have hsz:=h.sz
 have HL:=zq h
 have hlt0:=h.lt
 clear h
 rw [Int.toNat_natCast]
 go_enter Tryz.func122,Tryz.ntmps122
 go_wp2
 go_loopw [1] (fun i wr=>∃k:Nat,i=.int .i64 k∧Below w.heap.size w wr∧Hid (k+span (alnum) ((cvt tab s.data.toList).drop k)=k0+span (alnum) ((cvt tab s.data.toList).drop k0))) (fun i _=>s.size-(intOf i).toNat)
 case atStart=>exact ⟨k0,rfl,Below.refl _ _,rfl⟩
 case round=>
  obtain ⟨k,rfl,hB,HE⟩:=hrel
  have L:=HL.out.below hB hlt0
  have c0:=L.c0
  have hs:=hB.size
  by_cases hlt:k<s.size
  ·have hkl:k<(cvt tab s.data.toList).length:=by rw [cvt_len];simpa using hlt
   have HR:=zq (rawAt_in (cvt tab s.data.toList) k hkl)
   cases hq:(alnum) (rawAt (cvt tab s.data.toList) k)
   ·have HN:=zq (span_no (alnum) (cvt tab s.data.toList) k hkl (by rw [←HR.out];exact hq))
    have Hq:=zq hq
    clear hq
    go_wp2_with (first | (go_at_call 119;refine (lex_char _ _ _ _ _ _ L (by omega)).mono ?_;rintro e w1 ⟨rfl,hB1⟩;rw [Int.toNat_natCast]) | (go_at_call 124;refine (lex_alnum _ _).mono ?_;rintro e w2 ⟨rfl,hB2⟩;rw [show alnum (rawAt (cvt tab s.data.toList) k)=false from Hq.out]))
    go_ret
    exact ⟨ret_int (by have h1:=HE.out;have h2:=HN.out;omega),hB.trans ((hB1.mono (by omega)).trans (hB2.mono (by have:=hB1.size;omega)))⟩
   ·have HN:=zq (span_yes (alnum) (cvt tab s.data.toList) k hkl (by rw [←HR.out];exact hq))
    have Hq:=zq hq
    clear hq
    go_wp2_with (first | (go_at_call 119;refine (lex_char _ _ _ _ _ _ L (by omega)).mono ?_;rintro e w1 ⟨rfl,hB1⟩;rw [Int.toNat_natCast]) | (go_at_call 124;refine (lex_alnum _ _).mono ?_;rintro e w2 ⟨rfl,hB2⟩;rw [show alnum (rawAt (cvt tab s.data.toList) k)=true from Hq.out]))
    go_roundw
    case rel=>exact ⟨k+1,by go_num,hB.trans ((hB1.mono (by omega)).trans (hB2.mono (by have:=hB1.size;omega))),by have h1:=HE.out;have h2:=HN.out;show _=_;omega⟩
    case measure=>simp [intOf];omega
  ·have HN:=zq (span_end (alnum) (cvt tab s.data.toList) k (by rw [cvt_len];simp;omega))
   go_wp2
   go_ret
   exact ⟨ret_int (by have h1:=HE.out;have h2:=HN.out;omega),hB⟩
set_option maxHeartbeats 800000 in
theorem run_dig (b:Nat) (s:ByteArray) (tab:Int→Int) (at_ i:Int) (base:Int) (g:Nat) (w:World) (h:Lex w b s tab at_) (h0:0≤i) (hgl:g<w.heap.size) (hg:w.cell? ⟨g,0,none⟩=some (.int .i64 base)) :
  Calls Tryz.prog 122 #[.pointer (some ⟨b,0,none⟩),.int .i64 i,.func (.func 137) #[] #[.pointer (some ⟨g,0,none⟩)]] w fun e w'=>e=.returned (.int .i64 (i+span (fun c=>digOk c base) ((cvt tab s.data.toList).drop i.toNat)))∧Below w.heap.size w w':=by
 obtain ⟨k0,rfl⟩:=Int.eq_ofNat_of_zero_le h0
 have hsz:=h.sz
 have HL:=zq h
 have hlt0:=h.lt
 clear h
 rw [Int.toNat_natCast]
 have HG:=zq hg
 clear hg
 go_enter Tryz.func122,Tryz.ntmps122
 go_wp2
 go_loopw [1] (fun i wr=>∃k:Nat,i=.int .i64 k∧Below w.heap.size w wr∧Hid (k+span (fun c=>digOk c base) ((cvt tab s.data.toList).drop k)=k0+span (fun c=>digOk c base) ((cvt tab s.data.toList).drop k0))) (fun i _=>s.size-(intOf i).toNat)
 case atStart=>exact ⟨k0,rfl,Below.refl _ _,rfl⟩
 case round=>
  obtain ⟨k,rfl,hB,HE⟩:=hrel
  have L:=HL.out.below hB hlt0
  have c0:=L.c0
  have hs:=hB.size
  have hg1:=(hB.cell (p:=⟨g,0,none⟩) hgl).trans HG.out
  have hgl1:g<wr.heap.size:=by omega
  by_cases hlt:k<s.size
  ·have hkl:k<(cvt tab s.data.toList).length:=by rw [cvt_len];simpa using hlt
   have HR:=zq (rawAt_in (cvt tab s.data.toList) k hkl)
   cases hq:(fun c=>digOk c base) (rawAt (cvt tab s.data.toList) k)
   ·have HN:=zq (span_no (fun c=>digOk c base) (cvt tab s.data.toList) k hkl (by rw [←HR.out];exact hq))
    have Hq:=zq hq
    clear hq
    go_wp2_with (first | (go_at_call 119;refine (lex_char _ _ _ _ _ _ L (by omega)).mono ?_;rintro e w1 ⟨rfl,hB1⟩;rw [Int.toNat_natCast]) | (go_at_call 137;go_must (refine (lex_isDig _ base g _ ((hB1.cell (p:=⟨g,0,none⟩) hgl1).trans hg1)).mono ?_);rintro e w2 ⟨rfl,hB2⟩;rw [show digOk (rawAt (cvt tab s.data.toList) k) base=false from Hq.out]))
    go_ret
    exact ⟨ret_int (by have h1:=HE.out;have h2:=HN.out;omega),hB.trans ((hB1.mono (by omega)).trans (hB2.mono (by have:=hB1.size;omega)))⟩
   ·have HN:=zq (span_yes (fun c=>digOk c base) (cvt tab s.data.toList) k hkl (by rw [←HR.out];exact hq))
    have Hq:=zq hq
    clear hq
    go_wp2_with (first | (go_at_call 119;refine (lex_char _ _ _ _ _ _ L (by omega)).mono ?_;rintro e w1 ⟨rfl,hB1⟩;rw [Int.toNat_natCast]) | (go_at_call 137;go_must (refine (lex_isDig _ base g _ ((hB1.cell (p:=⟨g,0,none⟩) hgl1).trans hg1)).mono ?_);rintro e w2 ⟨rfl,hB2⟩;rw [show digOk (rawAt (cvt tab s.data.toList) k) base=true from Hq.out]))
    go_roundw
    case rel=>exact ⟨k+1,by go_num,hB.trans ((hB1.mono (by omega)).trans (hB2.mono (by have:=hB1.size;omega))),by have h1:=HE.out;have h2:=HN.out;show _=_;omega⟩
    case measure=>simp [intOf];omega
  ·have HN:=zq (span_end (fun c=>digOk c base) (cvt tab s.data.toList) k (by rw [cvt_len];simp;omega))
   go_wp2
   go_ret
   exact ⟨ret_int (by have h1:=HE.out;have h2:=HN.out;omega),hB⟩
theorem infoU8:(Tryz.prog.info? 5).map (fun i=>(i.zero,i.size,i.bytes))=some (some (.int .u8 0),1,1):=by kernel_rfl
theorem take_snoc (l:List UInt8) (k:Nat) (h:k<l.length):l.take (k+1)=l.take k++[(bAt l k).toNat.toUInt8]:=by
 rw [List.take_succ_eq_append_getElem h,←bAt_get _ _ h];simp
theorem take_drop_snoc (l:List UInt8) (i k:Nat) (h:i+k<l.length):(l.drop i).take (k+1)=(l.drop i).take k++[(bAt l (i+k)).toNat.toUInt8]:=by
 rw [take_snoc _ _ (by simp;omega),bAt_drop]
set_option maxHeartbeats 800000 in
theorem lex_part (b:Nat) (s:ByteArray) (tab:Int→Int) (at_ i j:Int) (w:World) (h:Lex w b s tab at_) (h0:0≤i) (h1:i≤j) (h2:j≤s.size) :
  Calls Tryz.prog 126 #[.pointer (some ⟨b,0,none⟩),.int .i64 i,.int .i64 j] w fun e w'=>e=.returned (.string ⟨(((cvt tab s.data.toList).drop i.toNat).take (j-i).toNat).toArray⟩)∧Below w.heap.size w w':=by
 obtain ⟨k0,rfl⟩:=Int.eq_ofNat_of_zero_le h0
 obtain ⟨n,hn⟩:=Int.eq_ofNat_of_zero_le (show 0≤j-k0 by omega)
 obtain rfl:j=k0+n:=by omega
 have hsz:=h.sz
 have HL:=zq h
 have hlt0:=h.lt
 clear h hn
 rw [Int.toNat_natCast,show ((k0:Int)+n-k0).toNat=n by omega]
 go_enter Tryz.func126,Tryz.ntmps126
 go_wp2
 go_loopw [7,8] (fun v i wr=>∃k:Nat,k≤n∧i=.int .i64 (k0+k:Nat)∧Below w.heap.size w wr∧wr.ownsRow w.heap.size 5 1 v k (Hb.byteCells (((cvt tab s.data.toList).drop k0).take k))) (fun _ i _=>k0+n-(intOf i).toNat)
 case atStart=>exact ⟨0,Nat.zero_le _,rfl,Below.refl _ _,⟨by simp [Hb.byteCells],.inl ⟨rfl,rfl⟩⟩⟩
 case round=>
  obtain ⟨k,hk,rfl,hB,hown⟩:=hrel
  have L:=HL.out.below hB hlt0
  have c0:=L.c0
  have hs:=hB.size
  by_cases hlt:k<n
  ·have hkl:k0+k<(cvt tab s.data.toList).length:=by rw [cvt_len];simp;omega
   have HR:=zq (rawAt_in (cvt tab s.data.toList) (k0+k) hkl)
   have HT:=zq (take_drop_snoc (cvt tab s.data.toList) k0 k hkl)
   have hb0:=bAt_lo (cvt tab s.data.toList) (k0+k)
   have hb1:=bAt_hi (cvt tab s.data.toList) (k0+k)
   go_wp2_with (first | (go_at_call 119;refine (lex_char _ _ _ _ _ _ L (by omega)).mono ?_;rintro e w1 ⟨rfl,hB1⟩;rw [show ((k0:Int)+k).toNat=k0+k by omega,HR.out]) | (at_builtin;go_must (refine wpList_append_byte rfl _ _ 44 5 rfl Tryz.underlying44 infoU8 w.heap.size _ _ _ rfl _ (hown.kept (row:=none) ⟨hB1.os,hB1.tape,hB1.output,hB1.size,fun k hk _=>hB1.block k hk⟩ (by simp [Value.ownBlock];split <;> simp)) _ hb0 hb1 rfl rfl (by omega) (by have:=hB1.size;omega) ?_;intro v1 w2 hown1 hB2)))
   go_roundw
   case rel=>exact ⟨k+1,by omega,by go_num,hB.trans ((hB1.mono (by omega)).trans hB2),by rw [HT.out];exact hown1⟩
   case measure=>simp [intOf];omega
  ·obtain rfl:k=n:=by omega
   have hc:=conv_own (P:=Tryz.prog) wr 44 9 5 Tryz.underlying44 Tryz.underlying5 Tryz.underlying9 _ _ k _ hown
   go_wp2
   go_ret
   exact ⟨ret_str rfl,hB⟩
theorem skip_step (M:List UInt8) (k e X:Nat) (he:k+2≤e) (h1:k+skipN (M.drop k)=X) (h2:skipN (M.drop k)=(e-(k+2)+4)+skipN (M.drop (k+(e-(k+2)+4)))):e+2+skipN (M.drop (e+2))=X:=by
 have e1:k+(e-(k+2)+4)=e+2:=by omega
 rw [e1] at h2;omega
theorem close_step (M:List UInt8) (k e:Nat) (he:k+2≤e) (h:closeAt (M.drop (k+2))=(closeAt (M.drop e)).map (· + (e-(k+2)))) (h2:closeAt (M.drop e)=(closeAt (M.drop (e+1))).map (· + 1)) :
  closeAt (M.drop (k+2))=(closeAt (M.drop (e+1))).map (· + (e+1-(k+2))):=by
 rw [h,h2,Option.map_map]
 congr 1
 funext x
 simp;omega
set_option maxHeartbeats 4000000 in
theorem lex_skip (b:Nat) (s:ByteArray) (tab:Int→Int) (at_ i:Int) (w:World) (h:Lex w b s tab at_) (h0:0≤i) :
  Calls Tryz.prog 112 #[.pointer (some ⟨b,0,none⟩),.int .i64 i] w fun e w'=>e=.returned (.int .i64 (i+skipN ((cvt tab s.data.toList).drop i.toNat)))∧Below w.heap.size w w':=by
 obtain ⟨k0,rfl⟩:=Int.eq_ofNat_of_zero_le h0
 have hsz:=h.sz
 have HL:=zq h
 have hlt0:=h.lt
 clear h
 rw [Int.toNat_natCast]
 have hlen:Hid ((cvt tab s.data.toList).length=s.size):=by show _=_;rw [cvt_len];simp
 generalize hM:cvt tab s.data.toList=M at *
 have HM:=zq hM
 clear hM
 go_enter Tryz.func112,Tryz.ntmps112
 go_wp2_with fail
 go_loopw [1] (fun i wr=>∃k:Nat,i=.int .i64 k∧Below w.heap.size w wr∧Hid (k+skipN (M.drop k)=k0+skipN (M.drop k0))) (fun i _=>s.size-(intOf i).toNat)
 case atStart=>exact ⟨k0,rfl,Below.refl _ _,rfl⟩
 case round=>
  obtain ⟨k,rfl,hB,HE⟩:=hrel
  have L:=HL.out.below hB hlt0
  have c0:=L.c0
  have hs:=hB.size
  by_cases hlt:k<s.size
  ·have hkl:k<M.length:=by rw [hlen.out];exact hlt
   have hr0:=rawAt_neg M k
   have hr1:0≤rawAt M k:=by have:=rawAt_neg M k;omega
   clear hr0
   by_cases a1:cls (rawAt M k)=1
   ·have HN:=zq (skip_lay M k hkl a1)
    have b1:(cls (rawAt M k)==1)=true:=by simp [a1]
    clear a1
    go_wp2_with fail
    refine (lex_char _ _ _ _ _ _ L (by omega)).mono ?_;rintro e w1 ⟨rfl,hB1⟩;rw [Int.toNat_natCast,HM.out]
    go_wp2_with fail
    refine (chars_class _ _).mono ?_;rintro e w2 ⟨rfl,hB2⟩
    go_wp2_with fail
    go_roundw
    case rel=>exact ⟨k+1,by go_num,hB.trans ((hB1.mono (by omega)).trans (hB2.mono (by have:=hB1.size;omega))),by have h1:=HE.out;have h2:=HN.out;show _=_;omega⟩
    case measure=>simp [intOf];omega
   have b1:(cls (rawAt M k)==1)=false:=by simp [a1]
   by_cases a2:rawAt M k=37
   ·have HN:=zq (skip_pct M k hkl a1 a2)
    have hsp:=span_pos notNl (M.drop k) (by simp;omega) (by rw [rawAt_drop,Nat.add_zero,a2];rfl)
    have b2:(rawAt M k==37)=true:=by simp [a2]
    have A2:=zq a2
    clear a1 a2
    go_wp2_with fail
    refine (lex_char _ _ _ _ _ _ L (by omega)).mono ?_;rintro e w1 ⟨rfl,hB1⟩;rw [Int.toNat_natCast,HM.out]
    go_wp2_with fail
    refine (chars_class _ _).mono ?_;rintro e w2 ⟨rfl,hB2⟩
    have L2:=(L.below hB1 L.lt).below hB2 (L.below hB1 L.lt).lt
    go_wp2_with fail
    refine (run_notNl _ _ _ _ _ _ L2 (by omega)).mono ?_;rintro e w3 ⟨rfl,hB3⟩;rw [Int.toNat_natCast,HM.out]
    go_wp2_with fail
    go_roundw
    case rel=>exact ⟨k+span notNl (M.drop k),by go_num,hB.trans ((hB1.mono (by omega)).trans ((hB2.mono (by have:=hB1.size;omega)).trans (hB3.mono (by have:=hB1.size;have:=hB2.size;omega)))),by have h1:=HE.out;have h2:=HN.out;show _=_;omega⟩
    case measure=>simp [intOf];omega
   have b2:(rawAt M k==37)=false:=by simp [a2]
   by_cases a3:rawAt M k=47
   ·have b3:(rawAt M k==47)=true:=by simp [a3]
    have A1:=zq a1
    have A2:=zq a2
    have A3:=zq a3
    clear a1 a2 a3
    by_cases a4:rawAt M (k+1)=42
    ·have b4:(rawAt M (k+1)==42)=true:=by simp [a4]
     have A4:=zq a4
     clear a4
     go_wp2_with fail
     refine (lex_char _ _ _ _ _ _ L (by omega)).mono ?_;rintro e w1 ⟨rfl,hB1⟩;rw [Int.toNat_natCast,HM.out]
     go_wp2_with fail
     refine (chars_class _ _).mono ?_;rintro e w2 ⟨rfl,hB2⟩
     have L2:=(L.below hB1 L.lt).below hB2 (L.below hB1 L.lt).lt
     go_wp2_with fail
     refine (lex_char _ _ _ _ _ _ L2 (by omega)).mono ?_;rintro e w3 ⟨rfl,hB3⟩;rw [show ((k:Int)+1).toNat=k+1 by omega,HM.out]
     have L3:=L2.below hB3 L2.lt
     have hB':Below w.heap.size w w3:=hB.trans ((hB1.mono (by omega)).trans ((hB2.mono (by have:=hB1.size;omega)).trans (hB3.mono (by have:=hB1.size;have:=hB2.size;omega))))
     clear hB1 hB2 hB3 L2 L c0 hB
     go_wp2_with fail
     go_loopw [6] (fun x wx=>∃e:Nat,k+2≤e∧e≤s.size∧x=.int .i64 e∧Below w.heap.size w wx∧Hid (closeAt (M.drop (k+2))=(closeAt (M.drop e)).map (· + (e-(k+2))))) (fun x _=>s.size-(intOf x).toNat)
     case atStart=>
      have hk2:k+2≤s.size:=by
       have:=rawAt_neg M (k+1);have:=A4.out;have:=hlen.out;omega
      exact ⟨k+2,Nat.le_refl _,hk2,by go_num,hB',by show _=_;simp⟩
     case round=>
      obtain ⟨e,he1,he2,rfl,hBx,HC⟩:=hrel
      have Lx:=HL.out.below hBx hlt0
      have c0:=Lx.c0
      have hsx:=hBx.size
      by_cases helt:e<s.size
      ·have hel:e<M.length:=by rw [hlen.out];exact helt
       by_cases d1:rawAt M e=42
       ·have d1b:(rawAt M e==42)=true:=by simp [d1]
        have d1c:(rawAt M e != 42)=false:=by simp [d1]
        have D1:=zq d1
        clear d1
        by_cases d2:rawAt M (e+1)=47
        ·have d2b:(rawAt M (e+1)==47)=true:=by simp [d2]
         have d2c:(rawAt M (e+1) != 47)=false:=by simp [d2]
         have HK:=zq (closeAt_yes M e hel D1.out d2)
         have HS:=zq (skip_com M k (e-(k+2)) hkl A3.out A4.out (by rw [HC.out,HK.out];simp))
         clear d2
         go_wp2_with fail
         refine (lex_char _ _ _ _ _ _ Lx (by omega)).mono ?_;rintro e' w4 ⟨rfl,hB4⟩;rw [Int.toNat_natCast,HM.out]
         have L4:=Lx.below hB4 Lx.lt
         go_wp2_with fail
         refine (lex_char _ _ _ _ _ _ L4 (by omega)).mono ?_;rintro e' w5 ⟨rfl,hB5⟩;rw [show ((e:Int)+1).toNat=e+1 by omega,HM.out]
         have L5:=L4.below hB5 L4.lt
         have c5:=L5.c0
         have hne:((e:Int)==(s.size:Int))=false:=by simp;omega
         go_wp2_with fail
         go_roundw
         case rel=>exact ⟨e+2,by go_num,hBx.trans ((hB4.mono (by omega)).trans (hB5.mono (by have:=hB4.size;omega))),skip_step M k e _ he1 HE.out HS.out⟩
         case measure=>simp [intOf];omega
        ·have d2b:(rawAt M (e+1)==47)=false:=by simp [d2]
         have d2c:(rawAt M (e+1) != 47)=true:=by simp [d2]
         have HK:=zq (closeAt_no M e hel (fun hh=>d2 hh.2))
         clear d2
         go_wp2_with fail
         refine (lex_char _ _ _ _ _ _ Lx (by omega)).mono ?_;rintro e' w4 ⟨rfl,hB4⟩;rw [Int.toNat_natCast,HM.out]
         have L4:=Lx.below hB4 Lx.lt
         go_wp2_with fail
         refine (lex_char _ _ _ _ _ _ L4 (by omega)).mono ?_;rintro e' w5 ⟨rfl,hB5⟩;rw [show ((e:Int)+1).toNat=e+1 by omega,HM.out]
         go_wp2_with fail
         go_roundw
         case rel=>exact ⟨e+1,by omega,by omega,by go_num,hBx.trans ((hB4.mono (by omega)).trans (hB5.mono (by have:=hB4.size;omega))),close_step M k e he1 HC.out HK.out⟩
         case measure=>simp [intOf];omega
       ·have d1b:(rawAt M e==42)=false:=by simp [d1]
        have d1c:(rawAt M e != 42)=true:=by simp [d1]
        have HK:=zq (closeAt_no M e hel (fun hh=>d1 hh.1))
        clear d1
        go_wp2_with fail
        refine (lex_char _ _ _ _ _ _ Lx (by omega)).mono ?_;rintro e' w4 ⟨rfl,hB4⟩;rw [Int.toNat_natCast,HM.out]
        go_wp2_with fail
        go_roundw
        case rel=>exact ⟨e+1,by omega,by omega,by go_num,hBx.trans (hB4.mono (by omega)),close_step M k e he1 HC.out HK.out⟩
        case measure=>simp [intOf];omega
      ·obtain rfl:e=s.size:=by omega
       have HK:=zq (closeAt_end M s.size (by rw [hlen.out];exact Nat.le_refl _))
       have HS:=zq (skip_open M k hkl A3.out A4.out (by rw [HC.out,HK.out];rfl))
       go_wp2_with fail
       go_ret
       exact ⟨ret_int (by have h1:=HE.out;have h2:=HS.out;omega),hBx⟩
    ·have b4:(rawAt M (k+1)==42)=false:=by simp [a4]
     have HN:=zq (skip_no M k hkl A1.out A2.out (fun hh=>a4 hh.2))
     clear a4
     go_wp2_with fail
     refine (lex_char _ _ _ _ _ _ L (by omega)).mono ?_;rintro e w1 ⟨rfl,hB1⟩;rw [Int.toNat_natCast,HM.out]
     go_wp2_with fail
     refine (chars_class _ _).mono ?_;rintro e w2 ⟨rfl,hB2⟩
     have L2:=(L.below hB1 L.lt).below hB2 (L.below hB1 L.lt).lt
     go_wp2_with fail
     refine (lex_char _ _ _ _ _ _ L2 (by omega)).mono ?_;rintro e w3 ⟨rfl,hB3⟩;rw [show ((k:Int)+1).toNat=k+1 by omega,HM.out]
     go_wp2_with fail
     go_ret
     exact ⟨ret_int (by have h1:=HE.out;have h2:=HN.out;omega),hB.trans ((hB1.mono (by omega)).trans ((hB2.mono (by have:=hB1.size;omega)).trans (hB3.mono (by have:=hB1.size;have:=hB2.size;omega))))⟩
   ·have b3:(rawAt M k==47)=false:=by simp [a3]
    have HN:=zq (skip_no M k hkl a1 a2 (fun hh=>a3 hh.1))
    clear a1 a2 a3
    go_wp2_with fail
    refine (lex_char _ _ _ _ _ _ L (by omega)).mono ?_;rintro e w1 ⟨rfl,hB1⟩;rw [Int.toNat_natCast,HM.out]
    go_wp2_with fail
    refine (chars_class _ _).mono ?_;rintro e w2 ⟨rfl,hB2⟩
    go_wp2_with fail
    go_ret
    exact ⟨ret_int (by have h1:=HE.out;have h2:=HN.out;omega),hB.trans ((hB1.mono (by omega)).trans (hB2.mono (by have:=hB1.size;omega)))⟩
  ·have hkl:M.length≤k:=by rw [hlen.out];omega
   have HR:=zq (rawAt_out M k hkl)
   have HN:=zq (skip_end M k hkl)
   go_wp2_with fail
   refine (lex_char _ _ _ _ _ _ L (by omega)).mono ?_;rintro e w1 ⟨rfl,hB1⟩;rw [Int.toNat_natCast,HM.out,HR.out]
   go_wp2_with fail
   go_ret
   exact ⟨ret_int (by have h1:=HE.out;have h2:=HN.out;omega),hB.trans (hB1.mono (by omega))⟩
theorem trans3 {w w1 w2 w3:World} {B:Nat} (h0:B≤w.heap.size) (h1:Below w.heap.size w w1) (h2:Below w1.heap.size w1 w2) (h3:Below w2.heap.size w2 w3):Below B w w3 :=
 (h1.mono h0).trans ((h2.mono (Nat.le_trans h0 h1.size)).trans (h3.mono (Nat.le_trans h0 (Nat.le_trans h1.size h2.size))))
theorem trans2 {w w1 w2:World} {B:Nat} (h0:B≤w.heap.size) (h1:Below w.heap.size w w1) (h2:Below w1.heap.size w1 w2):Below B w w2 :=
 (h1.mono h0).trans (h2.mono (Nat.le_trans h0 h1.size))
def tokTup (r:LexR):Value:=.tuple #[.agg #[.int .i64 r.kind,.string ⟨r.text.toArray⟩,.int .i64 r.n,.int .i64 r.at_,.int .i64 r.end_,.bool false],.int .i64 r.err]
def Gives (r:LexR) (e:Ending):Prop:=e=.returned (tokTup r)
set_option maxHeartbeats 800000 in
theorem lex_named (b:Nat) (s:ByteArray) (tab:Int→Int) (at_ kind end_:Int) (t:List UInt8) (w:World) (h:Lex w b s tab at_) (ht:t.length≤9223372036854775807) :
  Calls Tryz.prog 125 #[.pointer (some ⟨b,0,none⟩),.int .i64 kind,.string ⟨t.toArray⟩,.int .i64 end_] w fun e w'=>Gives (namedR kind t at_ end_) e∧Below w.heap.size w w':=by
 have ca:=h.ca
 have hlt:=h.lt
 by_cases hk:100<t.length
 ·have HR:=zq (show namedR kind t at_ end_=errR 2 by unfold namedR;rw [if_pos hk])
  go_enter Tryz.func125,Tryz.ntmps125
  go_wp2
  refine bodyPost_ret (v:=.tuple #[.agg #[.int .i64 0,.string ⟨#[]⟩,.int .i64 0,.int .i64 0,.int .i64 0,.bool false],.int .i64 2]) (by simp [results,Tryz.results125,go_sem]) rfl ⟨?_,(Below.refl _ _).alloc (Nat.le_refl _) _⟩
  rw [HR.out];rfl
 ·have HR:=zq (show namedR kind t at_ end_=⟨kind,t,0,at_,end_,0⟩ by unfold namedR;rw [if_neg hk])
  go_enter Tryz.func125,Tryz.ntmps125
  go_wp2
  refine bodyPost_ret (v:=.tuple #[.agg #[.int .i64 kind,.string ⟨t.toArray⟩,.int .i64 0,.int .i64 at_,.int .i64 end_,.bool false],.int .i64 0]) (by simp [results,Tryz.results125,go_sem]) rfl ⟨?_,(Below.refl _ _).alloc (Nat.le_refl _) _⟩
  rw [HR.out];rfl
def tokZero:Obj:=.cells #[.int .i64 0,.string ⟨#[]⟩,.int .i64 0,.int .i64 0,.int .i64 0,.bool false] 110
theorem tok_cells {w w':World} {B:Nat} (hB:Below B (w.alloc tokZero) w') (h:w.heap.size<B) :
  w'.cell? ⟨w.heap.size,0,none⟩=some (.int .i64 0)∧w'.cell? ⟨w.heap.size,1,none⟩=some (.string ⟨#[]⟩)∧w'.cell? ⟨w.heap.size,2,none⟩=some (.int .i64 0)∧w'.cell? ⟨w.heap.size,3,none⟩=some (.int .i64 0)∧w'.cell? ⟨w.heap.size,4,none⟩=some (.int .i64 0)∧w'.cell? ⟨w.heap.size,5,none⟩=some (.bool false)∧∀o,w'.frozen? ⟨w.heap.size,o,none⟩=false:=by
 have e:∀o,w'.cell? ⟨w.heap.size,o,none⟩=(w.alloc tokZero).cell? ⟨w.heap.size,o,none⟩:=fun o=>hB.cell (p:=⟨w.heap.size,o,none⟩) h
 have hb:(w.alloc tokZero).heap[w.heap.size]? = some tokZero:=by show (w.heap.push _)[w.heap.size]? = _;simp
 refine ⟨?_,?_,?_,?_,?_,?_,fun o=>?_⟩
 ·rw [e];unfold tokZero;rw [World.cell?_alloc_new];rfl
 ·rw [e];unfold tokZero;rw [World.cell?_alloc_new];rfl
 ·rw [e];unfold tokZero;rw [World.cell?_alloc_new];rfl
 ·rw [e];unfold tokZero;rw [World.cell?_alloc_new];rfl
 ·rw [e];unfold tokZero;rw [World.cell?_alloc_new];rfl
 ·rw [e];unfold tokZero;rw [World.cell?_alloc_new];rfl
 ·rw [hB.frozen (p:=⟨w.heap.size,o,none⟩) h]
  unfold World.frozen?;simp only [hb];unfold tokZero;simp
theorem below_sets {w w':World} {B g:Nat} (h:Below B w w') (hg:B≤g) (a b c d e f:Value):Below B w ((((((w'.setCell ⟨g,0,none⟩ a).setCell ⟨g,1,none⟩ b).setCell ⟨g,2,none⟩ c).setCell ⟨g,3,none⟩ d).setCell ⟨g,4,none⟩ e).setCell ⟨g,5,none⟩ f) :=
 (((((h.setCell (p:=⟨g,_,none⟩) hg _).setCell (p:=⟨g,_,none⟩) hg _).setCell (p:=⟨g,_,none⟩) hg _).setCell (p:=⟨g,_,none⟩) hg _).setCell (p:=⟨g,_,none⟩) hg _).setCell (p:=⟨g,_,none⟩) hg _
set_option maxHeartbeats 800000 in
theorem lex_word (b:Nat) (s:ByteArray) (tab:Int→Int) (p:Nat) (w:World) (h:Lex w b s tab p) (hp:p≤s.size) :
  Calls Tryz.prog 114 #[.pointer (some ⟨b,0,none⟩)] w fun e w'=>Gives (wordR (cvt tab s.data.toList) p) e∧Below w.heap.size w w':=by
 have ca:=h.ca
 have hlt:=h.lt
 have hsz:=h.sz
 have HL:=zq h
 clear h
 have hlen:Hid ((cvt tab s.data.toList).length=s.size):=by show _=_;rw [cvt_len];simp
 have hsp:=span_le alnum ((cvt tab s.data.toList).drop p)
 rw [List.length_drop,hlen.out] at hsp
 generalize hM:cvt tab s.data.toList=M at *
 have HM:=zq hM
 clear hM
 have HK:=zq (show wordR M p=namedR (wordKind (rawAt M p)) ((M.drop p).take (span alnum (M.drop p))) p (p+span alnum (M.drop p)) from rfl)
 have hA:=(Below.refl w.heap.size w).alloc (Nat.le_refl _) tokZero
 have hA':w.heap.size<(w.alloc tokZero).heap.size:=by simp
 cases b1:cls (rawAt M p)==3
 all_goals
  have HB:=zq b1
  clear b1
  go_enter Tryz.func114,Tryz.ntmps114
  go_wp2_with fail
  refine (lex_char _ _ _ _ _ _ (HL.out.below hA hlt) (by omega)).mono ?_;rintro e w1 ⟨rfl,hB1⟩;rw [Int.toNat_natCast,HM.out]
  have L1:=(HL.out.below hA hlt).below hB1 (by simp;omega)
  go_wp2_with fail
  refine (chars_class _ _).mono ?_;rintro e w2 ⟨rfl,hB2⟩
  have L2:=L1.below hB2 L1.lt
  have c2:=L2.ca
  have HB2:=HB.out
  go_wp2_with fail
  refine (run_alnum _ _ _ _ _ _ L2 (by omega)).mono ?_;rintro e w3 ⟨rfl,hB3⟩;rw [Int.toNat_natCast,HM.out]
  have L3:=L2.below hB3 L2.lt
  have c3:=L3.ca
  go_wp2_with fail
  refine (lex_part _ _ _ _ _ _ _ L3 (by omega) (by omega) (by omega)).mono ?_;rintro e w4 ⟨rfl,hB4⟩;rw [Int.toNat_natCast,HM.out,show ((p:Int)+span alnum (M.drop p)-p).toNat=span alnum (M.drop p) by omega]
  have L4:=L3.below hB4 L3.lt
  go_wp2_with fail
  refine (lex_named _ _ _ _ _ _ _ _ L4 (by have:=List.length_take_le (span alnum (M.drop p)) (M.drop p);omega)).mono ?_;rintro e w5 ⟨he,hB5⟩
  generalize hr:namedR _ _ _ _=r at he
  have HR:=zq hr
  clear hr
  unfold Gives tokTup at he;subst he
  have hB:=(trans3 (Nat.le_refl _) hB1 hB2 hB3).trans (trans2 (by have:=hB1.size;have:=hB2.size;have:=hB3.size;omega) hB4 hB5)
  obtain ⟨t0,t1,t2,t3,t4,t5,t6⟩:=tok_cells hB hA'
  have hlt5:w.heap.size<w5.heap.size:=Nat.lt_of_lt_of_le hA' hB.size
  clear hB1 hB2 hB3 hB4 hB5 L1 L2 L3 L4 c2 c3 ca
  go_wp2_with fail
  refine bodyPost_ret (v:=tokTup r) (by simp [tokTup,results,Tryz.results114,go_sem,t0,t1,t2,t3,t4,t5]) rfl ⟨?_,below_sets (hA.trans (hB.mono (by omega))) (Nat.le_refl _) _ _ _ _ _ _⟩
  rw [HK.out];unfold wordKind;first | (rw [if_pos (by simpa using HB.out),HR.out];rfl) | (rw [if_neg (by simpa using HB.out),HR.out];rfl)
set_option maxHeartbeats 1600000 in
theorem lex_symbol (b:Nat) (s:ByteArray) (tab:Int→Int) (p:Nat) (w:World) (h:Lex w b s tab p) (hp:p≤s.size) :
  Calls Tryz.prog 116 #[.pointer (some ⟨b,0,none⟩)] w fun e w'=>Gives (symR (cvt tab s.data.toList) p) e∧Below w.heap.size w w':=by
 have ca:=h.ca
 have hlt:=h.lt
 have hsz:=h.sz
 have HL:=zq h
 clear h
 have hlen:Hid ((cvt tab s.data.toList).length=s.size):=by show _=_;rw [cvt_len];simp
 have hsp:=span_le isSym ((cvt tab s.data.toList).drop p)
 rw [List.length_drop,hlen.out] at hsp
 generalize hM:cvt tab s.data.toList=M at *
 have HM:=zq hM
 clear hM
 have hA:=(Below.refl w.heap.size w).alloc (Nat.le_refl _) tokZero
 have hA':w.heap.size<(w.alloc tokZero).heap.size:=by simp
 by_cases a1:rawAt M p=46
 ·have b1:(rawAt M p==46)=true:=by simp [a1]
  by_cases a2:endNext (rawAt M (p+1))=true
  ·have HK:=zq (show symR M p=⟨7,[46],0,p,p+1,0⟩ by unfold symR;rw [if_pos ⟨a1,a2⟩])
   have HE:=zq a2
   clear a1 a2
   have hd:decide (rawAt M (p+1)<0)=true∨(decide (rawAt M (p+1)<0)=false∧((rawAt M (p+1)==37)=true∨((rawAt M (p+1)==37)=false∧(cls (rawAt M (p+1))==1)=true))):=by have:=HE.out;unfold endNext at this;grind
   rcases hd with d1 | ⟨d1,d2 | ⟨d2,d3⟩⟩
   all_goals
    go_enter Tryz.func116,Tryz.ntmps116
    go_wp2_with fail
    refine (lex_char _ _ _ _ _ _ (HL.out.below hA hlt) (by omega)).mono ?_;rintro e w1 ⟨rfl,hB1⟩;rw [Int.toNat_natCast,HM.out]
    have L1:=(HL.out.below hA hlt).below hB1 (by simp;omega)
    have c1:=L1.ca
    go_wp2_with fail
    refine (lex_char _ _ _ _ _ _ L1 (by omega)).mono ?_;rintro e w2 ⟨rfl,hB2⟩;rw [show ((p:Int)+1).toNat=p+1 by omega,HM.out]
    have L2:=L1.below hB2 L1.lt
    have c2:=L2.ca
    have hBx:Below (w.alloc tokZero).heap.size (w.alloc tokZero) w2:=trans2 (Nat.le_refl _) hB1 hB2
    go_wp2_with (go_at_call 120;refine (chars_class _ _).mono ?_;rintro e w3 ⟨rfl,hB3⟩;have c3:=(hB3.cell (p:=⟨b,257,none⟩) L2.lt).trans c2;have hBy:=hBx.trans (hB3.mono (Nat.le_trans hB1.size hB2.size));clear hBx)
    first | (obtain ⟨t0,t1,t2,t3,t4,t5,t6⟩:=tok_cells hBy hA';have hlt3:w.heap.size<w3.heap.size:=Nat.lt_of_lt_of_le hA' hBy.size) | (obtain ⟨t0,t1,t2,t3,t4,t5,t6⟩:=tok_cells hBx hA';have hlt3:w.heap.size<w2.heap.size:=Nat.lt_of_lt_of_le hA' hBx.size)
    go_region
    go_wp2_with fail
    refine bodyPost_ret (v:=tokTup ⟨7,[46],0,p,p+1,0⟩) (by simp [tokTup,results,Tryz.results116,go_sem,t0,t1,t2,t3,t4,t5]) rfl ⟨?_,?_⟩
    ·rw [HK.out];rfl
    ·first | exact (below_sets (hA.trans (hBy.mono (by omega))) (Nat.le_refl _) _ _ _ _ _ _).drew | exact (below_sets (hA.trans (hBx.mono (by omega))) (Nat.le_refl _) _ _ _ _ _ _).drew
  ·have HK:=zq (show symR M p=namedR 1 ((M.drop p).take (span isSym (M.drop p))) p (p+span isSym (M.drop p)) by unfold symR;rw [if_neg (fun h=>a2 h.2)])
   have d1:decide (rawAt M (p+1)<0)=false:=by unfold endNext at a2;grind
   have d2:(rawAt M (p+1)==37)=false:=by unfold endNext at a2;grind
   have d3:(cls (rawAt M (p+1))==1)=false:=by unfold endNext at a2;grind
   clear a1 a2
   go_enter Tryz.func116,Tryz.ntmps116
   go_wp2_with fail
   refine (lex_char _ _ _ _ _ _ (HL.out.below hA hlt) (by omega)).mono ?_;rintro e w1 ⟨rfl,hB1⟩;rw [Int.toNat_natCast,HM.out]
   have L1:=(HL.out.below hA hlt).below hB1 (by simp;omega)
   have c1:=L1.ca
   go_wp2_with fail
   refine (lex_char _ _ _ _ _ _ L1 (by omega)).mono ?_;rintro e w2 ⟨rfl,hB2⟩;rw [show ((p:Int)+1).toNat=p+1 by omega,HM.out]
   have L2:=L1.below hB2 L1.lt
   go_wp2_with fail
   refine (chars_class _ _).mono ?_;rintro e w3 ⟨rfl,hB3⟩
   have L3:=L2.below hB3 L2.lt
   have hBx:=trans3 (Nat.le_refl _) hB1 hB2 hB3
   have c3:=L3.ca
   clear hB1 hB2 hB3 L1 L2 c1
   go_wp2_with fail
   refine (run_sym _ _ _ _ _ _ L3 (by omega)).mono ?_;rintro e w4 ⟨rfl,hB4⟩;rw [Int.toNat_natCast,HM.out]
   have L4:=L3.below hB4 L3.lt
   have c4:=L4.ca
   go_wp2_with fail
   refine (lex_part _ _ _ _ _ _ _ L4 (by omega) (by omega) (by omega)).mono ?_;rintro e w5 ⟨rfl,hB5⟩;rw [Int.toNat_natCast,HM.out,show ((p:Int)+span isSym (M.drop p)-p).toNat=span isSym (M.drop p) by omega]
   have L5:=L4.below hB5 L4.lt
   go_wp2_with fail
   refine (lex_named _ _ _ _ _ _ _ _ L5 (by have:=List.length_take_le (span isSym (M.drop p)) (M.drop p);omega)).mono ?_;rintro e w6 ⟨he,hB6⟩
   generalize hr:namedR _ _ _ _=r at he
   have HR:=zq hr
   clear hr
   unfold Gives tokTup at he;subst he
   have hB:=hBx.trans (trans3 hBx.size hB4 hB5 hB6)
   obtain ⟨t0,t1,t2,t3,t4,t5,t6⟩:=tok_cells hB hA'
   have hltx:w.heap.size<w6.heap.size:=Nat.lt_of_lt_of_le hA' hB.size
   clear hB4 hB5 hB6 L3 L4 L5 c3 c4 ca
   go_wp2_with fail
   refine bodyPost_ret (v:=tokTup r) (by simp [tokTup,results,Tryz.results116,go_sem,t0,t1,t2,t3,t4,t5]) rfl ⟨?_,below_sets (hA.trans (hB.mono (by omega))) (Nat.le_refl _) _ _ _ _ _ _⟩
   rw [HK.out,HR.out];rfl
 ·have b1:(rawAt M p==46)=false:=by simp [a1]
  have HK:=zq (show symR M p=namedR 1 ((M.drop p).take (span isSym (M.drop p))) p (p+span isSym (M.drop p)) by unfold symR;rw [if_neg (fun h=>a1 h.1)])
  clear a1
  go_enter Tryz.func116,Tryz.ntmps116
  go_wp2_with fail
  refine (lex_char _ _ _ _ _ _ (HL.out.below hA hlt) (by omega)).mono ?_;rintro e w3 ⟨rfl,hBx⟩;rw [Int.toNat_natCast,HM.out]
  have L3:=(HL.out.below hA hlt).below hBx (by simp;omega)
  have c3:=L3.ca
  go_wp2_with fail
  refine (run_sym _ _ _ _ _ _ L3 (by omega)).mono ?_;rintro e w4 ⟨rfl,hB4⟩;rw [Int.toNat_natCast,HM.out]
  have L4:=L3.below hB4 L3.lt
  have c4:=L4.ca
  go_wp2_with fail
  refine (lex_part _ _ _ _ _ _ _ L4 (by omega) (by omega) (by omega)).mono ?_;rintro e w5 ⟨rfl,hB5⟩;rw [Int.toNat_natCast,HM.out,show ((p:Int)+span isSym (M.drop p)-p).toNat=span isSym (M.drop p) by omega]
  have L5:=L4.below hB5 L4.lt
  go_wp2_with fail
  refine (lex_named _ _ _ _ _ _ _ _ L5 (by have:=List.length_take_le (span isSym (M.drop p)) (M.drop p);omega)).mono ?_;rintro e w6 ⟨he,hB6⟩
  generalize hr:namedR _ _ _ _=r at he
  have HR:=zq hr
  clear hr
  unfold Gives tokTup at he;subst he
  have hB:=hBx.trans (trans3 hBx.size hB4 hB5 hB6)
  obtain ⟨t0,t1,t2,t3,t4,t5,t6⟩:=tok_cells hB hA'
  have hltx:w.heap.size<w6.heap.size:=Nat.lt_of_lt_of_le hA' hB.size
  clear hB4 hB5 hB6 L3 L4 L5 c3 c4 ca
  go_wp2_with fail
  refine bodyPost_ret (v:=tokTup r) (by simp [tokTup,results,Tryz.results116,go_sem,t0,t1,t2,t3,t4,t5]) rfl ⟨?_,below_sets (hA.trans (hB.mono (by omega))) (Nat.le_refl _) _ _ _ _ _ _⟩
  rw [HK.out,HR.out];rfl
def Tok6 (w:World) (g:Nat):Prop:=(∀o,w.frozen? ⟨g,o,none⟩=false)∧∃v0 v1 v2 v3 v4 v5,w.cell? ⟨g,0,none⟩=some v0∧w.cell? ⟨g,1,none⟩=some v1∧w.cell? ⟨g,2,none⟩=some v2∧w.cell? ⟨g,3,none⟩=some v3∧w.cell? ⟨g,4,none⟩=some v4∧w.cell? ⟨g,5,none⟩=some v5
structure Held (w0 w:World) (b:Nat) (s:ByteArray) (tab:Int→Int) (p:Int):Prop where
 lex:Lex w b s tab p
 bel:Below w0.heap.size w0 w
 tok:Tok6 w w0.heap.size
 lt:w0.heap.size<w.heap.size
 blt:b<w0.heap.size
section
variable {w0 w w':World} {b:Nat} {s:ByteArray} {tab:Int→Int} {p:Int}
theorem Held.start (h:Lex w0 b s tab p):Held w0 (w0.alloc tokZero) b s tab p:=by
 have hA:=(Below.refl w0.heap.size w0).alloc (Nat.le_refl _) tokZero
 obtain ⟨t0,t1,t2,t3,t4,t5,t6⟩:=tok_cells (Below.refl (w0.alloc tokZero).heap.size (w0.alloc tokZero)) (by simp)
 exact ⟨h.below hA h.lt,hA,⟨t6,_,_,_,_,_,_,t0,t1,t2,t3,t4,t5⟩,by simp,h.lt⟩
theorem Held.call (hB:Below w.heap.size w w') (h:Held w0 w b s tab p):Held w0 w' b s tab p:=by
 obtain ⟨t6,v0,v1,v2,v3,v4,v5,t0,t1,t2,t3,t4,t5⟩:=h.tok
 have e:∀o,w'.cell? ⟨w0.heap.size,o,none⟩=w.cell? ⟨w0.heap.size,o,none⟩:=fun o=>hB.cell (p:=⟨w0.heap.size,o,none⟩) h.lt
 exact ⟨h.lex.below hB h.lex.lt,h.bel.trans (hB.mono (Nat.le_of_lt h.lt)),⟨fun o=>(hB.frozen (p:=⟨w0.heap.size,o,none⟩) h.lt).trans (t6 o),v0,v1,v2,v3,v4,v5,(e 0).trans t0,(e 1).trans t1,(e 2).trans t2,(e 3).trans t3,(e 4).trans t4,(e 5).trans t5⟩,Nat.lt_of_lt_of_le h.lt hB.size,h.blt⟩
theorem Held.callB {B:Nat} (hB:Below B w w') (h1:w0.heap.size<B) (h:Held w0 w b s tab p):Held w0 w' b s tab p:=by
 obtain ⟨t6,v0,v1,v2,v3,v4,v5,t0,t1,t2,t3,t4,t5⟩:=h.tok
 have e:∀o,w'.cell? ⟨w0.heap.size,o,none⟩=w.cell? ⟨w0.heap.size,o,none⟩:=fun o=>hB.cell (p:=⟨w0.heap.size,o,none⟩) h1
 exact ⟨h.lex.below hB (Nat.lt_trans h.blt h1),h.bel.trans (hB.mono (Nat.le_of_lt h1)),⟨fun o=>(hB.frozen (p:=⟨w0.heap.size,o,none⟩) h1).trans (t6 o),v0,v1,v2,v3,v4,v5,(e 0).trans t0,(e 1).trans t1,(e 2).trans t2,(e 3).trans t3,(e 4).trans t4,(e 5).trans t5⟩,Nat.lt_of_lt_of_le h.lt hB.size,h.blt⟩
theorem Held.drew (h:Held w0 w b s tab p):Held w0 w.drew b s tab p:=Held.call ((Below.refl _ w).drew) h
theorem Held.ca (h:Held w0 w b s tab p):w.cell? ⟨b,257,none⟩=some (.int .i64 p):=h.lex.ca
theorem frozen_set (w:World) (a:Addr) (v:Value) (q:Addr):(w.setCell a v).frozen? q=w.frozen? q:=by
 unfold World.frozen? World.setCell
 simp only [Array.getElem?_modify]
 by_cases h:a.block=q.block
 ·rw [if_pos h]
  cases w.heap[q.block]? with
  | none=>rfl
  | some o=>cases o <;> rfl
 ·rw [if_neg h]
theorem Held.set (h:Held w0 w b s tab p) (o:Nat) (v:Value):Held w0 (w.setCell ⟨w0.heap.size,o,none⟩ v) b s tab p:=by
 obtain ⟨t6,v0,v1,v2,v3,v4,v5,t0,t1,t2,t3,t4,t5⟩:=h.tok
 have hsz:(w.setCell ⟨w0.heap.size,o,none⟩ v).heap.size=w.heap.size:=by simp [World.setCell]
 have e:∀(k:Nat) (u:Value),w.cell? ⟨w0.heap.size,k,none⟩=some u→∃u',(w.setCell ⟨w0.heap.size,o,none⟩ v).cell? ⟨w0.heap.size,k,none⟩=some u':=fun k u hu=>by
  by_cases hk:o=k
  ·subst hk;exact ⟨v,World.cell?_setCell_same w _ v hu⟩
  ·exact ⟨u,(World.cell?_setCell_other w _ _ v (by intro hh;injection hh with _ h2 _;exact hk h2)).trans hu⟩
 obtain ⟨u0,e0⟩:=e 0 _ t0
 obtain ⟨u1,e1⟩:=e 1 _ t1
 obtain ⟨u2,e2⟩:=e 2 _ t2
 obtain ⟨u3,e3⟩:=e 3 _ t3
 obtain ⟨u4,e4⟩:=e 4 _ t4
 obtain ⟨u5,e5⟩:=e 5 _ t5
 exact ⟨h.lex.same (by rw [hsz];exact Nat.le_refl _) (Below.heap_setCell w _ v b (by have:=h.blt;show b≠w0.heap.size;omega)),h.bel.setCell (p:=⟨w0.heap.size,o,none⟩) (Nat.le_refl _) v,⟨fun k=>(frozen_set _ _ _ _).trans (t6 k),u0,u1,u2,u3,u4,u5,e0,e1,e2,e3,e4,e5⟩,by rw [hsz];exact h.lt,h.blt⟩
theorem Held.sets (h:Held w0 w b s tab p) (x0 x1 x2 x3 x4 x5:Value):Held w0 ((((((w.setCell ⟨w0.heap.size,0,none⟩ x0).setCell ⟨w0.heap.size,1,none⟩ x1).setCell ⟨w0.heap.size,2,none⟩ x2).setCell ⟨w0.heap.size,3,none⟩ x3).setCell ⟨w0.heap.size,4,none⟩ x4).setCell ⟨w0.heap.size,5,none⟩ x5) b s tab p :=
 (((((h.set 0 x0).set 1 x1).set 2 x2).set 3 x3).set 4 x4).set 5 x5
theorem Held.keep (h:Held w0 w b s tab p):w.cell? ⟨b,257,none⟩=some (.int .i64 p)∧Held w0 w b s tab p:=⟨h.ca,h⟩
end
set_option maxHeartbeats 600000 in
theorem lex_solo (b : Nat) (s : ByteArray) (tab : Int → Int) (p : Nat) (w : World) (h : Lex w b s tab p) (hp : p < s.size) :
  Calls Tryz.prog 117 #[.pointer (some ⟨b, 0, none⟩)] w fun e w' => Gives (soloR (cvt tab s.data.toList) p) e ∧ Below w.heap.size w w' := by
 have hsz := h.sz
 have H0 := Held.start h
 have hlt := h.lt
 have ca := h.ca
 clear h
 have hlen : Hid ((cvt tab s.data.toList).length = s.size) := by show _ = _; rw [cvt_len]; simp
 generalize hM : cvt tab s.data.toList = M at *
 have HM := zq hM
 clear hM
 have HK := zq (show soloR M p = namedR (soloKind (rawAt M p)) ((M.drop p).take 1) p (p + 1) from rfl)
 have hd : ((rawAt M p == 33) = true ∨ ((rawAt M p == 33) = false ∧ (rawAt M p == 59) = true)) ∨ ((rawAt M p == 33) = false ∧ (rawAt M p == 59) = false) := by grind
 rcases hd with (d1 | ⟨d1, d2⟩) | ⟨d1, d2⟩
 all_goals
  have HS : ∃ q, Hid (soloKind (rawAt M p) = q) ∧ (q = 1 ∨ q = 6) := ⟨_, rfl, by unfold soloKind; split <;> simp⟩
  go_enter Tryz.func117, Tryz.ntmps117
  go_wp2_with fail
  refine (lex_char _ _ _ _ _ _ H0.lex (by omega)).mono ?_; rintro e w1 ⟨rfl, hB1⟩; rw [Int.toNat_natCast, HM.out]
  have H1 := Held.call hB1 H0
  clear H0 hB1
  go_wp2_with fail
  have hw : IntKind.i64.wrap ((p : Int) + 1) = (p : Int) + 1 := IntWalk.i64_in _ (by omega)
  go_region_held3 (fun w' => w'.cell? ⟨b, 257, none⟩ = some (.int .i64 p) ∧ Held w w' b s tab p) (first | with_reducible exact H1.drew.keep | with_reducible exact Held.keep (Held.call (by with_reducible assumption) (And.right (by with_reducible assumption))) | with_reducible exact Held.keep (Held.sets (And.right (by with_reducible assumption)) _ _ _ _ _ _))
   (first
    | (go_at_call 126; ((with_reducible refine (lex_part b s tab p p (p + 1) _ ?_ ?_ ?_ ?_).mono ?_); (· with_reducible exact Held.lex (And.right (by with_reducible assumption))); (· omega); (· omega); (· omega); rintro e w2 ⟨rfl, hB2⟩; rw [Int.toNat_natCast, HM.out, show ((p : Int) + 1 - p).toNat = 1 by omega]))
    | (go_at_call 125; ((with_reducible refine (lex_named b s tab p _ _ _ _ ?_ ?_).mono ?_); (· with_reducible exact Held.lex (And.right (by with_reducible assumption))); (· have := List.length_take_le 1 (M.drop p); simp; omega); rintro e w2 ⟨he, hB2⟩; generalize hr : namedR _ _ _ _ = r at he; have HR := zq hr; clear hr; unfold Gives tokTup at he; subst he; obtain ⟨t6, v0, v1, v2, v3, v4, v5, t0, t1, t2, t3, t4, t5⟩ := (Held.call hB2 (And.right (by with_reducible assumption))).tok; have hlt2 := (Held.call hB2 (And.right (by with_reducible assumption))).lt)))
  go_wp2_with fail
  refine bodyPost_ret (v := tokTup r) (by simp [tokTup, results, Tryz.results117, go_sem, t0, t1, t2, t3, t4, t5]) rfl ⟨?_, Held.bel (And.right (by with_reducible assumption))⟩
  have HR2 := HR.out
  rw [HK.out, ← HR2]
  unfold soloKind; first | (rw [if_pos (by simpa using Or.inl (by simpa using d1))]; rfl) | (rw [if_pos (by simp at d2; exact Or.inr d2)]; rfl) | (rw [if_neg (by simp at d1 d2; omega)]; rfl)
set_option maxHeartbeats 400000 in
theorem ints_digit (c:Int) (w:World) (h0:0≤c) (h1:c≤255) :
  Calls Tryz.prog 140 #[.int .u8 c] w fun e w'=>e=.returned (.int .i64 (dgt c))∧w=w':=by
 go_enter Tryz.func140,Tryz.ntmps140
 go_wp2
 all_goals (go_ret;exact ⟨ret_int (by unfold dgt;grind),rfl⟩)
def parseN (base:Int) (ds:List UInt8):Int:=if natOf base ds≤9223372036854775808 then -(natOf base ds:Int) else 0
def parseE (base:Int) (ds:List UInt8):Int:=if natOf base ds≤9223372036854775808 then 0 else 10
set_option maxHeartbeats 1000000 in
theorem ints_parse (s:ByteArray) (base:Int) (ds:List UInt8) (w:World) (hs:s.data.toList=45::ds) (hne:0<ds.length) (hsz:ds.length≤16384) (h0:2≤base) (h1:base≤36)
  (hok:∀k,k<ds.length→dgt (bAt ds k)<base) :
  Calls Tryz.prog 138 #[.string s,.int .i64 base] w fun e w'=>e=.returned (.tuple #[.int .i64 (parseN base ds),.int .i64 (parseE base ds)])∧w=w':=by
 have hl:s.size=ds.length+1:=by rw [←size_data,hs];rfl
 have hl1:1<s.size:=by omega
 have hl0:0<s.size:=by omega
 have b0:=bAt_mk s 0 hl0
 have b0':bAt s.data.toList 0=45:=by rw [hs];rfl
 rw [b0'] at b0
 have HS:=zq hs
 have HOK:=zq hok
 have HSL:=zq hl
 have hl2:s.size≤16385:=by omega
 have hx:(s.extract 1 s.size).data.toList=ds:=by rw [Lib.extract_data,hs];simp [hl]
 have hem:(s.extract 1 s.size).toList.isEmpty=false:=by
  rw [Go.ByteArray.toList_eq,hx];cases ds <;> simp at hne ⊢
 have HX:=zq hx
 clear hs hok b0' hl hx
 go_enter Tryz.func138,Tryz.ntmps138
 go_wp2
 generalize hd:s.extract 1 s.size=d at *
 have hdl:d.size=ds.length:=by rw [←size_data,HX.out]
 have hds:s.size-1=d.size:=by have:=HSL.out;omega
 rw [hds]
 have HDL:=zq hdl
 have hd1:d.size≤16384:=by omega
 clear hd hdl hds b0 hem
 go_loop [4,31] (fun n i=>∃k:Nat,k≤d.size∧i=.int .i64 k∧n=.int .i64 0) (fun _ i=>d.size-(intOf i).toNat)
 case atStart=>exact ⟨0,Nat.zero_le _,rfl,rfl⟩
 case round=>
  obtain ⟨k,hk,rfl,rfl⟩:=hrel
  by_cases hlt:k<d.size
  ·have hb:=bAt_mk d k hlt
   rw [HX.out] at hb
   have hb0:=bAt_lo ds k
   have hb1:=bAt_hi ds k
   have hdg:dgt (bAt ds k)<base:=HOK.out k (by have:=HDL.out;omega)
   go_wp2_with (go_at_call 140;refine (ints_digit _ _ hb0 hb1).mono ?_;rintro e w' ⟨rfl,rfl⟩)
   go_round
   case rel=>exact ⟨k+1,by omega,by go_num,rfl⟩
   case measure=>simp [intOf];omega
  ·go_wp2_with fail
   go_loop [4,43] (fun n i=>∃k:Nat,k≤d.size∧i=.int .i64 k∧n=.int .i64 (-(natOf base (ds.take k):Int))∧natOf base (ds.take k)≤9223372036854775808) (fun _ i=>d.size-(intOf i).toNat)
   case atStart=>exact ⟨0,Nat.zero_le _,rfl,rfl,by simp [natOf]⟩
   case round=>
    obtain ⟨k',hk',rfl,rfl,hn⟩:=hrel
    by_cases hlt':k'<d.size
    ·have hb':=bAt_mk d k' hlt'
     rw [HX.out] at hb'
     have hb0':=bAt_lo ds k'
     have hb1':=bAt_hi ds k'
     have hkl:k'<ds.length:=by have:=HDL.out;omega
     have hdg:=HOK.out k' hkl
     have hd0:=dgt_lo (bAt ds k')
     have hd2:=dgt_hi (bAt ds k')
     have HT:=zq (show (natOf base (ds.take (k'+1)):Int)=natOf base (ds.take k') * base+dgt (bAt ds k') by
      rw [natOf_take base ds k' hkl,digV_dgt _ _ h0 h1 hdg]
      push_cast
      rw [Int.toNat_of_nonneg (by omega),Int.toNat_of_nonneg hd0])
     have HM:=zq (natOf_mono base (by omega) ds (k'+1))
     have HP:=zq (parse_step (natOf base (ds.take k')) (dgt (bAt ds k')) base (by omega) hd0 hd2)
     generalize hN:natOf base (ds.take k')=N at *
     have HN:=zq hN
     clear hN
     go_wp2_with (go_at_call 140;refine (ints_digit _ _ hb0' hb1').mono ?_;rintro e w' ⟨rfl,rfl⟩)
     ·have hlt2:=HP.out.1 (by assumption)
      go_ret2
      refine ⟨ret_val ?_,rfl⟩
      have h1:=HT.out
      have h2:=HM.out
      have h3:¬natOf base ds≤9223372036854775808:=by omega
      unfold parseN parseE
      rw [if_neg h3,if_neg h3]
      rfl
     ·have hlt2:(N:Int) * base+dgt (bAt ds k')≤9223372036854775808:=by
       have h2:=HP.out.2
       rcases Int.lt_or_le 9223372036854775808 ((N:Int) * base+dgt (bAt ds k')) with h | h
       ·have:=h2 h;omega
       ·exact h
      have hx0:0≤(N:Int) * base:=Int.mul_nonneg (by omega) (by omega)
      have e1:wrap64 (-(N:Int) * base)=-((N:Int) * base):=by rw [Int.neg_mul];exact IntWalk.wrap64_in _ (by omega)
      have e2:wrap64 (-((N:Int) * base)-dgt (bAt ds k'))=-((N:Int) * base)-dgt (bAt ds k'):=IntWalk.wrap64_in _ (by omega)
      rw [e1,e2]
      have h1:=HT.out
      go_round
      case rel=>exact ⟨k'+1,by omega,by go_num,congrArg (Value.int IntKind.i64) (by omega),by omega⟩
      case measure=>simp [intOf];omega
    ·have HE:=zq (show ds.take k'=ds from List.take_of_length_le (by have:=HDL.out;omega))
     rw [HE.out] at hn ⊢
     go_wp2
     go_ret2
     refine ⟨ret_val ?_,rfl⟩
     unfold parseN parseE
     rw [if_pos hn,if_pos hn]
     rfl
theorem une_lib:∀n:Nat,n<256→(¬((n:Int)=92∨(n:Int)=39∨(n:Int)=34∨(n:Int)=96))→une n=if Lib.indexByte letters n.toUInt8<0 then none else some (7+Lib.indexByte letters n.toUInt8):=by decide +kernel
theorem une_lib' (c:Int) (h:isCh c=true) (h2:¬(c=92∨c=39∨c=34∨c=96)):une c=if Lib.indexByte letters c.toNat.toUInt8<0 then none else some (7+Lib.indexByte letters c.toNat.toUInt8):=by
 obtain ⟨h0,h1⟩:=(isCh_iff c).1 h
 obtain ⟨n,rfl⟩:=Int.eq_ofNat_of_zero_le h0
 exact une_lib n (by omega) h2
def lix (c:Int):Int:=Lib.indexByte letters c.toNat.toUInt8
theorem lix_hi:∀n:Nat,n<256→Lib.indexByte letters n.toUInt8≤6:=by decide +kernel
set_option maxHeartbeats 1000000 in
theorem chars_unescape (c:Int) (w:World) :
  Calls Tryz.prog 135 #[.int .i64 c] w fun e w'=>e=.returned (.tuple #[.int .i64 (uneV c),.bool (uneOk c)])∧w=w':=by
 by_cases hq:c=92∨c=39∨c=34∨c=96
 ·have HU:=zq (show une c=some c by unfold une;rw [if_pos hq])
  go_enter Tryz.func135,Tryz.ntmps135
  go_wp2
  all_goals (first | (exfalso;grind) | (go_ret2;exact ⟨ret_ib (by unfold uneV;rw [HU.out];rfl) (by unfold uneOk;rw [HU.out];rfl),rfl⟩))
 ·have q1:(c==92)=false:=by grind
  have q2:(c==39)=false:=by grind
  have q3:(c==34)=false:=by grind
  have q4:(c==96)=false:=by grind
  cases hc:isCh c
  ·have HU:=zq (show une c=none by have:=isCh_iff c;unfold une;grind)
   have HQ:=zq hq
   clear hq
   go_enter Tryz.func135,Tryz.ntmps135
   go_wp2_with (first | (go_at_call 121;refine (chars_is _ _).mono ?_;rintro e w' ⟨rfl,rfl⟩))
   go_ret2
   exact ⟨ret_ib (by unfold uneV;rw [HU.out];rfl) (by unfold uneOk;rw [HU.out];rfl),rfl⟩
  ·have HU:=zq (une_lib' c hc hq)
   obtain ⟨h0,h1⟩:=(isCh_iff c).1 hc
   have hl0:-1≤lix c:=Lib.indexByte_ge _ _
   have hl1:lix c≤6:=by
    obtain ⟨n,rfl⟩:=Int.eq_ofNat_of_zero_le h0
    exact lix_hi n (by omega)
   have HQ:=zq hq
   clear hq
   go_enter Tryz.func135,Tryz.ntmps135
   go_wp2_with (first | (go_at_call 121;refine (chars_is _ _).mono ?_;rintro e w' ⟨rfl,rfl⟩) | (go_at_call 134;refine (strings_indexByte _ _ _).mono ?_;rintro e w' ⟨rfl,rfl⟩;rw [show Lib.indexByte (ByteArray.mk #[97,98,116,110,118,102,114]).data.toList c.toNat.toUInt8=lix c from rfl]))
   all_goals
    go_ret2
    exact ⟨ret_ib (by unfold uneV;rw [HU.out];show _=(if lix c<0 then none else some (7+lix c)).getD 0;grind) (by unfold uneOk;rw [HU.out];show _=(if lix c<0 then none else some (7+lix c)).isSome;grind),rfl⟩
end Go.Proofs.YtpokpgkjaifccaaGreatDoorRR
