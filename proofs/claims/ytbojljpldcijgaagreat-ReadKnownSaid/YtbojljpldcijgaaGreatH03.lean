/- Parts of the proof. -/
import Derived.Test.YtbojljpldcijgaaGreatH02
import Derived.Deep.RegionHeld3
import Derived.RegionTactic
import Derived.BigRegion
import Derived.Deep.RegionWith
import Derived.Test.YtbojljpldcijgaaGreatH01
import Derived.Test.YtbojljpldcijgaaGreatProg
import Derived.Lib.Strings
import Derived.Laws.Strings
namespace Go.Proofs.YtbojljpldcijgaaGreat
open Go.RowKit Hb
set_option maxRecDepth 100000
theorem skip_step (M:List UInt8) (k e X:Nat) (he:k+2≤e) (h1:k+skipN (M.drop k)=X) (h2:skipN (M.drop k)=(e-(k+2)+4)+skipN (M.drop (k+(e-(k+2)+4)))):e+2+skipN (M.drop (e+2))=X:=by
 have e1:k+(e-(k+2)+4)=e+2:=by omega
 rw [e1] at h2;omega
theorem close_step (M:List UInt8) (k e:Nat) (he:k+2≤e) (h:closeAt (M.drop (k+2))=(closeAt (M.drop e)).map (· + (e-(k+2)))) (h2:closeAt (M.drop e)=(closeAt (M.drop (e+1))).map (· + 1)) :
  closeAt (M.drop (k+2))=(closeAt (M.drop (e+1))).map (· + (e+1-(k+2))):=by
 rw [h,h2,Option.map_map]
 congr 1
 funext x
 simp;omega
set_option maxHeartbeats 4000000 in
theorem lex_skip (b:Nat) (s:ByteArray) (tab:Int→Int) (at_ i:Int) (w:World) (h:Lex w b s tab at_) (h0:0≤i) :
  Calls Tryz.prog 85 #[.pointer (some ⟨b,0,none⟩),.int .i64 i] w fun e w'=>e=.returned (.int .i64 (i+skipN ((cvt tab s.data.toList).drop i.toNat)))∧Below w.heap.size w w':=by
 obtain ⟨k0,rfl⟩:=Int.eq_ofNat_of_zero_le h0
 have hsz:=h.sz
 have HL:=zq h
 have hlt0:=h.lt
 clear h
 rw [Int.toNat_natCast]
 have hlen:Hid ((cvt tab s.data.toList).length=s.size):=by show _=_;rw [cvt_len];simp
 generalize hM:cvt tab s.data.toList=M at *
 have HM:=zq hM
 clear hM
 go_enter Tryz.func85,Tryz.ntmps85
 go_wp2_with fail
 go_loopw [1] (fun i wr=>∃k:Nat,i=.int .i64 k∧Below w.heap.size w wr∧Hid (k+skipN (M.drop k)=k0+skipN (M.drop k0))) (fun i _=>s.size-(intOf i).toNat)
 case atStart=>exact ⟨k0,rfl,Below.refl _ _,rfl⟩
 case round=>
  obtain ⟨k,rfl,hB,HE⟩:=hrel
  have L:=HL.out.below hB hlt0
  have c0:=L.c0
  have hs:=hB.size
  by_cases hlt:k<s.size
  ·have hkl:k<M.length:=by rw [hlen.out];exact hlt
   have hr0:=rawAt_neg M k
   have hr1:0≤rawAt M k:=by have:=rawAt_neg M k;omega
   clear hr0
   by_cases a1:cls (rawAt M k)=1
   ·have HN:=zq (skip_lay M k hkl a1)
    have b1:(cls (rawAt M k)==1)=true:=by simp [a1]
    clear a1
    go_wp2_with fail
    refine (lex_char _ _ _ _ _ _ L (by omega)).mono ?_;rintro e w1 ⟨rfl,hB1⟩;rw [Int.toNat_natCast,HM.out]
    go_wp2_with fail
    refine (chars_class _ _).mono ?_;rintro e w2 ⟨rfl,hB2⟩
    go_wp2_with fail
    go_roundw
    case rel=>exact ⟨k+1,by go_num,hB.trans ((hB1.mono (by omega)).trans (hB2.mono (by have:=hB1.size;omega))),by have h1:=HE.out;have h2:=HN.out;show _=_;omega⟩
    case measure=>simp [intOf];omega
   have b1:(cls (rawAt M k)==1)=false:=by simp [a1]
   by_cases a2:rawAt M k=37
   ·have HN:=zq (skip_pct M k hkl a1 a2)
    have hsp:=span_pos notNl (M.drop k) (by simp;omega) (by rw [rawAt_drop,Nat.add_zero,a2];rfl)
    have b2:(rawAt M k==37)=true:=by simp [a2]
    have A2:=zq a2
    clear a1 a2
    go_wp2_with fail
    refine (lex_char _ _ _ _ _ _ L (by omega)).mono ?_;rintro e w1 ⟨rfl,hB1⟩;rw [Int.toNat_natCast,HM.out]
    go_wp2_with fail
    refine (chars_class _ _).mono ?_;rintro e w2 ⟨rfl,hB2⟩
    have L2:=(L.below hB1 L.lt).below hB2 (L.below hB1 L.lt).lt
    go_wp2_with fail
    refine (run_notNl _ _ _ _ _ _ L2 (by omega)).mono ?_;rintro e w3 ⟨rfl,hB3⟩;rw [Int.toNat_natCast,HM.out]
    go_wp2_with fail
    go_roundw
    case rel=>exact ⟨k+span notNl (M.drop k),by go_num,hB.trans ((hB1.mono (by omega)).trans ((hB2.mono (by have:=hB1.size;omega)).trans (hB3.mono (by have:=hB1.size;have:=hB2.size;omega)))),by have h1:=HE.out;have h2:=HN.out;show _=_;omega⟩
    case measure=>simp [intOf];omega
   have b2:(rawAt M k==37)=false:=by simp [a2]
   by_cases a3:rawAt M k=47
   ·have b3:(rawAt M k==47)=true:=by simp [a3]
    have A1:=zq a1
    have A2:=zq a2
    have A3:=zq a3
    clear a1 a2 a3
    by_cases a4:rawAt M (k+1)=42
    ·have b4:(rawAt M (k+1)==42)=true:=by simp [a4]
     have A4:=zq a4
     clear a4
     go_wp2_with fail
     refine (lex_char _ _ _ _ _ _ L (by omega)).mono ?_;rintro e w1 ⟨rfl,hB1⟩;rw [Int.toNat_natCast,HM.out]
     go_wp2_with fail
     refine (chars_class _ _).mono ?_;rintro e w2 ⟨rfl,hB2⟩
     have L2:=(L.below hB1 L.lt).below hB2 (L.below hB1 L.lt).lt
     go_wp2_with fail
     refine (lex_char _ _ _ _ _ _ L2 (by omega)).mono ?_;rintro e w3 ⟨rfl,hB3⟩;rw [show ((k:Int)+1).toNat=k+1 by omega,HM.out]
     have L3:=L2.below hB3 L2.lt
     have hB':Below w.heap.size w w3:=hB.trans ((hB1.mono (by omega)).trans ((hB2.mono (by have:=hB1.size;omega)).trans (hB3.mono (by have:=hB1.size;have:=hB2.size;omega))))
     clear hB1 hB2 hB3 L2 L c0 hB
     go_wp2_with fail
     go_loopw [6] (fun x wx=>∃e:Nat,k+2≤e∧e≤s.size∧x=.int .i64 e∧Below w.heap.size w wx∧Hid (closeAt (M.drop (k+2))=(closeAt (M.drop e)).map (· + (e-(k+2))))) (fun x _=>s.size-(intOf x).toNat)
     case atStart=>
      have hk2:k+2≤s.size:=by
       have:=rawAt_neg M (k+1);have:=A4.out;have:=hlen.out;omega
      exact ⟨k+2,Nat.le_refl _,hk2,by go_num,hB',by show _=_;simp⟩
     case round=>
      obtain ⟨e,he1,he2,rfl,hBx,HC⟩:=hrel
      have Lx:=HL.out.below hBx hlt0
      have c0:=Lx.c0
      have hsx:=hBx.size
      by_cases helt:e<s.size
      ·have hel:e<M.length:=by rw [hlen.out];exact helt
       by_cases d1:rawAt M e=42
       ·have d1b:(rawAt M e==42)=true:=by simp [d1]
        have d1c:(rawAt M e != 42)=false:=by simp [d1]
        have D1:=zq d1
        clear d1
        by_cases d2:rawAt M (e+1)=47
        ·have d2b:(rawAt M (e+1)==47)=true:=by simp [d2]
         have d2c:(rawAt M (e+1) != 47)=false:=by simp [d2]
         have HK:=zq (closeAt_yes M e hel D1.out d2)
         have HS:=zq (skip_com M k (e-(k+2)) hkl A3.out A4.out (by rw [HC.out,HK.out];simp))
         clear d2
         go_wp2_with fail
         refine (lex_char _ _ _ _ _ _ Lx (by omega)).mono ?_;rintro e' w4 ⟨rfl,hB4⟩;rw [Int.toNat_natCast,HM.out]
         have L4:=Lx.below hB4 Lx.lt
         go_wp2_with fail
         refine (lex_char _ _ _ _ _ _ L4 (by omega)).mono ?_;rintro e' w5 ⟨rfl,hB5⟩;rw [show ((e:Int)+1).toNat=e+1 by omega,HM.out]
         have L5:=L4.below hB5 L4.lt
         have c5:=L5.c0
         have hne:((e:Int)==(s.size:Int))=false:=by simp;omega
         go_wp2_with fail
         go_roundw
         case rel=>exact ⟨e+2,by go_num,hBx.trans ((hB4.mono (by omega)).trans (hB5.mono (by have:=hB4.size;omega))),skip_step M k e _ he1 HE.out HS.out⟩
         case measure=>simp [intOf];omega
        ·have d2b:(rawAt M (e+1)==47)=false:=by simp [d2]
         have d2c:(rawAt M (e+1) != 47)=true:=by simp [d2]
         have HK:=zq (closeAt_no M e hel (fun hh=>d2 hh.2))
         clear d2
         go_wp2_with fail
         refine (lex_char _ _ _ _ _ _ Lx (by omega)).mono ?_;rintro e' w4 ⟨rfl,hB4⟩;rw [Int.toNat_natCast,HM.out]
         have L4:=Lx.below hB4 Lx.lt
         go_wp2_with fail
         refine (lex_char _ _ _ _ _ _ L4 (by omega)).mono ?_;rintro e' w5 ⟨rfl,hB5⟩;rw [show ((e:Int)+1).toNat=e+1 by omega,HM.out]
         go_wp2_with fail
         go_roundw
         case rel=>exact ⟨e+1,by omega,by omega,by go_num,hBx.trans ((hB4.mono (by omega)).trans (hB5.mono (by have:=hB4.size;omega))),close_step M k e he1 HC.out HK.out⟩
         case measure=>simp [intOf];omega
       ·have d1b:(rawAt M e==42)=false:=by simp [d1]
        have d1c:(rawAt M e != 42)=true:=by simp [d1]
        have HK:=zq (closeAt_no M e hel (fun hh=>d1 hh.1))
        clear d1
        go_wp2_with fail
        refine (lex_char _ _ _ _ _ _ Lx (by omega)).mono ?_;rintro e' w4 ⟨rfl,hB4⟩;rw [Int.toNat_natCast,HM.out]
        go_wp2_with fail
        go_roundw
        case rel=>exact ⟨e+1,by omega,by omega,by go_num,hBx.trans (hB4.mono (by omega)),close_step M k e he1 HC.out HK.out⟩
        case measure=>simp [intOf];omega
      ·obtain rfl:e=s.size:=by omega
       have HK:=zq (closeAt_end M s.size (by rw [hlen.out];exact Nat.le_refl _))
       have HS:=zq (skip_open M k hkl A3.out A4.out (by rw [HC.out,HK.out];rfl))
       go_wp2_with fail
       go_ret
       exact ⟨ret_int (by have h1:=HE.out;have h2:=HS.out;omega),hBx⟩
    ·have b4:(rawAt M (k+1)==42)=false:=by simp [a4]
     have HN:=zq (skip_no M k hkl A1.out A2.out (fun hh=>a4 hh.2))
     clear a4
     go_wp2_with fail
     refine (lex_char _ _ _ _ _ _ L (by omega)).mono ?_;rintro e w1 ⟨rfl,hB1⟩;rw [Int.toNat_natCast,HM.out]
     go_wp2_with fail
     refine (chars_class _ _).mono ?_;rintro e w2 ⟨rfl,hB2⟩
     have L2:=(L.below hB1 L.lt).below hB2 (L.below hB1 L.lt).lt
     go_wp2_with fail
     refine (lex_char _ _ _ _ _ _ L2 (by omega)).mono ?_;rintro e w3 ⟨rfl,hB3⟩;rw [show ((k:Int)+1).toNat=k+1 by omega,HM.out]
     go_wp2_with fail
     go_ret
     exact ⟨ret_int (by have h1:=HE.out;have h2:=HN.out;omega),hB.trans ((hB1.mono (by omega)).trans ((hB2.mono (by have:=hB1.size;omega)).trans (hB3.mono (by have:=hB1.size;have:=hB2.size;omega))))⟩
   ·have b3:(rawAt M k==47)=false:=by simp [a3]
    have HN:=zq (skip_no M k hkl a1 a2 (fun hh=>a3 hh.1))
    clear a1 a2 a3
    go_wp2_with fail
    refine (lex_char _ _ _ _ _ _ L (by omega)).mono ?_;rintro e w1 ⟨rfl,hB1⟩;rw [Int.toNat_natCast,HM.out]
    go_wp2_with fail
    refine (chars_class _ _).mono ?_;rintro e w2 ⟨rfl,hB2⟩
    go_wp2_with fail
    go_ret
    exact ⟨ret_int (by have h1:=HE.out;have h2:=HN.out;omega),hB.trans ((hB1.mono (by omega)).trans (hB2.mono (by have:=hB1.size;omega)))⟩
  ·have hkl:M.length≤k:=by rw [hlen.out];omega
   have HR:=zq (rawAt_out M k hkl)
   have HN:=zq (skip_end M k hkl)
   go_wp2_with fail
   refine (lex_char _ _ _ _ _ _ L (by omega)).mono ?_;rintro e w1 ⟨rfl,hB1⟩;rw [Int.toNat_natCast,HM.out,HR.out]
   go_wp2_with fail
   go_ret
   exact ⟨ret_int (by have h1:=HE.out;have h2:=HN.out;omega),hB.trans (hB1.mono (by omega))⟩
theorem trans3 {w w1 w2 w3:World} {B:Nat} (h0:B≤w.heap.size) (h1:Below w.heap.size w w1) (h2:Below w1.heap.size w1 w2) (h3:Below w2.heap.size w2 w3):Below B w w3 :=
 (h1.mono h0).trans ((h2.mono (Nat.le_trans h0 h1.size)).trans (h3.mono (Nat.le_trans h0 (Nat.le_trans h1.size h2.size))))
theorem trans2 {w w1 w2:World} {B:Nat} (h0:B≤w.heap.size) (h1:Below w.heap.size w w1) (h2:Below w1.heap.size w1 w2):Below B w w2 :=
 (h1.mono h0).trans (h2.mono (Nat.le_trans h0 h1.size))
def tokTup (r:LexR):Value:=.tuple #[.agg #[.int .i64 r.kind,.string ⟨r.text.toArray⟩,.int .i64 r.n,.int .i64 r.at_,.int .i64 r.end_,.bool false],.int .i64 r.err]
def Gives (r:LexR) (e:Ending):Prop:=e=.returned (tokTup r)
set_option maxHeartbeats 800000 in
theorem lex_named (b:Nat) (s:ByteArray) (tab:Int→Int) (at_ kind end_:Int) (t:List UInt8) (w:World) (h:Lex w b s tab at_) (ht:t.length≤9223372036854775807) :
  Calls Tryz.prog 128 #[.pointer (some ⟨b,0,none⟩),.int .i64 kind,.string ⟨t.toArray⟩,.int .i64 end_] w fun e w'=>Gives (namedR kind t at_ end_) e∧Below w.heap.size w w':=by
 have ca:=h.ca
 have hlt:=h.lt
 by_cases hk:100<t.length
 ·have HR:=zq (show namedR kind t at_ end_=errR 2 by unfold namedR;rw [if_pos hk])
  go_enter Tryz.func128,Tryz.ntmps128
  go_wp2
  refine bodyPost_ret (v:=.tuple #[.agg #[.int .i64 0,.string ⟨#[]⟩,.int .i64 0,.int .i64 0,.int .i64 0,.bool false],.int .i64 2]) (by simp [results,Tryz.results128,go_sem]) rfl ⟨?_,(Below.refl _ _).alloc (Nat.le_refl _) _⟩
  rw [HR.out];rfl
 ·have HR:=zq (show namedR kind t at_ end_=⟨kind,t,0,at_,end_,0⟩ by unfold namedR;rw [if_neg hk])
  go_enter Tryz.func128,Tryz.ntmps128
  go_wp2
  refine bodyPost_ret (v:=.tuple #[.agg #[.int .i64 kind,.string ⟨t.toArray⟩,.int .i64 0,.int .i64 at_,.int .i64 end_,.bool false],.int .i64 0]) (by simp [results,Tryz.results128,go_sem]) rfl ⟨?_,(Below.refl _ _).alloc (Nat.le_refl _) _⟩
  rw [HR.out];rfl
def tokZero:Obj:=.cells #[.int .i64 0,.string ⟨#[]⟩,.int .i64 0,.int .i64 0,.int .i64 0,.bool false] 76
theorem tok_cells {w w':World} {B:Nat} (hB:Below B (w.alloc tokZero) w') (h:w.heap.size<B) :
  w'.cell? ⟨w.heap.size,0,none⟩=some (.int .i64 0)∧w'.cell? ⟨w.heap.size,1,none⟩=some (.string ⟨#[]⟩)∧w'.cell? ⟨w.heap.size,2,none⟩=some (.int .i64 0)∧w'.cell? ⟨w.heap.size,3,none⟩=some (.int .i64 0)∧w'.cell? ⟨w.heap.size,4,none⟩=some (.int .i64 0)∧w'.cell? ⟨w.heap.size,5,none⟩=some (.bool false)∧∀o,w'.frozen? ⟨w.heap.size,o,none⟩=false:=by
 have e:∀o,w'.cell? ⟨w.heap.size,o,none⟩=(w.alloc tokZero).cell? ⟨w.heap.size,o,none⟩:=fun o=>hB.cell (p:=⟨w.heap.size,o,none⟩) h
 have hb:(w.alloc tokZero).heap[w.heap.size]? = some tokZero:=by show (w.heap.push _)[w.heap.size]? = _;simp
 refine ⟨?_,?_,?_,?_,?_,?_,fun o=>?_⟩
 ·rw [e];unfold tokZero;rw [World.cell?_alloc_new];rfl
 ·rw [e];unfold tokZero;rw [World.cell?_alloc_new];rfl
 ·rw [e];unfold tokZero;rw [World.cell?_alloc_new];rfl
 ·rw [e];unfold tokZero;rw [World.cell?_alloc_new];rfl
 ·rw [e];unfold tokZero;rw [World.cell?_alloc_new];rfl
 ·rw [e];unfold tokZero;rw [World.cell?_alloc_new];rfl
 ·rw [hB.frozen (p:=⟨w.heap.size,o,none⟩) h]
  unfold World.frozen?;simp only [hb];unfold tokZero;simp
theorem below_sets {w w':World} {B g:Nat} (h:Below B w w') (hg:B≤g) (a b c d e f:Value):Below B w ((((((w'.setCell ⟨g,0,none⟩ a).setCell ⟨g,1,none⟩ b).setCell ⟨g,2,none⟩ c).setCell ⟨g,3,none⟩ d).setCell ⟨g,4,none⟩ e).setCell ⟨g,5,none⟩ f) :=
 (((((h.setCell (p:=⟨g,_,none⟩) hg _).setCell (p:=⟨g,_,none⟩) hg _).setCell (p:=⟨g,_,none⟩) hg _).setCell (p:=⟨g,_,none⟩) hg _).setCell (p:=⟨g,_,none⟩) hg _).setCell (p:=⟨g,_,none⟩) hg _
set_option maxHeartbeats 800000 in
theorem lex_word (b:Nat) (s:ByteArray) (tab:Int→Int) (p:Nat) (w:World) (h:Lex w b s tab p) (hp:p≤s.size) :
  Calls Tryz.prog 87 #[.pointer (some ⟨b,0,none⟩)] w fun e w'=>Gives (wordR (cvt tab s.data.toList) p) e∧Below w.heap.size w w':=by
 have ca:=h.ca
 have hlt:=h.lt
 have hsz:=h.sz
 have HL:=zq h
 clear h
 have hlen:Hid ((cvt tab s.data.toList).length=s.size):=by show _=_;rw [cvt_len];simp
 have hsp:=span_le alnum ((cvt tab s.data.toList).drop p)
 rw [List.length_drop,hlen.out] at hsp
 generalize hM:cvt tab s.data.toList=M at *
 have HM:=zq hM
 clear hM
 have HK:=zq (show wordR M p=namedR (wordKind (rawAt M p)) ((M.drop p).take (span alnum (M.drop p))) p (p+span alnum (M.drop p)) from rfl)
 have hA:=(Below.refl w.heap.size w).alloc (Nat.le_refl _) tokZero
 have hA':w.heap.size<(w.alloc tokZero).heap.size:=by simp
 cases b1:cls (rawAt M p)==3
 all_goals
  have HB:=zq b1
  clear b1
  go_enter Tryz.func87,Tryz.ntmps87
  go_wp2_with fail
  refine (lex_char _ _ _ _ _ _ (HL.out.below hA hlt) (by omega)).mono ?_;rintro e w1 ⟨rfl,hB1⟩;rw [Int.toNat_natCast,HM.out]
  have L1:=(HL.out.below hA hlt).below hB1 (by simp;omega)
  go_wp2_with fail
  refine (chars_class _ _).mono ?_;rintro e w2 ⟨rfl,hB2⟩
  have L2:=L1.below hB2 L1.lt
  have c2:=L2.ca
  have HB2:=HB.out
  go_wp2_with fail
  refine (run_alnum _ _ _ _ _ _ L2 (by omega)).mono ?_;rintro e w3 ⟨rfl,hB3⟩;rw [Int.toNat_natCast,HM.out]
  have L3:=L2.below hB3 L2.lt
  have c3:=L3.ca
  go_wp2_with fail
  refine (lex_part _ _ _ _ _ _ _ L3 (by omega) (by omega) (by omega)).mono ?_;rintro e w4 ⟨rfl,hB4⟩;rw [Int.toNat_natCast,HM.out,show ((p:Int)+span alnum (M.drop p)-p).toNat=span alnum (M.drop p) by omega]
  have L4:=L3.below hB4 L3.lt
  go_wp2_with fail
  refine (lex_named _ _ _ _ _ _ _ _ L4 (by have:=List.length_take_le (span alnum (M.drop p)) (M.drop p);omega)).mono ?_;rintro e w5 ⟨he,hB5⟩
  generalize hr:namedR _ _ _ _=r at he
  have HR:=zq hr
  clear hr
  unfold Gives tokTup at he;subst he
  have hB:=(trans3 (Nat.le_refl _) hB1 hB2 hB3).trans (trans2 (by have:=hB1.size;have:=hB2.size;have:=hB3.size;omega) hB4 hB5)
  obtain ⟨t0,t1,t2,t3,t4,t5,t6⟩:=tok_cells hB hA'
  have hlt5:w.heap.size<w5.heap.size:=Nat.lt_of_lt_of_le hA' hB.size
  clear hB1 hB2 hB3 hB4 hB5 L1 L2 L3 L4 c2 c3 ca
  go_wp2_with fail
  refine bodyPost_ret (v:=tokTup r) (by simp [tokTup,results,Tryz.results87,go_sem,t0,t1,t2,t3,t4,t5]) rfl ⟨?_,below_sets (hA.trans (hB.mono (by omega))) (Nat.le_refl _) _ _ _ _ _ _⟩
  rw [HK.out];unfold wordKind;first | (rw [if_pos (by simpa using HB.out),HR.out];rfl) | (rw [if_neg (by simpa using HB.out),HR.out];rfl)
set_option maxHeartbeats 1600000 in
theorem lex_symbol (b:Nat) (s:ByteArray) (tab:Int→Int) (p:Nat) (w:World) (h:Lex w b s tab p) (hp:p≤s.size) :
  Calls Tryz.prog 89 #[.pointer (some ⟨b,0,none⟩)] w fun e w'=>Gives (symR (cvt tab s.data.toList) p) e∧Below w.heap.size w w':=by
 have ca:=h.ca
 have hlt:=h.lt
 have hsz:=h.sz
 have HL:=zq h
 clear h
 have hlen:Hid ((cvt tab s.data.toList).length=s.size):=by show _=_;rw [cvt_len];simp
 have hsp:=span_le isSym ((cvt tab s.data.toList).drop p)
 rw [List.length_drop,hlen.out] at hsp
 generalize hM:cvt tab s.data.toList=M at *
 have HM:=zq hM
 clear hM
 have hA:=(Below.refl w.heap.size w).alloc (Nat.le_refl _) tokZero
 have hA':w.heap.size<(w.alloc tokZero).heap.size:=by simp
 by_cases a1:rawAt M p=46
 ·have b1:(rawAt M p==46)=true:=by simp [a1]
  by_cases a2:endNext (rawAt M (p+1))=true
  ·have HK:=zq (show symR M p=⟨7,[46],0,p,p+1,0⟩ by unfold symR;rw [if_pos ⟨a1,a2⟩])
   have HE:=zq a2
   clear a1 a2
   have hd:decide (rawAt M (p+1)<0)=true∨(decide (rawAt M (p+1)<0)=false∧((rawAt M (p+1)==37)=true∨((rawAt M (p+1)==37)=false∧(cls (rawAt M (p+1))==1)=true))):=by have:=HE.out;unfold endNext at this;grind
   rcases hd with d1 | ⟨d1,d2 | ⟨d2,d3⟩⟩
   all_goals
    go_enter Tryz.func89,Tryz.ntmps89
    go_wp2_with fail
    refine (lex_char _ _ _ _ _ _ (HL.out.below hA hlt) (by omega)).mono ?_;rintro e w1 ⟨rfl,hB1⟩;rw [Int.toNat_natCast,HM.out]
    have L1:=(HL.out.below hA hlt).below hB1 (by simp;omega)
    have c1:=L1.ca
    go_wp2_with fail
    refine (lex_char _ _ _ _ _ _ L1 (by omega)).mono ?_;rintro e w2 ⟨rfl,hB2⟩;rw [show ((p:Int)+1).toNat=p+1 by omega,HM.out]
    have L2:=L1.below hB2 L1.lt
    have c2:=L2.ca
    have hBx:Below (w.alloc tokZero).heap.size (w.alloc tokZero) w2:=trans2 (Nat.le_refl _) hB1 hB2
    go_wp2_with (go_at_call 93;refine (chars_class _ _).mono ?_;rintro e w3 ⟨rfl,hB3⟩;have c3:=(hB3.cell (p:=⟨b,257,none⟩) L2.lt).trans c2;have hBy:=hBx.trans (hB3.mono (Nat.le_trans hB1.size hB2.size));clear hBx)
    first | (obtain ⟨t0,t1,t2,t3,t4,t5,t6⟩:=tok_cells hBy hA';have hlt3:w.heap.size<w3.heap.size:=Nat.lt_of_lt_of_le hA' hBy.size) | (obtain ⟨t0,t1,t2,t3,t4,t5,t6⟩:=tok_cells hBx hA';have hlt3:w.heap.size<w2.heap.size:=Nat.lt_of_lt_of_le hA' hBx.size)
    go_region
    go_wp2_with fail
    refine bodyPost_ret (v:=tokTup ⟨7,[46],0,p,p+1,0⟩) (by simp [tokTup,results,Tryz.results89,go_sem,t0,t1,t2,t3,t4,t5]) rfl ⟨?_,?_⟩
    ·rw [HK.out];rfl
    ·first | exact (below_sets (hA.trans (hBy.mono (by omega))) (Nat.le_refl _) _ _ _ _ _ _).drew | exact (below_sets (hA.trans (hBx.mono (by omega))) (Nat.le_refl _) _ _ _ _ _ _).drew
  ·have HK:=zq (show symR M p=namedR 1 ((M.drop p).take (span isSym (M.drop p))) p (p+span isSym (M.drop p)) by unfold symR;rw [if_neg (fun h=>a2 h.2)])
   have d1:decide (rawAt M (p+1)<0)=false:=by unfold endNext at a2;grind
   have d2:(rawAt M (p+1)==37)=false:=by unfold endNext at a2;grind
   have d3:(cls (rawAt M (p+1))==1)=false:=by unfold endNext at a2;grind
   clear a1 a2
   go_enter Tryz.func89,Tryz.ntmps89
   go_wp2_with fail
   refine (lex_char _ _ _ _ _ _ (HL.out.below hA hlt) (by omega)).mono ?_;rintro e w1 ⟨rfl,hB1⟩;rw [Int.toNat_natCast,HM.out]
   have L1:=(HL.out.below hA hlt).below hB1 (by simp;omega)
   have c1:=L1.ca
   go_wp2_with fail
   refine (lex_char _ _ _ _ _ _ L1 (by omega)).mono ?_;rintro e w2 ⟨rfl,hB2⟩;rw [show ((p:Int)+1).toNat=p+1 by omega,HM.out]
   have L2:=L1.below hB2 L1.lt
   go_wp2_with fail
   refine (chars_class _ _).mono ?_;rintro e w3 ⟨rfl,hB3⟩
   have L3:=L2.below hB3 L2.lt
   have hBx:=trans3 (Nat.le_refl _) hB1 hB2 hB3
   have c3:=L3.ca
   clear hB1 hB2 hB3 L1 L2 c1
   go_wp2_with fail
   refine (run_sym _ _ _ _ _ _ L3 (by omega)).mono ?_;rintro e w4 ⟨rfl,hB4⟩;rw [Int.toNat_natCast,HM.out]
   have L4:=L3.below hB4 L3.lt
   have c4:=L4.ca
   go_wp2_with fail
   refine (lex_part _ _ _ _ _ _ _ L4 (by omega) (by omega) (by omega)).mono ?_;rintro e w5 ⟨rfl,hB5⟩;rw [Int.toNat_natCast,HM.out,show ((p:Int)+span isSym (M.drop p)-p).toNat=span isSym (M.drop p) by omega]
   have L5:=L4.below hB5 L4.lt
   go_wp2_with fail
   refine (lex_named _ _ _ _ _ _ _ _ L5 (by have:=List.length_take_le (span isSym (M.drop p)) (M.drop p);omega)).mono ?_;rintro e w6 ⟨he,hB6⟩
   generalize hr:namedR _ _ _ _=r at he
   have HR:=zq hr
   clear hr
   unfold Gives tokTup at he;subst he
   have hB:=hBx.trans (trans3 hBx.size hB4 hB5 hB6)
   obtain ⟨t0,t1,t2,t3,t4,t5,t6⟩:=tok_cells hB hA'
   have hltx:w.heap.size<w6.heap.size:=Nat.lt_of_lt_of_le hA' hB.size
   clear hB4 hB5 hB6 L3 L4 L5 c3 c4 ca
   go_wp2_with fail
   refine bodyPost_ret (v:=tokTup r) (by simp [tokTup,results,Tryz.results89,go_sem,t0,t1,t2,t3,t4,t5]) rfl ⟨?_,below_sets (hA.trans (hB.mono (by omega))) (Nat.le_refl _) _ _ _ _ _ _⟩
   rw [HK.out,HR.out];rfl
 ·have b1:(rawAt M p==46)=false:=by simp [a1]
  have HK:=zq (show symR M p=namedR 1 ((M.drop p).take (span isSym (M.drop p))) p (p+span isSym (M.drop p)) by unfold symR;rw [if_neg (fun h=>a1 h.1)])
  clear a1
  go_enter Tryz.func89,Tryz.ntmps89
  go_wp2_with fail
  refine (lex_char _ _ _ _ _ _ (HL.out.below hA hlt) (by omega)).mono ?_;rintro e w3 ⟨rfl,hBx⟩;rw [Int.toNat_natCast,HM.out]
  have L3:=(HL.out.below hA hlt).below hBx (by simp;omega)
  have c3:=L3.ca
  go_wp2_with fail
  refine (run_sym _ _ _ _ _ _ L3 (by omega)).mono ?_;rintro e w4 ⟨rfl,hB4⟩;rw [Int.toNat_natCast,HM.out]
  have L4:=L3.below hB4 L3.lt
  have c4:=L4.ca
  go_wp2_with fail
  refine (lex_part _ _ _ _ _ _ _ L4 (by omega) (by omega) (by omega)).mono ?_;rintro e w5 ⟨rfl,hB5⟩;rw [Int.toNat_natCast,HM.out,show ((p:Int)+span isSym (M.drop p)-p).toNat=span isSym (M.drop p) by omega]
  have L5:=L4.below hB5 L4.lt
  go_wp2_with fail
  refine (lex_named _ _ _ _ _ _ _ _ L5 (by have:=List.length_take_le (span isSym (M.drop p)) (M.drop p);omega)).mono ?_;rintro e w6 ⟨he,hB6⟩
  generalize hr:namedR _ _ _ _=r at he
  have HR:=zq hr
  clear hr
  unfold Gives tokTup at he;subst he
  have hB:=hBx.trans (trans3 hBx.size hB4 hB5 hB6)
  obtain ⟨t0,t1,t2,t3,t4,t5,t6⟩:=tok_cells hB hA'
  have hltx:w.heap.size<w6.heap.size:=Nat.lt_of_lt_of_le hA' hB.size
  clear hB4 hB5 hB6 L3 L4 L5 c3 c4 ca
  go_wp2_with fail
  refine bodyPost_ret (v:=tokTup r) (by simp [tokTup,results,Tryz.results89,go_sem,t0,t1,t2,t3,t4,t5]) rfl ⟨?_,below_sets (hA.trans (hB.mono (by omega))) (Nat.le_refl _) _ _ _ _ _ _⟩
  rw [HK.out,HR.out];rfl
def Tok6 (w:World) (g:Nat):Prop:=(∀o,w.frozen? ⟨g,o,none⟩=false)∧∃v0 v1 v2 v3 v4 v5,w.cell? ⟨g,0,none⟩=some v0∧w.cell? ⟨g,1,none⟩=some v1∧w.cell? ⟨g,2,none⟩=some v2∧w.cell? ⟨g,3,none⟩=some v3∧w.cell? ⟨g,4,none⟩=some v4∧w.cell? ⟨g,5,none⟩=some v5
structure Held (w0 w:World) (b:Nat) (s:ByteArray) (tab:Int→Int) (p:Int):Prop where
 lex:Lex w b s tab p
 bel:Below w0.heap.size w0 w
 tok:Tok6 w w0.heap.size
 lt:w0.heap.size<w.heap.size
 blt:b<w0.heap.size
section
variable {w0 w w':World} {b:Nat} {s:ByteArray} {tab:Int→Int} {p:Int}
theorem Held.start (h:Lex w0 b s tab p):Held w0 (w0.alloc tokZero) b s tab p:=by
 have hA:=(Below.refl w0.heap.size w0).alloc (Nat.le_refl _) tokZero
 obtain ⟨t0,t1,t2,t3,t4,t5,t6⟩:=tok_cells (Below.refl (w0.alloc tokZero).heap.size (w0.alloc tokZero)) (by simp)
 exact ⟨h.below hA h.lt,hA,⟨t6,_,_,_,_,_,_,t0,t1,t2,t3,t4,t5⟩,by simp,h.lt⟩
theorem Held.call (hB:Below w.heap.size w w') (h:Held w0 w b s tab p):Held w0 w' b s tab p:=by
 obtain ⟨t6,v0,v1,v2,v3,v4,v5,t0,t1,t2,t3,t4,t5⟩:=h.tok
 have e:∀o,w'.cell? ⟨w0.heap.size,o,none⟩=w.cell? ⟨w0.heap.size,o,none⟩:=fun o=>hB.cell (p:=⟨w0.heap.size,o,none⟩) h.lt
 exact ⟨h.lex.below hB h.lex.lt,h.bel.trans (hB.mono (Nat.le_of_lt h.lt)),⟨fun o=>(hB.frozen (p:=⟨w0.heap.size,o,none⟩) h.lt).trans (t6 o),v0,v1,v2,v3,v4,v5,(e 0).trans t0,(e 1).trans t1,(e 2).trans t2,(e 3).trans t3,(e 4).trans t4,(e 5).trans t5⟩,Nat.lt_of_lt_of_le h.lt hB.size,h.blt⟩
theorem Held.callB {B:Nat} (hB:Below B w w') (h1:w0.heap.size<B) (h:Held w0 w b s tab p):Held w0 w' b s tab p:=by
 obtain ⟨t6,v0,v1,v2,v3,v4,v5,t0,t1,t2,t3,t4,t5⟩:=h.tok
 have e:∀o,w'.cell? ⟨w0.heap.size,o,none⟩=w.cell? ⟨w0.heap.size,o,none⟩:=fun o=>hB.cell (p:=⟨w0.heap.size,o,none⟩) h1
 exact ⟨h.lex.below hB (Nat.lt_trans h.blt h1),h.bel.trans (hB.mono (Nat.le_of_lt h1)),⟨fun o=>(hB.frozen (p:=⟨w0.heap.size,o,none⟩) h1).trans (t6 o),v0,v1,v2,v3,v4,v5,(e 0).trans t0,(e 1).trans t1,(e 2).trans t2,(e 3).trans t3,(e 4).trans t4,(e 5).trans t5⟩,Nat.lt_of_lt_of_le h.lt hB.size,h.blt⟩
theorem Held.drew (h:Held w0 w b s tab p):Held w0 w.drew b s tab p:=Held.call ((Below.refl _ w).drew) h
theorem Held.ca (h:Held w0 w b s tab p):w.cell? ⟨b,257,none⟩=some (.int .i64 p):=h.lex.ca
theorem frozen_set (w:World) (a:Addr) (v:Value) (q:Addr):(w.setCell a v).frozen? q=w.frozen? q:=by
 unfold World.frozen? World.setCell
 simp only [Array.getElem?_modify]
 by_cases h:a.block=q.block
 ·rw [if_pos h]
  cases w.heap[q.block]? with
  | none=>rfl
  | some o=>cases o <;> rfl
 ·rw [if_neg h]
theorem Held.set (h:Held w0 w b s tab p) (o:Nat) (v:Value):Held w0 (w.setCell ⟨w0.heap.size,o,none⟩ v) b s tab p:=by
 obtain ⟨t6,v0,v1,v2,v3,v4,v5,t0,t1,t2,t3,t4,t5⟩:=h.tok
 have hsz:(w.setCell ⟨w0.heap.size,o,none⟩ v).heap.size=w.heap.size:=by simp [World.setCell]
 have e:∀(k:Nat) (u:Value),w.cell? ⟨w0.heap.size,k,none⟩=some u→∃u',(w.setCell ⟨w0.heap.size,o,none⟩ v).cell? ⟨w0.heap.size,k,none⟩=some u':=fun k u hu=>by
  by_cases hk:o=k
  ·subst hk;exact ⟨v,World.cell?_setCell_same w _ v hu⟩
  ·exact ⟨u,(World.cell?_setCell_other w _ _ v (by intro hh;injection hh with _ h2 _;exact hk h2)).trans hu⟩
 obtain ⟨u0,e0⟩:=e 0 _ t0
 obtain ⟨u1,e1⟩:=e 1 _ t1
 obtain ⟨u2,e2⟩:=e 2 _ t2
 obtain ⟨u3,e3⟩:=e 3 _ t3
 obtain ⟨u4,e4⟩:=e 4 _ t4
 obtain ⟨u5,e5⟩:=e 5 _ t5
 exact ⟨h.lex.same (by rw [hsz];exact Nat.le_refl _) (Below.heap_setCell w _ v b (by have:=h.blt;show b≠w0.heap.size;omega)),h.bel.setCell (p:=⟨w0.heap.size,o,none⟩) (Nat.le_refl _) v,⟨fun k=>(frozen_set _ _ _ _).trans (t6 k),u0,u1,u2,u3,u4,u5,e0,e1,e2,e3,e4,e5⟩,by rw [hsz];exact h.lt,h.blt⟩
theorem Held.sets (h:Held w0 w b s tab p) (x0 x1 x2 x3 x4 x5:Value):Held w0 ((((((w.setCell ⟨w0.heap.size,0,none⟩ x0).setCell ⟨w0.heap.size,1,none⟩ x1).setCell ⟨w0.heap.size,2,none⟩ x2).setCell ⟨w0.heap.size,3,none⟩ x3).setCell ⟨w0.heap.size,4,none⟩ x4).setCell ⟨w0.heap.size,5,none⟩ x5) b s tab p :=
 (((((h.set 0 x0).set 1 x1).set 2 x2).set 3 x3).set 4 x4).set 5 x5
theorem Held.keep (h:Held w0 w b s tab p):w.cell? ⟨b,257,none⟩=some (.int .i64 p)∧Held w0 w b s tab p:=⟨h.ca,h⟩
end
set_option maxHeartbeats 600000 in
theorem lex_solo (b : Nat) (s : ByteArray) (tab : Int → Int) (p : Nat) (w : World) (h : Lex w b s tab p) (hp : p < s.size) :
  Calls Tryz.prog 90 #[.pointer (some ⟨b, 0, none⟩)] w fun e w' => Gives (soloR (cvt tab s.data.toList) p) e ∧ Below w.heap.size w w' := by
 have hsz := h.sz
 have H0 := Held.start h
 have hlt := h.lt
 have ca := h.ca
 clear h
 have hlen : Hid ((cvt tab s.data.toList).length = s.size) := by show _ = _; rw [cvt_len]; simp
 generalize hM : cvt tab s.data.toList = M at *
 have HM := zq hM
 clear hM
 have HK := zq (show soloR M p = namedR (soloKind (rawAt M p)) ((M.drop p).take 1) p (p + 1) from rfl)
 have hd : ((rawAt M p == 33) = true ∨ ((rawAt M p == 33) = false ∧ (rawAt M p == 59) = true)) ∨ ((rawAt M p == 33) = false ∧ (rawAt M p == 59) = false) := by grind
 rcases hd with (d1 | ⟨d1, d2⟩) | ⟨d1, d2⟩
 all_goals
  have HS : ∃ q, Hid (soloKind (rawAt M p) = q) ∧ (q = 1 ∨ q = 6) := ⟨_, rfl, by unfold soloKind; split <;> simp⟩
  go_enter Tryz.func90, Tryz.ntmps90
  go_wp2_with fail
  refine (lex_char _ _ _ _ _ _ H0.lex (by omega)).mono ?_; rintro e w1 ⟨rfl, hB1⟩; rw [Int.toNat_natCast, HM.out]
  have H1 := Held.call hB1 H0
  clear H0 hB1
  go_wp2_with fail
  have hw : IntKind.i64.wrap ((p : Int) + 1) = (p : Int) + 1 := IntWalk.i64_in _ (by omega)
  go_region_held3 (fun w' => w'.cell? ⟨b, 257, none⟩ = some (.int .i64 p) ∧ Held w w' b s tab p) (first | with_reducible exact H1.drew.keep | with_reducible exact Held.keep (Held.call (by with_reducible assumption) (And.right (by with_reducible assumption))) | with_reducible exact Held.keep (Held.sets (And.right (by with_reducible assumption)) _ _ _ _ _ _))
   (first
    | (go_at_call 129; ((with_reducible refine (lex_part b s tab p p (p + 1) _ ?_ ?_ ?_ ?_).mono ?_); (· with_reducible exact Held.lex (And.right (by with_reducible assumption))); (· omega); (· omega); (· omega); rintro e w2 ⟨rfl, hB2⟩; rw [Int.toNat_natCast, HM.out, show ((p : Int) + 1 - p).toNat = 1 by omega]))
    | (go_at_call 128; ((with_reducible refine (lex_named b s tab p _ _ _ _ ?_ ?_).mono ?_); (· with_reducible exact Held.lex (And.right (by with_reducible assumption))); (· have := List.length_take_le 1 (M.drop p); simp; omega); rintro e w2 ⟨he, hB2⟩; generalize hr : namedR _ _ _ _ = r at he; have HR := zq hr; clear hr; unfold Gives tokTup at he; subst he; obtain ⟨t6, v0, v1, v2, v3, v4, v5, t0, t1, t2, t3, t4, t5⟩ := (Held.call hB2 (And.right (by with_reducible assumption))).tok; have hlt2 := (Held.call hB2 (And.right (by with_reducible assumption))).lt)))
  go_wp2_with fail
  refine bodyPost_ret (v := tokTup r) (by simp [tokTup, results, Tryz.results90, go_sem, t0, t1, t2, t3, t4, t5]) rfl ⟨?_, Held.bel (And.right (by with_reducible assumption))⟩
  have HR2 := HR.out
  rw [HK.out, ← HR2]
  unfold soloKind; first | (rw [if_pos (by simpa using Or.inl (by simpa using d1))]; rfl) | (rw [if_pos (by simp at d2; exact Or.inr d2)]; rfl) | (rw [if_neg (by simp at d1 d2; omega)]; rfl)
set_option maxHeartbeats 400000 in
theorem ints_digit (c:Int) (w:World) (h0:0≤c) (h1:c≤255) :
  Calls Tryz.prog 194 #[.int .u8 c] w fun e w'=>e=.returned (.int .i64 (dgt c))∧w=w':=by
 go_enter Tryz.func194,Tryz.ntmps194
 go_wp2
 all_goals (go_ret;exact ⟨ret_int (by unfold dgt;grind),rfl⟩)
def parseN (base:Int) (ds:List UInt8):Int:=if natOf base ds≤9223372036854775808 then -(natOf base ds:Int) else 0
def parseE (base:Int) (ds:List UInt8):Int:=if natOf base ds≤9223372036854775808 then 0 else 10
set_option maxHeartbeats 1000000 in
theorem ints_parse (s:ByteArray) (base:Int) (ds:List UInt8) (w:World) (hs:s.data.toList=45::ds) (hne:0<ds.length) (hsz:ds.length≤16384) (h0:2≤base) (h1:base≤36)
  (hok:∀k,k<ds.length→dgt (bAt ds k)<base) :
  Calls Tryz.prog 172 #[.string s,.int .i64 base] w fun e w'=>e=.returned (.tuple #[.int .i64 (parseN base ds),.int .i64 (parseE base ds)])∧w=w':=by
 have hl:s.size=ds.length+1:=by rw [←size_data,hs];rfl
 have hl1:1<s.size:=by omega
 have hl0:0<s.size:=by omega
 have b0:=bAt_mk s 0 hl0
 have b0':bAt s.data.toList 0=45:=by rw [hs];rfl
 rw [b0'] at b0
 have HS:=zq hs
 have HOK:=zq hok
 have HSL:=zq hl
 have hl2:s.size≤16385:=by omega
 have hx:(s.extract 1 s.size).data.toList=ds:=by rw [Lib.extract_data,hs];simp [hl]
 have hem:(s.extract 1 s.size).toList.isEmpty=false:=by
  rw [Go.ByteArray.toList_eq,hx];cases ds <;> simp at hne ⊢
 have HX:=zq hx
 clear hs hok b0' hl hx
 go_enter Tryz.func172,Tryz.ntmps172
 go_wp2
 generalize hd:s.extract 1 s.size=d at *
 have hdl:d.size=ds.length:=by rw [←size_data,HX.out]
 have hds:s.size-1=d.size:=by have:=HSL.out;omega
 rw [hds]
 have HDL:=zq hdl
 have hd1:d.size≤16384:=by omega
 clear hd hdl hds b0 hem
 go_loop [4,31] (fun n i=>∃k:Nat,k≤d.size∧i=.int .i64 k∧n=.int .i64 0) (fun _ i=>d.size-(intOf i).toNat)
 case atStart=>exact ⟨0,Nat.zero_le _,rfl,rfl⟩
 case round=>
  obtain ⟨k,hk,rfl,rfl⟩:=hrel
  by_cases hlt:k<d.size
  ·have hb:=bAt_mk d k hlt
   rw [HX.out] at hb
   have hb0:=bAt_lo ds k
   have hb1:=bAt_hi ds k
   have hdg:dgt (bAt ds k)<base:=HOK.out k (by have:=HDL.out;omega)
   go_wp2_with (go_at_call 194;refine (ints_digit _ _ hb0 hb1).mono ?_;rintro e w' ⟨rfl,rfl⟩)
   go_round
   case rel=>exact ⟨k+1,by omega,by go_num,rfl⟩
   case measure=>simp [intOf];omega
  ·go_wp2_with fail
   go_loop [4,43] (fun n i=>∃k:Nat,k≤d.size∧i=.int .i64 k∧n=.int .i64 (-(natOf base (ds.take k):Int))∧natOf base (ds.take k)≤9223372036854775808) (fun _ i=>d.size-(intOf i).toNat)
   case atStart=>exact ⟨0,Nat.zero_le _,rfl,rfl,by simp [natOf]⟩
   case round=>
    obtain ⟨k',hk',rfl,rfl,hn⟩:=hrel
    by_cases hlt':k'<d.size
    ·have hb':=bAt_mk d k' hlt'
     rw [HX.out] at hb'
     have hb0':=bAt_lo ds k'
     have hb1':=bAt_hi ds k'
     have hkl:k'<ds.length:=by have:=HDL.out;omega
     have hdg:=HOK.out k' hkl
     have hd0:=dgt_lo (bAt ds k')
     have hd2:=dgt_hi (bAt ds k')
     have HT:=zq (show (natOf base (ds.take (k'+1)):Int)=natOf base (ds.take k') * base+dgt (bAt ds k') by
      rw [natOf_take base ds k' hkl,digV_dgt _ _ h0 h1 hdg]
      push_cast
      rw [Int.toNat_of_nonneg (by omega),Int.toNat_of_nonneg hd0])
     have HM:=zq (natOf_mono base (by omega) ds (k'+1))
     have HP:=zq (parse_step (natOf base (ds.take k')) (dgt (bAt ds k')) base (by omega) hd0 hd2)
     generalize hN:natOf base (ds.take k')=N at *
     have HN:=zq hN
     clear hN
     go_wp2_with (go_at_call 194;refine (ints_digit _ _ hb0' hb1').mono ?_;rintro e w' ⟨rfl,rfl⟩)
     ·have hlt2:=HP.out.1 (by assumption)
      go_ret2
      refine ⟨ret_val ?_,rfl⟩
      have h1:=HT.out
      have h2:=HM.out
      have h3:¬natOf base ds≤9223372036854775808:=by omega
      unfold parseN parseE
      rw [if_neg h3,if_neg h3]
      rfl
     ·have hlt2:(N:Int) * base+dgt (bAt ds k')≤9223372036854775808:=by
       have h2:=HP.out.2
       rcases Int.lt_or_le 9223372036854775808 ((N:Int) * base+dgt (bAt ds k')) with h | h
       ·have:=h2 h;omega
       ·exact h
      have hx0:0≤(N:Int) * base:=Int.mul_nonneg (by omega) (by omega)
      have e1:wrap64 (-(N:Int) * base)=-((N:Int) * base):=by rw [Int.neg_mul];exact IntWalk.wrap64_in _ (by omega)
      have e2:wrap64 (-((N:Int) * base)-dgt (bAt ds k'))=-((N:Int) * base)-dgt (bAt ds k'):=IntWalk.wrap64_in _ (by omega)
      rw [e1,e2]
      have h1:=HT.out
      go_round
      case rel=>exact ⟨k'+1,by omega,by go_num,congrArg (Value.int IntKind.i64) (by omega),by omega⟩
      case measure=>simp [intOf];omega
    ·have HE:=zq (show ds.take k'=ds from List.take_of_length_le (by have:=HDL.out;omega))
     rw [HE.out] at hn ⊢
     go_wp2
     go_ret2
     refine ⟨ret_val ?_,rfl⟩
     unfold parseN parseE
     rw [if_pos hn,if_pos hn]
     rfl
set_option maxHeartbeats 400000 in
theorem ref_unescape (c:Int) (w:World) :
  Calls Tryz.prog 199 #[.int .i64 c] w fun e w'=>e=.returned (.tuple #[.int .i64 (uneV c),.bool (uneOk c)])∧w=w':=by
 go_enter Tryz.func199,Tryz.ntmps199
 go_wp2
 go_loop [4] (fun i=>∃k:Nat,k≤7∧i=.int .i64 k∧among (letters.take k) c=false) (fun i=>7-(intOf i).toNat)
 case atStart=>exact ⟨0,Nat.zero_le _,rfl,rfl⟩
 case round=>
  obtain ⟨k,hk,rfl,hf⟩:=hrel
  have Hf:=zq hf
  clear hf
  by_cases hlt:k<7
  ·have hb:=bAt_mk ⟨#[97,98,116,110,118,102,114]⟩ k hlt
   have hb':bAt [97,98,116,110,118,102,114] k=bAt letters k:=rfl
   have hb0:=bAt_lo letters k
   have hb1:=bAt_hi letters k
   have Hs:=zq (among_snoc letters k c hlt)
   by_cases he:bAt letters k=c
   ·have Hr:=zq (une_at k hlt c he)
    have he':(bAt letters k==c)=true:=by simp [he]
    clear he
    go_wp2
    go_ret2
    exact ⟨ret_ib (by unfold uneV;rw [Hr.out];rfl) (by unfold uneOk;rw [Hr.out];rfl),rfl⟩
   ·have he':(bAt letters k==c)=false:=by simp [he]
    clear he
    go_wp2
    go_round
    case rel=>exact ⟨k+1,by omega,by go_num,by rw [Hs.out,Hf.out,he'];rfl⟩
    case measure=>simp [intOf];omega
  ·have Hr:=zq (une_no c (among_all letters k c (by show 7≤k;omega) Hf.out))
   go_wp2_with (go_at_call 183;refine (ref_among _ _ _ (by decide)).mono ?_;rintro e w' ⟨rfl,rfl⟩)
   all_goals
    go_ret2
    exact ⟨ret_ib (by unfold uneV;rw [Hr.out];grind) (by unfold uneOk;rw [Hr.out];grind),rfl⟩
theorem une_lib:∀n:Nat,n<256→(¬((n:Int)=92∨(n:Int)=39∨(n:Int)=34∨(n:Int)=96))→une n=if Lib.indexByte letters n.toUInt8<0 then none else some (7+Lib.indexByte letters n.toUInt8):=by decide +kernel
theorem une_lib' (c:Int) (h:isCh c=true) (h2:¬(c=92∨c=39∨c=34∨c=96)):une c=if Lib.indexByte letters c.toNat.toUInt8<0 then none else some (7+Lib.indexByte letters c.toNat.toUInt8):=by
 obtain ⟨h0,h1⟩:=(isCh_iff c).1 h
 obtain ⟨n,rfl⟩:=Int.eq_ofNat_of_zero_le h0
 exact une_lib n (by omega) h2
def lix (c:Int):Int:=Lib.indexByte letters c.toNat.toUInt8
theorem lix_hi:∀n:Nat,n<256→Lib.indexByte letters n.toUInt8≤6:=by decide +kernel
set_option maxHeartbeats 1000000 in
theorem chars_unescape (c:Int) (w:World) :
  Calls Tryz.prog 169 #[.int .i64 c] w fun e w'=>e=.returned (.tuple #[.int .i64 (uneV c),.bool (uneOk c)])∧w=w':=by
 by_cases hq:c=92∨c=39∨c=34∨c=96
 ·have HU:=zq (show une c=some c by unfold une;rw [if_pos hq])
  go_enter Tryz.func169,Tryz.ntmps169
  go_wp2
  all_goals (first | (exfalso;grind) | (go_ret2;exact ⟨ret_ib (by unfold uneV;rw [HU.out];rfl) (by unfold uneOk;rw [HU.out];rfl),rfl⟩))
 ·have q1:(c==92)=false:=by grind
  have q2:(c==39)=false:=by grind
  have q3:(c==34)=false:=by grind
  have q4:(c==96)=false:=by grind
  cases hc:isCh c
  ·have HU:=zq (show une c=none by have:=isCh_iff c;unfold une;grind)
   have HQ:=zq hq
   clear hq
   go_enter Tryz.func169,Tryz.ntmps169
   go_wp2_with (first | (go_at_call 84;refine (chars_is _ _).mono ?_;rintro e w' ⟨rfl,rfl⟩))
   go_ret2
   exact ⟨ret_ib (by unfold uneV;rw [HU.out];rfl) (by unfold uneOk;rw [HU.out];rfl),rfl⟩
  ·have HU:=zq (une_lib' c hc hq)
   obtain ⟨h0,h1⟩:=(isCh_iff c).1 hc
   have hl0:-1≤lix c:=Lib.indexByte_ge _ _
   have hl1:lix c≤6:=by
    obtain ⟨n,rfl⟩:=Int.eq_ofNat_of_zero_le h0
    exact lix_hi n (by omega)
   have HQ:=zq hq
   clear hq
   go_enter Tryz.func169,Tryz.ntmps169
   go_wp2_with (first | (go_at_call 84;refine (chars_is _ _).mono ?_;rintro e w' ⟨rfl,rfl⟩) | (go_at_call 137;refine (strings_indexByte _ _ _).mono ?_;rintro e w' ⟨rfl,rfl⟩;rw [show Lib.indexByte (ByteArray.mk #[97,98,116,110,118,102,114]).data.toList c.toNat.toUInt8=lix c from rfl]))
   all_goals
    go_ret2
    exact ⟨ret_ib (by unfold uneV;rw [HU.out];show _=(if lix c<0 then none else some (7+lix c)).getD 0;grind) (by unfold uneOk;rw [HU.out];show _=(if lix c<0 then none else some (7+lix c)).isSome;grind),rfl⟩
set_option maxHeartbeats 400000 in
theorem lex_digits (b:Nat) (s:ByteArray) (tab:Int→Int) (at_ i base:Int) (w:World) (h:Lex w b s tab at_) (h0:0≤i) :
  Calls Tryz.prog 131 #[.pointer (some ⟨b,0,none⟩),.int .i64 i,.int .i64 base] w fun e w'=>e=.returned (.int .i64 (i+span (isDig base) ((cvt tab s.data.toList).drop i.toNat)))∧Below w.heap.size w w':=by
 have HA:=(Below.refl w.heap.size w).alloc (Nat.le_refl _) (.cells #[.int .i64 base] 3)
 have L:=zq (h.below HA h.lt)
 clear h
 go_enter Tryz.func131,Tryz.ntmps131
 go_wp2_with fail
 refine (run_dig b s tab at_ i base w.heap.size _ L.out h0 (by simp) (by simp)).mono ?_;rintro e w1 ⟨rfl,hB⟩
 go_wp2_with fail
 go_ret
 exact ⟨ret_int rfl,HA.trans (hB.mono (by simp))⟩
theorem parse_ok (base:Int) (ds:List UInt8) (h:natOf base ds≤9223372036854775808):parseN base ds=-(natOf base ds:Int)∧parseE base ds=0:=by unfold parseN parseE;rw [if_pos h,if_pos h];exact ⟨rfl,rfl⟩
theorem parse_no (base:Int) (ds:List UInt8) (h:¬natOf base ds≤9223372036854775808):parseN base ds=0∧parseE base ds=10:=by unfold parseN parseE;rw [if_neg h,if_neg h];exact ⟨rfl,rfl⟩
set_option maxHeartbeats 800000 in
theorem lex_integer (b:Nat) (s:ByteArray) (tab:Int→Int) (p base end_:Int) (t:List UInt8) (w:World) (h:Lex w b s tab p) (hne:0<t.length) (hsz:t.length≤16384) (h0:2≤base) (h1:base≤36)
  (hok:∀k,k<t.length→dgt (bAt t k)<base) :
  Calls Tryz.prog 132 #[.pointer (some ⟨b,0,none⟩),.string ⟨t.toArray⟩,.int .i64 base,.int .i64 end_] w fun e w'=>Gives (intR base t p end_) e∧Below w.heap.size w w':=by
 have H0:=Held.start h
 have hlt:=h.lt
 have ca:=h.ca
 clear h
 have HOK:=zq hok
 clear hok
 by_cases hn:natOf base t≤9223372036854775808
 ·have HP:=zq (parse_ok base t hn)
  by_cases hm:natOf base t=9223372036854775808
  ·have HR:=zq (show intR base t p end_=⟨4,[],-9223372036854775808,p,end_,0⟩ by unfold intR;rw [if_pos hn,if_pos hm])
   have HM:=zq hm
   clear hn hm
   go_enter Tryz.func132,Tryz.ntmps132
   go_wp2_with fail
   refine (ints_parse _ base t _ (by simp) hne hsz h0 h1 HOK.out).mono ?_;rintro e w1 ⟨rfl,rfl⟩;rw [HP.out.1,HP.out.2,HM.out]
   go_wp2_with fail
   refine bodyPost_ret (v:=tokTup ⟨4,[],-9223372036854775808,p,end_,0⟩) (by simp [tokTup,results,Tryz.results132,go_sem]) rfl ⟨?_,(Below.refl _ _).alloc (Nat.le_refl _) _⟩
   rw [HR.out];rfl
  ·have HR:=zq (show intR base t p end_=⟨4,[],natOf base t,p,end_,0⟩ by unfold intR;rw [if_pos hn,if_neg hm])
   have hb1:((-(natOf base t:Int)) == -9223372036854775808)=false:=by simp;omega
   have hb2:((-(natOf base t:Int)) != -9223372036854775808)=true:=by simp;omega
   have hn':(natOf base t:Int)≤9223372036854775807:=by omega
   clear hm
   generalize hN:natOf base t=N at *
   have HN:=zq hN
   clear hN
   go_enter Tryz.func132,Tryz.ntmps132
   go_wp2_with fail
   refine (ints_parse _ base t _ (by simp) hne hsz h0 h1 HOK.out).mono ?_;rintro e w1 ⟨rfl,rfl⟩;rw [HP.out.1,HP.out.2]
   go_wp2_with fail
   refine bodyPost_ret (v:=tokTup ⟨4,[],(N:Int),p,end_,0⟩) (by simp [tokTup,results,Tryz.results132,go_sem]) rfl ⟨?_,(Below.refl _ _).alloc (Nat.le_refl _) _⟩
   rw [HR.out];rfl
 ·have HP:=zq (parse_no base t hn)
  have HR:=zq (show intR base t p end_=errR 7 by unfold intR;rw [if_neg hn])
  clear hn
  go_enter Tryz.func132,Tryz.ntmps132
  go_wp2_with fail
  refine (ints_parse _ base t _ (by simp) hne hsz h0 h1 HOK.out).mono ?_;rintro e w1 ⟨rfl,rfl⟩;rw [HP.out.1,HP.out.2]
  go_wp2_with fail
  refine bodyPost_ret (v:=tokTup (errR 7)) (by simp [tokTup,errR,results,Tryz.results132,go_sem]) rfl ⟨?_,(Below.refl _ _).alloc (Nat.le_refl _) _⟩
  rw [HR.out];rfl
def QRes (r:Option (Int×Nat)) (i:Int) (e:Ending):Prop :=
 match r with
 | some (c,k)=>e=.returned (.tuple #[.int .i64 c,.int .i64 (i+k),.bool true])
 | none=>∃c n,e=.returned (.tuple #[.int .i64 c,.int .i64 n,.bool false])
theorem QRes.no {r:Option (Int×Nat)} {i c n:Int} (h:r=none):QRes r i (.returned (.tuple #[.int .i64 c,.int .i64 n,.bool false])):=by subst h;exact ⟨c,n,rfl⟩
theorem QRes.yes {r:Option (Int×Nat)} {i c n:Int} {k:Nat} (h:r=some (c,k)) (hn:n=i+k):QRes r i (.returned (.tuple #[.int .i64 c,.int .i64 n,.bool true])):=by subst h;subst hn;rfl
set_option maxHeartbeats 1600000 in
theorem lex_quoted (b:Nat) (s:ByteArray) (tab:Int→Int) (at_ i q:Int) (w:World) (h:Lex w b s tab at_) (h0:0≤i) (hi:i≤20000) :
  Calls Tryz.prog 130 #[.pointer (some ⟨b,0,none⟩),.int .i64 i,.int .i64 q] w fun e w'=>QRes (quotedS (s.data.toList.drop i.toNat) q) i e∧w=w':=by
 obtain ⟨k,rfl⟩:=Int.eq_ofNat_of_zero_le h0
 have L:=zq h
 clear h
 rw [Int.toNat_natCast]
 have r0:rawAt (s.data.toList.drop k) 0=rawAt s.data.toList k:=by rw [rawAt_drop,Nat.add_zero]
 have r1:rawAt (s.data.toList.drop k) 1=rawAt s.data.toList (k+1):=rawAt_drop _ _ _
 have R0:=zq r0
 have R1:=zq r1
 clear r0 r1
 generalize hM:s.data.toList=M at *
 have HM:=zq hM
 clear hM
 by_cases a1:rawAt M k<0∨rawAt M k=10
 ·have HQ:=zq (show quotedS (M.drop k) q=none by unfold quotedS;rw [R0.out,if_pos a1])
  have hd:decide (rawAt M k<0)=true∨(decide (rawAt M k<0)=false∧(rawAt M k==10)=true):=by grind
  clear a1
  rcases hd with d1 | ⟨d1,d2⟩
  all_goals
   go_enter Tryz.func130,Tryz.ntmps130
   go_wp2_with fail
   refine (lex_raw _ _ _ _ _ _ L.out (by omega)).mono ?_;rintro e w1 ⟨rfl,rfl⟩;rw [Int.toNat_natCast,HM.out]
   go_wp2_with fail
   go_ret3
   exact ⟨QRes.no HQ.out,rfl⟩
 have d1:decide (rawAt M k<0)=false:=by simp;omega
 have d2:(rawAt M k==10)=false:=by simp;omega
 by_cases a2:rawAt M k=q
 ·have b2:(rawAt M k==q)=true:=by simp [a2]
  have A1:=zq a1
  have A2:=zq a2
  clear a1 a2
  by_cases a3:rawAt M (k+1)=q
  ·have b3:(rawAt M (k+1)==q)=true:=by simp [a3]
   have HQ:=zq (show quotedS (M.drop k) q=some (q,2) by unfold quotedS;rw [R0.out,R1.out,if_neg A1.out,if_pos A2.out,if_pos a3])
   clear a3
   go_enter Tryz.func130,Tryz.ntmps130
   go_wp2_with fail
   refine (lex_raw _ _ _ _ _ _ L.out (by omega)).mono ?_;rintro e w1 ⟨rfl,rfl⟩;rw [Int.toNat_natCast,HM.out]
   go_wp2_with fail
   refine (lex_raw _ _ _ _ _ _ L.out (by omega)).mono ?_;rintro e w1 ⟨rfl,rfl⟩;rw [show ((k:Int)+1).toNat=k+1 by omega,HM.out]
   go_wp2_with fail
   go_ret3
   exact ⟨QRes.yes (HQ.out.trans (by rw [A2.out])) rfl,rfl⟩
  ·have b3:(rawAt M (k+1)==q)=false:=by simp [a3]
   have HQ:=zq (show quotedS (M.drop k) q=none by unfold quotedS;rw [R0.out,R1.out,if_neg A1.out,if_pos A2.out,if_neg a3])
   clear a3
   go_enter Tryz.func130,Tryz.ntmps130
   go_wp2_with fail
   refine (lex_raw _ _ _ _ _ _ L.out (by omega)).mono ?_;rintro e w1 ⟨rfl,rfl⟩;rw [Int.toNat_natCast,HM.out]
   go_wp2_with fail
   refine (lex_raw _ _ _ _ _ _ L.out (by omega)).mono ?_;rintro e w1 ⟨rfl,rfl⟩;rw [show ((k:Int)+1).toNat=k+1 by omega,HM.out]
   go_wp2_with fail
   go_ret3
   exact ⟨QRes.no HQ.out,rfl⟩
 have b2:(rawAt M k==q)=false:=by simp [a2]
 by_cases a3:rawAt M k=92
 ·have b3:(rawAt M k != 92)=false:=by simp [a3]
  have A1:=zq a1
  have A2:=zq a2
  have A3:=zq a3
  clear a1 a2 a3
  cases a4:uneOk (rawAt M (k+1))
  ·have A4:=zq a4
   clear a4
   have HF:∃fr:Nat,∃bs:Int,Hid (escFrom (M.drop k)=fr)∧Hid (escBase (M.drop k)=bs)∧(((rawAt M (k+1)==120)=true∧fr=2∧bs=16)∨((rawAt M (k+1)==120)=false∧fr=1∧bs=8)):=by
    refine ⟨_,_,rfl,rfl,?_⟩
    unfold escFrom escBase;rw [R1.out]
    by_cases h:rawAt M (k+1)=120 <;> simp [h]
   obtain ⟨fr,bs,HFr,HBs,hcs⟩:=HF
   have hbs:2≤bs∧bs≤36:=by omega
   have hfr:1≤fr∧fr≤2:=by omega
   have HD:Hid (escLen (M.drop k)=span (isDig bs) (M.drop (k+fr))):=by show _=_;unfold escLen;rw [HFr.out,HBs.out,List.drop_drop]
   have HNm:Hid (escNum (M.drop k)=natOf bs ((M.drop (k+fr)).take (span (isDig bs) (M.drop (k+fr))))):=by show _=_;unfold escNum;rw [HD.out,HFr.out,HBs.out,List.drop_drop]
   have HX:Hid (∀j,rawAt (M.drop k) (fr+j)=rawAt M (k+fr+j)):=fun j=>by rw [rawAt_drop,Nat.add_assoc]
   generalize hDl:span (isDig bs) (M.drop (k+fr))=D at *
   have HDl:=zq hDl
   clear hDl
   have Q0:Hid (rawAt (M.drop k) 0=92):=R0.out.trans A3.out
   have Q1:Hid (¬rawAt (M.drop k) 0=q):=fun h=>A2.out (R0.out.symm.trans h)
   have Q2:Hid (uneOk (rawAt (M.drop k) 1)=false):=by show _=_;rw [R1.out];exact A4.out
   have HDle:D≤20000:=by
    have h1:=span_le (isDig bs) (M.drop (k+fr));rw [HDl.out] at h1
    have h2:M.length≤16384:=by rw [←HM.out];have:=L.out.sz;simp;omega
    have h3:(M.drop (k+fr)).length≤M.length:=by simp
    omega
   rcases hcs with ⟨x1,rfl,rfl⟩ | ⟨x1,rfl,rfl⟩
   ·have HX0:=HX
    clear HX
    go_enter Tryz.func130,Tryz.ntmps130
    go_wp2_with fail
    refine (lex_raw _ _ _ _ _ _ L.out (by omega)).mono ?_;rintro e w1 ⟨rfl,rfl⟩;rw [Int.toNat_natCast,HM.out]
    go_wp2_with fail
    refine (lex_raw _ _ _ _ _ _ L.out (by omega)).mono ?_;rintro e w1 ⟨rfl,rfl⟩;rw [show ((k:Int)+1).toNat=k+1 by omega,HM.out]
    go_wp2_with fail
    refine (chars_unescape _ _).mono ?_;rintro e w1 ⟨rfl,rfl⟩;rw [A4.out]
    go_wp2_with fail
    go_loop [14,15] (fun n e=>∃j:Nat,j≤D∧e=.int .i64 (k+2+j:Nat)∧n=.int .i64 (natOf 16 ((M.drop (k+2)).take j))∧natOf 16 ((M.drop (k+2)).take j)≤5000) (fun _ e=>k+2+D-(intOf e).toNat)
    case atStart=>exact ⟨0,Nat.zero_le _,by go_num,rfl,by simp [natOf]⟩
    case round=>
     obtain ⟨j,hj,rfl,rfl,hn⟩:=hrel
     have HMn:=zq (natOf_mono 16 (by decide) ((M.drop (k+2)).take D) j)
     have HTk:=zq (show ((M.drop (k+2)).take D).take j=(M.drop (k+2)).take j by rw [List.take_take,Nat.min_eq_left hj])
     by_cases hlt:j<D
     ·have HSt:=zq (natOf_step 16 (by decide) (by decide) (M.drop (k+2)) j (by rw [HDl.out];exact hlt))
      have HR:=zq (rawAt_drop M (k+2) j)
      have HOk:=zq ((span_rest (isDig 16) (M.drop (k+2)) j (by rw [HDl.out];exact hlt)).1)
      rw [HR.out] at HSt HOk
      have hd0:=HSt.out.2.1
      have hd1:=HSt.out.2.2
      have HS1:=zq HSt.out.1
      clear HSt
      by_cases hbig:natOf 16 ((M.drop (k+2)).take j)≤255
      ·generalize hN:natOf 16 ((M.drop (k+2)).take j)=N at *
       have HN:=zq hN
       clear hN
       go_wp2_with fail
       refine (lex_raw _ _ _ _ _ _ L.out (by omega)).mono ?_;rintro e w1 ⟨rfl,rfl⟩;rw [show ((k:Int)+2+j).toNat=k+2+j by omega,HM.out]
       go_wp2_with fail
       refine (chars_digit _ _ _).mono ?_;rintro e w1 ⟨rfl,rfl⟩;rw [show digOk (rawAt M (k+2+j)) 16=true from HOk.out]
       generalize hV:digV (rawAt M (k+2+j)) 16=V at *
       have HV:=zq hV
       clear hV
       go_wp2_with fail
       go_round
       case rel=>exact ⟨j+1,by omega,by go_num,congrArg (Value.int IntKind.i64) HS1.out.symm,by have:=HS1.out;omega⟩
       case measure=>simp [intOf];omega
      ·have HQ:=zq (esc_none1 (M.drop k) q Q0.out Q1.out Q2.out (fun hx=>hbig (by
        have h1:=hx.2.1
        rw [HNm.out] at h1
        have h2:=HMn.out
        rw [HTk.out] at h2
        omega)))
       have hj0:0<j:=by
        rcases Nat.eq_zero_or_pos j with h | h
        ·subst h;exact absurd (by simp [natOf]) hbig
        ·exact h
       generalize hN:natOf 16 ((M.drop (k+2)).take j)=N at *
       have HN:=zq hN
       clear hN
       go_wp2_with fail
       refine (lex_raw _ _ _ _ _ _ L.out (by omega)).mono ?_;rintro e w1 ⟨rfl,rfl⟩;rw [show ((k:Int)+2+j).toNat=k+2+j by omega,HM.out]
       go_wp2_with fail
       refine (chars_digit _ _ _).mono ?_;rintro e w1 ⟨rfl,rfl⟩;rw [show digOk (rawAt M (k+2+j)) 16=true from HOk.out]
       go_wp2_with fail
       go_ret3
       exact ⟨QRes.no HQ.out,rfl⟩
     ·obtain rfl:j=D:=by omega
      have HOk:=zq (span_stop (isDig 16) (isDig_end 16) (M.drop (k+2)))
      rw [HDl.out,rawAt_drop] at HOk
      by_cases hj0:0<j
      ·by_cases hbig:natOf 16 ((M.drop (k+2)).take j)≤255
       ·have HXj:=HX0.out j
        by_cases hend:rawAt M (k+2+j)=92
        ·have hendb:(rawAt M (k+2+j)==92)=true:=by simp [hend]
         have HQ:=zq (esc_some1 (M.drop k) q Q0.out Q1.out Q2.out ⟨by rw [HD.out];exact hj0,by rw [HNm.out];exact hbig,by rw [HFr.out,HD.out,HXj,hend]⟩)
         have HXh:=zq HXj
         clear hend HXj
         generalize hN:natOf 16 ((M.drop (k+2)).take j)=N at *
         have HN:=zq hN
         clear hN
         go_wp2_with fail
         refine (lex_raw _ _ _ _ _ _ L.out (by omega)).mono ?_;rintro e w1 ⟨rfl,rfl⟩;rw [show ((k:Int)+2+j).toNat=k+2+j by omega,HM.out]
         go_wp2_with fail
         refine (chars_digit _ _ _).mono ?_;rintro e w1 ⟨rfl,rfl⟩;rw [show digOk (rawAt M (k+2+j)) 16=false from HOk.out]
         go_wp2_with fail
         refine (lex_raw _ _ _ _ _ _ L.out (by omega)).mono ?_;rintro e w1 ⟨rfl,rfl⟩;rw [show ((k:Int)+2+j).toNat=k+2+j by omega,HM.out]
         go_wp2_with fail
         go_ret3
         exact ⟨QRes.yes (HQ.out.trans (by rw [HNm.out,HFr.out,HD.out])) (by omega),rfl⟩
        ·have hendb:(rawAt M (k+2+j)==92)=false:=by simp [hend]
         have HQ:=zq (esc_none1 (M.drop k) q Q0.out Q1.out Q2.out (fun hx=>hend (by have:=hx.2.2;rw [HFr.out,HD.out,HXj] at this;exact this)))
         have HXh:=zq HXj
         clear hend HXj
         generalize hN:natOf 16 ((M.drop (k+2)).take j)=N at *
         have HN:=zq hN
         clear hN
         go_wp2_with fail
         refine (lex_raw _ _ _ _ _ _ L.out (by omega)).mono ?_;rintro e w1 ⟨rfl,rfl⟩;rw [show ((k:Int)+2+j).toNat=k+2+j by omega,HM.out]
         go_wp2_with fail
         refine (chars_digit _ _ _).mono ?_;rintro e w1 ⟨rfl,rfl⟩;rw [show digOk (rawAt M (k+2+j)) 16=false from HOk.out]
         go_wp2_with fail
         refine (lex_raw _ _ _ _ _ _ L.out (by omega)).mono ?_;rintro e w1 ⟨rfl,rfl⟩;rw [show ((k:Int)+2+j).toNat=k+2+j by omega,HM.out]
         go_wp2_with fail
         go_ret3
         exact ⟨QRes.no HQ.out,rfl⟩
       ·have HQ:=zq (esc_none1 (M.drop k) q Q0.out Q1.out Q2.out (fun hx=>hbig (by have h1:=hx.2.1;rw [HNm.out] at h1;exact h1)))
        generalize hN:natOf 16 ((M.drop (k+2)).take j)=N at *
        have HN:=zq hN
        clear hN
        go_wp2_with fail
        refine (lex_raw _ _ _ _ _ _ L.out (by omega)).mono ?_;rintro e w1 ⟨rfl,rfl⟩;rw [show ((k:Int)+2+j).toNat=k+2+j by omega,HM.out]
        go_wp2_with fail
        refine (chars_digit _ _ _).mono ?_;rintro e w1 ⟨rfl,rfl⟩;rw [show digOk (rawAt M (k+2+j)) 16=false from HOk.out]
        go_wp2_with fail
        go_ret3
        exact ⟨QRes.no HQ.out,rfl⟩
      ·have HQ:=zq (esc_none1 (M.drop k) q Q0.out Q1.out Q2.out (fun hx=>hj0 (by have h1:=hx.1;rw [HD.out] at h1;exact h1)))
       generalize hN:natOf 16 ((M.drop (k+2)).take j)=N at *
       have HN:=zq hN
       clear hN
       go_wp2_with fail
       refine (lex_raw _ _ _ _ _ _ L.out (by omega)).mono ?_;rintro e w1 ⟨rfl,rfl⟩;rw [show ((k:Int)+2+j).toNat=k+2+j by omega,HM.out]
       go_wp2_with fail
       refine (chars_digit _ _ _).mono ?_;rintro e w1 ⟨rfl,rfl⟩;rw [show digOk (rawAt M (k+2+j)) 16=false from HOk.out]
       go_wp2_with fail
       go_ret3
       exact ⟨QRes.no HQ.out,rfl⟩
   ·have HX0:=HX
    clear HX
    go_enter Tryz.func130,Tryz.ntmps130
    go_wp2_with fail
    refine (lex_raw _ _ _ _ _ _ L.out (by omega)).mono ?_;rintro e w1 ⟨rfl,rfl⟩;rw [Int.toNat_natCast,HM.out]
    go_wp2_with fail
    refine (lex_raw _ _ _ _ _ _ L.out (by omega)).mono ?_;rintro e w1 ⟨rfl,rfl⟩;rw [show ((k:Int)+1).toNat=k+1 by omega,HM.out]
    go_wp2_with fail
    refine (chars_unescape _ _).mono ?_;rintro e w1 ⟨rfl,rfl⟩;rw [A4.out]
    go_wp2_with fail
    go_loop [14,15] (fun n e=>∃j:Nat,j≤D∧e=.int .i64 (k+1+j:Nat)∧n=.int .i64 (natOf 8 ((M.drop (k+1)).take j))∧natOf 8 ((M.drop (k+1)).take j)≤5000) (fun _ e=>k+1+D-(intOf e).toNat)
    case atStart=>exact ⟨0,Nat.zero_le _,by go_num,rfl,by simp [natOf]⟩
    case round=>
     obtain ⟨j,hj,rfl,rfl,hn⟩:=hrel
     have HMn:=zq (natOf_mono 8 (by decide) ((M.drop (k+1)).take D) j)
     have HTk:=zq (show ((M.drop (k+1)).take D).take j=(M.drop (k+1)).take j by rw [List.take_take,Nat.min_eq_left hj])
     by_cases hlt:j<D
     ·have HSt:=zq (natOf_step 8 (by decide) (by decide) (M.drop (k+1)) j (by rw [HDl.out];exact hlt))
      have HR:=zq (rawAt_drop M (k+1) j)
      have HOk:=zq ((span_rest (isDig 8) (M.drop (k+1)) j (by rw [HDl.out];exact hlt)).1)
      rw [HR.out] at HSt HOk
      have hd0:=HSt.out.2.1
      have hd1:=HSt.out.2.2
      have HS1:=zq HSt.out.1
      clear HSt
      by_cases hbig:natOf 8 ((M.drop (k+1)).take j)≤255
      ·generalize hN:natOf 8 ((M.drop (k+1)).take j)=N at *
       have HN:=zq hN
       clear hN
       go_wp2_with fail
       refine (lex_raw _ _ _ _ _ _ L.out (by omega)).mono ?_;rintro e w1 ⟨rfl,rfl⟩;rw [show ((k:Int)+1+j).toNat=k+1+j by omega,HM.out]
       go_wp2_with fail
       refine (chars_digit _ _ _).mono ?_;rintro e w1 ⟨rfl,rfl⟩;rw [show digOk (rawAt M (k+1+j)) 8=true from HOk.out]
       generalize hV:digV (rawAt M (k+1+j)) 8=V at *
       have HV:=zq hV
       clear hV
       go_wp2_with fail
       go_round
       case rel=>exact ⟨j+1,by omega,by go_num,congrArg (Value.int IntKind.i64) HS1.out.symm,by have:=HS1.out;omega⟩
       case measure=>simp [intOf];omega
      ·have HQ:=zq (esc_none1 (M.drop k) q Q0.out Q1.out Q2.out (fun hx=>hbig (by
        have h1:=hx.2.1
        rw [HNm.out] at h1
        have h2:=HMn.out
        rw [HTk.out] at h2
        omega)))
       have hj0:0<j:=by
        rcases Nat.eq_zero_or_pos j with h | h
        ·subst h;exact absurd (by simp [natOf]) hbig
        ·exact h
       generalize hN:natOf 8 ((M.drop (k+1)).take j)=N at *
       have HN:=zq hN
       clear hN
       go_wp2_with fail
       refine (lex_raw _ _ _ _ _ _ L.out (by omega)).mono ?_;rintro e w1 ⟨rfl,rfl⟩;rw [show ((k:Int)+1+j).toNat=k+1+j by omega,HM.out]
       go_wp2_with fail
       refine (chars_digit _ _ _).mono ?_;rintro e w1 ⟨rfl,rfl⟩;rw [show digOk (rawAt M (k+1+j)) 8=true from HOk.out]
       go_wp2_with fail
       go_ret3
       exact ⟨QRes.no HQ.out,rfl⟩
     ·obtain rfl:j=D:=by omega
      have HOk:=zq (span_stop (isDig 8) (isDig_end 8) (M.drop (k+1)))
      rw [HDl.out,rawAt_drop] at HOk
      by_cases hj0:0<j
      ·by_cases hbig:natOf 8 ((M.drop (k+1)).take j)≤255
       ·have HXj:=HX0.out j
        by_cases hend:rawAt M (k+1+j)=92
        ·have hendb:(rawAt M (k+1+j)==92)=true:=by simp [hend]
         have HQ:=zq (esc_some1 (M.drop k) q Q0.out Q1.out Q2.out ⟨by rw [HD.out];exact hj0,by rw [HNm.out];exact hbig,by rw [HFr.out,HD.out,HXj,hend]⟩)
         have HXh:=zq HXj
         clear hend HXj
         generalize hN:natOf 8 ((M.drop (k+1)).take j)=N at *
         have HN:=zq hN
         clear hN
         go_wp2_with fail
         refine (lex_raw _ _ _ _ _ _ L.out (by omega)).mono ?_;rintro e w1 ⟨rfl,rfl⟩;rw [show ((k:Int)+1+j).toNat=k+1+j by omega,HM.out]
         go_wp2_with fail
         refine (chars_digit _ _ _).mono ?_;rintro e w1 ⟨rfl,rfl⟩;rw [show digOk (rawAt M (k+1+j)) 8=false from HOk.out]
         go_wp2_with fail
         refine (lex_raw _ _ _ _ _ _ L.out (by omega)).mono ?_;rintro e w1 ⟨rfl,rfl⟩;rw [show ((k:Int)+1+j).toNat=k+1+j by omega,HM.out]
         go_wp2_with fail
         go_ret3
         exact ⟨QRes.yes (HQ.out.trans (by rw [HNm.out,HFr.out,HD.out])) (by omega),rfl⟩
        ·have hendb:(rawAt M (k+1+j)==92)=false:=by simp [hend]
         have HQ:=zq (esc_none1 (M.drop k) q Q0.out Q1.out Q2.out (fun hx=>hend (by have:=hx.2.2;rw [HFr.out,HD.out,HXj] at this;exact this)))
         have HXh:=zq HXj
         clear hend HXj
         generalize hN:natOf 8 ((M.drop (k+1)).take j)=N at *
         have HN:=zq hN
         clear hN
         go_wp2_with fail
         refine (lex_raw _ _ _ _ _ _ L.out (by omega)).mono ?_;rintro e w1 ⟨rfl,rfl⟩;rw [show ((k:Int)+1+j).toNat=k+1+j by omega,HM.out]
         go_wp2_with fail
         refine (chars_digit _ _ _).mono ?_;rintro e w1 ⟨rfl,rfl⟩;rw [show digOk (rawAt M (k+1+j)) 8=false from HOk.out]
         go_wp2_with fail
         refine (lex_raw _ _ _ _ _ _ L.out (by omega)).mono ?_;rintro e w1 ⟨rfl,rfl⟩;rw [show ((k:Int)+1+j).toNat=k+1+j by omega,HM.out]
         go_wp2_with fail
         go_ret3
         exact ⟨QRes.no HQ.out,rfl⟩
       ·have HQ:=zq (esc_none1 (M.drop k) q Q0.out Q1.out Q2.out (fun hx=>hbig (by have h1:=hx.2.1;rw [HNm.out] at h1;exact h1)))
        generalize hN:natOf 8 ((M.drop (k+1)).take j)=N at *
        have HN:=zq hN
        clear hN
        go_wp2_with fail
        refine (lex_raw _ _ _ _ _ _ L.out (by omega)).mono ?_;rintro e w1 ⟨rfl,rfl⟩;rw [show ((k:Int)+1+j).toNat=k+1+j by omega,HM.out]
        go_wp2_with fail
        refine (chars_digit _ _ _).mono ?_;rintro e w1 ⟨rfl,rfl⟩;rw [show digOk (rawAt M (k+1+j)) 8=false from HOk.out]
        go_wp2_with fail
        go_ret3
        exact ⟨QRes.no HQ.out,rfl⟩
      ·have HQ:=zq (esc_none1 (M.drop k) q Q0.out Q1.out Q2.out (fun hx=>hj0 (by have h1:=hx.1;rw [HD.out] at h1;exact h1)))
       generalize hN:natOf 8 ((M.drop (k+1)).take j)=N at *
       have HN:=zq hN
       clear hN
       go_wp2_with fail
       refine (lex_raw _ _ _ _ _ _ L.out (by omega)).mono ?_;rintro e w1 ⟨rfl,rfl⟩;rw [show ((k:Int)+1+j).toNat=k+1+j by omega,HM.out]
       go_wp2_with fail
       refine (chars_digit _ _ _).mono ?_;rintro e w1 ⟨rfl,rfl⟩;rw [show digOk (rawAt M (k+1+j)) 8=false from HOk.out]
       go_wp2_with fail
       go_ret3
       exact ⟨QRes.no HQ.out,rfl⟩
  ·have A4:=zq a4
   have HQ:=zq (show quotedS (M.drop k) q=some (uneV (rawAt M (k+1)),2) by unfold quotedS;rw [R0.out,R1.out,if_neg A1.out,if_neg A2.out,if_neg (fun h=>h A3.out),if_pos a4])
   clear a4
   go_enter Tryz.func130,Tryz.ntmps130
   go_wp2_with fail
   refine (lex_raw _ _ _ _ _ _ L.out (by omega)).mono ?_;rintro e w1 ⟨rfl,rfl⟩;rw [Int.toNat_natCast,HM.out]
   go_wp2_with fail
   refine (lex_raw _ _ _ _ _ _ L.out (by omega)).mono ?_;rintro e w1 ⟨rfl,rfl⟩;rw [show ((k:Int)+1).toNat=k+1 by omega,HM.out]
   go_wp2_with fail
   refine (chars_unescape _ _).mono ?_;rintro e w1 ⟨rfl,rfl⟩;rw [A4.out]
   go_wp2_with fail
   go_ret3
   exact ⟨QRes.yes HQ.out rfl,rfl⟩
 ·have b3:(rawAt M k != 92)=true:=by simp [a3]
  have HQ:=zq (show quotedS (M.drop k) q=some (rawAt M k,1) by unfold quotedS;rw [R0.out,if_neg a1,if_neg a2,if_pos a3])
  clear a1 a2 a3
  go_enter Tryz.func130,Tryz.ntmps130
  go_wp2_with fail
  refine (lex_raw _ _ _ _ _ _ L.out (by omega)).mono ?_;rintro e w1 ⟨rfl,rfl⟩;rw [Int.toNat_natCast,HM.out]
  go_wp2_with fail
  go_ret3
  exact ⟨QRes.yes HQ.out rfl,rfl⟩
end Go.Proofs.YtbojljpldcijgaaGreat
