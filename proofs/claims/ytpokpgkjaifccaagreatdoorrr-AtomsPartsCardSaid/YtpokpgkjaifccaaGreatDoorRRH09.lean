/- Parts of the proof. -/
import Derived.Test.YtpokpgkjaifccaaGreatDoorRRH03
import Derived.Test.YtpokpgkjaifccaaGreatDoorRRProg
import Derived.Test.YtpokpgkjaifccaaGreatDoorRRH01
import Derived.Lib.Bytealg
import Derived.Test.YtpokpgkjaifccaaGreatDoorRRH08
import Derived.Test.YtpokpgkjaifccaaGreatDoorRRH07
import Derived.Test.YtpokpgkjaifccaaGreatDoorRRH04
import Derived.Lib.BufferMore
import Derived.Test.YtpokpgkjaifccaaGreatDoorRRH02
import Derived.Shelf.Small.Strs
import Derived.Shelf.Strconv.Itoa0
import Derived.Shelf.Strconv.Itoa1
import Derived.Shelf.LaysM
import Derived.Shelf.Strconv.Itoa2
import Derived.Shelf.Strconv.Itoa3
import Derived.Shelf.Strconv.Itoa4
import Derived.Shelf.Strings.Search1
import Derived.Lib.SlicesS
import Derived.Shelf.SlSortCmp.QuietGrown
namespace Hb
open Go Go.RowKit
def atomT (s:ByteArray):Tm:=.mk 2 0 s []
def intT (n:Int):Tm:=.mk 1 n ⟨#[]⟩ []
end Hb
namespace Go.Proofs.YtpokpgkjaifccaaGreatDoorRR
open Go.RowKit Hb
set_option maxHeartbeats 400000 in
theorem chars_is (c:Int) (w:World) :
  Calls Tryz.prog 121 #[.int .i64 c] w fun e w'=>e=.returned (.bool (isCh c))∧w=w':=by
 by_cases h1:0≤c
 ·go_enter Tryz.func121,Tryz.ntmps121
  go_wp2
  go_ret
  exact ⟨by simp [isCh,h1],rfl⟩
 ·go_enter Tryz.func121,Tryz.ntmps121
  go_wp2
  go_ret
  exact ⟨by simp [isCh];omega,rfl⟩
theorem call_indexByteString (s:ByteArray) (c:Int) (w:World):(callFunc 141 #[.string s,.int .u8 c]).run Tryz.prog w=.ok (.value (.int .i64 (Lib.indexByte s.data.toList c.toNat.toUInt8))) w:=by
 rw [run_callFunc_extern Tryz.func141 (by kernel_rfl) (by kernel_rfl) (by kernel_rfl) (e:=Extern.BytealgIndexByte.indexByte) (by kernel_rfl),Lib.run_indexByteString]
 rfl
set_option maxHeartbeats 400000 in
theorem lite_indexByte (s:ByteArray) (c:Int) (w:World) :
  Calls Tryz.prog 139 #[.string s,.int .u8 c] w fun e w'=>e=.returned (.int .i64 (Lib.indexByte s.data.toList c.toNat.toUInt8))∧w=w':=by
 have hx:=call_indexByteString s c
 go_enter Tryz.func139,Tryz.ntmps139
 go_wp2
 go_ret
 exact ⟨rfl,rfl⟩
set_option maxHeartbeats 400000 in
theorem strings_indexByte (s:ByteArray) (c:Int) (w:World) :
  Calls Tryz.prog 134 #[.string s,.int .u8 c] w fun e w'=>e=.returned (.int .i64 (Lib.indexByte s.data.toList c.toNat.toUInt8))∧w=w':=by
 go_enter Tryz.func134,Tryz.ntmps134
 go_wp2_with (go_at_call 139;refine (lite_indexByte _ _ _).mono ?_;rintro e w' ⟨rfl,rfl⟩)
 go_ret
 exact ⟨rfl,rfl⟩
theorem indexByte_among (c:Int) (h0:0≤c) (h1:c≤255):∀l:List UInt8,decide (0≤Lib.indexByte l c.toNat.toUInt8)=among l c
 | []=>rfl
 | b::l=>by
  have ih:=indexByte_among c h0 h1 l
  have hge:=Lib.indexByte_ge l c.toNat.toUInt8
  have hb:(b==c.toNat.toUInt8)=((b.toNat:Int)==c):=by
   rw [Bool.eq_iff_iff,beq_iff_eq,beq_iff_eq]
   constructor
   ·rintro rfl;simp;omega
   ·intro h;subst h;simp
  unfold Lib.indexByte among
  rw [List.any_cons,hb]
  unfold among at ih
  rw [←ih]
  by_cases hc:((b.toNat:Int)==c)=true
  ·simp [hc]
  ·simp only [hc]
   by_cases hm:Lib.indexByte l c.toNat.toUInt8=-1
   ·simp [hm]
   ·have:(Lib.indexByte l c.toNat.toUInt8 == -1)=false:=by simp [hm]
    simp only [this,Bool.false_eq_true,if_false,Bool.false_or]
    rw [decide_eq_decide];omega
set_option maxHeartbeats 400000 in
theorem class_closure (k c:Int) (s:ByteArray) (b o:Nat) (w:World) (hb:b<w.heap.size) (hp:w.cell? ⟨b,o,none⟩=some (.int .i64 c)) (h0:0≤c) (h1:c≤255) :
  Calls Tryz.prog 133 #[.agg #[.int .i64 k,.string s],.pointer (some ⟨b,o,none⟩)] w fun e w'=>e=.returned (.bool (among s.data.toList c))∧Below w.heap.size w w':=by
 have H:=zq (indexByte_among c h0 h1 s.data.toList)
 go_enter Tryz.func133,Tryz.ntmps133
 go_wp2_with (go_at_call 134;refine (strings_indexByte _ _ _).mono ?_;rintro e w' ⟨rfl,rfl⟩)
 go_ret
 exact ⟨ret_bool H.out,(Below.refl _ _).alloc (Nat.le_refl _) _⟩
end Go.Proofs.YtpokpgkjaifccaaGreatDoorRR
namespace Go.Proofs.YtpokpgkjaifccaaGreatDoorRR
open Go.RowKit Hb
set_option maxRecDepth 100000
theorem chars_is_of (c:Int) (b:Bool) (h:isCh c=b) (w:World) :
  Calls Tryz.prog 121 #[.int .i64 c] w fun e w'=>e=.returned (.bool b)∧w=w':=by subst h;exact chars_is c w
set_option maxHeartbeats 2000000 in
theorem chars_valid (A:Option Addr) (n cap:Nat) (l:List (Int×Int)) (w:World) (hn:n=l.length) (hm:n≤maxLen) (hp:Pairs w A l) :
  Calls Tryz.prog 111 #[.slice A n cap] w fun e w'=>e=.returned (.bool (pvalid l))∧Below w.heap.size w w':=by
 unfold maxLen at hm
 have HN:=zq hn
 clear hn
 have HP:=zq hp
 clear hp
 go_enter Tryz.func111,Tryz.ntmps111
 go_wp2
 go_loopw [7] (fun i wr=>∃k:Nat,k≤n∧i=.int .i64 k∧Below w.heap.size w wr∧Hid (∀j,j<k→okAt l j=true)) (fun i _=>n-(intOf i).toNat)
 case atStart=>exact ⟨0,Nat.zero_le _,rfl,Below.refl _ _,fun j hj=>absurd hj (by omega)⟩
 case round=>
  obtain ⟨k,hk,rfl,hB,HA⟩:=hrel
  by_cases hlt:k<n
  ·have hs:=hB.size
   have hkl:k<l.length:=by have:=HN.out;omega
   obtain ⟨b,off,rfl,hb,c1,c2⟩:=(HP.out.below hB) k hkl
   rw [prF_get _ _ hkl] at c1
   rw [prT_get _ _ hkl] at c2
   have Hno:=zq (pvalid_no l k hkl)
   cases q1:isCh (prF l k)
   ·have Q1:=zq q1
    have Hf:=zq (okAt_1 l k q1)
    clear q1
    go_wp2
    go_quiet ((go_at_call 121;first | with_reducible exact quiet0 (chars_is_of _ _ Q1.out _) | with_reducible exact quiet0 (chars_is_of _ _ Q2.out _)))
    go_wp2
    go_ret
    exact ⟨ret_bool (Hno.out Hf.out).symm,bl_drewN (hB.alloc (by omega) _) _⟩
   have Q1:=zq q1
   clear q1
   cases q2:isCh (prT l k)
   ·have Q2:=zq q2
    have Hf:=zq (okAt_2 l k Q1.out q2)
    clear q2
    go_wp2
    go_quiet ((go_at_call 121;first | with_reducible exact quiet0 (chars_is_of _ _ Q1.out _) | with_reducible exact quiet0 (chars_is_of _ _ Q2.out _)))
    go_wp2
    go_ret
    exact ⟨ret_bool (Hno.out Hf.out).symm,bl_drewN (hB.alloc (by omega) _) _⟩
   have Q2:=zq q2
   clear q2
   cases q3:(prF l k==prT l k)
   ·by_cases h0:0<k
    ·obtain ⟨b',off',e',_,c3,_⟩:=(HP.out.below hB) (k-1) (by omega)
     injection e' with e'
     injection e' with e1 e2
     subst e1 e2
     rw [prF_get _ _ (by omega)] at c3
     by_cases q4:prF l (k-1)<prF l k
     ·have Hf:=zq (okAt_5 l k Q1.out Q2.out q3 q4)
      go_wp2
      go_quiet ((go_at_call 121;first | with_reducible exact quiet0 (chars_is_of _ _ Q1.out _) | with_reducible exact quiet0 (chars_is_of _ _ Q2.out _)))
      go_wp2
      go_roundw
      case rel=>exact ⟨k+1,by omega,by go_num,bl_drewN (hB.alloc (by omega) _) _,fun j hj=>by
       rcases Nat.lt_or_ge j k with h | h
       ·exact HA.out j h
       ·have:j=k:=by omega
        subst this;exact Hf.out⟩
      case measure=>simp [intOf];omega
     ·have Hf:=zq (okAt_6 l k Q1.out Q2.out q3 h0 q4)
      go_wp2
      go_quiet ((go_at_call 121;first | with_reducible exact quiet0 (chars_is_of _ _ Q1.out _) | with_reducible exact quiet0 (chars_is_of _ _ Q2.out _)))
      go_wp2
      go_ret
      exact ⟨ret_bool (Hno.out Hf.out).symm,bl_drewN (hB.alloc (by omega) _) _⟩
    ·have Hf:=zq (okAt_4 l k (by omega) Q1.out Q2.out q3)
     have hd:decide ((0:Int)<(k:Int))=false:=by simp;omega
     go_wp2
     go_quiet ((go_at_call 121;first | with_reducible exact quiet0 (chars_is_of _ _ Q1.out _) | with_reducible exact quiet0 (chars_is_of _ _ Q2.out _)))
     go_wp2
     go_roundw
     case rel=>exact ⟨k+1,by omega,by go_num,bl_drewN (hB.alloc (by omega) _) _,fun j hj=>by
      rcases Nat.lt_or_ge j k with h | h
      ·exact HA.out j h
      ·have:j=k:=by omega
       subst this;exact Hf.out⟩
     case measure=>simp [intOf];omega
   ·have Hf:=zq (okAt_3 l k Q1.out Q2.out q3)
    go_wp2
    go_quiet ((go_at_call 121;first | with_reducible exact quiet0 (chars_is_of _ _ Q1.out _) | with_reducible exact quiet0 (chars_is_of _ _ Q2.out _)))
    go_wp2
    go_ret
    exact ⟨ret_bool (Hno.out Hf.out).symm,bl_drewN (hB.alloc (by omega) _) _⟩
  ·have HE:=zq (pvalid_all l (fun j hj=>HA.out j (by have:=HN.out;omega)))
   go_wp2
   go_ret
   exact ⟨ret_bool HE.out.symm,hB⟩
end Go.Proofs.YtpokpgkjaifccaaGreatDoorRR
namespace Hb
open Go Go.RowKit
theorem atomT_ok {s:ByteArray} (h:s.size≤100):validT (atomT s)=true:=(validT_iff _).2 ⟨by rw [Tm.nodes_eq];simp [atomT,Tm.args],by
 rw [Tm.allOk_eq]
 unfold nodeOk atomT Tm.kind Tm.num Tm.name Tm.args
 simp [h]⟩
theorem cloneT_yes {t:Tm} (h:validT t=true):cloneT t=t:=by unfold cloneT;rw [if_pos h]
end Hb
namespace Go.Proofs.YtpokpgkjaifccaaGreatDoorRR
open Go.RowKit Hb
set_option maxRecDepth 100000
set_option maxHeartbeats 1600000 in
theorem t_atom (s:ByteArray) (h:s.size≤100) (w:World) :
  Calls Tryz.prog 75 #[.string s] w fun e w'=>∃A' cap',e=.returned (tmV (atomT s) A' cap')∧Below w.heap.size w w':=by
 have hX0:=R4.start (w0:=w) (w:=w) (Below.refl _ _) (.int .i64 0) (.int .i64 0) (.string ⟨#[]⟩) (.slice none 0 0) 32
 have HX:=zq hX0
 have HC:=zq (fun (W:World)=>t_clone (atomT s) none 0 W TmsK.nil)
 rw [cloneT_yes (atomT_ok h)] at HC
 have HE:Hid (∀(A':Option Addr) (c':Nat),tmV (atomT s) A' c'=.agg #[.int .i64 2,.int .i64 0,.string s,.slice A' 0 c']):=zq (fun _ _=>rfl)
 clear hX0
 go_enter Tryz.func75,Tryz.ntmps75
 go_wp2_with fail
 refine (HC.out _).mono ?_;rintro e w2 ⟨A2,n2,rfl,hB2,hN⟩
 rw [HE.out]
 have hX2:=HX.out.call hB2
 obtain ⟨v0,r0⟩:=hX2.r0
 obtain ⟨v1,r1⟩:=hX2.r1
 obtain ⟨v2,r2⟩:=hX2.r2
 obtain ⟨v3,r3⟩:=hX2.r3
 have f0:=hX2.fr 0
 have f1:=hX2.fr 1
 have f2:=hX2.fr 2
 have f3:=hX2.fr 3
 have HP:=zq (hX2.put (.int .i64 2) (.int .i64 0) (.string s) (.slice A2 0 n2))
 clear hN
 go_wp2_with fail
 exact bodyPost_ret (v:=.agg #[.int .i64 2,.int .i64 0,.string s,.slice A2 0 n2]) (by simp [results,Tryz.results75,go_sem,r0,r1,r2,r3]) rfl ⟨A2,n2,rfl,HP.out⟩
theorem t_int (n:Int) (w:World):Calls Tryz.prog 70 #[.int .i64 n] w fun e w'=>e=.returned (.agg #[.int .i64 1,.int .i64 n,.string ⟨#[]⟩,.slice none 0 0])∧Below w.heap.size w w':=by
 have hB:=(Below.refl w.heap.size w).alloc (Nat.le_refl _) (.cells #[.int .i64 1,.int .i64 n,.string ⟨#[]⟩,.slice none 0 0] 32)
 go_enter Tryz.func70,Tryz.ntmps70
 go_wp2_with fail
 exact bodyPost_ret (v:=.agg #[.int .i64 1,.int .i64 n,.string ⟨#[]⟩,.slice none 0 0]) (by simp [results,Tryz.results70,go_sem]) rfl ⟨rfl,hB⟩
end Go.Proofs.YtpokpgkjaifccaaGreatDoorRR
namespace Go.Proofs
open Go.Shelf
def Tryz.laysM173_ren:Go.Shelf.Ren:=⟨fun | 173=>22 | 246=>36 | 283=>58 | 284=>59 | 285=>60 | 286=>61 | 129=>86 | 317=>85 | 318=>87 | 319=>88 | 320=>89 | 337=>103 | 338=>104 | n=>n,fun | 2=>2 | 3=>3 | 9=>9 | 4=>4 | 171=>76 | 0=>0 | 53=>77 | 37=>44 | 5=>5 | 173=>80 | 212=>93 | 51=>94 | 20=>20 | 213=>95 | 46=>97 | 232=>118 | 233=>119 | n=>n,fun | 17=>0 | 18=>1 | 19=>2 | n=>n⟩
theorem Tryz.laysM173:Go.Proofs.LaysM.n173 Tryz.prog Tryz.laysM173_ren:={
 mixed:=by kernel_rfl
 f129:=Tryz.func86.trans (congrArg some (by kernel_rfl))
 f173:=Tryz.func22.trans (congrArg some (by kernel_rfl))
 f246:=Tryz.func36.trans (congrArg some (by kernel_rfl))
 f283:=Tryz.func58.trans (congrArg some (by kernel_rfl))
 f284:=Tryz.func59.trans (congrArg some (by kernel_rfl))
 f285:=Tryz.func60.trans (congrArg some (by kernel_rfl))
 f286:=Tryz.func61.trans (congrArg some (by kernel_rfl))
 f317:=Tryz.func85.trans (congrArg some (by kernel_rfl))
 f318:=Tryz.func87.trans (congrArg some (by kernel_rfl))
 f319:=Tryz.func88.trans (congrArg some (by kernel_rfl))
 f320:=Tryz.func89.trans (congrArg some (by kernel_rfl))
 f337:=Tryz.func103.trans (congrArg some (by kernel_rfl))
 f338:=Tryz.func104.trans (congrArg some (by kernel_rfl))
 t0:=Tryz.underlying0
 a0:=Tryz.isAgg0
 z0:=Tryz.sizeOf0
 v0:=Tryz.zeroValue0
 t2:=Tryz.underlying2
 a2:=Tryz.isAgg2
 z2:=Tryz.sizeOf2
 v2:=Tryz.zeroValue2
 t3:=Tryz.underlying3
 a3:=Tryz.isAgg3
 z3:=Tryz.sizeOf3
 v3:=Tryz.zeroValue3
 t4:=Tryz.underlying4
 a4:=Tryz.isAgg4
 z4:=Tryz.sizeOf4
 v4:=Tryz.zeroValue4
 t5:=Tryz.underlying5
 a5:=Tryz.isAgg5
 z5:=Tryz.sizeOf5
 v5:=Tryz.zeroValue5
 t9:=Tryz.underlying9
 a9:=Tryz.isAgg9
 z9:=Tryz.sizeOf9
 v9:=Tryz.zeroValue9
 t20:=Tryz.underlying20
 a20:=Tryz.isAgg20
 z20:=Tryz.sizeOf20
 v20:=Tryz.zeroValue20
 t37:=Tryz.underlying44
 a37:=Tryz.isAgg44
 z37:=Tryz.sizeOf44
 v37:=Tryz.zeroValue44
 t46:=Tryz.underlying97
 a46:=Tryz.isAgg97
 z46:=Tryz.sizeOf97
 v46:=Tryz.zeroValue97
 t51:=Tryz.underlying94
 a51:=Tryz.isAgg94
 z51:=Tryz.sizeOf94
 v51:=Tryz.zeroValue94
 t53:=Tryz.underlying77
 a53:=Tryz.isAgg77
 z53:=Tryz.sizeOf77
 v53:=Tryz.zeroValue77
 t171:=Tryz.underlying76
 a171:=Tryz.isAgg76
 z171:=Tryz.sizeOf76
 v171:=Tryz.zeroValue76
 t173:=Tryz.underlying80
 a173:=Tryz.isAgg80
 z173:=Tryz.sizeOf80
 v173:=Tryz.zeroValue80
 t212:=Tryz.underlying93
 a212:=Tryz.isAgg93
 z212:=Tryz.sizeOf93
 v212:=Tryz.zeroValue93
 t213:=Tryz.underlying95
 a213:=Tryz.isAgg95
 z213:=Tryz.sizeOf95
 t232:=Tryz.underlying118
 a232:=Tryz.isAgg118
 z232:=Tryz.sizeOf118
 v232:=Tryz.zeroValue118
 t233:=Tryz.underlying119
 a233:=Tryz.isAgg119
 z233:=Tryz.sizeOf119
 v233:=Tryz.zeroValue119
 g17:=by kernel_rfl
 g18:=by kernel_rfl
 g19:=by kernel_rfl
 i0:=by kernel_rfl
 i2:=by kernel_rfl
 i3:=by kernel_rfl
 i4:=by kernel_rfl
 i5:=by kernel_rfl
 i9:=by kernel_rfl
 i20:=by kernel_rfl
 i37:=by kernel_rfl
 i46:=by kernel_rfl
 i51:=by kernel_rfl
 i53:=by kernel_rfl
 i171:=by kernel_rfl
 i173:=by kernel_rfl
 i212:=by kernel_rfl
 i232:=by kernel_rfl
 i233:=by kernel_rfl
 m17:=by kernel_rfl
 m18:=by kernel_rfl
 m19:=by kernel_rfl }
open Go.RowKit Go.Sort Go.Lib in
theorem Tryz.strconv_FormatInt_10 (n : Int) (h0 : -9223372036854775808 ≤ n) (h1 : n ≤ 9223372036854775807) (w : World) (htab : Lib.TabIs Tryz.prog w "internal/strconv.uint64pow10" .u64 Lib.pow10Tab) :
  Calls Tryz.prog 22 #[.int .i64 n,.int .i64 10] w fun e w'=>e=.returned (.string ⟨(Lib.itoa n).toArray⟩)∧∃k os,w'=grow (w.drewN k) os:=Any.strconv_FormatInt_10 Tryz.laysM173 n h0 h1 w htab
end Go.Proofs
