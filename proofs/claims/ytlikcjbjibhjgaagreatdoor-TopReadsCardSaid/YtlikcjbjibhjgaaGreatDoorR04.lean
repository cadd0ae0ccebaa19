/- Parts of the proof. -/
import Derived.Test.YtlikcjbjibhjgaaGreatDoorR01
import Derived.Shelf.Strings.Builder1
import Derived.Shelf.Small.Bits
import Derived.Shelf.Small.Strs
import Derived.Shelf.Small.Wraps
import Derived.Shelf.Strings.BuilderF
import Derived.Shelf.Strings.BuilderK
import Derived.Shelf.Strconv.Itoa0
import Derived.Shelf.Strconv.Itoa1
import Derived.Shelf.LaysM
import Derived.Shelf.Strconv.Itoa2
import Derived.Shelf.Strconv.Itoa3
import Derived.Shelf.Strconv.Itoa4
import Derived.Shelf.Strings.Search1
import Derived.Shelf.Strings.Prefix
import Derived.Shelf.Strings.BuilderCap
import Derived.Ground.Names2Prog
import Derived.Shelf.Slices.SearchI
import Derived.Test.YtlikcjbjibhjgaaGreatDoorProg
import Derived.Test.YtlikcjbjibhjgaaGreatDoorR03
import Derived.Laws.Strings
import Derived.LoopN
import Derived.Laws.IdiomStrings
import Derived.Laws.EntriesVeiled
set_option maxHeartbeats 12800000
set_option maxRecDepth 100000
open Go renaming Calls -> aJ, World -> ai, maxLen -> be, rounds_succ -> iy, run_convert_bytes_back -> iM
open Go.Ending renaming returned -> aw
open Go.IntKind renaming i64 -> ae
open Go.Lib renaming IsBuilder -> fy, indexByte -> dZ
open Go.Proofs.Tryz renaming prog -> ah, underlying106 -> bU, underlying3 -> dY, underlying4 -> it, underlying5 -> dF, underlying9 -> cE
open Go.RowKit renaming Below -> ax
open Go.RowKit.Below renaming refl -> aj
open Go.Value renaming bool -> am, int -> ab, pointer -> au, string -> aa, tuple -> aK
open Go.World renaming cell?_alloc_new -> aq
open Int renaming eq_ofNat_of_zero_le -> bJ
open List renaming append_assoc -> bj, getElem_mem -> aR, length_append -> aB, length_cons -> bo, length_take -> bM, take_of_length_le -> bA, take_succ_eq_append_getElem -> aO
open Nat renaming le_refl -> ag, zero_le -> bp
namespace Go.Proofs
open Go.Shelf
def Tryz.lays169_ren:Go.Shelf.Ren:=⟨fun | 169=>53 | n=>n,fun | 70=>105 | 9=>9 | 0=>0 | 72=>108 | 37=>106 | 127=>141 | 3=>3 | 5=>5 | n=>n,fun | n=>n⟩
theorem Tryz.lays169:Go.Proofs.Lays.n169 ah Tryz.lays169_ren:={
 mixed:=by kernel_rfl
 f169:=Tryz.func53.trans (congrArg some (by kernel_rfl))
 t0:=Tryz.underlying0
 a0:=Tryz.isAgg0
 z0:=Tryz.sizeOf0
 v0:=Tryz.zeroValue0
 t3:=dY
 a3:=Tryz.isAgg3
 z3:=Tryz.sizeOf3
 v3:=Tryz.zeroValue3
 t9:=cE
 a9:=Tryz.isAgg9
 z9:=Tryz.sizeOf9
 v9:=Tryz.zeroValue9
 t37:=bU
 a37:=Tryz.isAgg106
 z37:=Tryz.sizeOf106
 v37:=Tryz.zeroValue106
 t70:=Tryz.underlying105
 a70:=Tryz.isAgg105
 z70:=Tryz.sizeOf105
 v70:=Tryz.zeroValue105
 t72:=Tryz.underlying108
 a72:=Tryz.isAgg108
 z72:=Tryz.sizeOf108
 v72:=Tryz.zeroValue108
 t127:=Tryz.underlying141
 a127:=Tryz.isAgg141
 z127:=Tryz.sizeOf141
 v127:=Tryz.zeroValue141 }
theorem Tryz.Builder_Extra_169:Builder.Extra ah Tryz.lays169_ren:={
 sizeBuilder:=by kernel_rfl
 liesBuilder:=by kernel_rfl
 t5:=dF
 a5:=Tryz.isAgg5
 z5:=Tryz.sizeOf5
 v5:=Tryz.zeroValue5
 infoByte:=by kernel_rfl
 cellsByte:=by kernel_rfl
 sizeByte:=by kernel_rfl
 neB5:=by decide }
open Go.RowKit in
theorem Tryz.Builder_String_any (B b:Nat) (l:List UInt8) (w:ai) (h:fy 108 5 B b (Lib.byteCells l) w) (a:B<=w.heap.size) :
  aJ ah 53 #[au (some ⟨b,0,none⟩)] w fun e w'=>e=aw (aa ⟨l.toArray⟩)/\ax B w w':=Any.Builder_String_any Tryz.lays169 Tryz.Builder_Extra_169 B b l w h a
def Tryz.laysM173_ren:Go.Shelf.Ren:=⟨fun | 173=>106 | 246=>139 | 283=>172 | 284=>173 | 285=>174 | 286=>175 | 129=>104 | 317=>186 | 318=>187 | 319=>188 | 320=>189 | 337=>199 | 338=>200 | n=>n,fun | 2=>2 | 3=>3 | 9=>9 | 4=>4 | 171=>220 | 0=>0 | 53=>166 | 37=>106 | 5=>5 | 173=>222 | 212=>231 | 51=>164 | 20=>20 | 213=>232 | 46=>99 | 232=>241 | 233=>242 | n=>n,fun | 17=>0 | 18=>2 | 19=>3 | n=>n⟩
theorem Tryz.laysM173:Go.Proofs.LaysM.n173 ah Tryz.laysM173_ren:={
 mixed:=by kernel_rfl
 f129:=Tryz.func104.trans (congrArg some (by kernel_rfl))
 f173:=Tryz.func106.trans (congrArg some (by kernel_rfl))
 f246:=Tryz.func139.trans (congrArg some (by kernel_rfl))
 f283:=Tryz.func172.trans (congrArg some (by kernel_rfl))
 f284:=Tryz.func173.trans (congrArg some (by kernel_rfl))
 f285:=Tryz.func174.trans (congrArg some (by kernel_rfl))
 f286:=Tryz.func175.trans (congrArg some (by kernel_rfl))
 f317:=Tryz.func186.trans (congrArg some (by kernel_rfl))
 f318:=Tryz.func187.trans (congrArg some (by kernel_rfl))
 f319:=Tryz.func188.trans (congrArg some (by kernel_rfl))
 f320:=Tryz.func189.trans (congrArg some (by kernel_rfl))
 f337:=Tryz.func199.trans (congrArg some (by kernel_rfl))
 f338:=Tryz.func200.trans (congrArg some (by kernel_rfl))
 t0:=Tryz.underlying0
 a0:=Tryz.isAgg0
 z0:=Tryz.sizeOf0
 v0:=Tryz.zeroValue0
 t2:=Tryz.underlying2
 a2:=Tryz.isAgg2
 z2:=Tryz.sizeOf2
 v2:=Tryz.zeroValue2
 t3:=dY
 a3:=Tryz.isAgg3
 z3:=Tryz.sizeOf3
 v3:=Tryz.zeroValue3
 t4:=it
 a4:=Tryz.isAgg4
 z4:=Tryz.sizeOf4
 v4:=Tryz.zeroValue4
 t5:=dF
 a5:=Tryz.isAgg5
 z5:=Tryz.sizeOf5
 v5:=Tryz.zeroValue5
 t9:=cE
 a9:=Tryz.isAgg9
 z9:=Tryz.sizeOf9
 v9:=Tryz.zeroValue9
 t20:=Tryz.underlying20
 a20:=Tryz.isAgg20
 z20:=Tryz.sizeOf20
 v20:=Tryz.zeroValue20
 t37:=bU
 a37:=Tryz.isAgg106
 z37:=Tryz.sizeOf106
 v37:=Tryz.zeroValue106
 t46:=Tryz.underlying99
 a46:=Tryz.isAgg99
 z46:=Tryz.sizeOf99
 v46:=Tryz.zeroValue99
 t51:=Tryz.underlying164
 a51:=Tryz.isAgg164
 z51:=Tryz.sizeOf164
 v51:=Tryz.zeroValue164
 t53:=Tryz.underlying166
 a53:=Tryz.isAgg166
 z53:=Tryz.sizeOf166
 v53:=Tryz.zeroValue166
 t171:=Tryz.underlying220
 a171:=Tryz.isAgg220
 z171:=Tryz.sizeOf220
 v171:=Tryz.zeroValue220
 t173:=Tryz.underlying222
 a173:=Tryz.isAgg222
 z173:=Tryz.sizeOf222
 v173:=Tryz.zeroValue222
 t212:=Tryz.underlying231
 a212:=Tryz.isAgg231
 z212:=Tryz.sizeOf231
 v212:=Tryz.zeroValue231
 t213:=Tryz.underlying232
 a213:=Tryz.isAgg232
 z213:=Tryz.sizeOf232
 t232:=Tryz.underlying241
 a232:=Tryz.isAgg241
 z232:=Tryz.sizeOf241
 v232:=Tryz.zeroValue241
 t233:=Tryz.underlying242
 a233:=Tryz.isAgg242
 z233:=Tryz.sizeOf242
 v233:=Tryz.zeroValue242
 g17:=by kernel_rfl
 g18:=by kernel_rfl
 g19:=by kernel_rfl
 i0:=by kernel_rfl
 i2:=by kernel_rfl
 i3:=by kernel_rfl
 i4:=by kernel_rfl
 i5:=by kernel_rfl
 i9:=by kernel_rfl
 i20:=by kernel_rfl
 i37:=by kernel_rfl
 i46:=by kernel_rfl
 i51:=by kernel_rfl
 i53:=by kernel_rfl
 i171:=by kernel_rfl
 i173:=by kernel_rfl
 i212:=by kernel_rfl
 i232:=by kernel_rfl
 i233:=by kernel_rfl
 m17:=by kernel_rfl
 m18:=by kernel_rfl
 m19:=by kernel_rfl }
open Go.RowKit Go.Sort Go.Lib in
theorem Tryz.strconv_FormatInt_10 (n : Int) (a : -9223372036854775808 <= n) (b : n <= 9223372036854775807) (w : ai) (c : Lib.TabIs ah w "internal/strconv.uint64pow10" .u64 Lib.pow10Tab) :
  aJ ah 106 #[ab ae n,ab ae 10] w fun e w'=>e=aw (aa ⟨(Lib.itoa n).toArray⟩)/\∃k os,w'=grow (w.drewN k) os:=Any.strconv_FormatInt_10 Tryz.laysM173 n a b w c
def Tryz.lays99_ren:Go.Shelf.Ren:=⟨fun | 99=>194 | 206=>201 | n=>n,fun | 9=>9 | 4=>4 | 3=>3 | n=>n,fun | n=>n⟩
theorem Tryz.lays99:Go.Proofs.Lays.n99 ah Tryz.lays99_ren:={
 mixed:=by kernel_rfl
 f99:=Tryz.func194.trans (congrArg some (by kernel_rfl))
 f206:=Tryz.func201.trans (congrArg some (by kernel_rfl))
 t3:=dY
 a3:=Tryz.isAgg3
 z3:=Tryz.sizeOf3
 v3:=Tryz.zeroValue3
 t4:=it
 a4:=Tryz.isAgg4
 z4:=Tryz.sizeOf4
 v4:=Tryz.zeroValue4
 t9:=cE
 a9:=Tryz.isAgg9
 z9:=Tryz.sizeOf9
 v9:=Tryz.zeroValue9 }
open Go.RowKit Go.Lib in
theorem Tryz.strings_HasPrefix (s p:ByteArray) (w:ai) :
  aJ ah 194 #[aa s,aa p] w fun e w'=>e=aw (am (Lib.hasPrefix s.data.toList p.data.toList))/\w'=w:=Any.strings_HasPrefix Tryz.lays99 s p w
end Go.Proofs
namespace Go.Proofs.YtlikcjbjibhjgaaGreatDoor
open Go.RowKit Hb
theorem ur (q:Int->Bool) (s:List UInt8) (k:Nat) (h:k<s.length):fw q (s.take (k+1))=(fw q (s.take k)&&q (iK s k)):=by
 unfold fw;rw [aO h,List.all_append,<-iJ _ _ h];simp
theorem zZ (q:Int->Bool) (s:List UInt8) (k:Nat) (h:k<s.length) (a:q (iK s k)=false):fw q s=false:=by
 unfold fw;rw [List.all_eq_false];exact ⟨s[k],aR h,by rw [iJ _ _ h,a];simp⟩
def rS (q:Int->Bool) (s:List UInt8):Bool:=fw q s && !s.isEmpty
theorem qi (s:ByteArray) (w:ai) (r:s.size<=be) :
  aJ ah 192 #[aa s,.func (.func 77) #[] #[]] w fun e w'=>e=aw (am (rS dI s.data.toList))/\ax w.heap.size w w':=by
 unfold be at r
 go_enter Tryz.func192,Tryz.ntmps192
 go_wp2_with fail
 go_loopw [8] (fun i wr=>∃k:Nat,k<=s.size/\i=ab ae k/\fw dI (s.data.toList.take k)=true/\ax w.heap.size w wr) (fun i _=>s.size-(intOf i).toNat)
 case atStart=>exact ⟨0,bp _,rfl,rfl,aj _ _⟩
 case round=>
  obtain ⟨k,y,rfl,o,b⟩:=hrel
  have h:=zq o
  clear o
  have x:=b.size
  by_cases g:k<s.size
  ·have t:=kA s k g
   have u:=jR s.data.toList k
   have v:=kh s.data.toList k
   have q:=zq (ur dI s.data.toList k (by simpa using g))
   have p:=zq (zZ dI s.data.toList k (by simpa using g))
   cases hq:dI (iK s.data.toList k)
   all_goals
    have f:=zq hq
    clear hq
    generalize iK s.data.toList k=c at *
    go_wp2_with fail
    refine (uG (w0:=w) b (yN _ _ (by assumption) (by assumption))).mono ?_;rintro e z ⟨rfl,n⟩;rw [f.out]
    go_wp2_with fail
   ·go_ret
    exact ⟨bN (by unfold rS;rw [p.out f.out];rfl),n⟩
   ·go_roundw
    case rel=>exact ⟨k+1,by omega,by go_num,by rw [q.out,h.out,f.out];rfl,n⟩
    case measure=>simp [intOf];omega
  ·have j:=zq (show fw dI s.data.toList=true by have:=h.out;rwa [bA (by simp;omega)] at this)
   by_cases a:s.size=0
   ·have l:=(jE s a).1
    have m:s.toList.isEmpty=true:=by rw [l];rfl
    have d:=zq (jE s a).2
    clear a
    go_wp2_with fail
    go_ret
    exact ⟨bN (by unfold rS;rw [j.out,d.out];rfl),b⟩
   ·have l:=td s (by omega)
    have m:=nP s (by omega)
    have d:=zq (show s.data.toList.isEmpty=false by rw [<-jb];exact m)
    clear a
    go_wp2_with fail
    go_ret
    exact ⟨bN (by unfold rS;rw [j.out,d.out];rfl),b⟩
theorem ti (s:ByteArray) (w:ai) (r:s.size<=be) :
  aJ ah 192 #[aa s,.func (.func 78) #[] #[]] w fun e w'=>e=aw (am (rS dC s.data.toList))/\ax w.heap.size w w':=by
 unfold be at r
 go_enter Tryz.func192,Tryz.ntmps192
 go_wp2_with fail
 go_loopw [8] (fun i wr=>∃k:Nat,k<=s.size/\i=ab ae k/\fw dC (s.data.toList.take k)=true/\ax w.heap.size w wr) (fun i _=>s.size-(intOf i).toNat)
 case atStart=>exact ⟨0,bp _,rfl,rfl,aj _ _⟩
 case round=>
  obtain ⟨k,y,rfl,o,b⟩:=hrel
  have h:=zq o
  clear o
  have x:=b.size
  by_cases g:k<s.size
  ·have t:=kA s k g
   have u:=jR s.data.toList k
   have v:=kh s.data.toList k
   have q:=zq (ur dC s.data.toList k (by simpa using g))
   have p:=zq (zZ dC s.data.toList k (by simpa using g))
   cases hq:dC (iK s.data.toList k)
   all_goals
    have f:=zq hq
    clear hq
    generalize iK s.data.toList k=c at *
    go_wp2_with fail
    refine (uG (w0:=w) b (vz _ _ (by assumption) (by assumption))).mono ?_;rintro e z ⟨rfl,n⟩;rw [f.out]
    go_wp2_with fail
   ·go_ret
    exact ⟨bN (by unfold rS;rw [p.out f.out];rfl),n⟩
   ·go_roundw
    case rel=>exact ⟨k+1,by omega,by go_num,by rw [q.out,h.out,f.out];rfl,n⟩
    case measure=>simp [intOf];omega
  ·have j:=zq (show fw dC s.data.toList=true by have:=h.out;rwa [bA (by simp;omega)] at this)
   by_cases a:s.size=0
   ·have l:=(jE s a).1
    have m:s.toList.isEmpty=true:=by rw [l];rfl
    have d:=zq (jE s a).2
    clear a
    go_wp2_with fail
    go_ret
    exact ⟨bN (by unfold rS;rw [j.out,d.out];rfl),b⟩
   ·have l:=td s (by omega)
    have m:=nP s (by omega)
    have d:=zq (show s.data.toList.isEmpty=false by rw [<-jb];exact m)
    clear a
    go_wp2_with fail
    go_ret
    exact ⟨bN (by unfold rS;rw [j.out,d.out];rfl),b⟩
def lG (s:List UInt8):Bool:=decide (s=[91,93])||(decide (s=[123,125])||(decide (s=[33])||decide (s=[59])))
theorem Ei (s:ByteArray) (b:Nat) (w:ai) (c:w.cell? ⟨b,0,none⟩=some (aa s)) :
  aJ ah 190 #[au (some ⟨b,0,none⟩)] w fun e w'=>e=aw (am (lG s.data.toList))/\ax w.heap.size w w':=by
 have a:=zq (jb s)
 go_enter Tryz.func190,Tryz.ntmps190
 go_wp2_with fail
 all_goals
  go_ret
  exact ⟨bN (by unfold lG;rw [<-a.out];grind),aj _ _⟩
def lF (s:List UInt8):Bool:=rS dI s&&cls (iK s 0)==2
theorem Eh (s:ByteArray) (b:Nat) (w:ai) (m:w.cell? ⟨b,0,none⟩=some (aa s)) (l:b<w.heap.size) (g:s.size<=be) :
  aJ ah 191 #[au (some ⟨b,0,none⟩)] w fun e w'=>e=aw (am (lF s.data.toList))/\ax w.heap.size w w':=by
 cases ha:rS dI s.data.toList
 ·have a:=zq ha
  clear ha
  go_enter Tryz.func191,Tryz.ntmps191
  go_wp2_with fail
  refine (qi _ _ g).mono ?_;rintro e n ⟨rfl,d⟩;rw [a.out]
  go_wp2_with fail
  go_ret
  exact ⟨bN (by unfold lF;rw [a.out];rfl),d⟩
 ·have j:0<s.size:=by
   rcases Nat.eq_zero_or_pos s.size with h | h
   ·rw [(jE s h).2] at ha;cases ha
   ·exact h
  have a:=zq ha
  clear ha
  have r:=kA s 0 j
  have q:=kh s.data.toList 0
  have o:=jR s.data.toList 0
  generalize f:iK s.data.toList 0=c at *
  have i:=zq f
  clear f
  go_enter Tryz.func191,Tryz.ntmps191
  go_wp2_with fail
  refine (qi _ _ g).mono ?_;rintro e n ⟨rfl,d⟩;rw [a.out]
  have t:=(d.cell (p:=⟨b,0,none⟩) l).trans m
  go_wp2_with fail
  refine (uG (w0:=w) d (cZ _ _)).mono ?_;rintro e u ⟨rfl,k⟩
  go_wp2_with fail
  go_ret
  exact ⟨bN (by unfold lF;rw [a.out,i.out];rfl),k⟩
def ml (s:List UInt8):Bool:=rS dC s&&(!decide (s=[46]) && !Lib.hasPrefix s [47,42])
theorem Eg (s:ByteArray) (b:Nat) (w:ai) (h:w.cell? ⟨b,0,none⟩=some (aa s)) (g:b<w.heap.size) (d:s.size<=be) :
  aJ ah 193 #[au (some ⟨b,0,none⟩)] w fun e w'=>e=aw (am (ml s.data.toList))/\ax w.heap.size w w':=by
 have f:=zq (jb s)
 cases ha:rS dC s.data.toList
 ·have a:=zq ha
  clear ha
  go_enter Tryz.func193,Tryz.ntmps193
  go_wp2_with fail
  refine (ti _ _ d).mono ?_;rintro e i ⟨rfl,c⟩;rw [a.out]
  go_wp2_with fail
  go_ret
  exact ⟨bN (by unfold ml;rw [a.out];rfl),c⟩
 ·have a:=zq ha
  clear ha
  go_enter Tryz.func193,Tryz.ntmps193
  go_wp2_with fail
  refine (ti _ _ d).mono ?_;rintro e i ⟨rfl,c⟩;rw [a.out]
  have j:=(c.cell (p:=⟨b,0,none⟩) g).trans h
  go_wp2_with (go_at_call 194;refine (Tryz.strings_HasPrefix _ _ _).mono ?_;rintro e k ⟨rfl,rfl⟩)
  all_goals
   go_ret
   exact ⟨bN (by unfold ml;rw [a.out,<-f.out];first | rfl | grind),c⟩
theorem Jy:∀n:Nat,n<256->(¬((n:Int)=92\/(n:Int)=39\/(n:Int)=34\/(n:Int)=96))->DQ n=if dZ letters n.toUInt8<0 then none else some (7+dZ letters n.toUInt8):=by decide +kernel
theorem FU (c:Int) (h:jv c=true) (b:¬(c=92\/c=39\/c=34\/c=96)):DQ c=if dZ letters c.toNat.toUInt8<0 then none else some (7+dZ letters c.toNat.toUInt8):=by
 obtain ⟨a,d⟩:=(kP c).1 h
 obtain ⟨n,rfl⟩:=bJ a
 exact Jy n (by omega) b
def Ms (c:Int):Int:=dZ letters c.toNat.toUInt8
theorem Mr:∀n:Nat,n<256->Lib.indexByte letters n.toUInt8<=6:=by decide +kernel
theorem lK (c:Int) (w:ai) :
  aJ ah 158 #[ab ae c] w fun e w'=>e=aw (aK #[ab ae (uP c),am (lP c)])/\w=w':=by
 by_cases b:c=92\/c=39\/c=34\/c=96
 ·have a:=zq (show DQ c=some c by unfold DQ;rw [if_pos b])
  go_enter Tryz.func158,Tryz.ntmps158
  go_wp2
  all_goals (first | (exfalso;grind) | (go_ret2;exact ⟨xj (by unfold uP;rw [a.out];rfl) (by unfold lP;rw [a.out];rfl),rfl⟩))
 ·have j:(c==92)=false:=by grind
  have k:(c==39)=false:=by grind
  have l:(c==34)=false:=by grind
  have m:(c==96)=false:=by grind
  cases hc:jv c
  ·have a:=zq (show DQ c=none by have:=kP c;unfold DQ;grind)
   have d:=zq b
   clear b
   go_enter Tryz.func158,Tryz.ntmps158
   go_wp2_with (first | (go_at_call 80;refine (kg _ _).mono ?_;rintro e w' ⟨rfl,rfl⟩))
   go_ret2
   exact ⟨xj (by unfold uP;rw [a.out];rfl) (by unfold lP;rw [a.out];rfl),rfl⟩
  ·have a:=zq (FU c hc b)
   obtain ⟨f,g⟩:=(kP c).1 hc
   have h:-1<=Ms c:=Lib.indexByte_ge _ _
   have i:Ms c<=6:=by
    obtain ⟨n,rfl⟩:=bJ f
    exact Mr n (by omega)
   have d:=zq b
   clear b
   go_enter Tryz.func158,Tryz.ntmps158
   go_wp2_with (first | (go_at_call 80;refine (kg _ _).mono ?_;rintro e w' ⟨rfl,rfl⟩) | (go_at_call 114;refine (lQ _ _ _).mono ?_;rintro e w' ⟨rfl,rfl⟩;rw [show dZ (ByteArray.mk #[97,98,116,110,118,102,114]).data.toList c.toNat.toUInt8=Ms c from rfl]))
   all_goals
    go_ret2
    exact ⟨xj (by unfold uP;rw [a.out];show _=(if Ms c<0 then none else some (7+Ms c)).getD 0;grind) (by unfold lP;rw [a.out];show _=(if Ms c<0 then none else some (7+Ms c)).isSome;grind),rfl⟩
theorem NW (w:ai) (a:w.cell? ⟨3,15,none⟩=some (ab .u8 4)) :
  aJ ah 200 #[ab .u64 16] w fun e w'=>e=aw (ab ae 4)/\w=w':=by
 have b:IntKind.u64.wrap (bits BinOp.and IntKind.u64 16 (IntKind.u64.wrap (-16)) * 285870213051353865) / 288230376151711744=15:=by decide +kernel
 go_enter Tryz.func200,Tryz.ntmps200
 go_wp2
 go_ret
 exact ⟨rfl,rfl⟩
theorem tz (w:ai) (a:w.cell? ⟨3,15,none⟩=some (ab .u8 4)) :
  aJ ah 189 #[ab .u64 16] w fun e w'=>e=aw (ab ae 4)/\w=w':=by
 go_enter Tryz.func189,Tryz.ntmps189
 go_wp2_with fail
 refine (NW _ a).mono ?_;rintro e b ⟨rfl,rfl⟩
 go_wp2_with fail
 go_ret
 exact ⟨rfl,rfl⟩
theorem Nn (w:ai) :
  aJ ah 188 #[ab ae 16] w fun e w'=>e=aw (am true)/\w=w':=by
 have a:bits BinOp.and IntKind.i64 16 15=0:=by decide +kernel
 go_enter Tryz.func188,Tryz.ntmps188
 go_wp2_with fail
 go_ret
 exact ⟨rfl,rfl⟩
theorem KR (W:ai) (b a:Nat) (x:UInt8) (h:W.cell? ⟨b,a,none⟩=some (ab .u8 (x.toNat:Int))) :
  (convert 106 9 (.slice (some ⟨b,a,none⟩) 1 1)).run ah W=.ok (aa ⟨#[x]⟩) W:=by
 refine iM W 106 9 5 ⟨b,a,none⟩ 1 [x] bU dF cE fun j c=>?_
 have:j=0:=by simp at c;omega
 subst this
 simpa [Addr.add] using h
theorem KQ (W:ai) (b a:Nat) (x y:UInt8) (h:W.cell? ⟨b,a,none⟩=some (ab .u8 (x.toNat:Int))) (c:W.cell? ⟨b,a+1,none⟩=some (ab .u8 (y.toNat:Int))) :
  (convert 106 9 (.slice (some ⟨b,a,none⟩) 2 2)).run ah W=.ok (aa ⟨#[x,y]⟩) W:=by
 refine iM W 106 9 5 ⟨b,a,none⟩ 2 [x,y] bU dF cE fun j d=>?_
 match j,d with
 | 0,_=>simpa [Addr.add] using h
 | 1,_=>simpa [Addr.add] using c
theorem Cl:∀n:Nat,n<16->∀h:n<(ByteArray.mk #[48,49,50,51,52,53,54,55,56,57,97,98,99,100,101,102,103,104,105,106,107,108,109,110,111,112,113,114,115,116,117,118,119,120,121,122]).size,((ByteArray.mk #[48,49,50,51,52,53,54,55,56,57,97,98,99,100,101,102,103,104,105,106,107,108,109,110,111,112,113,114,115,116,117,118,119,120,121,122])[n]'h).toNat=(nj n).toNat:=by decide +kernel
theorem NG:∀n:Nat,n<256->bits BinOp.and IntKind.u64 (n:Int) 15=((n % 16:Nat):Int):=by decide +kernel
theorem Cg (c:Int) (w:ai) (f:0<=c) (g:c<16) (a:w.cell? ⟨3,15,none⟩=some (ab .u8 4)) (b:3<w.heap.size) :
  aJ ah 175 #[.slice none 0 0,ab .u64 c,ab ae 16,am false,am false] w fun e w'=>e=aw (aK #[.slice none 0 0,aa ⟨#[nj c.toNat]⟩])/\ax w.heap.size w w':=by
 have h:decide ((16:Int)<=c)=false:=by simp;omega
 go_enter Tryz.func175,Tryz.ntmps175
 go_wp2_with fail
 refine (Nn _).mono ?_;rintro e d ⟨rfl,rfl⟩
 go_wp2_with fail
 refine (tz _ ?_).mono ?_
 ·rw [World.cell?_alloc_lt _ _ _ (by simpa using b)];exact a
 rintro e d ⟨rfl,rfl⟩
 go_wp2_with fail
 refine wp_loop_rounds 1 ?_
 rw [iy]
 go_wp2_with fail
 rw [KR _ _ _ (nj c.toNat) (by
  rw [aq,Cl _ (by omega)]
  simp)]
 simp only [Result.andThen]
 rw [Oper.upon_value]
 go_wp2_with fail
 go_ret2
 exact ⟨rfl,(aj _ _).alloc (ag _) _⟩
theorem Ch (c:Int) (w:ai) (m:16<=c) (o:c<=255) (g:w.cell? ⟨3,15,none⟩=some (ab .u8 4)) (h:3<w.heap.size) :
  aJ ah 175 #[.slice none 0 0,ab .u64 c,ab ae 16,am false,am false] w fun e w'=>e=aw (aK #[.slice none 0 0,aa ⟨#[nj (c.toNat / 16),nj (c.toNat % 16)]⟩])/\ax w.heap.size w w':=by
 have r:decide ((16:Int)<=c)=true:=by simp;omega
 obtain ⟨n,rfl⟩:=bJ (show 0<=c by omega)
 have p:=NG n (by omega)
 have b:=zq (show n % 16<16 from Nat.mod_lt _ (by decide))
 have i:=b.out
 generalize hd:n % 16=d at *
 have Hd:=zq hd
 clear hd
 have t:(n:Int) / 16=((n / 16:Nat):Int):=by omega
 have j:n / 16<16:=by omega
 have s:decide ((16:Int)<=((n / 16:Nat):Int))=false:=by simp;omega
 generalize a:n / 16=q at *
 have f:=zq a
 clear a
 go_enter Tryz.func175,Tryz.ntmps175
 go_wp2_with fail
 refine (Nn _).mono ?_;rintro e k ⟨rfl,rfl⟩
 go_wp2_with fail
 refine (tz _ ?_).mono ?_
 ·rw [World.cell?_alloc_lt _ _ _ (by simpa using h)];exact g
 rintro e k ⟨rfl,rfl⟩
 go_wp2_with fail
 refine wp_loop_rounds 2 ?_
 iterate 2
  rw [iy]
  go_wp2_with fail
 rw [KQ _ _ _ (nj q) (nj d) (by
  rw [aq,Cl q j]
  simp) (by
  rw [aq,Cl d i]
  simp)]
 simp only [Result.andThen]
 rw [Oper.upon_value]
 go_wp2_with fail
 go_ret2
 exact ⟨xh (congrArg (fun l:Array UInt8=>Value.tuple #[.slice none 0 0,aa ⟨l⟩]) (by rw [Int.toNat_natCast,f.out,Hd.out])),(aj _ _).alloc (ag _) _⟩
def yc (c:Int):List UInt8:=if 16<=c then [nj (c.toNat / 16),nj (c.toNat % 16)] else [nj c.toNat]
theorem KI (c:Int) (w:ai) (d:0<=c) (f:c<=255) (a:w.cell? ⟨3,15,none⟩=some (ab .u8 4)) (b:3<w.heap.size) :
  aJ ah 175 #[.slice none 0 0,ab .u64 c,ab ae 16,am false,am false] w fun e w'=>e=aw (aK #[.slice none 0 0,aa ⟨(yc c).toArray⟩])/\ax w.heap.size w w':=by
 unfold yc
 by_cases h:16<=c
 ·rw [if_pos h];exact Ch c w h f a b
 ·rw [if_neg h];exact Cg c w d (by omega) a b
theorem Fb (c:Int) (w:ai) (a:0<=c) (b:c<=255) (f:w.cell? ⟨3,15,none⟩=some (ab .u8 4)) (g:3<w.heap.size) :
  aJ ah 139 #[ab ae c,ab ae 16] w fun e w'=>e=aw (aa ⟨(yc c).toArray⟩)/\ax w.heap.size w w':=by
 have h:decide (c<0)=false:=by simp;omega
 go_enter Tryz.func139,Tryz.ntmps139
 go_wp2_with fail
 refine (KI c _ a b f g).mono ?_;rintro e i ⟨rfl,d⟩
 go_wp2_with fail
 go_ret
 exact ⟨rfl,d⟩
theorem NB (c:Int) (w:ai) (a:0<=c) (b:c<=255) (f:w.cell? ⟨3,15,none⟩=some (ab .u8 4)) (g:3<w.heap.size) :
  aJ ah 106 #[ab ae c,ab ae 16] w fun e w'=>e=aw (aa ⟨(yc c).toArray⟩)/\ax w.heap.size w w':=by
 go_enter Tryz.func106,Tryz.ntmps106
 go_wp2_with fail
 refine (Fb c _ a b f g).mono ?_;rintro e h ⟨rfl,d⟩
 go_wp2_with fail
 go_ret
 exact ⟨rfl,d⟩
def Tab15 (w:ai):Prop:=3<w.heap.size/\w.cell? ⟨3,15,none⟩=some (ab .u8 4)
theorem Tab15.below {w w':ai} (h:Tab15 w) (a:ax w.heap.size w w'):Tab15 w':=⟨Nat.lt_of_lt_of_le h.1 a.size,(a.cell (p:=⟨_,15,none⟩) h.1).trans h.2⟩
theorem IL:∀n:Nat,n<256->(n<7\/(13<n/\n<32)\/126<n)->[92,120]++yc n++[92]=Ab n:=by decide +kernel
theorem rP (c:Int) (w:ai) (b:0<=c) (g:c<=255) (a:c<7\/(13<c/\c<32)\/126<c) (h:Tab15 w) :
  aJ ah 197 #[ab ae c] w fun e w'=>e=aw (aK #[aa ⟨(Ab c).toArray⟩,am (jv c)])/\ax w.heap.size w w':=by
 have j:=zq (show [92,120]++yc c++[92]=Ab c by
  obtain ⟨n,rfl⟩:=bJ b
  exact IL n (by omega) (by omega))
 have d:=zq (show jv c=true from (kP c).2 ⟨b,g⟩)
 have p:(c==39)=false:=by simp;omega
 have q:(c==92)=false:=by simp;omega
 have f:=zq h
 clear h
 have o:(yc c).length<=2:=by unfold yc;split <;> simp
 generalize i:yc c=x at *
 have k:=zq i
 clear i
 rcases a with a | a | a
 all_goals
  go_enter Tryz.func197,Tryz.ntmps197
  go_wp2_with fail
  refine (kg _ _).mono ?_;rintro e m ⟨rfl,rfl⟩;rw [d.out]
  go_wp2_with fail
  refine (NB c _ b g f.out.2 f.out.1).mono ?_;rintro e m ⟨rfl,l⟩;rw [k.out]
  go_wp2_with fail
  go_ret2
  refine ⟨xi ?_ d.out.symm,l⟩
  rw [<-j.out]
  apply ByteArray.ext
  simp
theorem pU (c:Int) (w:ai) (g:32<=c) (h:c<=126) (d:¬c=39) (f:¬c=92) :
  aJ ah 197 #[ab ae c] w fun e w'=>e=aw (aK #[aa ⟨(Ab c).toArray⟩,am (jv c)])/\ax w.heap.size w w':=by
 have b:=zq (show Ab c=[c.toNat.toUInt8] by unfold Ab;grind)
 have a:=zq (show jv c=true by simp [jv];omega)
 have j:(c==39)=false:=by grind
 have k:(c==92)=false:=by grind
 clear d f
 have i:=fun (w:ai)=>rN (P:=ah) 106 9 5 bU dF cE c (by omega) (by omega) w
 go_enter Tryz.func197,Tryz.ntmps197
 go_wp2_with (first | (go_at_call 80;refine (kg _ _).mono ?_;rintro e w' ⟨rfl,rfl⟩;rw [a.out]))
 go_ret2
 exact ⟨xi (by rw [b.out]) a.out.symm,(aj _ _).alloc (ag _) _⟩
theorem pT (c:Int) (w:ai) (f:c=39\/c=92) :
  aJ ah 197 #[ab ae c] w fun e w'=>e=aw (aK #[aa ⟨(Ab c).toArray⟩,am (jv c)])/\ax w.heap.size w w':=by
 rcases f with rfl|rfl
 all_goals
  have a:=fun (n:Int) (b:0<=n) (d:n<=255) (w:ai)=>rN (P:=ah) 106 9 5 bU dF cE n b d w
  have g:=a 39 (by decide) (by decide)
  have h:=a 92 (by decide) (by decide)
  clear a
  go_enter Tryz.func197,Tryz.ntmps197
  go_wp2_with (first | (go_at_call 80;refine (kg _ _).mono ?_;rintro e w' ⟨rfl,rfl⟩;rw [show jv _=true from rfl]))
  go_ret2
  exact ⟨xi rfl rfl,(aj _ _).alloc (ag _) _⟩
theorem pd (c:Int) (w:ai) (b:7<=c) (d:c<=13) :
  aJ ah 197 #[ab ae c] w fun e w'=>e=aw (aK #[aa ⟨(Ab c).toArray⟩,am (jv c)])/\ax w.heap.size w w':=by
 have a:c=7\/c=8\/c=9\/c=10\/c=11\/c=12\/c=13:=by omega
 rcases a with rfl|rfl|rfl|rfl|rfl|rfl|rfl
 all_goals
  go_enter Tryz.func197,Tryz.ntmps197
  go_wp2_with (first | (go_at_call 80;refine (kg _ _).mono ?_;rintro e w' ⟨rfl,rfl⟩;rw [show jv _=true from rfl]))
  go_ret2
  exact ⟨xi rfl rfl,aj _ _⟩
theorem yh (c:Int) (w:ai) (f:0<=c) (g:c<=255) (h:Tab15 w) :
  aJ ah 197 #[ab ae c] w fun e w'=>e=aw (aK #[aa ⟨(Ab c).toArray⟩,am (jv c)])/\ax w.heap.size w w':=by
 by_cases a:7<=c/\c<=13
 ·exact pd c w a.1 a.2
 by_cases b:c=39\/c=92
 ·exact pT c w b
 by_cases d:32<=c/\c<=126
 ·exact pU c w d.1 d.2 (by omega) (by omega)
 ·exact rP c w f g (by omega) h
def rA:Nat->List UInt8->Bool
 | 0=>lG
 | 1=>lF
 | _=>ml
def pE:Nat->FuncId
 | 0=>190
 | 1=>191
 | _=>193
theorem Ef (k:Nat) (l:k<3) (s:ByteArray) (b:Nat) (w:ai) (c:w.cell? ⟨b,0,none⟩=some (aa s)) (d:b<w.heap.size) (f:s.size<=be) :
  aJ ah 196 #[.func (.func (pE k)) #[] #[au (some ⟨b,0,none⟩)]] w fun e w'=>e=aw (am (rA k s.data.toList))/\ax w.heap.size w w':=by
 have h:=zq (Ei s b w c)
 have i:=zq (Eh s b w c d f)
 have j:=zq (Eg s b w c d f)
 match k,l with
 | 0,_=>
  unfold pE rA
  go_enter Tryz.func196,Tryz.ntmps196
  go_wp2_with fail
  refine h.out.mono ?_;rintro e g ⟨rfl,a⟩
  go_wp2_with fail
  go_ret
  exact ⟨rfl,a⟩
 | 1,_=>
  unfold pE rA
  go_enter Tryz.func196,Tryz.ntmps196
  go_wp2_with fail
  refine i.out.mono ?_;rintro e g ⟨rfl,a⟩
  go_wp2_with fail
  go_ret
  exact ⟨rfl,a⟩
 | 2,_=>
  unfold pE rA
  go_enter Tryz.func196,Tryz.ntmps196
  go_wp2_with fail
  refine j.out.mono ?_;rintro e g ⟨rfl,a⟩
  go_wp2_with fail
  go_ret
  exact ⟨rfl,a⟩
def lX (s:List UInt8):Int:=if lG s=true then 0 else if lF s=true then 1 else if ml s=true then 2 else -1
theorem Ej (g:Nat) (s:ByteArray) (b:Nat) (w:ai) (o:w.cell? ⟨b,0,none⟩=some (aa s)) (v:b<w.heap.size) (z:s.size<=be) (x:g<w.heap.size)
  (m:∀k:Nat,k<3->w.cell? ⟨g,k,none⟩=some (.func (.func (pE k)) #[] #[au (some ⟨b,0,none⟩)])) :
  aJ ah 202 #[.slice (some ⟨g,0,none⟩) 3 3,.func (.func 196) #[] #[]] w fun e w'=>e=aw (ab ae (lX s.data.toList))/\ax w.heap.size w w':=by
 have r:=zq m
 have t:=zq o
 clear m o
 go_enter Tryz.func202,Tryz.ntmps202
 go_wp2_with fail
 go_loopw [8] (fun i wr=>∃k:Nat,k<=3/\i=ab ae k/\Hid (∀j,j<k->rA j s.data.toList=false)/\ax w.heap.size w wr) (fun i _=>3-(intOf i).toNat)
 case atStart=>exact ⟨0,bp _,rfl,fun j h=>absurd h (by omega),aj _ _⟩
 case round=>
  obtain ⟨k,E,rfl,a,d⟩:=hrel
  have C:=d.size
  by_cases f:k<3
  ·have B:=(d.cell (p:=⟨g,k,none⟩) x).trans (r.out k f)
   have q:=zq (uG d (Ef k f s b wr ((d.cell (p:=⟨b,0,none⟩) v).trans t.out) (by omega) z))
   generalize n:pE k=F at *
   have A:=zq n
   clear n
   cases hq:rA k s.data.toList
   all_goals
    have c:=zq hq
    clear hq
    go_wp2_with fail
    refine q.out.mono ?_;rintro e G ⟨rfl,l⟩;rw [c.out]
    go_wp2_with fail
   ·go_roundw
    case rel=>exact ⟨k+1,by omega,by go_num,fun j D=>(by
     by_cases y:j=k
     ·rw [y];exact c.out
     ·exact a.out j (by omega)),l⟩
    case measure=>simp [intOf];omega
   ·go_ret
    refine ⟨dn ?_,l⟩
    unfold lX
    match k,f,a,c with
    | 0,_,a,c=>rw [if_pos (show lG _=true from c.out)];rfl
    | 1,_,a,c=>rw [if_neg (by have:=a.out 0 (by omega);exact fun h=>by rw [show lG _=false from this] at h;cases h),if_pos (show lF _=true from c.out)];rfl
    | 2,_,a,c=>rw [if_neg (by have:=a.out 0 (by omega);exact fun h=>by rw [show lG _=false from this] at h;cases h),if_neg (by have:=a.out 1 (by omega);exact fun h=>by rw [show lF _=false from this] at h;cases h),if_pos (show ml _=true from c.out)];rfl
  ·have u:k=3:=by omega
   subst u
   go_wp2_with fail
   go_ret
   refine ⟨dn ?_,d⟩
   unfold lX
   rw [if_neg (by have:=a.out 0 (by omega);exact fun h=>by rw [show lG _=false from this] at h;cases h),if_neg (by have:=a.out 1 (by omega);exact fun h=>by rw [show lF _=false from this] at h;cases h),if_neg (by have:=a.out 2 (by omega);exact fun h=>by rw [show ml _=false from this] at h;cases h)]
theorem zn (s:List UInt8):mj s=(decide (s.length<=100)&&decide (0<=lX s)):=by
 have d:decide (0<=lX s)=(lG s||(lF s||ml s)):=by
  unfold lX
  cases lG s <;> cases lF s <;> cases ml s <;> rfl
 rw [d]
 unfold mj wZ lG lF ml rS Lib.hasPrefix
 have c:∀a:List UInt8,(s==a)=decide (s=a):=fun a=>by rw [Bool.eq_iff_iff];simp
 have f:(([47,42]:List UInt8).isPrefixOf s)=(s.take 2==[47,42]):=by
  match s with
  | []=>rfl
  | [a]=>simp [List.isPrefixOf]
  | a::b::l=>rw [Bool.eq_iff_iff];simp [List.isPrefixOf];constructor <;> (rintro ⟨h,e⟩;exact ⟨h.symm,e.symm⟩)
 rw [f,c,c,c,c,c]
 cases hs:s with
 | nil=>decide +kernel
 | cons a l=>
  have g:av (a::l) 0=iK (a::l) 0:=fq _ _ (by simp)
  rw [g]
  simp only [List.isEmpty_cons,Bool.not_false,Bool.and_true,Bool.true_and]
theorem yK (g:Nat) (s:ByteArray) (b:Nat) (w:ai) (c:w.cell? ⟨b,0,none⟩=some (aa s)) (f:b<w.heap.size) (i:s.size<=be) (h:g<w.heap.size)
  (a:∀k:Nat,k<3->w.cell? ⟨g,k,none⟩=some (.func (.func (pE k)) #[] #[au (some ⟨b,0,none⟩)])) :
  aJ ah 195 #[.slice (some ⟨g,0,none⟩) 3 3,.func (.func 196) #[] #[]] w fun e w'=>e=aw (am (decide (0<=lX s.data.toList)))/\ax w.heap.size w w':=by
 have H:=zq (Ej g s b w c f i h a)
 clear a c
 generalize lX s.data.toList=r at *
 go_enter Tryz.func195,Tryz.ntmps195
 go_wp2_with fail
 refine H.out.mono ?_;rintro e j ⟨rfl,d⟩
 go_wp2_with fail
 go_ret
 exact ⟨rfl,d⟩
theorem Gx (s:ByteArray) (w:ai) (h:s.size<=be) :
  aJ ah 176 #[aa s] w fun e w'=>e=aw (am (mj s.data.toList))/\ax w.heap.size w w':=by
 have a:=zq (zn s.data.toList)
 rw [size_data] at a
 by_cases c:100<s.size
 ·have d:decide ((100:Int)<s.size)=true:=by simp;omega
  have b:=zq (show decide (s.size<=100)=false by simp;omega)
  clear c
  go_enter Tryz.func176,Tryz.ntmps176
  go_wp2_with fail
  go_ret
  exact ⟨bN (by rw [a.out,b.out];rfl),(aj _ _).alloc (ag _) _⟩
 ·have d:decide ((100:Int)<s.size)=false:=by simp;omega
  have b:=zq (show decide (s.size<=100)=true by simp;omega)
  clear c
  go_enter Tryz.func176,Tryz.ntmps176
  go_wp2_with fail
  refine (yK (w.heap.size+1) s w.heap.size _ ?_ ?_ h ?_ ?_).mono ?_
  ·rw [World.cell?_alloc_lt _ _ _ (by simp),aq];rfl
  ·simp;omega
  ·simp
  ·intro k g
   have e:(w.alloc (.cells #[aa s] 9)).heap.size=w.heap.size+1:=by simp
   rw [<-e,aq]
   match k,g with
   | 0,_=>rfl
   | 1,_=>rfl
   | 2,_=>rfl
  rintro e i ⟨rfl,f⟩
  go_wp2_with fail
  go_ret
  exact ⟨bN (by rw [a.out,b.out];rfl),(((aj _ _).alloc (ag _) _).alloc (by simp) _).trans (f.mono (by simp;omega))⟩
end Go.Proofs.YtlikcjbjibhjgaaGreatDoor
namespace Hb
open Go Go.RowKit
theorem Fu (s:List UInt8) (k:Nat) (h:k<s.length):lL 39 (s.take (k+1))=lL 39 (s.take k)++Ab (iK s k):=by
 rw [aO h,Fv,IZ,iJ _ _ h]
theorem Du (c:Int):(Ab c).length<=5:=by
 unfold Ab;repeat' split
 all_goals simp
theorem yi (s:List UInt8):(lL 39 s).length<=5 * s.length:=by
 induction s with
 | nil=>simp [lL]
 | cons b s ih=>have:=Du (b.toNat:Int);rw [wo,IZ,aB,bo];omega
theorem uZ (a b:List UInt8):Hb.byteCells (a++b)=Hb.byteCells a++Hb.byteCells b:=by simp [Hb.byteCells]
def uN (l:List ByteArray):List (List UInt8):=l.map fun s=>s.data.toList
theorem JQ (b:List UInt8):mC [] b=[]:=rfl
theorem yj (l:List ByteArray):(uN l).length=l.length:=by simp [uN]
theorem DD (l:List ByteArray) (k:Nat) (h:k<l.length):(uN l)[k]'(by rw [yj];exact h)=l[k].data.toList:=by simp [uN]
theorem oj (a b:List UInt8):∀(l:List (List UInt8)) (p:List UInt8),gQ p (l++[a]++[b])=gQ p (l++[a])++(mC a b++b)
 | [],p=>by simp [gQ]
 | x::l,p=>by
  have:=oj a b l x
  show mC p x++x++gQ x (l++[a]++[b])=(mC p x++x++gQ x (l++[a]))++(mC a b++b)
  rw [this,bj (mC p x++x)]
theorem As (l:List ByteArray) (k:Nat):uN (l.take k)=(uN l).take k:=by unfold uN;rw [List.map_take]
theorem BW (l:List ByteArray) (h:0<l.length):fJ (uN (l.take 1))=l[0].data.toList:=by
 match l,h with
 | s::l,_=>simp [uN,fJ,gQ,JQ]
theorem BX (l:List ByteArray) (k:Nat) (h:k+1<l.length):fJ (uN (l.take (k+1+1)))=fJ (uN (l.take (k+1)))++(mC l[k].data.toList l[k+1].data.toList++l[k+1].data.toList):=by
 rw [As,As,aO (by rw [yj];exact h),aO (by rw [yj];omega),DD _ _ h,DD _ _ (by omega)]
 exact oj _ _ _ _
theorem qz (m:Nat):∀(l:List (List UInt8)) (p:List UInt8),(∀s∈l,s.length<=m)->(gQ p l).length<=l.length * (m+1)
 | [],_,_=>by simp [gQ]
 | s::l,p,h=>by
  have b:=qz m l s fun x a=>h x (List.mem_cons_of_mem _ a)
  have c:=h s (List.mem_cons_self ..)
  have d:(mC p s).length<=1:=by unfold mC;split <;> simp
  rw [gQ,aB,aB,bo,Nat.add_mul];omega
theorem vP (m:Nat) (l:List ByteArray) (h:∀s∈l,s.size<=m):(fJ (uN l)).length<=l.length * (m+1):=by
 have:=qz m (uN l) [] (fun s a=>by
  unfold uN at a
  rw [List.mem_map] at a
  obtain ⟨x,b,rfl⟩:=a
  rw [size_data];exact h x b)
 unfold uN at this |-
 rw [List.length_map] at this;exact this
end Hb
namespace Go.Proofs.YtlikcjbjibhjgaaGreatDoor
open Go.RowKit Hb
theorem jr (B b:Nat) (a l:List UInt8) (w:ai) (h:fy 108 5 B b (Hb.byteCells a) w) (d:a.length+l.length<=140737488355328) (c:B<=w.heap.size) :
  aJ ah 51 #[au (some ⟨b,0,none⟩),aa ⟨l.toArray⟩] w fun e w'=>e=aw (aK #[ab ae l.length,.nilIface])/\(fy 108 5 B b (Hb.byteCells (a++l)) w'/\ax B w w') :=
 (vd B b (Hb.byteCells a) ⟨l.toArray⟩ w h (by rw [pl];exact d) c).mono fun _ _ ⟨he,h1,h2⟩=>⟨he,.inr (by rw [uZ];exact h1),h2⟩
theorem Gw (s:ByteArray) (w:ai) (K:s.size<=1000000) (l:Tab15 w) :
  aJ ah 177 #[aa s] w fun e w'=>e=aw (aa ⟨(gB s.data.toList).toArray⟩)/\ax w.heap.size w w':=by
 have u:=zq l
 clear l
 have t:=zq (show gB s.data.toList=39::lL 39 s.data.toList++[39] from rfl)
 have h:=zq (yi s.data.toList)
 rw [size_data] at h
 have j:=Dm 108 5 w
 have r:=zq j
 clear j
 go_enter Tryz.func177,Tryz.ntmps177
 go_wp2_with fail
 refine (jr w.heap.size w.heap.size [] [39] _ r.out (by simp) (by simp)).mono ?_
 rintro e M ⟨rfl,g,a⟩
 rw [List.nil_append] at g
 have z:=((aj w.heap.size w).alloc (ag _) (.cells #[au none,.slice none 0 0] 108)).trans a
 have d:=zq g
 clear g a
 go_wp2_with fail
 go_loopw [13] (fun i wr=>∃k:Nat,k<=s.size/\i=ab ae k/\Hid (fy 108 5 w.heap.size w.heap.size (Hb.byteCells (39::lL 39 (s.data.toList.take k))) wr)/\ax w.heap.size w wr) (fun i _=>s.size-(intOf i).toNat)
 case atStart=>exact ⟨0,bp _,rfl,d.out,z⟩
 case round=>
  obtain ⟨k,J,rfl,d,a⟩:=hrel
  have m:=a.size
  by_cases n:k<s.size
  ·have H:=kA s k n
   have C:=jR s.data.toList k
   have D:=kh s.data.toList k
   have x:=zq (Fu s.data.toList k (by simpa using n))
   have v:=zq (show (39::lL 39 (s.data.toList.take k)).length+(Ab (iK s.data.toList k)).length<=140737488355328 by
    have y:=yi (s.data.toList.take k)
    have G:=Du (iK s.data.toList k)
    rw [bM] at y
    rw [bo];omega)
   generalize iK s.data.toList k=c at *
   have p:=zq (yh c wr C D (u.out.below a))
   go_wp2_with fail
   refine p.out.mono ?_;rintro e E ⟨rfl,b⟩
   have q:=zq (rH d.out b)
   have I:=b.size
   go_wp2_with fail
   refine (jr w.heap.size w.heap.size _ (Ab c) _ q.out v.out (by omega)).mono ?_
   rintro e F ⟨rfl,B,f⟩
   go_wp2_with fail
   go_roundw
   case rel=>exact ⟨k+1,by omega,by go_num,by rw [x.out];exact B,(a.trans (b.mono m)).trans f⟩
   case measure=>simp [intOf];omega
  ·have o:s.data.toList.take k=s.data.toList:=bA (by simp;omega)
   rw [o] at d
   clear o
   go_wp2_with fail
   refine (jr w.heap.size w.heap.size _ [39] _ d.out (by have:=h.out;simp;omega) m).mono ?_
   rintro e E ⟨rfl,A,b⟩
   have L:=b.size
   go_wp2_with fail
   refine (Tryz.Builder_String_any w.heap.size w.heap.size _ _ A (by omega)).mono ?_
   rintro e F ⟨rfl,f⟩
   go_wp2_with fail
   go_ret
   exact ⟨oM (by rw [t.out];rfl),(a.trans b).trans f⟩
theorem JO (s:ByteArray) (w:ai) (h:s.size<=1000000) (c:Tab15 w) :
  aJ ah 141 #[aa s] w fun e w'=>e=aw (aa ⟨(gA s.data.toList).toArray⟩)/\ax w.heap.size w w':=by
 have f:=zq c
 clear c
 have d:=zq (Gx s w (by unfold be;omega))
 cases hp:mj s.data.toList
 all_goals
  have b:=zq hp
  clear hp
  go_enter Tryz.func141,Tryz.ntmps141
  go_wp2_with fail
  refine d.out.mono ?_;rintro e j ⟨rfl,a⟩;rw [b.out]
  have i:=a.size
  go_wp2_with fail
 ·refine (Gw s _ h (f.out.below a)).mono ?_;rintro e k ⟨rfl,g⟩
  go_wp2_with fail
  go_ret
  exact ⟨oM (by unfold gA;rw [b.out];rfl),a.trans (g.mono i)⟩
 ·go_ret
  exact ⟨oM (by unfold gA;rw [b.out];simp),a⟩
theorem JM (A:Option Addr) (n O:Nat) (l:List ByteArray) (w:ai) (G:n=l.length) (hm:n<=100000) (H:StrsAt w A l) (J:∀s∈l,s.size<=1000000) :
  aJ ah 29 #[.slice A n O] w fun e w'=>e=aw (aa ⟨(fJ (uN l)).toArray⟩)/\ax w.heap.size w w':=by
 have z:=zq G
 have B:=zq H
 have v:=zq J
 clear H J
 have K:=zq (Dm 108 5 w)
 have F:∀k,k<=n->(fJ (uN (l.take k))).length<=100000 * 1000001:=fun k T=>by
  have:=vP 1000000 (l.take k) (fun s U=>v.out s (List.mem_of_mem_take U))
  rw [bM] at this
  refine Nat.le_trans this (Nat.mul_le_mul_right _ ?_)
  omega
 have M:=zq F
 clear F
 clear G
 go_enter Tryz.func29,Tryz.ntmps29
 go_wp2_with fail
 go_loopw [10] (fun i wr=>∃k:Nat,k<=n/\i=ab ae k/\Hid (fy 108 5 w.heap.size w.heap.size (Hb.byteCells (fJ (uN (l.take k)))) wr)/\ax w.heap.size w wr) (fun i _=>n-(intOf i).toNat)
 case atStart=>exact ⟨0,bp _,rfl,K.out,(aj w.heap.size w).alloc (ag _) _⟩
 case round=>
  obtain ⟨k,T,rfl,d,b⟩:=hrel
  have q:=b.size
  by_cases a1:k<n
  ·have r:k<l.length:=by have:=z.out;omega
   obtain ⟨g,off,rfl,Z,N⟩:=(B.out.below b) k r
   have a3:=v.out l[k] (aR r)
   by_cases E:k=0
   ·subst E
    have m:=zq (BW l r)
    have D:fJ (uN (l.take 0))=[]:=rfl
    rw [D] at d
    clear D
    rw [Nat.add_zero] at N
    generalize l[0]=s at *
    go_wp2_with fail
    refine (jr w.heap.size w.heap.size [] s.data.toList _ d.out (by rw [size_data];simp;omega) q).mono ?_
    rintro e x ⟨rfl,f,a⟩
    go_wp2_with fail
    go_roundw
    case rel=>exact ⟨0+1,by omega,by go_num,by rw [m.out];exact f,b.trans a⟩
    case measure=>simp [intOf];omega
   ·obtain ⟨j,rfl⟩:∃j,k=j+1:=⟨k-1,by omega⟩
    obtain ⟨P,V,o,_,X⟩:=(B.out.below b) j (by omega)
    obtain ⟨rfl,rfl⟩:P=g/\V=off:=by injection o with o;injection o with h1 h2 _;exact ⟨h1.symm,h2.symm⟩
    have a2:=v.out l[j] (aR (by omega))
    have m:=zq (BX l j r)
    clear o E
    generalize l[j+1]=s at *
    generalize l[j]=p at *
    have y:=zq (JN p s wr (by unfold be;omega))
    have u:=zq (M.out (j+1) (by omega))
    generalize fJ (uN (l.take (j+1)))=C at *
    have a0:decide ((j:Int)+1<n)=true:=by simp;omega
    cases hg':fv p.data.toList s.data.toList
    ·have h:=zq hg'
     clear hg'
     go_wp2_with fail
     refine y.out.mono ?_;rintro e W ⟨rfl,c⟩;rw [h.out]
     have t:=zq (rH d.out c)
     have S:=c.size
     go_wp2_with fail
     refine (jr w.heap.size w.heap.size C s.data.toList _ t.out (by have:=u.out;rw [size_data];omega) (by omega)).mono ?_
     rintro e x ⟨rfl,f,a⟩
     go_wp2_with fail
     go_roundw
     case rel=>exact ⟨j+1+1,by omega,by go_num,by rw [m.out];unfold mC;rw [h.out];exact f,(b.trans (c.mono q)).trans a⟩
     case measure=>simp [intOf];omega
    ·have h:=zq hg'
     clear hg'
     go_wp2_with fail
     refine y.out.mono ?_;rintro e W ⟨rfl,c⟩;rw [h.out]
     have t:=zq (rH d.out c)
     have S:=c.size
     go_wp2_with fail
     refine (jr w.heap.size w.heap.size C [32] _ t.out (by have:=u.out;simp;omega) (by omega)).mono ?_
     rintro e x ⟨rfl,f,a⟩
     have L:=zq f
     clear f
     have Y:=a.size
     go_wp2_with fail
     refine (jr w.heap.size w.heap.size _ s.data.toList _ L.out (by have:=u.out;rw [size_data,aB];simp;omega) (by omega)).mono ?_
     rintro e w4 ⟨rfl,R,Q⟩
     go_wp2_with fail
     go_roundw
     case rel=>exact ⟨j+1+1,by omega,by go_num,by rw [m.out];unfold mC;rw [h.out,if_pos rfl,<-bj];exact R,((b.trans (c.mono q)).trans a).trans Q⟩
     case measure=>simp [intOf];omega
  ·have I:l.take k=l:=bA (by have:=z.out;omega)
   rw [I] at d
   clear I
   go_wp2_with fail
   refine (Tryz.Builder_String_any w.heap.size w.heap.size _ _ d.out q).mono ?_
   rintro e x ⟨rfl,a⟩
   go_wp2_with fail
   go_ret
   exact ⟨rfl,b.trans a⟩
end Go.Proofs.YtlikcjbjibhjgaaGreatDoor
