/- Parts of the proof. -/
import Derived.Test.YtgapnafkelokaaaGreatDoorR01
import Derived.Test.YtgapnafkelokaaaGreatDoorR04
import Derived.Laws.EntriesVeiled
import Derived.Test.YtgapnafkelokaaaGreatDoorR03
import Derived.Test.YtgapnafkelokaaaGreatDoorProg
import Derived.Test.YtgapnafkelokaaaGreatDoorR02
import Derived.Laws.Rows
import Derived.Laws.Tables
import Derived.Laws.CopyOwn
import Derived.Shelf.SlSortCmp.Insertion
import Derived.Laws.OwnMore
import Derived.Shelf.SlSortCmp.QuietGrown
import Derived.Laws.AppendOwnNone
import Derived.Lib.SliceRun
import Derived.Deep.RegionHeld3
import Derived.Laws.Shifts
import Derived.Test.YtgapnafkelokaaaGreatDoorRows
import Derived.Test.YtgapnafkelokaaaGreatDoorTie
import Derived.Test.YtgapnafkelokaaaGreatDoorCards
import Derived.ProofKit
import Derived.LaidMore
import Derived.OpenShut
import Derived.Stop.Joined
import Derived.Stop.LaidErr
import Derived.Lib.LaidTab
import Derived.Lib.ItoaNum
import Derived.Lib.SmallJoins
import Derived.SevenTiedAt
set_option maxHeartbeats 12800000
set_option maxRecDepth 100000
open Array renaming getElem?_append_left -> eJ
open Go renaming Calls -> aG, Value -> aA, World -> aj, maxLen -> bc, wpList -> dW
open Go.Ending renaming returned -> av
open Go.Instr renaming buildSlice -> dp
open Go.IntKind renaming i64 -> ae
open Go.Lib renaming IsBuilder -> ff
open Go.Proofs.Tryz renaming prog -> ah, underlying5 -> dA, underlying75 -> bU, underlying9 -> ci
open Go.RowKit renaming Below -> ay
open Go.RowKit.Below renaming refl -> ak
open Go.Sort renaming grow -> fb
open Go.Value renaming bool -> an, int -> ab, pointer -> ax, slice -> ex, string -> aa, tuple -> aF
open Go.World renaming cell?_alloc_new -> aq
open List renaming append_assoc -> bG, flatMap_append -> fC, getElem_mem -> aQ, length_append -> aC, length_cons -> be, length_map -> bm, length_take -> cZ, range -> aX, take_of_length_le -> bg, take_succ_eq_append_getElem -> aK
open Nat renaming le_refl -> ag, le_trans -> aH, lt_of_lt_of_le -> aB, zero_add -> ap, zero_le -> bj
namespace Go.Proofs.YtgapnafkelokaaaGreatDoor
open Go.RowKit Hb
def Tab15 (w:aj):Prop:=3<w.heap.size/\w.cell? ⟨3,15,none⟩=some (ab .u8 4)
theorem Tab15.below {w w':aj} (h:Tab15 w) (a:ay w.heap.size w w'):Tab15 w':=⟨aB h.1 a.size,(a.cell (p:=⟨_,15,none⟩) h.1).trans h.2⟩
theorem Fr:∀n:Nat,n<256->(n<7\/(13<n/\n<32)\/126<n)->[92,120]++vN n++[92]=yh n:=by decide +kernel
theorem qk (c:Int) (w:aj) (b:0<=c) (g:c<=255) (a:c<7\/(13<c/\c<32)\/126<c) (h:Tab15 w) :
  aG ah 203 #[ab ae c] w fun e w'=>e=av (aF #[aa ⟨(yh c).toArray⟩,an (iP c)])/\ay w.heap.size w w':=by
 have j:=zq (show [92,120]++vN c++[92]=yh c by
  obtain ⟨n,rfl⟩:=Int.eq_ofNat_of_zero_le b
  exact Fr n (by omega) (by omega))
 have d:=zq (show iP c=true from (kc c).2 ⟨b,g⟩)
 have p:(c==39)=false:=by simp;omega
 have q:(c==92)=false:=by simp;omega
 have f:=zq h
 clear h
 have o:(vN c).length<=2:=by unfold vN;split <;> simp
 generalize i:vN c=x at *
 have k:=zq i
 clear i
 rcases a with a | a | a
 all_goals
  go_enter Tryz.func203,Tryz.ntmps203
  go_wp2_with fail
  refine (jF _ _).mono ?_;rintro e m ⟨rfl,rfl⟩;rw [d.out]
  go_wp2_with fail
  refine (KP c _ b g f.out.2 f.out.1).mono ?_;rintro e m ⟨rfl,l⟩;rw [k.out]
  go_wp2_with fail
  go_ret2
  refine ⟨uW ?_ d.out.symm,l⟩
  rw [<-j.out]
  apply ByteArray.ext
  simp
theorem oB (c:Int) (w:aj) (g:32<=c) (h:c<=126) (d:¬c=39) (f:¬c=92) :
  aG ah 203 #[ab ae c] w fun e w'=>e=av (aF #[aa ⟨(yh c).toArray⟩,an (iP c)])/\ay w.heap.size w w':=by
 have b:=zq (show yh c=[c.toNat.toUInt8] by unfold yh;grind)
 have a:=zq (show iP c=true by simp [iP];omega)
 have j:(c==39)=false:=by grind
 have k:(c==92)=false:=by grind
 clear d f
 have i:=fun (w:aj)=>qj (P:=ah) 75 9 5 bU dA ci c (by omega) (by omega) w
 go_enter Tryz.func203,Tryz.ntmps203
 go_wp2_with (first | (go_at_call 102;refine (jF _ _).mono ?_;rintro e w' ⟨rfl,rfl⟩;rw [a.out]))
 go_ret2
 exact ⟨uW (by rw [b.out]) a.out.symm,(ak _ _).alloc (ag _) _⟩
theorem oA (c:Int) (w:aj) (f:c=39\/c=92) :
  aG ah 203 #[ab ae c] w fun e w'=>e=av (aF #[aa ⟨(yh c).toArray⟩,an (iP c)])/\ay w.heap.size w w':=by
 rcases f with rfl|rfl
 all_goals
  have a:=fun (n:Int) (b:0<=n) (d:n<=255) (w:aj)=>qj (P:=ah) 75 9 5 bU dA ci n b d w
  have g:=a 39 (by decide) (by decide)
  have h:=a 92 (by decide) (by decide)
  clear a
  go_enter Tryz.func203,Tryz.ntmps203
  go_wp2_with (first | (go_at_call 102;refine (jF _ _).mono ?_;rintro e w' ⟨rfl,rfl⟩;rw [show iP _=true from rfl]))
  go_ret2
  exact ⟨uW rfl rfl,(ak _ _).alloc (ag _) _⟩
theorem nM (c:Int) (w:aj) (b:7<=c) (d:c<=13) :
  aG ah 203 #[ab ae c] w fun e w'=>e=av (aF #[aa ⟨(yh c).toArray⟩,an (iP c)])/\ay w.heap.size w w':=by
 have a:c=7\/c=8\/c=9\/c=10\/c=11\/c=12\/c=13:=by omega
 rcases a with rfl|rfl|rfl|rfl|rfl|rfl|rfl
 all_goals
  go_enter Tryz.func203,Tryz.ntmps203
  go_wp2_with (first | (go_at_call 102;refine (jF _ _).mono ?_;rintro e w' ⟨rfl,rfl⟩;rw [show iP _=true from rfl]))
  go_ret2
  exact ⟨uW rfl rfl,ak _ _⟩
theorem vW (c:Int) (w:aj) (f:0<=c) (g:c<=255) (h:Tab15 w) :
  aG ah 203 #[ab ae c] w fun e w'=>e=av (aF #[aa ⟨(yh c).toArray⟩,an (iP c)])/\ay w.heap.size w w':=by
 by_cases a:7<=c/\c<=13
 ·exact nM c w a.1 a.2
 by_cases b:c=39\/c=92
 ·exact oA c w b
 by_cases d:32<=c/\c<=126
 ·exact oB c w d.1 d.2 (by omega) (by omega)
 ·exact qk c w f g (by omega) h
def pS:Nat->List UInt8->Bool
 | 0=>kM
 | 1=>kL
 | _=>lp
def od:Nat->FuncId
 | 0=>196
 | 1=>197
 | _=>199
theorem BA (k:Nat) (l:k<3) (s:ByteArray) (b:Nat) (w:aj) (c:w.cell? ⟨b,0,none⟩=some (aa s)) (d:b<w.heap.size) (f:s.size<=bc) :
  aG ah 202 #[.func (.func (od k)) #[] #[ax (some ⟨b,0,none⟩)]] w fun e w'=>e=av (an (pS k s.data.toList))/\ay w.heap.size w w':=by
 have h:=zq (BD s b w c)
 have i:=zq (BC s b w c d f)
 have j:=zq (BB s b w c d f)
 match k,l with
 | 0,_=>
  unfold od pS
  go_enter Tryz.func202,Tryz.ntmps202
  go_wp2_with fail
  refine h.out.mono ?_;rintro e g ⟨rfl,a⟩
  go_wp2_with fail
  go_ret
  exact ⟨rfl,a⟩
 | 1,_=>
  unfold od pS
  go_enter Tryz.func202,Tryz.ntmps202
  go_wp2_with fail
  refine i.out.mono ?_;rintro e g ⟨rfl,a⟩
  go_wp2_with fail
  go_ret
  exact ⟨rfl,a⟩
 | 2,_=>
  unfold od pS
  go_enter Tryz.func202,Tryz.ntmps202
  go_wp2_with fail
  refine j.out.mono ?_;rintro e g ⟨rfl,a⟩
  go_wp2_with fail
  go_ret
  exact ⟨rfl,a⟩
def lj (s:List UInt8):Int:=if kM s=true then 0 else if kL s=true then 1 else if lp s=true then 2 else -1
theorem BE (g:Nat) (s:ByteArray) (b:Nat) (w:aj) (o:w.cell? ⟨b,0,none⟩=some (aa s)) (v:b<w.heap.size) (z:s.size<=bc) (x:g<w.heap.size)
  (m:∀k:Nat,k<3->w.cell? ⟨g,k,none⟩=some (.func (.func (od k)) #[] #[ax (some ⟨b,0,none⟩)])) :
  aG ah 215 #[.slice (some ⟨g,0,none⟩) 3 3,.func (.func 202) #[] #[]] w fun e w'=>e=av (ab ae (lj s.data.toList))/\ay w.heap.size w w':=by
 have r:=zq m
 have t:=zq o
 clear m o
 go_enter Tryz.func215,Tryz.ntmps215
 go_wp2_with fail
 go_loopw [8] (fun i wr=>∃k:Nat,k<=3/\i=ab ae k/\Hid (∀j,j<k->pS j s.data.toList=false)/\ay w.heap.size w wr) (fun i _=>3-(intOf i).toNat)
 case atStart=>exact ⟨0,bj _,rfl,fun j h=>absurd h (by omega),ak _ _⟩
 case round=>
  obtain ⟨k,E,rfl,a,d⟩:=hrel
  have C:=d.size
  by_cases f:k<3
  ·have B:=(d.cell (p:=⟨g,k,none⟩) x).trans (r.out k f)
   have q:=zq (tf d (BA k f s b wr ((d.cell (p:=⟨b,0,none⟩) v).trans t.out) (by omega) z))
   generalize n:od k=F at *
   have A:=zq n
   clear n
   cases hq:pS k s.data.toList
   all_goals
    have c:=zq hq
    clear hq
    go_wp2_with fail
    refine q.out.mono ?_;rintro e G ⟨rfl,l⟩;rw [c.out]
    go_wp2_with fail
   ·go_roundw
    case rel=>exact ⟨k+1,by omega,by go_num,fun j D=>(by
     by_cases y:j=k
     ·rw [y];exact c.out
     ·exact a.out j (by omega)),l⟩
    case measure=>simp [intOf];omega
   ·go_ret
    refine ⟨cT ?_,l⟩
    unfold lj
    match k,f,a,c with
    | 0,_,a,c=>rw [if_pos (show kM _=true from c.out)];rfl
    | 1,_,a,c=>rw [if_neg (by have:=a.out 0 (by omega);exact fun h=>by rw [show kM _=false from this] at h;cases h),if_pos (show kL _=true from c.out)];rfl
    | 2,_,a,c=>rw [if_neg (by have:=a.out 0 (by omega);exact fun h=>by rw [show kM _=false from this] at h;cases h),if_neg (by have:=a.out 1 (by omega);exact fun h=>by rw [show kL _=false from this] at h;cases h),if_pos (show lp _=true from c.out)];rfl
  ·have u:k=3:=by omega
   subst u
   go_wp2_with fail
   go_ret
   refine ⟨cT ?_,d⟩
   unfold lj
   rw [if_neg (by have:=a.out 0 (by omega);exact fun h=>by rw [show kM _=false from this] at h;cases h),if_neg (by have:=a.out 1 (by omega);exact fun h=>by rw [show kL _=false from this] at h;cases h),if_neg (by have:=a.out 2 (by omega);exact fun h=>by rw [show lp _=false from this] at h;cases h)]
theorem xr (s:List UInt8):ln s=(decide (s.length<=100)&&decide (0<=lj s)):=by
 have d:decide (0<=lj s)=(kM s||(kL s||lp s)):=by
  unfold lj
  cases kM s <;> cases kL s <;> cases lp s <;> rfl
 rw [d]
 unfold ln uN kM kL lp qp Lib.hasPrefix
 have c:∀a:List UInt8,(s==a)=decide (s=a):=fun a=>by rw [Bool.eq_iff_iff];simp
 have f:(([47,42]:List UInt8).isPrefixOf s)=(s.take 2==[47,42]):=by
  match s with
  | []=>rfl
  | [a]=>simp [List.isPrefixOf]
  | a::b::l=>rw [Bool.eq_iff_iff];simp [List.isPrefixOf];constructor <;> (rintro ⟨h,e⟩;exact ⟨h.symm,e.symm⟩)
 rw [f,c,c,c,c,c]
 cases hs:s with
 | nil=>decide +kernel
 | cons a l=>
  have g:au (a::l) 0=ie (a::l) 0:=eU _ _ (by simp)
  rw [g]
  simp only [List.isEmpty_cons,Bool.not_false,Bool.and_true,Bool.true_and]
theorem wV (g:Nat) (s:ByteArray) (b:Nat) (w:aj) (c:w.cell? ⟨b,0,none⟩=some (aa s)) (f:b<w.heap.size) (i:s.size<=bc) (h:g<w.heap.size)
  (a:∀k:Nat,k<3->w.cell? ⟨g,k,none⟩=some (.func (.func (od k)) #[] #[ax (some ⟨b,0,none⟩)])) :
  aG ah 201 #[.slice (some ⟨g,0,none⟩) 3 3,.func (.func 202) #[] #[]] w fun e w'=>e=av (an (decide (0<=lj s.data.toList)))/\ay w.heap.size w w':=by
 have H:=zq (BE g s b w c f i h a)
 clear a c
 generalize lj s.data.toList=r at *
 go_enter Tryz.func201,Tryz.ntmps201
 go_wp2_with fail
 refine H.out.mono ?_;rintro e j ⟨rfl,d⟩
 go_wp2_with fail
 go_ret
 exact ⟨rfl,d⟩
theorem DR (s:ByteArray) (w:aj) (h:s.size<=bc) :
  aG ah 167 #[aa s] w fun e w'=>e=av (an (ln s.data.toList))/\ay w.heap.size w w':=by
 have a:=zq (xr s.data.toList)
 rw [size_data] at a
 by_cases c:100<s.size
 ·have d:decide ((100:Int)<s.size)=true:=by simp;omega
  have b:=zq (show decide (s.size<=100)=false by simp;omega)
  clear c
  go_enter Tryz.func167,Tryz.ntmps167
  go_wp2_with fail
  go_ret
  exact ⟨bC (by rw [a.out,b.out];rfl),(ak _ _).alloc (ag _) _⟩
 ·have d:decide ((100:Int)<s.size)=false:=by simp;omega
  have b:=zq (show decide (s.size<=100)=true by simp;omega)
  clear c
  go_enter Tryz.func167,Tryz.ntmps167
  go_wp2_with fail
  refine (wV (w.heap.size+1) s w.heap.size _ ?_ ?_ h ?_ ?_).mono ?_
  ·rw [World.cell?_alloc_lt _ _ _ (by simp),aq];rfl
  ·simp;omega
  ·simp
  ·intro k g
   have e:(w.alloc (.cells #[aa s] 9)).heap.size=w.heap.size+1:=by simp
   rw [<-e,aq]
   match k,g with
   | 0,_=>rfl
   | 1,_=>rfl
   | 2,_=>rfl
  rintro e i ⟨rfl,f⟩
  go_wp2_with fail
  go_ret
  exact ⟨bC (by rw [a.out,b.out];rfl),(((ak _ _).alloc (ag _) _).alloc (by simp) _).trans (f.mono (by simp;omega))⟩
end Go.Proofs.YtgapnafkelokaaaGreatDoor
namespace Hb
open Go Go.RowKit
theorem CY (s:List UInt8) (k:Nat) (h:k<s.length):kS 39 (s.take (k+1))=kS 39 (s.take k)++yh (ie s k):=by
 rw [aK h,CZ,FK,ic _ _ h]
theorem AX (c:Int):(yh c).length<=5:=by
 unfold yh;repeat' split
 all_goals simp
theorem vX (s:List UInt8):(kS 39 s).length<=5 * s.length:=by
 induction s with
 | nil=>simp [kS]
 | cons b s ih=>have:=AX (b.toNat:Int);rw [uA,FK,aC,be];omega
theorem tH (a b:List UInt8):Hb.byteCells (a++b)=Hb.byteCells a++Hb.byteCells b:=by simp [Hb.byteCells]
def rt (l:List ByteArray):List (List UInt8):=l.map fun s=>s.data.toList
theorem Gv (b:List UInt8):lf [] b=[]:=rfl
theorem vY (l:List ByteArray):(rt l).length=l.length:=by simp [rt]
theorem Bd (l:List ByteArray) (k:Nat) (h:k<l.length):(rt l)[k]'(by rw [vY];exact h)=l[k].data.toList:=by simp [rt]
theorem mX (a b:List UInt8):∀(l:List (List UInt8)) (p:List UInt8),eV p (l++[a]++[b])=eV p (l++[a])++(lf a b++b)
 | [],p=>by simp [eV]
 | x::l,p=>by
  have:=mX a b l x
  show lf p x++x++eV x (l++[a]++[b])=(lf p x++x++eV x (l++[a]))++(lf a b++b)
  rw [this,bG (lf p x++x)]
theorem yv (l:List ByteArray) (k:Nat):rt (l.take k)=(rt l).take k:=by unfold rt;rw [List.map_take]
theorem zI (l:List ByteArray) (h:0<l.length):dP (rt (l.take 1))=l[0].data.toList:=by
 match l,h with
 | s::l,_=>simp [rt,dP,eV,Gv]
theorem zJ (l:List ByteArray) (k:Nat) (h:k+1<l.length):dP (rt (l.take (k+1+1)))=dP (rt (l.take (k+1)))++(lf l[k].data.toList l[k+1].data.toList++l[k+1].data.toList):=by
 rw [yv,yv,aK (by rw [vY];exact h),aK (by rw [vY];omega),Bd _ _ h,Bd _ _ (by omega)]
 exact mX _ _ _ _
theorem pg (m:Nat):∀(l:List (List UInt8)) (p:List UInt8),(∀s∈l,s.length<=m)->(eV p l).length<=l.length * (m+1)
 | [],_,_=>by simp [eV]
 | s::l,p,h=>by
  have b:=pg m l s fun x a=>h x (List.mem_cons_of_mem _ a)
  have c:=h s (List.mem_cons_self ..)
  have d:(lf p s).length<=1:=by unfold lf;split <;> simp
  rw [eV,aC,aC,be,Nat.add_mul];omega
theorem uk (m:Nat) (l:List ByteArray) (h:∀s∈l,s.size<=m):(dP (rt l)).length<=l.length * (m+1):=by
 have:=pg m (rt l) [] (fun s a=>by
  unfold rt at a
  rw [List.mem_map] at a
  obtain ⟨x,b,rfl⟩:=a
  rw [size_data];exact h x b)
 unfold rt at this |-
 rw [bm] at this;exact this
end Hb
namespace Go.Proofs.YtgapnafkelokaaaGreatDoor
open Go.RowKit Hb
theorem iK (B b:Nat) (a l:List UInt8) (w:aj) (h:ff 108 5 B b (Hb.byteCells a) w) (d:a.length+l.length<=140737488355328) (c:B<=w.heap.size) :
  aG ah 60 #[ax (some ⟨b,0,none⟩),aa ⟨l.toArray⟩] w fun e w'=>e=av (aF #[ab ae l.length,.nilIface])/\(ff 108 5 B b (Hb.byteCells (a++l)) w'/\ay B w w') :=
 (tI B b (Hb.byteCells a) ⟨l.toArray⟩ w h (by rw [nS];exact d) c).mono fun _ _ ⟨he,h1,h2⟩=>⟨he,.inr (by rw [tH];exact h1),h2⟩
theorem DQ (s:ByteArray) (w:aj) (K:s.size<=1000000) (l:Tab15 w) :
  aG ah 168 #[aa s] w fun e w'=>e=av (aa ⟨(fY s.data.toList).toArray⟩)/\ay w.heap.size w w':=by
 have u:=zq l
 clear l
 have t:=zq (show fY s.data.toList=39::kS 39 s.data.toList++[39] from rfl)
 have h:=zq (vX s.data.toList)
 rw [size_data] at h
 have j:=AS 108 5 w
 have r:=zq j
 clear j
 go_enter Tryz.func168,Tryz.ntmps168
 go_wp2_with fail
 refine (iK w.heap.size w.heap.size [] [39] _ r.out (by simp) (by simp)).mono ?_
 rintro e M ⟨rfl,g,a⟩
 rw [List.nil_append] at g
 have z:=((ak w.heap.size w).alloc (ag _) (.cells #[ax none,.slice none 0 0] 108)).trans a
 have d:=zq g
 clear g a
 go_wp2_with fail
 go_loopw [13] (fun i wr=>∃k:Nat,k<=s.size/\i=ab ae k/\Hid (ff 108 5 w.heap.size w.heap.size (Hb.byteCells (39::kS 39 (s.data.toList.take k))) wr)/\ay w.heap.size w wr) (fun i _=>s.size-(intOf i).toNat)
 case atStart=>exact ⟨0,bj _,rfl,d.out,z⟩
 case round=>
  obtain ⟨k,J,rfl,d,a⟩:=hrel
  have m:=a.size
  by_cases n:k<s.size
  ·have H:=jU s k n
   have C:=jj s.data.toList k
   have D:=jG s.data.toList k
   have x:=zq (CY s.data.toList k (by simpa using n))
   have v:=zq (show (39::kS 39 (s.data.toList.take k)).length+(yh (ie s.data.toList k)).length<=140737488355328 by
    have y:=vX (s.data.toList.take k)
    have G:=AX (ie s.data.toList k)
    rw [cZ] at y
    rw [be];omega)
   generalize ie s.data.toList k=c at *
   have p:=zq (vW c wr C D (u.out.below a))
   go_wp2_with fail
   refine p.out.mono ?_;rintro e E ⟨rfl,b⟩
   have q:=zq (pZ d.out b)
   have I:=b.size
   go_wp2_with fail
   refine (iK w.heap.size w.heap.size _ (yh c) _ q.out v.out (by omega)).mono ?_
   rintro e F ⟨rfl,B,f⟩
   go_wp2_with fail
   go_roundw
   case rel=>exact ⟨k+1,by omega,by go_num,by rw [x.out];exact B,(a.trans (b.mono m)).trans f⟩
   case measure=>simp [intOf];omega
  ·have o:s.data.toList.take k=s.data.toList:=bg (by simp;omega)
   rw [o] at d
   clear o
   go_wp2_with fail
   refine (iK w.heap.size w.heap.size _ [39] _ d.out (by have:=h.out;simp;omega) m).mono ?_
   rintro e E ⟨rfl,A,b⟩
   have L:=b.size
   go_wp2_with fail
   refine (Tryz.Builder_String_any w.heap.size w.heap.size _ _ A (by omega)).mono ?_
   rintro e F ⟨rfl,f⟩
   go_wp2_with fail
   go_ret
   exact ⟨nB (by rw [t.out];rfl),(a.trans b).trans f⟩
theorem Gt (s:ByteArray) (w:aj) (h:s.size<=1000000) (c:Tab15 w) :
  aG ah 119 #[aa s] w fun e w'=>e=av (aa ⟨(gq s.data.toList).toArray⟩)/\ay w.heap.size w w':=by
 have f:=zq c
 clear c
 have d:=zq (DR s w (by unfold bc;omega))
 cases hp:ln s.data.toList
 all_goals
  have b:=zq hp
  clear hp
  go_enter Tryz.func119,Tryz.ntmps119
  go_wp2_with fail
  refine d.out.mono ?_;rintro e j ⟨rfl,a⟩;rw [b.out]
  have i:=a.size
  go_wp2_with fail
 ·refine (DQ s _ h (f.out.below a)).mono ?_;rintro e k ⟨rfl,g⟩
  go_wp2_with fail
  go_ret
  exact ⟨nB (by unfold gq;rw [b.out];rfl),a.trans (g.mono i)⟩
 ·go_ret
  exact ⟨nB (by unfold gq;rw [b.out];simp),a⟩
theorem Gr (A:Option Addr) (n O:Nat) (l:List ByteArray) (w:aj) (G:n=l.length) (hm:n<=100000) (H:StrsAt w A l) (J:∀s∈l,s.size<=1000000) :
  aG ah 35 #[.slice A n O] w fun e w'=>e=av (aa ⟨(dP (rt l)).toArray⟩)/\ay w.heap.size w w':=by
 have z:=zq G
 have B:=zq H
 have v:=zq J
 clear H J
 have K:=zq (AS 108 5 w)
 have F:∀k,k<=n->(dP (rt (l.take k))).length<=100000 * 1000001:=fun k T=>by
  have:=uk 1000000 (l.take k) (fun s U=>v.out s (List.mem_of_mem_take U))
  rw [cZ] at this
  refine aH this (Nat.mul_le_mul_right _ ?_)
  omega
 have M:=zq F
 clear F
 clear G
 go_enter Tryz.func35,Tryz.ntmps35
 go_wp2_with fail
 go_loopw [10] (fun i wr=>∃k:Nat,k<=n/\i=ab ae k/\Hid (ff 108 5 w.heap.size w.heap.size (Hb.byteCells (dP (rt (l.take k)))) wr)/\ay w.heap.size w wr) (fun i _=>n-(intOf i).toNat)
 case atStart=>exact ⟨0,bj _,rfl,K.out,(ak w.heap.size w).alloc (ag _) _⟩
 case round=>
  obtain ⟨k,T,rfl,d,b⟩:=hrel
  have q:=b.size
  by_cases a1:k<n
  ·have r:k<l.length:=by have:=z.out;omega
   obtain ⟨g,off,rfl,Z,N⟩:=(B.out.below b) k r
   have a3:=v.out l[k] (aQ r)
   by_cases E:k=0
   ·subst E
    have m:=zq (zI l r)
    have D:dP (rt (l.take 0))=[]:=rfl
    rw [D] at d
    clear D
    rw [Nat.add_zero] at N
    generalize l[0]=s at *
    go_wp2_with fail
    refine (iK w.heap.size w.heap.size [] s.data.toList _ d.out (by rw [size_data];simp;omega) q).mono ?_
    rintro e x ⟨rfl,f,a⟩
    go_wp2_with fail
    go_roundw
    case rel=>exact ⟨0+1,by omega,by go_num,by rw [m.out];exact f,b.trans a⟩
    case measure=>simp [intOf];omega
   ·obtain ⟨j,rfl⟩:∃j,k=j+1:=⟨k-1,by omega⟩
    obtain ⟨P,V,o,_,X⟩:=(B.out.below b) j (by omega)
    obtain ⟨rfl,rfl⟩:P=g/\V=off:=by injection o with o;injection o with h1 h2 _;exact ⟨h1.symm,h2.symm⟩
    have a2:=v.out l[j] (aQ (by omega))
    have m:=zq (zJ l j r)
    clear o E
    generalize l[j+1]=s at *
    generalize l[j]=p at *
    have y:=zq (Gs p s wr (by unfold bc;omega))
    have u:=zq (M.out (j+1) (by omega))
    generalize dP (rt (l.take (j+1)))=C at *
    have a0:decide ((j:Int)+1<n)=true:=by simp;omega
    cases hg':eo p.data.toList s.data.toList
    ·have h:=zq hg'
     clear hg'
     go_wp2_with fail
     refine y.out.mono ?_;rintro e W ⟨rfl,c⟩;rw [h.out]
     have t:=zq (pZ d.out c)
     have S:=c.size
     go_wp2_with fail
     refine (iK w.heap.size w.heap.size C s.data.toList _ t.out (by have:=u.out;rw [size_data];omega) (by omega)).mono ?_
     rintro e x ⟨rfl,f,a⟩
     go_wp2_with fail
     go_roundw
     case rel=>exact ⟨j+1+1,by omega,by go_num,by rw [m.out];unfold lf;rw [h.out];exact f,(b.trans (c.mono q)).trans a⟩
     case measure=>simp [intOf];omega
    ·have h:=zq hg'
     clear hg'
     go_wp2_with fail
     refine y.out.mono ?_;rintro e W ⟨rfl,c⟩;rw [h.out]
     have t:=zq (pZ d.out c)
     have S:=c.size
     go_wp2_with fail
     refine (iK w.heap.size w.heap.size C [32] _ t.out (by have:=u.out;simp;omega) (by omega)).mono ?_
     rintro e x ⟨rfl,f,a⟩
     have L:=zq f
     clear f
     have Y:=a.size
     go_wp2_with fail
     refine (iK w.heap.size w.heap.size _ s.data.toList _ L.out (by have:=u.out;rw [size_data,aC];simp;omega) (by omega)).mono ?_
     rintro e w4 ⟨rfl,R,Q⟩
     go_wp2_with fail
     go_roundw
     case rel=>exact ⟨j+1+1,by omega,by go_num,by rw [m.out];unfold lf;rw [h.out,if_pos rfl,<-bG];exact R,((b.trans (c.mono q)).trans a).trans Q⟩
     case measure=>simp [intOf];omega
  ·have I:l.take k=l:=bg (by have:=z.out;omega)
   rw [I] at d
   clear I
   go_wp2_with fail
   refine (Tryz.Builder_String_any w.heap.size w.heap.size _ _ d.out q).mono ?_
   rintro e x ⟨rfl,a⟩
   go_wp2_with fail
   go_ret
   exact ⟨rfl,b.trans a⟩
end Go.Proofs.YtgapnafkelokaaaGreatDoor
namespace Hb
open Go Go.RowKit
def grs:List (Int×Int×List ByteArray):=[(1200,1,[⟨#[58,45]⟩,⟨#[45,45,62]⟩]),(1200,5,[⟨#[58,45]⟩,⟨#[63,45]⟩]),(1100,2,[⟨#[59]⟩]),(1050,2,[⟨#[45,62]⟩]),(1000,2,[⟨#[44]⟩]),(900,4,[⟨#[92,43]⟩]),(700,1,[⟨#[61]⟩,⟨#[92,61]⟩,⟨#[61,61]⟩,⟨#[92,61,61]⟩,⟨#[64,60]⟩,⟨#[64,61,60]⟩,⟨#[64,62]⟩,⟨#[64,62,61]⟩,⟨#[61,46,46]⟩,⟨#[105,115]⟩,⟨#[61,58,61]⟩,⟨#[61,92,61]⟩,⟨#[60]⟩,⟨#[61,60]⟩,⟨#[62]⟩,⟨#[62,61]⟩]),(500,3,[⟨#[43]⟩,⟨#[45]⟩,⟨#[47,92]⟩,⟨#[92,47]⟩]),(400,3,[⟨#[42]⟩,⟨#[47]⟩,⟨#[47,47]⟩,⟨#[114,101,109]⟩,⟨#[109,111,100]⟩,⟨#[100,105,118]⟩,⟨#[60,60]⟩,⟨#[62,62]⟩]),(200,1,[⟨#[42,42]⟩]),(200,2,[⟨#[94]⟩]),(200,4,[⟨#[43]⟩,⟨#[45]⟩,⟨#[92]⟩])]
def Lc (k:Nat):Int:=(grs.getD k (0,0,[])).1
def Lb (k:Nat):Int:=(grs.getD k (0,0,[])).2.1
def Cy (k:Nat):List ByteArray:=(grs.getD k (0,0,[])).2.2
def wh (k:Nat):Array aA:=((Cy k).map Value.string).toArray
def Kd:Array aA:=((aX 12).flatMap fun _=>[Value.int ae 0,ab ae 0,.slice none 0 0]).toArray
structure BS (w w1:aj) (b:Nat) (k:Nat):Prop where
 bel:ay w.heap.size w w1
 lt:b<w1.heap.size
 le:w.heap.size<=b
 cells:∀j v,(wh k)[j]? = some v->w1.cell? ⟨b,j,none⟩=some v
theorem BS.start (w:aj) (k:Nat) (t:TypeId):BS w (w.alloc (.cells (wh k) t)) w.heap.size k where
 bel:=(ak _ _).alloc (ag _) _
 lt:=by simp
 le:=ag _
 cells:=fun j v h=>(aq _ _ _ j).trans h
theorem Ho (k j:Nat) (h:j<(Cy k).length):(wh k)[j]? = some (aa (Cy k)[j]):=by
 unfold wh
 simp [h]
theorem BS.out {w a d:aj} {b k:Nat} (h:BS w a b k) (c:ay a.heap.size a d):b<d.heap.size/\∀(j:Nat) (e:j<(Cy k).length),d.cell? ⟨b,j,none⟩=some (aa (Cy k)[j]) :=
 ⟨aB h.lt c.size,fun j e=>(c.cell (p:=⟨b,j,none⟩) h.lt).trans (h.cells j _ (Ho k j e))⟩
def eu (l:List OpR):List aA:=l.flatMap nH
theorem vB (a b:List OpR):eu (a++b)=eu a++eu b:=by unfold eu;rw [fC]
def KO (k:Nat):List OpR:=(Cy k).map fun s=>⟨s,Lb k,Lc k⟩
def it (k:Nat):List OpR:=(aX k).flatMap KO
theorem pQ (k:Nat):it (k+1)=it k++KO k:=by unfold it;rw [List.range_succ,fC];simp
theorem Ex:(it 12).length=41:=by decide +kernel
theorem GK (k:Nat) (h:k<=12):(it k).length<=41:=by
 have:∀d j,(it j).length<=(it (j+d)).length:=by
  intro d
  induction d with
  | zero=>intro j;exact ag _
  | succ d ih=>intro j;refine aH (ih j) ?_;rw [show j+(d+1)=(j+d)+1 by omega,pQ,aC];omega
 have a:=this (12-k) k
 rw [show k+(12-k)=12 by omega,Ex] at a
 exact a
theorem JE (k:Nat) (h:k<12):(it k).length+(Cy k).length<=41:=by
 have:=GK (k+1) (by omega)
 rw [pQ,aC] at this
 unfold KO at this
 rw [bm] at this
 exact this
def kP (o:OpR):List OpR->List OpR
 | []=>[o]
 | a::l=>if ke o a<0 then o::a::l else a::kP o l
theorem qc (o:OpR):∀l:List OpR,(kP o l).Perm (o::l)
 | []=>List.Perm.refl _
 | a::l=>by
  unfold kP
  split
  ·exact List.Perm.refl _
  ·exact ((qc o l).cons a).trans (List.Perm.swap o a l)
theorem Fe (o:OpR) (l:List OpR):(kP o l).length=l.length+1:=by rw [(qc o l).length_eq];rfl
def dg (a l:List OpR):List OpR:=l.foldl (fun t o=>kP o t) a
theorem qM:∀(l b:List OpR),(dg b l).Perm (b++l)
 | [],b=>by unfold dg;simp
 | o::l,b=>by
  have c:=qM l (kP o b)
  have d:(kP o b++l).Perm (b++o::l):=((qc o b).append_right l).trans (by simpa using (List.perm_middle (a:=o) (l₁:=b) (l₂:=l)).symm)
  exact c.trans d
def defL:List OpR:=dg [] (it 12)
theorem vR:bF defL=true:=by decide +kernel
end Hb
namespace Go.Proofs.YtgapnafkelokaaaGreatDoor
open Go.RowKit Hb
theorem JB:(Tryz.prog.info? 80).map (fun i=>(i.zero,i.size,i.bytes))=some (some (.agg #[aa ⟨#[]⟩,ab ae 0,ab ae 0]),3,32):=by kernel_rfl
theorem ni {b:Array Oper} {rest:List Oper} {a:Act} {Q:Exit->Act->aj->Prop} {w:aj} {d t p f x g} (h:dW ah b Q (⟨d,.call { callee:=.builtin .append,args:=x,argTypes:=#[25,25] },t,p,f,g⟩::rest) a w):dW ah b Q (⟨d,.call { callee:=.builtin .append,args:=x,argTypes:=#[25,25] },t,p,f,g⟩::rest) a w:=h
theorem gI {w:aj} {d:Array Oper} {rest:List Oper} {o:Oper} {a:Act} {Q:Exit->Act->aj->Prop} (i:o.guard=none) (s x:Operand)
  (j:o.op=.call { callee:=.builtin .append,args:=#[s,x],argTypes:=#[25,25] })
  (b:Nat) (v:aA) (m:Nat) (l:List OpR) (p:a.eval s=v) (W:aj) (n:W.ownsRow b 80 3 v m (eu l)) (r:OpR)
  (q:w=W.alloc (.cells #[aa r.name,ab ae r.typ,ab ae r.prec] 80)) (t:a.eval x=.slice (some ⟨W.heap.size,0,none⟩) 1 1) (u:m<=70368744) (f:b<=W.heap.size)
  (h:∀c w',w'.ownsRow b 80 3 c (m+1) (eu (l++[r]))->ay b W w'->w.grownBy w' v.ownBlock->dW ah d Q rest (a.put o.dst c) w'):dW ah d Q (o::rest) a w:=by
 refine bK i s x 25 80 j Tryz.underlying25 _ 3 32 JB rfl (by decide) b v m _ p W n #[aa r.name,ab ae r.typ,ab ae r.prec] rfl (by simp [Value.oneCell']) q t (by omega) (by omega) f fun c w' k e g=>h c w' ?_ e g
 rw [vB]
 exact k
theorem mB {b:Array Oper} {rest:List Oper} {a:Act} {Q:Exit->Act->aj->Prop} {w:aj} {d n t p f x g} (h:dW ah b Q (⟨d,.buildSlice 28 n x,t,p,f,g⟩::rest) a w):dW ah b Q (⟨d,.buildSlice 28 n x,t,p,f,g⟩::rest) a w:=h
theorem gd {c:Array Oper} {rest:List Oper} {o:Oper} {a:Act} {Q:Exit->Act->aj->Prop} {w:aj} (i:o.guard=none) (k n:Nat) (d:List (Nat×Operand)) (f:List (Nat×aA))
  (l:o.op=.buildSlice 28 n d.toArray) (j:d.map (fun x=>(x.fst,a.eval x.snd))=f)
  (m:∀w:aj,(dp 28 n f.toArray).run ah w=.ok (.slice (some ⟨w.heap.size,0,none⟩) n n) (w.alloc (.cells (wh k) 9)))
  (h:∀b w1,BS w w1 b k->dW ah c Q rest (a.put o.dst (.slice (some ⟨b,0,none⟩) n n)) w1):dW ah c Q (o::rest) a w:=by
 refine wpList_plain i fun K g=>?_
 have e:(execOp a.eval o).run ah w=.ok (.value (.slice (some ⟨w.heap.size,0,none⟩) n n)) (w.alloc (.cells (wh k) 9)):=by
  unfold execOp
  rw [l]
  simp only [List.map_toArray,j]
  rw [Sem.run_bind,m]
  rfl
 unfold Oper.wp
 rw [e]
 exact g _ _ (h _ _ (BS.start w k _))
theorem LU (w:aj):(dp 28 2 #[(0,aa ⟨#[58,45]⟩),(1,aa ⟨#[45,45,62]⟩)]).run ah w=.ok (.slice (some ⟨w.heap.size,0,none⟩) 2 2) (w.alloc (.cells (wh 0) 9)):=by kernel_rfl
theorem LS (w:aj):(dp 28 2 #[(0,aa ⟨#[58,45]⟩),(1,aa ⟨#[63,45]⟩)]).run ah w=.ok (.slice (some ⟨w.heap.size,0,none⟩) 2 2) (w.alloc (.cells (wh 1) 9)):=by kernel_rfl
theorem LR (w:aj):(dp 28 1 #[(0,aa ⟨#[59]⟩)]).run ah w=.ok (.slice (some ⟨w.heap.size,0,none⟩) 1 1) (w.alloc (.cells (wh 2) 9)):=by kernel_rfl
theorem LQ (w:aj):(dp 28 1 #[(0,aa ⟨#[45,62]⟩)]).run ah w=.ok (.slice (some ⟨w.heap.size,0,none⟩) 1 1) (w.alloc (.cells (wh 3) 9)):=by kernel_rfl
theorem LP (w:aj):(dp 28 1 #[(0,aa ⟨#[44]⟩)]).run ah w=.ok (.slice (some ⟨w.heap.size,0,none⟩) 1 1) (w.alloc (.cells (wh 4) 9)):=by kernel_rfl
theorem LO (w:aj):(dp 28 1 #[(0,aa ⟨#[92,43]⟩)]).run ah w=.ok (.slice (some ⟨w.heap.size,0,none⟩) 1 1) (w.alloc (.cells (wh 5) 9)):=by kernel_rfl
theorem LM (w:aj):(dp 28 16 #[(0,aa ⟨#[61]⟩),(1,aa ⟨#[92,61]⟩),(2,aa ⟨#[61,61]⟩),(3,aa ⟨#[92,61,61]⟩),(4,aa ⟨#[64,60]⟩),(5,aa ⟨#[64,61,60]⟩),(6,aa ⟨#[64,62]⟩),(7,aa ⟨#[64,62,61]⟩),(8,aa ⟨#[61,46,46]⟩),(9,aa ⟨#[105,115]⟩),(10,aa ⟨#[61,58,61]⟩),(11,aa ⟨#[61,92,61]⟩),(12,aa ⟨#[60]⟩),(13,aa ⟨#[61,60]⟩),(14,aa ⟨#[62]⟩),(15,aa ⟨#[62,61]⟩)]).run ah w=.ok (.slice (some ⟨w.heap.size,0,none⟩) 16 16) (w.alloc (.cells (wh 6) 9)):=by kernel_rfl
theorem LL (w:aj):(dp 28 4 #[(0,aa ⟨#[43]⟩),(1,aa ⟨#[45]⟩),(2,aa ⟨#[47,92]⟩),(3,aa ⟨#[92,47]⟩)]).run ah w=.ok (.slice (some ⟨w.heap.size,0,none⟩) 4 4) (w.alloc (.cells (wh 7) 9)):=by kernel_rfl
theorem LK (w:aj):(dp 28 8 #[(0,aa ⟨#[42]⟩),(1,aa ⟨#[47]⟩),(2,aa ⟨#[47,47]⟩),(3,aa ⟨#[114,101,109]⟩),(4,aa ⟨#[109,111,100]⟩),(5,aa ⟨#[100,105,118]⟩),(6,aa ⟨#[60,60]⟩),(7,aa ⟨#[62,62]⟩)]).run ah w=.ok (.slice (some ⟨w.heap.size,0,none⟩) 8 8) (w.alloc (.cells (wh 8) 9)):=by kernel_rfl
theorem LJ (w:aj):(dp 28 1 #[(0,aa ⟨#[42,42]⟩)]).run ah w=.ok (.slice (some ⟨w.heap.size,0,none⟩) 1 1) (w.alloc (.cells (wh 9) 9)):=by kernel_rfl
theorem KT (w:aj):(dp 28 1 #[(0,aa ⟨#[94]⟩)]).run ah w=.ok (.slice (some ⟨w.heap.size,0,none⟩) 1 1) (w.alloc (.cells (wh 10) 9)):=by kernel_rfl
theorem KS (w:aj):(dp 28 3 #[(0,aa ⟨#[43]⟩),(1,aa ⟨#[45]⟩),(2,aa ⟨#[92]⟩)]).run ah w=.ok (.slice (some ⟨w.heap.size,0,none⟩) 3 3) (w.alloc (.cells (wh 11) 9)):=by kernel_rfl
end Go.Proofs.YtgapnafkelokaaaGreatDoor
namespace Hb
open Go Go.RowKit Go.Sort Go.Proofs
theorem lS (a b:OpR):fp a b=true↔a.name.toList<b.name.toList\/(a.name.toList=b.name.toList/\cO a.typ<cO b.typ):=by
 unfold fp
 by_cases h:a.name.toList=b.name.toList
 ·have d:¬b.name.toList<b.name.toList:=List.lt_irrefl _
  simp [h,d]
 ·have c:(a.name.toList==b.name.toList)=false:=by simpa using h
  rw [c,if_neg (by simp),bytesLess_eq]
  simp [h]
theorem lN (a b:OpR):ltOf ke a b=fp a b:=(lT a b).symm
theorem swo_op:SWO (ltOf ke) where
 irrefl x:=by
  rw [lN,<-Bool.not_eq_true,lS]
  rintro (h | ⟨_,h⟩)
  ·exact List.lt_irrefl _ h
  ·omega
 trans x y z a h2:=by
  rw [lN,lS] at *
  rcases a with a | ⟨b,a⟩ <;> rcases h2 with h2 | ⟨g,h2⟩
  ·exact .inl (List.lt_trans a h2)
  ·exact .inl (g ▸ a)
  ·exact .inl (b ▸ h2)
  ·exact .inr ⟨b.trans g,by omega⟩
 ntrans x y z a h2:=by
  rw [lN,<-Bool.not_eq_true,lS] at *
  rintro h
  have d:y.name.toList<=x.name.toList:=fun h=>a (.inl h)
  have f:z.name.toList<=y.name.toList:=fun h=>h2 (.inl h)
  rcases h with h | ⟨e,h⟩
  ·exact List.lt_irrefl _ (List.lt_of_le_of_lt (List.le_trans f d) h)
  ·have b:y.name.toList=x.name.toList:=List.le_antisymm d (by rw [e];exact f)
   have i:¬cO x.typ<cO y.typ:=fun c=>a (.inr ⟨b.symm,c⟩)
   have j:¬cO y.typ<cO z.typ:=fun c=>h2 (.inr ⟨b.trans e,c⟩)
   omega
theorem ye {w w':aj} (h:ay w.heap.size w w') (hd:w.drawn<=w'.drawn):∃q os',w'=fb (w.drewN q) os':=by
 refine ⟨w'.drawn-w.drawn,w'.heap.extract w.heap.size w'.heap.size,?_⟩
 have e:w'.heap=w.heap++w'.heap.extract w.heap.size w'.heap.size:=by
  apply Array.ext_getElem?
  intro i
  by_cases f:i<w.heap.size
  ·rw [h.block i f,eJ f]
  ·rw [Array.getElem?_append_right (by omega),Array.getElem?_extract]
   have:=h.size
   by_cases k:i<w'.heap.size
   ·rw [if_pos (by omega)];congr 1;omega
   ·rw [if_neg (by omega),Array.getElem?_eq_none (by omega)]
 obtain ⟨g,m,j,l,n⟩:=w'
 obtain ⟨H,t,d,o,u⟩:=w
 have a:=h.os
 have b:=h.tape
 have c:=h.output
 simp only [] at a b c e hd
 subst a b c
 unfold fb World.drewN
 simp only []
 rw [<-e]
 congr 1
 omega
end Hb
namespace Hb
open Go Go.RowKit
theorem ru (w:aj) (n:Nat) (a:Array Obj):ay w.heap.size w (fb (w.drewN n) a) :=
 ⟨rfl,rfl,rfl,by show w.heap.size<=(w.heap++a).size;simp,fun k b=>by show (w.heap++a)[k]? = _;rw [eJ b]⟩
end Hb
namespace Go.Proofs.YtgapnafkelokaaaGreatDoor
open Go.RowKit Hb
theorem tv (a b:OpR) (w:aj):aG ah 42 #[kU a,kU b] w fun e w'=>e=av (an (fp a b))/\∃q os',w'=fb (w.drewN q) os':=by
 have c:=CmpHeld.start w a b 80
 unfold kU
 cases h:(a.name.toList==b.name.toList)
 ·have d:=zq (show fp a b=Op.bytesLess a.name.toList b.name.toList by unfold fp;rw [h,if_neg (by simp)])
  have f:¬a.name.toList=b.name.toList:=by simpa using h
  go_enter Tryz.func42,Tryz.ntmps42
  go_wp2_with fail
  go_ret
  exact ⟨bC d.out.symm,ye c.bel c.dr⟩
 ·have d:=zq (show fp a b=decide (cO a.typ<cO b.typ) by unfold fp;rw [h,if_pos rfl])
  have f:a.name.toList=b.name.toList:=by simpa using h
  go_enter Tryz.func42,Tryz.ntmps42
  go_wp2_with fail
  go_quiet ((go_at_call 43;first | with_reducible exact jC ((rP a.typ _).mono fun _ _ ⟨he,hw⟩=>⟨he,hw.symm⟩) | with_reducible exact jC ((rP b.typ _).mono fun _ _ ⟨he,hw⟩=>⟨he,hw.symm⟩)))
  go_wp2_with fail
  go_ret
  exact ⟨bC d.out.symm,ye (dF c.bel _) (aH c.dr (Nat.le_add_right _ _))⟩
end Go.Proofs.YtgapnafkelokaaaGreatDoor
namespace Hb
open Go Go.RowKit
theorem ma (l:List OpR):(eu l).length=l.length * 3:=by
 unfold eu;induction l with
 | nil=>rfl
 | cons p l ih=>rw [List.flatMap_cons,aC,ih];simp [nH];omega
theorem EM:∀(l:List OpR) (i:Nat) (h:i<l.length),(eu l)[i * 3]? = some (aa l[i].name)/\(eu l)[i * 3+1]? = some (ab ae l[i].typ)/\(eu l)[i * 3+2]? = some (ab ae l[i].prec)
 | p::l,0,_=>⟨rfl,rfl,rfl⟩
 | p::l,i+1,h=>by
  have:=EM l i (by simpa using h)
  have e:eu (p::l)=aa p.name::ab ae p.typ::ab ae p.prec::eu l:=rfl
  rw [e,show (i+1) * 3=i * 3+3 by omega]
  exact ⟨by simpa using this.1,by simpa using this.2.1,by simpa using this.2.2⟩
def OpsIn (w:aj) (b a:Nat) (l:List OpR):Prop :=
 ∀j (c:j<l.length),w.cell? ⟨b,a+j * 3,none⟩=some (aa l[j].name)/\w.cell? ⟨b,a+j * 3+1,none⟩=some (ab ae l[j].typ)/\w.cell? ⟨b,a+j * 3+2,none⟩=some (ab ae l[j].prec)
theorem OpsIn.ops {w:aj} {b a:Nat} {l:List OpR} (h:OpsIn w b a l) (c:b<w.heap.size):OpsAt w (some ⟨b,a,none⟩) l:=fun j d=>⟨b,a,rfl,c,h j d⟩
theorem rZ {w:aj} {a e size:Nat} {v:aA} {n:Nat} {xs:List aA} (h:w.ownsRow a e size v n xs):∃A cap,v=.slice A n cap:=by
 rcases h.2 with ⟨rfl,b⟩ | ⟨g,cap,c,rfl,_⟩
 ·exact ⟨none,0,by rw [b]⟩
 ·exact ⟨_,cap,rfl⟩
theorem Jk {w:aj} {a e n g b:Nat} {l:List OpR} (h:w.ownsRow a e 3 (.slice (some ⟨g,0,none⟩) n b) n (eu l)):OpsIn w g 0 l:=by
 have k:n=l.length:=by have:=h.1;rw [ma] at this;omega
 intro j c
 obtain ⟨d,f,i⟩:=EM l j c
 exact ⟨by rw [ap,h.cellAt _ (by omega)];exact d,by rw [ap,h.cellAt _ (by omega)];exact f,by rw [ap,h.cellAt _ (by omega)];exact i⟩
theorem GQ {w:aj} {b e n c:Nat} {A:Option Addr} {l:List OpR} (h:w.ownsRow b e 3 (.slice A n c) n (eu l)):OpsAt w A l:=by
 have p:n=l.length:=by have:=h.1;rw [ma] at this;omega
 rcases h.2 with ⟨a,i⟩ | ⟨g,d,f,a,k,m,rest⟩
 ·intro j o;omega
 ·injection a with hA _ _
  subst hA
  exact (Jk h).ops (h.lt g rfl).2
theorem AN {w:aj} {a e n:Nat} {v:aA} {l:List OpR} (h:w.ownsRow a e 3 v n (eu l)):l.length=n:=by
 have:=h.1;rw [ma] at this;omega
theorem oh {w w':aj} {a e n:Nat} {v:aA} {xs:List aA} (h:w.ownsRow a e 3 v n xs) (f:ay w.heap.size w w'):w'.ownsRow a e 3 v n xs:=by
 refine ⟨h.1,?_⟩
 rcases h.2 with k | ⟨g,c,d,l,i,b,rest⟩
 ·exact .inl k
 ·refine .inr ⟨g,c,d,l,i,?_,rest⟩
  have j:g<w.heap.size:=(Array.getElem?_eq_some_iff.1 b).1
  rw [<-b];exact f.block g j
end Hb
namespace Hb
open Go Go.RowKit Go.Sort Go.Proofs
theorem rq (a b:OpR):ke a b<0↔fp a b=true:=by rw [lT];simp
theorem Db {a b c:OpR} (d:fp a b=true) (e:fp b c=true):fp a c=true:=by
 have:=swo_op.trans a b c
 rw [lN,lN,lN] at this
 exact this d e
def Ai (l:List OpR):Prop:=l.Pairwise fun a b=>fp a b=true
theorem nW {l:List OpR} (h:bF l=true) (j:Nat) (b:j+1<l.length):qU l[j] l[j+1]=true:=by
 have a:=(mR l h).2 (j+1) b
 unfold Co at a
 rw [mn l (j+1) b,Nat.add_sub_cancel,mn l j (by omega)] at a
 simp at a
 exact a.2
theorem Ds {l:List OpR} (h:bF l=true) (j:Nat) (b:j<l.length):oj l[j]=true:=by
 have a:=(mR l h).2 j b
 unfold Co at a
 rw [mn l j b] at a
 simp at a
 exact a.1
theorem xF {a b:OpR} (h:qU a b=true):fp a b=true:=by
 unfold qU at h
 rw [lT]
 simp at h |-
 exact h.1
theorem uO {l:List OpR} (h:bF l=true):Ai l:=by
 unfold Ai
 rw [List.pairwise_iff_getElem]
 have b:∀d i (a:i+d+1<l.length),fp l[i] l[i+d+1]=true:=by
  intro d
  induction d with
  | zero=>intro i a;exact xF (nW h i a)
  | succ d ih=>intro i a;exact Db (ih i (by omega)) (xF (nW h (i+d+1) (by omega)))
 intro i j a e c
 have:=b (j-i-1) i (by omega)
 simp only [show i+(j-i-1)+1=j by omega] at this
 exact this
end Hb
namespace Hb
open Go Go.RowKit
theorem EE {w:aj} {d e n b:Nat} {A:Option Addr} {xs:List aA} (h:w.ownsRow d e 3 (.slice A n b) n xs):n=0->(ex A n b=.slice none 0 0\/∃ad,A=some ad):=by
 intro _
 rcases h.2 with ⟨a,_⟩ | ⟨g,c,f,a,_⟩
 ·exact .inl a
 ·injection a with h1 _ _
  exact .inr ⟨_,h1⟩
structure Tab (w:aj) (A:Option Addr) (n cap:Nat) (l:List OpR):Prop where
 len:n=l.length
 ops:OpsAt w A l
 nil:n=0->(ex A n cap=.slice none 0 0\/∃ad,A=some ad)
theorem Tab.none (w:aj):Tab w none 0 0 []:=⟨rfl,OpsAt.nil _ _,fun _=>.inl rfl⟩
theorem Tab.below {w w':aj} {A:Option Addr} {n a:Nat} {l:List OpR} (h:Tab w A n a l) (b:ay w.heap.size w w'):Tab w' A n a l:=⟨h.len,h.ops.below b,h.nil⟩
theorem Tab.own {w:aj} {b e n a:Nat} {A:Option Addr} {l:List OpR} (h:w.ownsRow b e 3 (.slice A n a) n (eu l)):Tab w A n a l:=⟨(AN h).symm,GQ h,EE h⟩
end Hb
namespace Go.Proofs.YtgapnafkelokaaaGreatDoor
open Go.ChangeShapes Go.WideShapes Go.ChangeAt Go.RowKit
theorem KZ:ownKnob Tryz.prog.godebug=none:=by kernel_rfl
theorem IG:laidOutB ah=true:=by kernel_rfl
def IH : List (String × DataW Unit) := [("math/bits.deBruijn32tab", Rows.laid_math_bits_deBruijn32tab), ("math/bits.deBruijn64tab", Rows.laid_math_bits_deBruijn64tab), ("internal/strconv.uint64pow10", Rows.laid_internal_strconv_uint64pow10)]
theorem KQ (a:Os) (args:Array aA):laidMetH ah IH ((World.doorLaid ah 400 a).forCall (fun _ _=>0) ⟨#[],args,[]⟩).memory :=
 laidMetH_of_parts3 (fuel:=8) (laidMet_of_run' 8 (by kernel_rfl) (by kernel_rfl)) (by kernel_rfl) (by kernel_rfl)
def Kn:List Int:=[0,1,56,2,57,49,28,3,61,58,42,50,38,29,17,4,62,47,59,36,45,43,51,22,53,39,33,30,24,18,12,5,63,55,48,27,60,41,37,16,46,35,44,21,52,32,23,11,54,26,40,15,34,20,31,10,25,14,19,9,13,8,7,6]
theorem Md : Tryz.prog.globalNamed "math/bits.deBruijn64tab" = some 3 := by kernel_rfl
theorem LB:(Tryz.prog.globals[3]?).map (·.type)=some 235:=by kernel_rfl
theorem Me : Tryz.prog.globalNamed "internal/strconv.uint64pow10" = some 0 := by kernel_rfl
theorem LC:(Tryz.prog.globals[0]?).map (·.type)=some 218:=by kernel_rfl
theorem c8:Tryz.prog.cellsOf 5=1:=by kernel_rfl
theorem LH:Tryz.prog.cellsOf 235=64:=by kernel_rfl
theorem LG:Tryz.prog.cellsOf 197=1:=by kernel_rfl
theorem LI:Tryz.prog.cellsOf 218=20:=by kernel_rfl
structure DoorOk (W:aj):Prop where
 lt:3<W.heap.size
 c15:W.cell? ⟨3,15,none⟩=some (ab .u8 4)
 pow : Lib.TabIs ah W "internal/strconv.uint64pow10" .u64 Lib.pow10Tab
theorem Ld {W:aj} (h:laidMetH ah IH W):DoorOk W:=by
 rw [MakeChecks.laidMetH_plain _ _ _ (by kernel_rfl)] at h
 have a:=laidMet.tail h
 have c:=laidMet.tail a
 have e:=Lib.tabIs_of_head (k:=.u8) (zs:=Kn) Md LB Tryz.underlying235 dA c8 LH a
 have d:=Lib.tabIs_of_head (k:=.u64) (zs:=Lib.pow10Tab) Me LC Tryz.underlying218 Tryz.underlying197 LG LI c
 have b:W.cell? ⟨3,15,none⟩=some (ab .u8 4):=e.cell Md 15 (by decide)
 exact ⟨World.block_lt_of_cell? W ⟨_,15,none⟩ b,b,d⟩
theorem DoorOk.below {W W':aj} (h:DoorOk W) (a:ay W.heap.size W W'):DoorOk W' :=
 ⟨aB h.lt a.size,(a.cell (p:=⟨_,15,none⟩) h.lt).trans h.c15,Joins.tab_stays Me h.pow a (ag _)⟩
end Go.Proofs.YtgapnafkelokaaaGreatDoor
