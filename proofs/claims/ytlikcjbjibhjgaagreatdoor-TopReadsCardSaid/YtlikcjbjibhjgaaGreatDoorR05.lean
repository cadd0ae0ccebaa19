/- Parts of the proof. -/
import Derived.Test.YtlikcjbjibhjgaaGreatDoorR01
import Derived.Shelf.SlLaysF0
import Derived.Ground.SlsfProg
import Derived.Test.YtlikcjbjibhjgaaGreatDoorProg
import Derived.Test.YtlikcjbjibhjgaaGreatDoorR02
import Derived.Laws.Rows
import Derived.Laws.Tables
import Derived.Laws.CopyOwn
import Derived.Shelf.SlSortCmp.WholeK
import Derived.Laws.OwnMore
import Derived.Shelf.SlSortCmp.QuietGrown
import Derived.Laws.AppendOwnNone
import Derived.Lib.SliceRun
import Derived.Deep.RegionHeld3
import Derived.Laws.Shifts
set_option maxHeartbeats 12800000
set_option maxRecDepth 100000
open Array renaming getElem?_append_left -> ez, length_toList -> eK
open Bool renaming not_eq_true -> dN
open Go renaming Calls -> aJ, Operand -> ga, TypeId -> bD, Value -> az, World -> ai, execOp -> aP, heap_alloc_new -> dA, maxLen -> be, wpList -> cH, wpList_append_own -> gV, wpList_plain -> iL
open Go.Builtin renaming zeroCells -> eM
open Go.Ending renaming returned -> aw
open Go.Instr renaming buildSlice -> dG
open Go.IntKind renaming i64 -> ae
open Go.Proofs.Tryz renaming prog -> ah, underlying22 -> cD
open Go.RowKit renaming Below -> ax
open Go.RowKit.Below renaming refl -> aj
open Go.Value renaming agg -> aN, bool -> am, int -> ab, int -> fK, oneCell' -> eO, ownBlock -> ew, pointer -> au, string -> aa, tuple -> aK
open Go.World renaming cell?_alloc_new -> aq, grownBy_alloc -> dw, ownsRow_nil -> dQ
open List renaming drop_drop -> ci, filter_append -> fu, flatMap_append -> fh, getElem?_eq_getElem -> ba, getElem_of_mem -> cI, length_append -> aB, length_map -> bm, length_take -> bM, nil_append -> an, pairwise_iff_getElem -> fp, range -> aY, take_append_of_le_length -> fF, take_length -> cL, take_succ_cons -> fU, take_succ_eq_append_getElem -> aO
open Nat renaming add_zero -> bv, le_refl -> ag, le_trans -> aI, lt_of_lt_of_le -> aC, lt_or_ge -> cS, lt_trans -> gc, zero_add -> ap, zero_le -> bp
namespace Go.Proofs
open Go.Shelf
def Tryz.sortOps_ren:Go.Shelf.Ren:=⟨fun | 6=>41 | 15=>70 | 14=>69 | 28=>103 | 29=>104 | 20=>95 | 21=>96 | 22=>97 | 23=>98 | 24=>99 | 25=>100 | 26=>101 | 27=>102 | 46=>134 | 47=>135 | 48=>136 | 49=>137 | 50=>138 | 57=>171 | n=>n,fun | 22=>22 | 24=>39 | 25=>60 | 3=>3 | 39=>99 | 0=>0 | 53=>164 | 55=>166 | 4=>4 | 46=>158 | 45=>157 | 50=>62 | 5=>5 | 9=>9 | 66=>194 | 70=>198 | 76=>217 | 77=>152 | n=>n,fun | n=>n⟩
theorem Tryz.sortOps:Go.Proofs.SlLaysF0.n6 ah Tryz.sortOps_ren:={
 mixed:=by kernel_rfl
 f6:=⟨Tryz.f41.name,by decide,Tryz.func41.trans (congrArg some (by kernel_rfl))⟩
 f14:=⟨Tryz.f69.name,by decide,Tryz.func69.trans (congrArg some (by kernel_rfl))⟩
 f15:=Tryz.func70.trans (congrArg some (by kernel_rfl))
 f20:=⟨Tryz.f95.name,by decide,Tryz.func95.trans (congrArg some (by kernel_rfl))⟩
 f21:=⟨Tryz.f96.name,by decide,Tryz.func96.trans (congrArg some (by kernel_rfl))⟩
 f22:=⟨Tryz.f97.name,by decide,Tryz.func97.trans (congrArg some (by kernel_rfl))⟩
 f23:=⟨Tryz.f98.name,by decide,Tryz.func98.trans (congrArg some (by kernel_rfl))⟩
 f24:=⟨Tryz.f99.name,by decide,Tryz.func99.trans (congrArg some (by kernel_rfl))⟩
 f25:=⟨Tryz.f100.name,by decide,Tryz.func100.trans (congrArg some (by kernel_rfl))⟩
 f26:=⟨Tryz.f101.name,by decide,Tryz.func101.trans (congrArg some (by kernel_rfl))⟩
 f27:=⟨Tryz.f102.name,by decide,Tryz.func102.trans (congrArg some (by kernel_rfl))⟩
 f28:=Tryz.func103.trans (congrArg some (by kernel_rfl))
 f29:=Tryz.func104.trans (congrArg some (by kernel_rfl))
 f46:=⟨Tryz.f134.name,by decide,Tryz.func134.trans (congrArg some (by kernel_rfl))⟩
 f47:=Tryz.func135.trans (congrArg some (by kernel_rfl))
 f48:=Tryz.func136.trans (congrArg some (by kernel_rfl))
 f49:=⟨Tryz.f137.name,by decide,Tryz.func137.trans (congrArg some (by kernel_rfl))⟩
 f50:=⟨Tryz.f138.name,by decide,Tryz.func138.trans (congrArg some (by kernel_rfl))⟩
 f57:=⟨Tryz.f171.name,by decide,Tryz.func171.trans (congrArg some (by kernel_rfl))⟩
 t0:=Tryz.underlying0
 a0:=Tryz.isAgg0
 z0:=Tryz.sizeOf0
 v0:=Tryz.zeroValue0
 t3:=Tryz.underlying3
 a3:=Tryz.isAgg3
 z3:=Tryz.sizeOf3
 v3:=Tryz.zeroValue3
 t4:=Tryz.underlying4
 a4:=Tryz.isAgg4
 z4:=Tryz.sizeOf4
 v4:=Tryz.zeroValue4
 t5:=Tryz.underlying5
 a5:=Tryz.isAgg5
 z5:=Tryz.sizeOf5
 v5:=Tryz.zeroValue5
 t9:=Tryz.underlying9
 a9:=Tryz.isAgg9
 z9:=Tryz.sizeOf9
 v9:=Tryz.zeroValue9
 t22:=cD
 a22:=Tryz.isAgg22
 z22:=Tryz.sizeOf22
 v22:=Tryz.zeroValue22
 t25:=Tryz.underlying60
 a25:=Tryz.isAgg60
 z25:=Tryz.sizeOf60
 v25:=Tryz.zeroValue60
 t39:=Tryz.underlying99
 a39:=Tryz.isAgg99
 z39:=Tryz.sizeOf99
 v39:=Tryz.zeroValue99
 t45:=Tryz.underlying157
 a45:=Tryz.isAgg157
 z45:=Tryz.sizeOf157
 v45:=Tryz.zeroValue157
 t46:=Tryz.underlying158
 a46:=Tryz.isAgg158
 z46:=Tryz.sizeOf158
 v46:=Tryz.zeroValue158
 t50:=Tryz.underlying62
 a50:=Tryz.isAgg62
 z50:=Tryz.sizeOf62
 v50:=Tryz.zeroValue62
 t53:=Tryz.underlying164
 a53:=Tryz.isAgg164
 z53:=Tryz.sizeOf164
 v53:=Tryz.zeroValue164
 t55:=Tryz.underlying166
 a55:=Tryz.isAgg166
 z55:=Tryz.sizeOf166
 v55:=Tryz.zeroValue166
 t66:=Tryz.underlying194
 a66:=Tryz.isAgg194
 z66:=Tryz.sizeOf194
 v66:=Tryz.zeroValue194
 t70:=Tryz.underlying198
 a70:=Tryz.isAgg198
 z70:=Tryz.sizeOf198
 v70:=Tryz.zeroValue198
 t76:=Tryz.underlying217
 a76:=Tryz.isAgg217
 z76:=Tryz.sizeOf217
 v76:=Tryz.zeroValue217
 t77:=Tryz.underlying152
 a77:=Tryz.isAgg152
 z77:=Tryz.sizeOf152
 v77:=Tryz.zeroValue152 }
end Go.Proofs
namespace Hb
open Go Go.RowKit
def grs:List (Int×Int×List ByteArray):=[(1200,1,[⟨#[58,45]⟩,⟨#[45,45,62]⟩]),(1200,5,[⟨#[58,45]⟩,⟨#[63,45]⟩]),(1100,2,[⟨#[59]⟩]),(1050,2,[⟨#[45,62]⟩]),(1000,2,[⟨#[44]⟩]),(900,4,[⟨#[92,43]⟩]),(700,1,[⟨#[61]⟩,⟨#[92,61]⟩,⟨#[61,61]⟩,⟨#[92,61,61]⟩,⟨#[64,60]⟩,⟨#[64,61,60]⟩,⟨#[64,62]⟩,⟨#[64,62,61]⟩,⟨#[61,46,46]⟩,⟨#[105,115]⟩,⟨#[61,58,61]⟩,⟨#[61,92,61]⟩,⟨#[60]⟩,⟨#[61,60]⟩,⟨#[62]⟩,⟨#[62,61]⟩]),(500,3,[⟨#[43]⟩,⟨#[45]⟩,⟨#[47,92]⟩,⟨#[92,47]⟩]),(400,3,[⟨#[42]⟩,⟨#[47]⟩,⟨#[47,47]⟩,⟨#[114,101,109]⟩,⟨#[109,111,100]⟩,⟨#[100,105,118]⟩,⟨#[60,60]⟩,⟨#[62,62]⟩]),(200,1,[⟨#[42,42]⟩]),(200,2,[⟨#[94]⟩]),(200,4,[⟨#[43]⟩,⟨#[45]⟩,⟨#[92]⟩])]
def My (k:Nat):Int:=(grs.getD k (0,0,[])).1
def Mx (k:Nat):Int:=(grs.getD k (0,0,[])).2.1
def Cf (k:Nat):List ByteArray:=(grs.getD k (0,0,[])).2.2
def yn (k:Nat):Array az:=((Cf k).map Value.string).toArray
def Oo (b:Nat->Nat) (k:Nat):az:=.slice (some ⟨b k,0,none⟩) (Cf k).length (Cf k).length
def jw (b:Nat->Nat):Array az:=((aY 12).flatMap fun k=>[fK ae (My k),ab ae (Mx k),Oo b k]).toArray
def NL:Array az:=((aY 12).flatMap fun _=>[fK ae 0,ab ae 0,.slice none 0 0]).toArray
theorem qF (b:Nat->Nat):(jw b).size=36:=rfl
theorem zV (b:Nat->Nat):(jw b).all (·.oneCell')=true:=by kernel_rfl
structure BS (w w1:ai) (b:Nat) (k:Nat):Prop where
 bel:ax w.heap.size w w1
 lt:b<w1.heap.size
 le:w.heap.size<=b
 cells:∀j v,(yn k)[j]? = some v->w1.cell? ⟨b,j,none⟩=some v
theorem BS.start (w:ai) (k:Nat) (t:bD):BS w (w.alloc (.cells (yn k) t)) w.heap.size k where
 bel:=(aj _ _).alloc (ag _) _
 lt:=by simp
 le:=ag _
 cells:=fun j v h=>(aq _ _ _ j).trans h
theorem KG (k j:Nat) (h:j<(Cf k).length):(yn k)[j]? = some (aa (Cf k)[j]):=by
 unfold yn
 simp [h]
theorem BS.out {w a d:ai} {b k:Nat} (h:BS w a b k) (c:ax a.heap.size a d):b<d.heap.size/\∀(j:Nat) (e:j<(Cf k).length),d.cell? ⟨b,j,none⟩=some (aa (Cf k)[j]) :=
 ⟨aC h.lt c.size,fun j e=>(c.cell (p:=⟨b,j,none⟩) h.lt).trans (h.cells j _ (KG k j e))⟩
def aZ (l:List OpR):List az:=l.flatMap dj
theorem iE (a b:List OpR):aZ (a++b)=aZ a++aZ b:=by unfold aZ;rw [fh]
def NK (k:Nat):List OpR:=(Cf k).map fun s=>⟨s,Mx k,My k⟩
def kL (k:Nat):List OpR:=(aY k).flatMap NK
theorem ry (k:Nat):kL (k+1)=kL k++NK k:=by unfold kL;rw [List.range_succ,fh];simp
theorem oa:(kL 12).length=41:=by decide +kernel
theorem Kh (k:Nat) (h:k<=12):(kL k).length<=41:=by
 have:∀d j,(kL j).length<=(kL (j+d)).length:=by
  intro d
  induction d with
  | zero=>intro j;exact ag _
  | succ d ih=>intro j;refine aI (ih j) ?_;rw [show j+(d+1)=(j+d)+1 by omega,ry,aB];omega
 have a:=this (12-k) k
 rw [show k+(12-k)=12 by omega,oa] at a
 exact a
theorem Mz (k:Nat) (h:k<12):(kL k).length+(Cf k).length<=41:=by
 have:=Kh (k+1) (by omega)
 rw [ry,aB] at this
 unfold NK at this
 rw [bm] at this
 exact this
theorem tH {w:ai} {a e size:Nat} {v:az} {n:Nat} {xs:List az} (h:w.ownsRow a e size v n xs) (d:0<n):∃g cap,v=.slice (some ⟨g,0,none⟩) n cap:=by
 rcases h.2 with ⟨_,c⟩ | ⟨g,cap,b,rfl,_⟩
 ·omega
 ·exact ⟨g,cap,rfl⟩
def qE (o:OpR):List OpR->List OpR
 | []=>[o]
 | a::l=>if gz o a<0 then o::a::l else a::qE o l
theorem oW (o:OpR):∀l:List OpR,(qE o l).Perm (o::l)
 | []=>List.Perm.refl _
 | a::l=>by
  unfold qE
  split
  ·exact List.Perm.refl _
  ·exact ((oW o l).cons a).trans (List.Perm.swap o a l)
def BZ (a l:List OpR):List OpR:=l.foldl (fun t o=>qE o t) a
theorem sq:∀(l b:List OpR),(BZ b l).Perm (b++l)
 | [],b=>by unfold BZ;simp
 | o::l,b=>by
  have c:=sq l (qE o b)
  have d:(qE o b++l).Perm (b++o::l):=((oW o b).append_right l).trans (by simpa using (List.perm_middle (a:=o) (l₁:=b) (l₂:=l)).symm)
  exact c.trans d
def defL:List OpR:=BZ [] (kL 12)
theorem defL_perm:defL.Perm (kL 12):=by
 have:=sq (kL 12) []
 rw [an] at this
 exact this
theorem Dy:bB defL=true:=by decide +kernel
theorem zr {w:ai} {b e size:Nat} {v:az} {n:Nat} {xs:List az} {g:Nat} {c:Array az} {t:bD} {d:Nat×Nat} (h:w.ownsRow b e size v n xs) (a:w.heap[g]? = some (.cells c t d)) (j:t≠e):some g≠v.ownBlock:=by
 rcases h.2 with ⟨rfl,_⟩ | ⟨g',k,l,rfl,_,i,_⟩
 ·simp [ew]
 ·intro f
  have:g=g':=by simpa [ew] using f
  subst this
  rw [i] at a
  injection a with a
  injection a with _ h2 _
  exact j h2.symm
theorem cell_of_heap {w:ai} {g:Nat} {a:Array az} {t:bD} {b:Nat×Nat} (c:w.heap[g]? = some (.cells a t b)) (j:Nat):w.cell? ⟨g,j,none⟩=a[j]?:=by
 simp [World.cell?,c]
end Hb
namespace Go.Proofs.YtlikcjbjibhjgaaGreatDoor
open Go.RowKit Hb
theorem Iw:(Tryz.prog.info? 90).map (·.size)=some 36:=by kernel_rfl
theorem ug:(Tryz.prog.info? 39).map (fun i=>(i.zero,i.size,i.bytes))=some (some (aN #[aa ⟨#[]⟩,ab ae 0,ab ae 0]),3,32):=by kernel_rfl
theorem Je {b:Array Oper} {rest:List Oper} {a:Act} {Q:Exit->Act->ai->Prop} {w:ai} {d t p f x g} (h:cH ah b Q (⟨d,.call { callee:=.builtin .append,args:=x,argTypes:=#[22,22] },t,p,f,g⟩::rest) a w):cH ah b Q (⟨d,.call { callee:=.builtin .append,args:=x,argTypes:=#[22,22] },t,p,f,g⟩::rest) a w:=h
theorem rh {w:ai} {d:Array Oper} {rest:List Oper} {o:Oper} {a:Act} {Q:Exit->Act->ai->Prop} (i:o.guard=none) (s x:ga)
  (j:o.op=.call { callee:=.builtin .append,args:=#[s,x],argTypes:=#[22,22] })
  (b:Nat) (v:az) (m:Nat) (l:List OpR) (p:a.eval s=v) (W:ai) (n:W.ownsRow b 39 3 v m (aZ l)) (r:OpR)
  (q:w=W.alloc (.cells #[aa r.name,ab ae r.typ,ab ae r.prec] 39)) (t:a.eval x=.slice (some ⟨W.heap.size,0,none⟩) 1 1) (u:m<=70368744) (f:b<=W.heap.size)
  (h:∀c w',w'.ownsRow b 39 3 c (m+1) (aZ (l++[r]))->ax b W w'->w.grownBy w' v.ownBlock->cH ah d Q rest (a.put o.dst c) w'):cH ah d Q (o::rest) a w:=by
 refine dO i s x 22 39 j cD _ 3 32 ug rfl (by decide) b v m _ p W n #[aa r.name,ab ae r.typ,ab ae r.prec] rfl (by simp [eO]) q t (by omega) (by omega) f fun c w' k e g=>h c w' ?_ e g
 rw [iE]
 exact k
theorem nH {b:Array Oper} {rest:List Oper} {a:Act} {Q:Exit->Act->ai->Prop} {w:ai} {d n t p f x g} (h:cH ah b Q (⟨d,.buildSlice 65 n x,t,p,f,g⟩::rest) a w):cH ah b Q (⟨d,.buildSlice 65 n x,t,p,f,g⟩::rest) a w:=h
theorem MU {b:Array Oper} {rest:List Oper} {a:Act} {Q:Exit->Act->ai->Prop} {w:ai} {d t p f x g} (h:cH ah b Q (⟨d,.build 90 x,t,p,f,g⟩::rest) a w):cH ah b Q (⟨d,.build 90 x,t,p,f,g⟩::rest) a w:=h
theorem MV {b:Array Oper} {rest:List Oper} {a:Act} {Q:Exit->Act->ai->Prop} {w:ai} {d t p f g} (h:cH ah b Q (⟨d,.alloc 90,t,p,f,g⟩::rest) a w):cH ah b Q (⟨d,.alloc 90,t,p,f,g⟩::rest) a w:=h
theorem MR {b:Array Oper} {rest:List Oper} {a:Act} {Q:Exit->Act->ai->Prop} {w:ai} {d t p f x y g} (h:cH ah b Q (⟨d,.store 90 x y,t,p,f,g⟩::rest) a w):cH ah b Q (⟨d,.store 90 x y,t,p,f,g⟩::rest) a w:=h
theorem MS {b:Array Oper} {rest:List Oper} {a:Act} {Q:Exit->Act->ai->Prop} {w:ai} {d t p f x g} (h:cH ah b Q (⟨d,.load 90 x,t,p,f,g⟩::rest) a w):cH ah b Q (⟨d,.load 90 x,t,p,f,g⟩::rest) a w:=h
theorem MT {b:Array Oper} {rest:List Oper} {a:Act} {Q:Exit->Act->ai->Prop} {w:ai} {d t p f x y g} (h:cH ah b Q (⟨d,.index 90 x y,t,p,f,g⟩::rest) a w):cH ah b Q (⟨d,.index 90 x y,t,p,f,g⟩::rest) a w:=h
theorem gF {c:Array Oper} {rest:List Oper} {o:Oper} {a:Act} {Q:Exit->Act->ai->Prop} {w:ai} (i:o.guard=none) (k n:Nat) (d:List (Nat×ga)) (f:List (Nat×az))
  (l:o.op=.buildSlice 65 n d.toArray) (j:d.map (fun x=>(x.fst,a.eval x.snd))=f)
  (m:∀w:ai,(dG 65 n f.toArray).run ah w=.ok (.slice (some ⟨w.heap.size,0,none⟩) n n) (w.alloc (.cells (yn k) 9)))
  (h:∀b w1,BS w w1 b k->cH ah c Q rest (a.put o.dst (.slice (some ⟨b,0,none⟩) n n)) w1):cH ah c Q (o::rest) a w:=by
 refine iL i fun K g=>?_
 have e:(aP a.eval o).run ah w=.ok (.value (.slice (some ⟨w.heap.size,0,none⟩) n n)) (w.alloc (.cells (yn k) 9)):=by
  unfold aP
  rw [l]
  simp only [List.map_toArray,j]
  rw [Sem.run_bind,m]
  rfl
 unfold Oper.wp
 rw [e]
 exact g _ _ (h _ _ (BS.start w k _))
theorem AM {c:Array Oper} {rest:List Oper} {o:Oper} {a:Act} {Q:Exit->Act->ai->Prop} {w:ai} (j:o.guard=none) (b:Nat->Nat) (d:List (Nat×ga)) (g:List (Nat×az))
  (l:o.op=.build 90 d.toArray) (k:d.map (fun x=>(x.fst,a.eval x.snd))=g)
  (m:∀w:ai,(Instr.build 90 g.toArray).run ah w=.ok (aN (jw b)) w)
  (h:∀f:Nat->Nat,Hid (f=b)->cH ah c Q rest (a.put o.dst (aN (jw f))) w):cH ah c Q (o::rest) a w:=by
 refine iL j fun K i=>?_
 have e:(aP a.eval o).run ah w=.ok (.value (aN (jw b))) w:=by
  unfold aP
  rw [l]
  simp only [List.map_toArray,k]
  rw [Sem.run_bind,m]
  rfl
 unfold Oper.wp
 rw [e]
 exact i _ _ (h b (zq rfl))
theorem Jg (w:ai):(Instr.alloc 90 true (aK #[])).run ah w=.ok (au (some ⟨w.heap.size,0,none⟩)) (w.alloc (.cells NL 90)):=by kernel_rfl
theorem AN {c:Array Oper} {rest:List Oper} {o:Oper} {a:Act} {Q:Exit->Act->ai->Prop} {w:ai} (f:o.guard=none) (g:o.op=.alloc 90)
  (h:∀b w1,w1.heap[b]? = some (.cells NL 90)->w.heap.size<=b->ax w.heap.size w w1->cH ah c Q rest (a.put o.dst (au (some ⟨b,0,none⟩))) w1):cH ah c Q (o::rest) a w:=by
 refine iL f fun K d=>?_
 have e:(aP a.eval o).run ah w=.ok (.value (au (some ⟨w.heap.size,0,none⟩))) (w.alloc (.cells NL 90)):=by
  unfold aP
  rw [g]
  simp only []
  rw [Sem.run_bind,Jg]
  rfl
 unfold Oper.wp
 rw [e]
 exact d _ _ (h _ _ (dA w _) (ag _) ((aj _ _).alloc (ag _) _))
theorem AI {c:Array Oper} {rest:List Oper} {o:Oper} {a:Act} {Q:Exit->Act->ai->Prop} {w:ai} (g:o.guard=none) (x y:ga) {b:Nat} {f:Nat->Nat}
  (i:o.op=.store 90 x y) (j:a.eval x=au (some ⟨b,0,none⟩)) (k:a.eval y=aN (jw f)) (T:w.heap[b]? = some (.cells NL 90))
  (h:∀w1,w1.heap[b]? = some (.cells (jw f) 90)->(∀B w0,ax B w0 w->B<=b->ax B w0 w1)->cH ah c Q rest (a.put o.dst undef) w1):cH ah c Q (o::rest) a w :=
 wpList_store_row g _ x y i b (jw f) j k _ _ T (by rw [Iw,qF]) rfl (zV f)
  (h _ (setRow_heap w b _ _ _ _ T) fun B w0 d e=>below_setRow d e _)
theorem AJ {c:Array Oper} {rest:List Oper} {o:Oper} {a:Act} {Q:Exit->Act->ai->Prop} {w:ai} (d:o.guard=none) (x:ga) {b:Nat} {f:Nat->Nat}
  (e:o.op=.load 90 x) (g:a.eval x=au (some ⟨b,0,none⟩)) (T:w.heap[b]? = some (.cells (jw f) 90))
  (h:cH ah c Q rest (a.put o.dst (aN (jw f))) w):cH ah c Q (o::rest) a w :=
 wpList_load_row d _ x e b g _ _ _ _ T Tryz.underlying90 rfl (by rw [Iw,qF]) h
theorem OK (w:ai):(dG 65 2 #[(0,aa ⟨#[58,45]⟩),(1,aa ⟨#[45,45,62]⟩)]).run ah w=.ok (.slice (some ⟨w.heap.size,0,none⟩) 2 2) (w.alloc (.cells (yn 0) 9)):=by kernel_rfl
theorem OJ (w:ai):(dG 65 2 #[(0,aa ⟨#[58,45]⟩),(1,aa ⟨#[63,45]⟩)]).run ah w=.ok (.slice (some ⟨w.heap.size,0,none⟩) 2 2) (w.alloc (.cells (yn 1) 9)):=by kernel_rfl
theorem OI (w:ai):(dG 65 1 #[(0,aa ⟨#[59]⟩)]).run ah w=.ok (.slice (some ⟨w.heap.size,0,none⟩) 1 1) (w.alloc (.cells (yn 2) 9)):=by kernel_rfl
theorem OH (w:ai):(dG 65 1 #[(0,aa ⟨#[45,62]⟩)]).run ah w=.ok (.slice (some ⟨w.heap.size,0,none⟩) 1 1) (w.alloc (.cells (yn 3) 9)):=by kernel_rfl
theorem OG (w:ai):(dG 65 1 #[(0,aa ⟨#[44]⟩)]).run ah w=.ok (.slice (some ⟨w.heap.size,0,none⟩) 1 1) (w.alloc (.cells (yn 4) 9)):=by kernel_rfl
theorem OF (w:ai):(dG 65 1 #[(0,aa ⟨#[92,43]⟩)]).run ah w=.ok (.slice (some ⟨w.heap.size,0,none⟩) 1 1) (w.alloc (.cells (yn 5) 9)):=by kernel_rfl
theorem OE (w:ai):(dG 65 16 #[(0,aa ⟨#[61]⟩),(1,aa ⟨#[92,61]⟩),(2,aa ⟨#[61,61]⟩),(3,aa ⟨#[92,61,61]⟩),(4,aa ⟨#[64,60]⟩),(5,aa ⟨#[64,61,60]⟩),(6,aa ⟨#[64,62]⟩),(7,aa ⟨#[64,62,61]⟩),(8,aa ⟨#[61,46,46]⟩),(9,aa ⟨#[105,115]⟩),(10,aa ⟨#[61,58,61]⟩),(11,aa ⟨#[61,92,61]⟩),(12,aa ⟨#[60]⟩),(13,aa ⟨#[61,60]⟩),(14,aa ⟨#[62]⟩),(15,aa ⟨#[62,61]⟩)]).run ah w=.ok (.slice (some ⟨w.heap.size,0,none⟩) 16 16) (w.alloc (.cells (yn 6) 9)):=by kernel_rfl
theorem OD (w:ai):(dG 65 4 #[(0,aa ⟨#[43]⟩),(1,aa ⟨#[45]⟩),(2,aa ⟨#[47,92]⟩),(3,aa ⟨#[92,47]⟩)]).run ah w=.ok (.slice (some ⟨w.heap.size,0,none⟩) 4 4) (w.alloc (.cells (yn 7) 9)):=by kernel_rfl
theorem OC (w:ai):(dG 65 8 #[(0,aa ⟨#[42]⟩),(1,aa ⟨#[47]⟩),(2,aa ⟨#[47,47]⟩),(3,aa ⟨#[114,101,109]⟩),(4,aa ⟨#[109,111,100]⟩),(5,aa ⟨#[100,105,118]⟩),(6,aa ⟨#[60,60]⟩),(7,aa ⟨#[62,62]⟩)]).run ah w=.ok (.slice (some ⟨w.heap.size,0,none⟩) 8 8) (w.alloc (.cells (yn 8) 9)):=by kernel_rfl
theorem OB (w:ai):(dG 65 1 #[(0,aa ⟨#[42,42]⟩)]).run ah w=.ok (.slice (some ⟨w.heap.size,0,none⟩) 1 1) (w.alloc (.cells (yn 9) 9)):=by kernel_rfl
theorem NF (w:ai):(dG 65 1 #[(0,aa ⟨#[94]⟩)]).run ah w=.ok (.slice (some ⟨w.heap.size,0,none⟩) 1 1) (w.alloc (.cells (yn 10) 9)):=by kernel_rfl
theorem NE (w:ai):(dG 65 3 #[(0,aa ⟨#[43]⟩),(1,aa ⟨#[45]⟩),(2,aa ⟨#[92]⟩)]).run ah w=.ok (.slice (some ⟨w.heap.size,0,none⟩) 3 3) (w.alloc (.cells (yn 11) 9)):=by kernel_rfl
theorem IY (a b e f g h i j l m c d:Nat) (w:ai):(Instr.build 90 #[(0,aN #[ab ae 1200,ab ae 1,.slice (some ⟨a,0,none⟩) 2 2]),(1,aN #[ab ae 1200,ab ae 5,.slice (some ⟨b,0,none⟩) 2 2]),(2,aN #[ab ae 1100,ab ae 2,.slice (some ⟨e,0,none⟩) 1 1]),(3,aN #[ab ae 1050,ab ae 2,.slice (some ⟨f,0,none⟩) 1 1]),(4,aN #[ab ae 1000,ab ae 2,.slice (some ⟨g,0,none⟩) 1 1]),(5,aN #[ab ae 900,ab ae 4,.slice (some ⟨h,0,none⟩) 1 1]),(6,aN #[ab ae 700,ab ae 1,.slice (some ⟨i,0,none⟩) 16 16]),(7,aN #[ab ae 500,ab ae 3,.slice (some ⟨j,0,none⟩) 4 4]),(8,aN #[ab ae 400,ab ae 3,.slice (some ⟨l,0,none⟩) 8 8]),(9,aN #[ab ae 200,ab ae 1,.slice (some ⟨m,0,none⟩) 1 1]),(10,aN #[ab ae 200,ab ae 2,.slice (some ⟨c,0,none⟩) 1 1]),(11,aN #[ab ae 200,ab ae 4,.slice (some ⟨d,0,none⟩) 3 3])]).run ah w=.ok (aN (jw (fun k=>[a,b,e,f,g,h,i,j,l,m,c,d].getD k 0))) w:=by kernel_rfl
theorem Mu (b:Nat->Nat) (w:ai):∀(k:Nat),k<12->(Instr.index 90 (aN (jw b)) (ab ae k)).run ah w=.ok (aN #[ab ae (My k),ab ae (Mx k),Oo b k]) w
 | 0,_=>by kernel_rfl
 | 1,_=>by kernel_rfl
 | 2,_=>by kernel_rfl
 | 3,_=>by kernel_rfl
 | 4,_=>by kernel_rfl
 | 5,_=>by kernel_rfl
 | 6,_=>by kernel_rfl
 | 7,_=>by kernel_rfl
 | 8,_=>by kernel_rfl
 | 9,_=>by kernel_rfl
 | 10,_=>by kernel_rfl
 | 11,_=>by kernel_rfl
 | _+12,h=>absurd h (by omega)
theorem AK {c:Array Oper} {rest:List Oper} {o:Oper} {a:Act} {Q:Exit->Act->ai->Prop} {w:ai} (f:o.guard=none) (x y:ga) (b:Nat->Nat) (k:Nat) (g:k<12)
  (i:o.op=.index 90 x y) (j:a.eval x=aN (jw b)) (l:a.eval y=ab ae k)
  (h:cH ah c Q rest (a.put o.dst (aN #[ab ae (My k),ab ae (Mx k),.slice (some ⟨b k,0,none⟩) (Cf k).length (Cf k).length])) w):cH ah c Q (o::rest) a w:=by
 refine iL f fun K d=>?_
 have e:(aP a.eval o).run ah w=.ok (.value (aN #[ab ae (My k),ab ae (Mx k),Oo b k])) w:=by
  unfold aP
  rw [i]
  simp only [j,l]
  rw [Sem.run_bind,Mu b w k g]
  rfl
 unfold Oper.wp
 rw [e]
 exact d _ _ h
def AG:Prop:=∀(W:World) (g a B:Nat) (w0:ai),W.ownsRow B 39 3 (.slice (some ⟨g,0,none⟩) 41 a) 41 (aZ (kL 12))->ax B w0 W ->
  aJ ah 41 #[.slice (some ⟨g,0,none⟩) 41 a,.func (.func 24) #[] #[]] W fun e w'=>e=aw (aK #[])/\ax B w0 w'/\OpsAt w' (some ⟨g,0,none⟩) defL
theorem zw (HS:AG) (w:ai) :
  aJ ah 12 #[] w fun e w'=>∃g b,e=aw (.slice (some ⟨g,0,none⟩) 41 b)/\ax w.heap.size w w'/\OpsAt w' (some ⟨g,0,none⟩) defL:=by
 go_enter Tryz.func12,Tryz.ntmps12
 go_wp2_with (first
  | ((with_reducible refine nH ?_);have _m:=l;refine gF rfl 11 _ _ _ rfl rfl NE ?_;intro d5 e6 z)
  | ((with_reducible refine nH ?_);have _m:=v;refine gF rfl 10 _ _ _ rfl rfl NF ?_;intro d4 e5 l)
  | ((with_reducible refine nH ?_);have _m:=u;refine gF rfl 9 _ _ _ rfl rfl OB ?_;intro b9 w9 v)
  | ((with_reducible refine nH ?_);have _m:=t;refine gF rfl 8 _ _ _ rfl rfl OC ?_;intro b8 w8 u)
  | ((with_reducible refine nH ?_);have _m:=r;refine gF rfl 7 _ _ _ rfl rfl OD ?_;intro b7 w7 t)
  | ((with_reducible refine nH ?_);have _m:=q;refine gF rfl 6 _ _ _ rfl rfl OE ?_;intro b6 w6 r)
  | ((with_reducible refine nH ?_);have _m:=o;refine gF rfl 5 _ _ _ rfl rfl OF ?_;intro b5 w5 q)
  | ((with_reducible refine nH ?_);have _m:=n;refine gF rfl 4 _ _ _ rfl rfl OG ?_;intro b4 w4 o)
  | ((with_reducible refine nH ?_);have _m:=m;refine gF rfl 3 _ _ _ rfl rfl OH ?_;intro b3 w3 n)
  | ((with_reducible refine nH ?_);have _m:=d;refine gF rfl 2 _ _ _ rfl rfl OI ?_;intro b2 w2 m)
  | ((with_reducible refine nH ?_);have _m:=c;refine gF rfl 1 _ _ _ rfl rfl OJ ?_;intro b1 w1 d)
  | ((with_reducible refine nH ?_);refine gF rfl 0 _ _ _ rfl rfl OK ?_;intro b0 w0 c)
  | ((with_reducible refine MU ?_);refine AM rfl _ _ _ rfl rfl (IY b0 b1 b2 b3 b4 b5 b6 b7 b8 b9 d4 d5) ?_;intro f X)
  | ((with_reducible refine MV ?_);refine AN rfl rfl ?_;intro g wa a7 C a2)
  | ((with_reducible refine MR ?_);refine AI rfl _ _ rfl rfl rfl a7 ?_;intro a a8 a3)
  | ((with_reducible refine MS ?_);refine AJ rfl _ rfl rfl a8 ?_))
 have J:=a3 _ _ a2 C
 have I:=z.bel.trans (J.mono z.bel.size)
 have S:=l.bel.trans (I.mono l.bel.size)
 have c8:=v.bel.trans (S.mono v.bel.size)
 have R:=u.bel.trans (c8.mono u.bel.size)
 have Q:=t.bel.trans (R.mono t.bel.size)
 have O:=r.bel.trans (Q.mono r.bel.size)
 have M:=q.bel.trans (O.mono q.bel.size)
 have L:=o.bel.trans (M.mono o.bel.size)
 have K:=n.bel.trans (L.mono n.bel.size)
 have H:=m.bel.trans (K.mono m.bel.size)
 have G:=d.bel.trans (H.mono d.bel.size)
 have y:=c.bel.trans (G.mono c.bel.size)
 have d2:Hid (∀k,k<12->f k<a.heap.size/\∀(j:Nat) (hj:j<(Cf k).length),a.cell? ⟨f k,j,none⟩=some (aa (Cf k)[j])):=by
  refine zq ?_
  rw [X.out]
  exact fun
  | 0,_=>c.out G
  | 1,_=>d.out H
  | 2,_=>m.out K
  | 3,_=>n.out L
  | 4,_=>o.out M
  | 5,_=>q.out O
  | 6,_=>r.out Q
  | 7,_=>t.out R
  | 8,_=>u.out c8
  | 9,_=>v.out S
  | 10,_=>l.out I
  | 11,_=>z.out J
  | _+12,h=>absurd h (by omega)
 clear X a8 a7 a2 a3 C G H K L M O Q R c8 S I J c d m n o q r t u v l z
 go_loopw [0,32] (fun W i wr=>∃k:Nat,k<=12/\i=ab ae k/\ax a.heap.size a wr/\wr.ownsRow a.heap.size 39 3 W (kL k).length (aZ (kL k))) (fun _ i _=>12-(intOf i).toNat)
 case atStart=>exact ⟨0,bp _,rfl,aj _ _,dQ _ _ _ _⟩
 case round=>
  obtain ⟨k,hk,rfl,V,x⟩:=hrel
  have d9:=V.size
  by_cases D:k<12
  ·go_wp2_with ((with_reducible refine MT ?_);refine AK rfl _ _ f k D rfl rfl rfl ?_)
   obtain ⟨e0,a5⟩:=d2.out k D
   have hO:=Mz k D
   have d1:=zq (show NK k=(Cf k).map fun s=>(⟨s,Mx k,My k⟩:OpR) from rfl)
   have d0:=zq a5
   clear a5
   generalize Cf k=N at *
   generalize Mx k=T at *
   generalize My k=P at *
   have d7:(89:Nat)≠39:=by decide
   go_loopw [0,38] (fun W i F=>∃j:Nat,j<=N.length/\i=ab ae j/\ax a.heap.size a F/\wr.heap.size<F.heap.size/\F.heap[wr.heap.size]? = some (.cells #[ab ae P,ab ae T,.slice (some ⟨f k,0,none⟩) N.length N.length] 89)/\F.ownsRow a.heap.size 39 3 W ((kL k).length+j) (aZ (kL k++(N.take j).map fun s=>(⟨s,T,P⟩:OpR)))) (fun _ i _=>N.length-(intOf i).toNat)
   case atStart=>exact ⟨0,bp _,rfl,V.alloc d9 _,by simp,dA _ _,by simpa using x.alloc _⟩
   case round=>
    obtain ⟨j,hj,rfl,A,C,B,E⟩:=hrel
    have d8:=A.size
    by_cases a9:j<N.length
    ·have x0:_=some (fK ae P):=cell_of_heap B 0
     have x1:_=some (fK ae T):=cell_of_heap B 1
     have cc:=(A.cell (p:=⟨f k,j,none⟩) e0).trans (d0.out j a9)
     have d3:=zq (aO a9)
     have e3:(kL k).length+j<=70368744:=by omega
     have a0:=zq E
     have Y:=zq B
     clear E B
     generalize N[j]=s at *
     go_wp2_with ((with_reducible refine Je ?_);go_must (refine rh rfl _ _ rfl a.heap.size _ _ _ rfl _ a0.out ⟨s,T,P⟩ rfl rfl e3 d8 ?_;intro v1 w4 e4 d6 a6))
     go_roundw
     case rel=>
      refine ⟨j+1,by omega,by go_num,A.trans d6,?_,?_,?_⟩
      ·have:=a6.size;simp at this;omega
      ·rw [a6.block _ (by simp;omega) (zr a0.out Y.out d7),<-Y.out]
       exact (dw _ _ none).block _ C (by simp)
      ·rw [d3.out,List.map_append,<-List.append_assoc]
       exact e4
     case measure=>simp [intOf] <;> omega
    ·have e1:j=N.length:=by omega
     subst e1
     go_wp2_with fail
     go_roundw
     case rel=>
      refine ⟨k+1,by omega,by go_num,A,?_⟩
      rw [ry,d1.out,aB,bm]
      rw [cL] at E
      exact E
     case measure=>simp [intOf] <;> omega
  ·have e2:k=12:=by omega
   subst e2
   rw [oa] at x
   obtain ⟨U,b,rfl⟩:=tH x (by omega)
   have HC:=zq (HS wr U b a.heap.size a x V)
   clear x D hk
   go_wp2_with fail
   refine HC.out.mono ?_;rintro e w7 ⟨rfl,a1,a4⟩
   have Z:=zq a4
   clear a4
   go_wp2_with fail
   go_ret
   first | exact ⟨U,b,rfl,y.trans (a1.mono y.size),Z.out⟩ | exact ⟨U,⟨b,rfl⟩,y.trans (a1.mono y.size),Z.out⟩
end Go.Proofs.YtlikcjbjibhjgaaGreatDoor
namespace Hb
open Go Go.RowKit Go.Sort Go.Proofs
theorem kz (a b:OpR):gT a b=true↔a.name.toList<b.name.toList\/(a.name.toList=b.name.toList/\bX a.typ<bX b.typ):=by
 unfold gT
 by_cases h:a.name.toList=b.name.toList
 ·have d:¬b.name.toList<b.name.toList:=List.lt_irrefl _
  simp [h,d]
 ·have c:(a.name.toList==b.name.toList)=false:=by simpa using h
  rw [c,if_neg (by simp),bytesLess_eq]
  simp [h]
theorem kO (a b:OpR):ltOf gz a b=gT a b:=(mQ a b).symm
theorem swo_op:SWO (ltOf gz) where
 irrefl x:=by
  rw [kO,<-dN,kz]
  rintro (h | ⟨_,h⟩)
  ·exact List.lt_irrefl _ h
  ·omega
 trans x y z a h2:=by
  rw [kO,kz] at *
  rcases a with a | ⟨b,a⟩ <;> rcases h2 with h2 | ⟨g,h2⟩
  ·exact .inl (List.lt_trans a h2)
  ·exact .inl (g ▸ a)
  ·exact .inl (b ▸ h2)
  ·exact .inr ⟨b.trans g,by omega⟩
 ntrans x y z a h2:=by
  rw [kO,<-dN,kz] at *
  rintro h
  have d:y.name.toList<=x.name.toList:=fun h=>a (.inl h)
  have f:z.name.toList<=y.name.toList:=fun h=>h2 (.inl h)
  rcases h with h | ⟨e,h⟩
  ·exact List.lt_irrefl _ (List.lt_of_le_of_lt (List.le_trans f d) h)
  ·have b:y.name.toList=x.name.toList:=List.le_antisymm d (by rw [e];exact f)
   have i:¬bX x.typ<bX y.typ:=fun c=>a (.inr ⟨b.symm,c⟩)
   have j:¬bX y.typ<bX z.typ:=fun c=>h2 (.inr ⟨b.trans e,c⟩)
   omega
theorem Ai:defL.Pairwise fun a b=>gT b a=false:=by decide +kernel
theorem Cn:∀a∈defL,∀b∈defL,gT b a=false->gT a b=false->a=b:=by decide +kernel
theorem Aj:defL.length=41:=by decide +kernel
theorem yO (d:Array OpR) (h:d.toList.Perm (kL 12)) (r:∀i j,i<j->j<41->ltOf gz d[j]! d[i]! = false):d.toList=defL:=by
 have c:d.toList.Perm defL:=h.trans defL_perm.symm
 have s:d.size=41:=by
  have:=c.length_eq
  rw [Aj] at this
  simpa using this
 have q:d.toList.Pairwise fun a b=>gT b a=false:=by
  rw [fp]
  intro i j o e p
  have:=r i j p (by simp at e;omega)
  rw [kO] at this
  have f:d[j]! = d.toList[j]:=by rw [getElem!_pos d j (by simpa using e)];simp
  have g:d[i]! = d.toList[i]:=by rw [getElem!_pos d i (by simpa using o)];simp
  rw [f,g] at this
  exact this
 exact c.eq_of_pairwise (fun a b m n k l=>Cn a (c.subset m) b n k l) q Ai
theorem qv:∀(l:List OpR) (j:Nat),j<l.length * 3->(aZ l)[j]? = some ((dj l[j / 3]!)[j % 3]!)
 | [],j,h=>absurd h (by simp)
 | o::l,j,h=>by
  have e:aZ (o::l)=dj o++aZ l:=rfl
  rw [e]
  by_cases f:j<3
  ·have:j=0\/j=1\/j=2:=by omega
   rcases this with rfl|rfl|rfl <;> rfl
  ·have d:=qv l (j-3) (by simp at h;omega)
   rw [List.getElem?_append_right (by simp [dj];omega)]
   have a:(dj o).length=3:=rfl
   have b:j / 3=(j-3) / 3+1:=by omega
   have c:j % 3=(j-3) % 3:=by omega
   rw [a,d,b,c]
   simp
theorem IA {w w':ai} (h:ax w.heap.size w w') (hd:w.drawn<=w'.drawn):∃q os',w'=Sort.grow (w.drewN q) os':=by
 refine ⟨w'.drawn-w.drawn,w'.heap.extract w.heap.size w'.heap.size,?_⟩
 have e:w'.heap=w.heap++w'.heap.extract w.heap.size w'.heap.size:=by
  apply Array.ext_getElem?
  intro i
  by_cases f:i<w.heap.size
  ·rw [h.block i f,ez f]
  ·rw [Array.getElem?_append_right (by omega),Array.getElem?_extract]
   have:=h.size
   by_cases k:i<w'.heap.size
   ·rw [if_pos (by omega)];congr 1;omega
   ·rw [if_neg (by omega),Array.getElem?_eq_none (by omega)]
 obtain ⟨g,m,j,l,n⟩:=w'
 obtain ⟨H,t,d,o,u⟩:=w
 have a:=h.os
 have b:=h.tape
 have c:=h.output
 simp only [] at a b c e hd
 subst a b c
 unfold Sort.grow World.drewN
 simp only []
 rw [<-e]
 congr 1
 omega
end Hb
namespace Go.Proofs.YtlikcjbjibhjgaaGreatDoor
open Go.RowKit Hb Go.Sort
theorem nU (W:ai) (g n:Nat) (d:Array OpR) (os:Array Obj):(sortWorldK dj 3 W g 0 n d os).heap=W.heap.modify g (onCells (putCells id 0 (flatK dj 3 d)))++os:=rfl
theorem yk {B g n:Nat} {w0 W:ai} (a:ax B w0 W) (e:B<=g) (c:g<W.heap.size) (d:Array OpR) (b:Array Obj):ax B w0 (sortWorldK dj 3 W g 0 n d b):=by
 refine a.trans ⟨rfl,rfl,rfl,?_,fun k f=>?_⟩
 ·rw [nU];simp
 ·rw [nU,ez (by simp;omega),Array.getElem?_modify,if_neg (by omega)]
theorem En:AG:=by
 intro W g C B w0 p I
 obtain ⟨J,o⟩:=p.lt g rfl
 have d:(kL 12).toArray.size=41:=by rw [List.size_toArray,oa]
 have E:∀args w,(callFunc 24 args).run ah w=.ok (.enter 24 args) w:=enters_of Tryz.func24 (by kernel_rfl) rfl
 have A:∀w,(isAgg 39).run ah w=.ok true w:=fun w=>by kernel_rfl
 have R:∀w,(Go.sizeOf 39).run ah w=.ok 3 w:=fun w=>by kernel_rfl
 have q:HoldsK dj 3 W g 0 (kL 12).toArray:=fun j a=>by
  have k:j<(kL 12).toArray.size * 3:=by rw [size_flatK] at a;exact a
  have l:j<(kL 12).length * 3:=by rw [oa];rw [d] at k;exact k
  refine ⟨?_,p.frozenAt _⟩
  rw [ap,p.cellAt j (by rw [oa] at l;exact l),qv _ j l,get_flatK _ _ _ _ k]
  simp
 have L:CmpLays ah 24 #[] dj 3 gz g 0 (kL 12).toArray.size W:=fun m f S _ x y=>
  (pj x y _).mono fun _ _ ⟨he,hb,hdr⟩=>⟨he,IA hb hdr⟩
 have H:=AnyQ.slices_SortFunc Tryz.sortOps 3 A R dj (fun _=>rfl) (fun x v s=>by simp [dj] at s;rcases s with rfl|rfl|rfl <;> rfl) gz swo_op 24 #[] g 0 C (kL 12).toArray W E L q o (by rw [d];decide)
 rw [d] at H
 refine H.mono ?_
 rintro e w' ⟨rfl,d',n,f,r,Q,rfl⟩
 have M:d'.size=41:=r.1.trans d
 have P:d'.toList.Perm (kL 12):=by
  have:=r.2.2
  rw [Array.extract_eq_self_of_le (by omega),Array.extract_eq_self_of_le (by omega)] at this
  simpa using this
 have N:=yO d' P (fun i j O a=>Q i j (bp _) O a)
 have h:HoldsK dj 3 (sortWorldK dj 3 W g 0 n d' f) g 0 d':=by
  have F:HoldsK dj 3 (Sort.ahead W n) g 0 (kL 12).toArray:=holdsK_ahead _ _ _ _ _ _ _ q
  have G:HoldsK dj 3 (putRowK dj 3 (Sort.ahead W n) g 0 d') g 0 d':=holdsK_putRowK _ _ _ _ _ _ _ F (by rw [M,d])
  exact holdsK_grow _ _ _ f _ _ _ (by show g<(putRowK dj 3 (Sort.ahead W n) g 0 d').heap.size;simp [putRowK,putRow,mapBlock,Sort.ahead,o]) G
 have K:=yk (n:=n) I J o d' f
 refine ⟨rfl,K,fun j a=>?_⟩
 have T:j<41:=by rw [Aj] at a;exact a
 have b:j<d'.size:=by omega
 have D:d'[j]! = defL[j]:=by
  rw [getElem!_pos d' j b]
  have:d'.toList[j]'(by simpa using b)=defL[j]:=by simp only [N]
  rw [<-this];simp
 have t:=(h.cell b (c:=0) (by omega)).1
 have u:=(h.cell b (c:=1) (by omega)).1
 have z:=(h.cell b (c:=2) (by omega)).1
 rw [D] at t u z
 refine ⟨g,0,rfl,?_,t,u,z⟩
 rw [nU];simp;omega
end Go.Proofs.YtlikcjbjibhjgaaGreatDoor
namespace Hb
open Go Go.RowKit
theorem La (w:ai) (n:Nat) (a:Array Obj):ax w.heap.size w (Sort.grow (w.drewN n) a) :=
 ⟨rfl,rfl,rfl,by show w.heap.size<=(w.heap++a).size;simp,fun k b=>by show (w.heap++a)[k]? = _;rw [ez b]⟩
theorem eS (l:List OpR):(aZ l).length=l.length * 3:=by
 unfold aZ;induction l with
 | nil=>rfl
 | cons p l ih=>rw [List.flatMap_cons,aB,ih];simp [dj];omega
theorem BC:∀(l:List OpR) (i:Nat) (h:i<l.length),(aZ l)[i * 3]? = some (aa l[i].name)/\(aZ l)[i * 3+1]? = some (ab ae l[i].typ)/\(aZ l)[i * 3+2]? = some (ab ae l[i].prec)
 | p::l,0,_=>⟨rfl,rfl,rfl⟩
 | p::l,i+1,h=>by
  have:=BC l i (by simpa using h)
  have e:aZ (p::l)=aa p.name::ab ae p.typ::ab ae p.prec::aZ l:=rfl
  rw [e,show (i+1) * 3=i * 3+3 by omega]
  exact ⟨by simpa using this.1,by simpa using this.2.1,by simpa using this.2.2⟩
theorem pK (l:List OpR):∀u∈aZ l,u.oneCell'=true:=by
 intro u a
 unfold aZ at a
 rw [List.mem_flatMap] at a
 obtain ⟨p,_,b⟩:=a
 simp [dj] at b
 rcases b with rfl|rfl|rfl <;> rfl
def OpsIn (w:ai) (b a:Nat) (l:List OpR):Prop :=
 ∀j (c:j<l.length),w.cell? ⟨b,a+j * 3,none⟩=some (aa l[j].name)/\w.cell? ⟨b,a+j * 3+1,none⟩=some (ab ae l[j].typ)/\w.cell? ⟨b,a+j * 3+2,none⟩=some (ab ae l[j].prec)
theorem rU (b o j:Nat):(⟨b,o,none⟩:Addr).add j=⟨b,o+j,none⟩:=by unfold Addr.add;split <;> simp_all
theorem Ig {w:ai} {b f:Nat} {l:List OpR} (h:OpsIn w b f l) (j:Nat) (u:az) (a:(aZ l)[j]? = some u):w.cell? ((⟨b,f,none⟩:Addr).add j)=some u:=by
 have i:j<(aZ l).length:=by
  rcases cS j (aZ l).length with d | d
  ·exact d
  ·rw [List.getElem?_eq_none d] at a;cases a
 rw [eS] at i
 have e:j / 3<l.length:=by omega
 obtain ⟨k,m,n⟩:=BC l (j / 3) e
 obtain ⟨o,p,q⟩:=h (j / 3) e
 rw [rU]
 have g:j=j / 3 * 3\/j=j / 3 * 3+1\/j=j / 3 * 3+2:=by omega
 rcases g with c | c | c
 ·rw [c,k] at a;injection a with a;rw [c,<-a];exact o
 ·rw [c,m] at a;injection a with a;rw [c,<-a,<-Nat.add_assoc];exact p
 ·rw [c,n] at a;injection a with a;rw [c,<-a,<-Nat.add_assoc];exact q
theorem OpsAt.cases {w:ai} {A:Option Addr} {l:List OpR} (h:OpsAt w A l):l=[]\/∃b f,A=some ⟨b,f,none⟩/\b<w.heap.size/\OpsIn w b f l:=by
 cases l with
 | nil=>exact .inl rfl
 | cons a l=>
  obtain ⟨b,f,e,g,_⟩:=h 0 (by simp)
  refine .inr ⟨b,f,e,g,fun j i=>?_⟩
  obtain ⟨k,m,d,_,c⟩:=h j i
  rw [e] at d;injection d with d;injection d with e1 e2 _;subst e1;subst e2
  exact c
theorem OpsIn.ops {w:ai} {b a:Nat} {l:List OpR} (h:OpsIn w b a l) (c:b<w.heap.size):OpsAt w (some ⟨b,a,none⟩) l:=fun j d=>⟨b,a,rfl,c,h j d⟩
theorem OpsIn.below {w w':ai} {b d:Nat} {l:List OpR} (h:OpsIn w b d l) (c:b<w.heap.size) (a:ax w.heap.size w w'):OpsIn w' b d l:=fun j i=>by
 obtain ⟨e,f,g⟩:=h j i
 exact ⟨(a.cell (p:=⟨b,_,none⟩) c).trans e,(a.cell (p:=⟨b,_,none⟩) c).trans f,(a.cell (p:=⟨b,_,none⟩) c).trans g⟩
theorem mW {w:ai} {a e size:Nat} {v:az} {n:Nat} {xs:List az} (h:w.ownsRow a e size v n xs):∃A cap,v=.slice A n cap:=by
 rcases h.2 with ⟨rfl,b⟩ | ⟨g,cap,c,rfl,_⟩
 ·exact ⟨none,0,by rw [b]⟩
 ·exact ⟨_,cap,rfl⟩
theorem xF {w:ai} {a e n g b:Nat} {l:List OpR} (h:w.ownsRow a e 3 (.slice (some ⟨g,0,none⟩) n b) n (aZ l)):OpsIn w g 0 l:=by
 have k:n=l.length:=by have:=h.1;rw [eS] at this;omega
 intro j c
 obtain ⟨d,f,i⟩:=BC l j c
 exact ⟨by rw [ap,h.cellAt _ (by omega)];exact d,by rw [ap,h.cellAt _ (by omega)];exact f,by rw [ap,h.cellAt _ (by omega)];exact i⟩
theorem xI {w:ai} {b e n c:Nat} {A:Option Addr} {l:List OpR} (h:w.ownsRow b e 3 (.slice A n c) n (aZ l)):OpsAt w A l:=by
 have p:n=l.length:=by have:=h.1;rw [eS] at this;omega
 rcases h.2 with ⟨a,i⟩ | ⟨g,d,f,a,k,m,rest⟩
 ·intro j o;omega
 ·injection a with hA _ _
  subst hA
  exact (xF h).ops (h.lt g rfl).2
theorem Bt (w:ai) (a e size:Nat) (b:a<=w.heap.size):(w.alloc (.cells #[] e)).ownsRow a e size (.slice (some ⟨w.heap.size,0,none⟩) 0 0) 0 [] :=
 ⟨by simp,.inr ⟨w.heap.size,0,#[],rfl,b,by show (w.heap.push _)[w.heap.size]? = _;simp,ag _,bp _,by simp,by simp⟩⟩
end Hb
namespace Go.Proofs.YtlikcjbjibhjgaaGreatDoor
open Go.RowKit Hb
theorem ER (A:Option Addr) (n q:Nat) (l:List OpR) (w:ai) (t:n=l.length) (U:n<=400) (v:OpsAt w A l) (r:n=0->(Value.slice A n q=.slice none 0 0\/∃B,A=some B)) :
  aJ ah 22 #[.slice A n q] w fun e w'=>∃h m,e=aw (.slice h n m)/\ax w.heap.size w w'/\w'.ownsRow w.heap.size 39 3 (.slice h n m) n (aZ l):=by
 obtain ⟨i,s,x,y,z⟩:=info_parts ug
 have G:=zq s
 have H:=zq x
 have I:=zq y
 have J:=zq z
 have K:=zq (Bt w w.heap.size 39 3 (ag _))
 have C:=(aj w.heap.size w).alloc (ag _) (.cells #[] 39)
 rcases v.cases with Q | ⟨b,S,rfl,P,L⟩
 ·subst Q
  rw [List.length_nil] at t
  subst t
  rcases r rfl with R | ⟨B,rfl⟩
  ·injection R with h1 h2 h3
   subst h1;subst h3
   clear s x y z r v h2
   have M:∀(w:ai) (a:Option Addr) (n c f d:Nat),(binOp .eql 22 (.slice a n c) (.slice none f d)).run ah w=.ok (am a.isNone) w:=fun w a n c f d=>Lib.run_eql_slice_nil w _ _ a n c f d cD
   go_enter Tryz.func22,Tryz.ntmps22
   go_wp2_with fail
   go_ret
   first | exact ⟨none,⟨0,rfl⟩,aj _ _,dQ _ _ _ _⟩ | exact ⟨none,0,rfl,aj _ _,dQ _ _ _ _⟩
  ·clear s x y z r v
   have M:∀(w:ai) (a:Option Addr) (n c f d:Nat),(binOp .eql 22 (.slice a n c) (.slice none f d)).run ah w=.ok (am a.isNone) w:=fun w a n c f d=>Lib.run_eql_slice_nil w _ _ a n c f d cD
   go_enter Tryz.func22,Tryz.ntmps22
   go_wp2_with (at_builtin;go_must (refine gV _ rfl _ _ 22 rfl w.heap.size 39 i _ 3 32 cD G.out H.out I.out J.out rfl (by decide) _ 0 [] rfl K.out B 0 q [] rfl rfl (by intro j u F;cases F) (by intro u F;cases F) (by unfold be;omega) (by omega) (by simp) ?_;intro T w1 g D _))
   have p:ax w.heap.size w w1:=C.grown D (by simp) (fun k E=>Nat.le_of_eq (Option.some.inj (show some w.heap.size=some k from E)))
   rw [ap,an] at g
   obtain ⟨h,m,rfl⟩:=mW g
   have o:=zq g
   clear g
   go_ret
   first | exact ⟨h,⟨m,rfl⟩,p,o.out⟩ | exact ⟨h,m,rfl,p,o.out⟩
 ·have N:=zq (L.below P C)
  have O:=zq t
  clear s x y z r v L t
  have M:∀(w:ai) (a:Option Addr) (n c f d:Nat),(binOp .eql 22 (.slice a n c) (.slice none f d)).run ah w=.ok (am a.isNone) w:=fun w a n c f d=>Lib.run_eql_slice_nil w _ _ a n c f d cD
  go_enter Tryz.func22,Tryz.ntmps22
  go_wp2_with (at_builtin;go_must (refine gV _ rfl _ _ 22 rfl w.heap.size 39 i _ 3 32 cD G.out H.out I.out J.out rfl (by decide) _ 0 [] rfl K.out ⟨b,S,none⟩ n q (aZ l) rfl (by rw [eS,O.out]) (Ig N.out) (pK l) (by unfold be;omega) (by omega) (by simp) ?_;intro T w1 g D _))
  rw [ap,an] at g
  have p:ax w.heap.size w w1:=C.grown D (by simp) (fun k E=>Nat.le_of_eq (Option.some.inj (show some w.heap.size=some k from E)))
  obtain ⟨h,m,rfl⟩:=mW g
  have o:=zq g
  clear g
  go_ret
  first | exact ⟨h,⟨m,rfl⟩,p,o.out⟩ | exact ⟨h,m,rfl,p,o.out⟩
end Go.Proofs.YtlikcjbjibhjgaaGreatDoor
namespace Hb
open Go Go.RowKit
structure BHeld (w0 w:ai) (o a:OpR) (b p:Nat):Prop where
 bel:ax w0.heap.size w0 w
 lt:w0.heap.size<w.heap.size
 o0:w.cell? ⟨w0.heap.size,0,none⟩=some (aa o.name)
 o1:w.cell? ⟨w0.heap.size,1,none⟩=some (ab ae o.typ)
 o2:w.cell? ⟨w0.heap.size,2,none⟩=some (ab ae o.prec)
 bl:b<w0.heap.size
 a0:w.cell? ⟨b,p,none⟩=some (aa a.name)
 a1:w.cell? ⟨b,p+1,none⟩=some (ab ae a.typ)
 a2:w.cell? ⟨b,p+2,none⟩=some (ab ae a.prec)
section
variable {w0 w w':ai} {o a:OpR} {b p:Nat}
theorem BHeld.keep (h:BHeld w0 w o a b p):w.cell? ⟨w0.heap.size,0,none⟩=some (aa o.name)/\w.cell? ⟨w0.heap.size,1,none⟩=some (ab ae o.typ)/\w.cell? ⟨w0.heap.size,2,none⟩=some (ab ae o.prec)/\w.cell? ⟨b,p,none⟩=some (aa a.name)/\w.cell? ⟨b,p+1,none⟩=some (ab ae a.typ)/\w.cell? ⟨b,p+2,none⟩=some (ab ae a.prec)/\BHeld w0 w o a b p:=⟨h.o0,h.o1,h.o2,h.a0,h.a1,h.a2,h⟩
theorem BHeld.of (h:w.cell? ⟨w0.heap.size,0,none⟩=some (aa o.name)/\w.cell? ⟨w0.heap.size,1,none⟩=some (ab ae o.typ)/\w.cell? ⟨w0.heap.size,2,none⟩=some (ab ae o.prec)/\w.cell? ⟨b,p,none⟩=some (aa a.name)/\w.cell? ⟨b,p+1,none⟩=some (ab ae a.typ)/\w.cell? ⟨b,p+2,none⟩=some (ab ae a.prec)/\BHeld w0 w o a b p):BHeld w0 w o a b p:=h.2.2.2.2.2.2
theorem BHeld.call (c:ax w.heap.size w w') (h:BHeld w0 w o a b p):BHeld w0 w' o a b p where
 bel:=h.bel.trans (c.mono (by have:=h.lt;omega))
 lt:=aC h.lt c.size
 o0:=(c.cell (p:=⟨_,_,none⟩) h.lt).trans h.o0
 o1:=(c.cell (p:=⟨_,_,none⟩) h.lt).trans h.o1
 o2:=(c.cell (p:=⟨_,_,none⟩) h.lt).trans h.o2
 bl:=h.bl
 a0:=(c.cell (p:=⟨_,_,none⟩) (gc h.bl h.lt)).trans h.a0
 a1:=(c.cell (p:=⟨_,_,none⟩) (gc h.bl h.lt)).trans h.a1
 a2:=(c.cell (p:=⟨_,_,none⟩) (gc h.bl h.lt)).trans h.a2
theorem BHeld.drew (h:BHeld w0 w o a b p):BHeld w0 w.drew o a b p:=h.call (aj w.heap.size w).drew
end
structure TBox (w0 w:ai) (o:OpR):Prop where
 bel:ax w0.heap.size w0 w
 lt:w0.heap.size<w.heap.size
 o0:w.cell? ⟨w0.heap.size,0,none⟩=some (aa o.name)
 o1:w.cell? ⟨w0.heap.size,1,none⟩=some (ab ae o.typ)
 o2:w.cell? ⟨w0.heap.size,2,none⟩=some (ab ae o.prec)
theorem TBox.start (w:ai) (o:OpR) (e:bD):TBox w (w.alloc (.cells #[aa o.name,ab ae o.typ,ab ae o.prec] e)) o where
 bel:=(aj _ _).alloc (ag _) _
 lt:=by simp
 o0:=aq _ _ _ 0
 o1:=aq _ _ _ 1
 o2:=aq _ _ _ 2
theorem TBox.held {w0 w:ai} {o a:OpR} {b p:Nat} (h:TBox w0 w o) (d:b<w0.heap.size) (c:w0.cell? ⟨b,p,none⟩=some (aa a.name)/\w0.cell? ⟨b,p+1,none⟩=some (ab ae a.typ)/\w0.cell? ⟨b,p+2,none⟩=some (ab ae a.prec)):BHeld w0 w o a b p where
 bel:=h.bel
 lt:=h.lt
 o0:=h.o0
 o1:=h.o1
 o2:=h.o2
 bl:=d
 a0:=(h.bel.cell (p:=⟨b,_,none⟩) d).trans c.1
 a1:=(h.bel.cell (p:=⟨b,_,none⟩) d).trans c.2.1
 a2:=(h.bel.cell (p:=⟨b,_,none⟩) d).trans c.2.2
theorem BHeld.box {w0 w:ai} {o a:OpR} {b p:Nat} (h:BHeld w0 w o a b p):TBox w0 w o:=⟨h.bel,h.lt,h.o0,h.o1,h.o2⟩
structure Parts (o:OpR) (l:List OpR) (lo hi:Nat):Prop where
 le:lo<=hi
 hl:hi<=l.length
 pre:∀j (hj:j<l.length),j<lo->gz l[j] o<0
 post:∀j (hj:j<l.length),hi<=j->¬gz l[j] o<0
def Lh (o:OpR) (l:List OpR):Prop:=∀i j (b:j<l.length) (a:i<=j),gz l[j] o<0->gz (l[i]'(by omega)) o<0
theorem Parts.up {o:OpR} {l:List OpR} {f a m:Nat} (h:Parts o l f a) (c:Lh o l) (b:m<a) (e:m<l.length) (d:gz l[m] o<0):Parts o l (m+1) a where
 le:=b
 hl:=h.hl
 pre:=fun j g i=>c j m e (by omega) d
 post:=h.post
theorem Parts.down {o:OpR} {l:List OpR} {a f m:Nat} (h:Parts o l a f) (c:Lh o l) (b:a<=m) (k:m<l.length) (d:¬gz l[m] o<0):Parts o l a m where
 le:=b
 hl:=by omega
 pre:=h.pre
 post:=fun j g i e=>d (c m j g i e)
theorem Parts.start (o:OpR) (l:List OpR):Parts o l 0 l.length:=⟨bp _,ag _,fun j _ h=>absurd h (by omega),fun j a h=>absurd a (by omega)⟩
end Hb
namespace Go.Proofs.YtlikcjbjibhjgaaGreatDoor
open Go.RowKit Hb
theorem MQ {b:Array Oper} {rest:List Oper} {a:Act} {Q:Exit->Act->ai->Prop} {w:ai} {d x y t p f g} (h:cH ah b Q (⟨d,.binOp .shr 99 x y 99,t,p,f,g⟩::rest) a w):cH ah b Q (⟨d,.binOp .shr 99 x y 99,t,p,f,g⟩::rest) a w:=h
theorem yp {b:Array Oper} {rest:List Oper} {o:Oper} {a:Act} {Q:Exit->Act->ai->Prop} {w:ai} (f:o.guard=none) (x y:ga) (i:o.op=.binOp .shr 99 x y 99) (k m:Int) (j:a.eval x=ab .u64 k) (l:a.eval y=ab .u64 1) (g:k / 2=m)
  (h:cH ah b Q rest (a.put o.dst (ab .u64 m)) w):cH ah b Q (o::rest) a w:=by
 refine iL f fun K c=>?_
 have d:min (Int.toNat 1) IntKind.u64.bits=1:=by decide
 have e:(aP a.eval o).run ah w=.ok (.value (ab .u64 m)) w:=by
  unfold aP
  rw [i]
  simp only [j,l]
  rw [<-g,binOp_shr,shift_shr_any _ _ _ _ (by decide),d]
  rfl
 unfold Oper.wp
 rw [e]
 exact c _ _ h
theorem Bw (A:Option Addr) (n N:Nat) (l:List OpR) (o:OpR) (w:ai) (x:n=l.length) (hm:n<=400) (L:OpsAt w A l) (J:Lh o l) :
  aJ ah 25 #[.slice A n N,kZ o,.func (.func 24) #[] #[]] w fun e w'=>∃(i:Nat) (b:Bool),e=aw (aK #[ab ae i,am b])/\Parts o l i i/\ax w.heap.size w w':=by
 have F:=zq L
 have E:=zq x
 have D:=zq J
 have K:=TBox.start w o 39
 have p:=zq (Parts.start o l)
 rw [<-x] at p
 have B:=zq (fun a W=>pJ a o W)
 clear L x J
 unfold kZ at *
 go_enter Tryz.func25,Tryz.ntmps25
 go_wp2_with fail
 have I:Hid (TBox w _ o):=zq K
 go_loopw [9,10] (fun z y wr=>∃lo hi:Nat,z=ab ae lo/\y=ab ae hi/\lo<=hi/\hi<=n/\Hid (TBox w wr o)/\Hid (Parts o l lo hi)) (fun z y _=>(intOf y-intOf z).toNat)
 case atStart=>exact ⟨0,n,rfl,rfl,bp _,ag _,I,p⟩
 case round=>
  clear I K p
  obtain ⟨lo,hi,rfl,rfl,Y,R,q,g⟩:=hrel
  by_cases a0:lo<hi
  ·obtain ⟨m,T⟩:∃m,m=(lo+hi) / 2:=⟨_,rfl⟩
   have u:lo<=m/\m<hi:=by omega
   have U:((lo:Int)+(hi:Int)) / 2=(m:Int):=by omega
   obtain ⟨u,S⟩:=u
   clear T
   have a1:m<n:=by omega
   have V:(0:Int)<=(m:Int):=by omega
   have X:(m:Int)<(n:Int):=by omega
   have v:m<l.length:=by have:=E.out;omega
   obtain ⟨b,d,rfl,r,c⟩:=F.out m v
   have H:=zq (fun h=>g.out.up D.out S v h)
   have C:=zq (fun h=>g.out.down D.out u v h)
   have f:=zq (fun W=>B.out l[m] W)
   have j:=q.out.held r c
   clear c
   generalize l[m]=a at *
   obtain ⟨c,t⟩:=lz (gz a o)
   rw [<-t.out] at H C f
   go_wp2_with ((with_reducible refine MQ ?_);refine yp rfl _ _ rfl _ _ rfl rfl U ?_)
   go_region_held3 (fun w'=>w'.cell? ⟨w.heap.size,0,none⟩=some (aa o.name)/\w'.cell? ⟨w.heap.size,1,none⟩=some (ab ae o.typ)/\w'.cell? ⟨w.heap.size,2,none⟩=some (ab ae o.prec)/\w'.cell? ⟨b,d+m * 3,none⟩=some (aa a.name)/\w'.cell? ⟨b,d+m * 3+1,none⟩=some (ab ae a.typ)/\w'.cell? ⟨b,d+m * 3+2,none⟩=some (ab ae a.prec)/\BHeld w w' o a b (d+m * 3))
    (first | with_reducible exact j.drew.keep | with_reducible exact BHeld.keep (BHeld.of (by with_reducible assumption)) | with_reducible exact BHeld.keep (BHeld.call (by with_reducible assumption) (BHeld.of (by with_reducible assumption))))
    (first | (go_at_call 24;(with_reducible refine (f.out _).mono ?_);rintro e M ⟨rfl,O⟩))
   all_goals have G:Hid (TBox w M o):=zq (BHeld.box (BHeld.of (by with_reducible assumption)))
   by_cases P:c<0
   ·go_wp2_with fail
    go_roundw
    case rel=>exact ⟨m+1,hi,by go_num,rfl,by omega,R,G,zq (H.out P)⟩
    case measure=>simp [intOf] <;> omega
   ·go_wp2_with fail
    go_roundw
    case rel=>exact ⟨lo,m,rfl,rfl,by omega,by omega,G,zq (C.out (by omega))⟩
    case measure=>simp [intOf] <;> omega
  ·obtain rfl:hi=lo:=by omega
   by_cases Z:hi<n
   ·have Q:hi<l.length:=by have:=E.out;omega
    obtain ⟨b,d,rfl,r,c⟩:=F.out hi Q
    have f:=zq (fun W=>B.out l[hi] W)
    have j:=q.out.held r c
    clear c
    generalize l[hi]=a at *
    obtain ⟨c,t⟩:=lz (gz a o)
    rw [<-t.out] at f
    have V:(0:Int)<=(hi:Int):=by omega
    have X:(hi:Int)<(n:Int):=by omega
    go_wp2_with fail
    go_region_held3 (fun w'=>w'.cell? ⟨w.heap.size,0,none⟩=some (aa o.name)/\w'.cell? ⟨w.heap.size,1,none⟩=some (ab ae o.typ)/\w'.cell? ⟨w.heap.size,2,none⟩=some (ab ae o.prec)/\w'.cell? ⟨b,d+hi * 3,none⟩=some (aa a.name)/\w'.cell? ⟨b,d+hi * 3+1,none⟩=some (ab ae a.typ)/\w'.cell? ⟨b,d+hi * 3+2,none⟩=some (ab ae a.prec)/\BHeld w w' o a b (d+hi * 3))
     (first | with_reducible exact j.drew.keep | with_reducible exact BHeld.keep (BHeld.of (by with_reducible assumption)) | with_reducible exact BHeld.keep (BHeld.call (by with_reducible assumption) (BHeld.of (by with_reducible assumption))))
     (first | (go_at_call 24;(with_reducible refine (f.out _).mono ?_);rintro e M ⟨rfl,O⟩))
    all_goals have s:=BHeld.bel (BHeld.of (by with_reducible assumption))
    all_goals have k:=g.out
    all_goals go_wp2_with fail
    all_goals go_ret2
    all_goals exact ⟨hi,c==0,rfl,k,s⟩
   ·obtain rfl:hi=n:=by omega
    go_wp2_with fail
    go_quiet (fail)
    have s:=dS q.out.bel nq
    have k:=g.out
    go_wp2_with fail
    go_ret2
    exact ⟨hi,false,rfl,k,s⟩
end Go.Proofs.YtlikcjbjibhjgaaGreatDoor
namespace Hb
open Go Go.RowKit
def jp (o a:OpR):Bool:=gz a o==0
def kI (o:OpR) (l:List OpR):List OpR:=l.filter fun a=>!jp o a
theorem pi:∀(l:List OpR) (i:Nat),(aZ l).take (i * 3)=aZ (l.take i)
 | [],i=>by simp [aZ]
 | p::l,0=>by simp [aZ]
 | p::l,i+1=>by
  have e:aZ (p::l)=aa p.name::ab ae p.typ::ab ae p.prec::aZ l:=rfl
  rw [e,show (i+1) * 3=i * 3+3 by omega,fU,fU,fU,pi l i]
  rfl
theorem qu:∀(l:List OpR) (i:Nat) (o:OpR),((((aZ l).set (i * 3) (aa o.name)).set (i * 3+1) (ab ae o.typ)).set (i * 3+2) (ab ae o.prec))=aZ (l.set i o)
 | [],i,o=>by simp [aZ]
 | p::l,0,o=>rfl
 | p::l,i+1,o=>by
  have e:aZ (p::l)=aa p.name::ab ae p.typ::ab ae p.prec::aZ l:=rfl
  have a:aZ ((p::l).set (i+1) o)=aa p.name::ab ae p.typ::ab ae p.prec::aZ (l.set i o):=rfl
  rw [e,a,<-qu l i o,show (i+1) * 3=i * 3+3 by omega]
  rfl
theorem JJ {w:ai} {a e n g b:Nat} {l:List OpR} (h:w.ownsRow a e 3 (.slice (some ⟨g,0,none⟩) n b) n (aZ l)) (i:Nat) (o:OpR) :
  (((w.setCell ⟨g,i * 3,none⟩ (aa o.name)).setCell ⟨g,i * 3+1,none⟩ (ab ae o.typ)).setCell ⟨g,i * 3+2,none⟩ (ab ae o.prec)).ownsRow a e 3 (.slice (some ⟨g,0,none⟩) n b) n (aZ (l.set i o)):=by
 have c:=(((h.stored (i * 3) (aa o.name)).1.stored (i * 3+1) (ab ae o.typ)).1.stored (i * 3+2) (ab ae o.prec)).1
 rw [qu] at c
 exact c
theorem IJ (q:OpR->Bool) (l:List OpR) (j:Nat) (a:j<l.length) (h:q l[j]=true):(l.take (j+1)).filter q=(l.take j).filter q++[l[j]]:=by
 rw [aO a,fu];simp [h]
theorem Dr (q:OpR->Bool) (l:List OpR) (j:Nat) (a:j<l.length) (h:q l[j]=false):(l.take (j+1)).filter q=(l.take j).filter q:=by
 rw [aO a,fu];simp [h]
theorem kD {w:ai} {a e n:Nat} {v:az} {l:List OpR} (h:w.ownsRow a e 3 v n (aZ l)):l.length=n:=by
 have:=h.1;rw [eS] at this;omega
theorem lH {w w':ai} {a e n:Nat} {v:az} {xs:List az} (h:w.ownsRow a e 3 v n xs) (f:ax w.heap.size w w'):w'.ownsRow a e 3 v n xs:=by
 refine ⟨h.1,?_⟩
 rcases h.2 with k | ⟨g,c,d,l,i,b,rest⟩
 ·exact .inl k
 ·refine .inr ⟨g,c,d,l,i,?_,rest⟩
  have j:g<w.heap.size:=(Array.getElem?_eq_some_iff.1 b).1
  rw [<-b];exact f.block g j
structure Done (q:OpR->Bool) (l L:List OpR) (i j:Nat):Prop where
 len:L.length=l.length
 le:i<j
 jl:j<=l.length
 pre:L.take i=(l.take j).filter q
 post:L.drop j=l.drop j
theorem Done.start {q:OpR->Bool} {l:List OpR} {k:Nat} (c:k<l.length) (h:q l[k]=false) (e:∀j (b:j<k),q (l[j]'(by omega))=true):Done q l l k (k+1) where
 len:=rfl
 le:=by omega
 jl:=c
 pre:=by
  rw [Dr q l k c h]
  refine (List.filter_eq_self.2 fun a d=>?_).symm
  obtain ⟨j,b,rfl⟩:=cI d
  rw [bM] at b
  rw [List.getElem_take]
  exact e j (by omega)
 post:=rfl
theorem Done.no {q:OpR->Bool} {l L:List OpR} {i j:Nat} (h:Done q l L i j) (a:j<l.length) (b:q l[j]=false):Done q l L i (j+1) where
 len:=h.len
 le:=by have:=h.le;omega
 jl:=a
 pre:=by rw [Dr q l j a b];exact h.pre
 post:=by rw [<-ci,h.post,ci]
theorem Done.yes {q:OpR->Bool} {l L:List OpR} {i j:Nat} (h:Done q l L i j) (a:j<l.length) (c:q l[j]=true):Done q l (L.set i l[j]) (i+1) (j+1) where
 len:=by rw [List.length_set];exact h.len
 le:=by have:=h.le;omega
 jl:=a
 pre:=by
  have b:i<L.length:=by have:=h.le;have:=h.len;omega
  rw [IJ q l j a c,<-h.pre,aO (by rw [List.length_set];exact b),List.take_set_of_le (ag i),List.getElem_set_self]
 post:=by rw [List.drop_set_of_lt (by have:=h.le;omega),<-ci,h.post,ci]
theorem Done.at {q:OpR->Bool} {l L:List OpR} {i j:Nat} (h:Done q l L i j) (a:j<l.length) (b:j<L.length):L[j]=l[j]:=by
 have:(L.drop j)[0]? = (l.drop j)[0]?:=by rw [h.post]
 rw [List.getElem?_drop,List.getElem?_drop,bv,ba a,ba b] at this
 exact Option.some.inj this
theorem Done.last {q:OpR->Bool} {l L:List OpR} {i:Nat} (h:Done q l L i l.length):L.take i=l.filter q:=by rw [h.pre,cL]
end Hb
namespace Go.Proofs.YtlikcjbjibhjgaaGreatDoor
open Go.RowKit Hb
theorem Lu (a o:OpR) (b:Nat) (w:ai) (i:w.cell? ⟨b,0,none⟩=some (aa o.name)) (j:w.cell? ⟨b,1,none⟩=some (ab ae o.typ)) (k:w.cell? ⟨b,2,none⟩=some (ab ae o.prec)) (_l1:b<w.heap.size) :
  aJ ah 23 #[kZ a,au (some ⟨b,0,none⟩)] w fun e w'=>e=aw (am (jp o a))/\ax w.heap.size w w':=by
 have d:=zq (fun W=>pJ a o W)
 unfold kZ at *
 have f:=zq (show jp o a=(gz a o==0) from rfl)
 have g:=(aj w.heap.size w).alloc (ag _) (.cells #[aa a.name,ab ae a.typ,ab ae a.prec] 39)
 have l:=(dw w (.cells #[aa a.name,ab ae a.typ,ab ae a.prec] 39) none).cell i (by simp)
 have m:=(dw w (.cells #[aa a.name,ab ae a.typ,ab ae a.prec] 39) none).cell j (by simp)
 have n:=(dw w (.cells #[aa a.name,ab ae a.typ,ab ae a.prec] 39) none).cell k (by simp)
 generalize gz a o=c at *
 go_enter Tryz.func23,Tryz.ntmps23
 go_wp2_with fail
 refine (d.out _).mono ?_;rintro e p ⟨rfl,h⟩
 go_wp2_with fail
 go_ret
 exact ⟨bN f.out.symm,g.trans (h.mono (by simp))⟩
theorem Bz (A:Option Addr) (n F:Nat) (l:List OpR) (c:Nat) (o:OpR) (w:ai) (y:n=l.length) (R:n<=400) (z:OpsAt w A l) (G:w.cell? ⟨c,0,none⟩=some (aa o.name)) (H:w.cell? ⟨c,1,none⟩=some (ab ae o.typ)) (I:w.cell? ⟨c,2,none⟩=some (ab ae o.prec)) (m:c<w.heap.size) :
  aJ ah 44 #[.slice A n F,.func (.func 23) #[] #[au (some ⟨c,0,none⟩)]] w fun e w'=>e=aw (ab ae (uW (jp o) l))/\ax w.heap.size w w':=by
 have u:=zq y
 have D:=zq z
 clear y z
 go_enter Tryz.func44,Tryz.ntmps44
 go_wp2_with fail
 go_loopw [8] (fun i wr=>∃k:Nat,k<=n/\i=ab ae k/\ax w.heap.size w wr/\Hid (∀j (d:j<l.length),j<k->jp o l[j]=false)) (fun i _=>n-(intOf i).toNat)
 case atStart=>exact ⟨0,bp _,rfl,aj _ _,fun j _ d=>absurd d (by omega)⟩
 case round=>
  obtain ⟨k,P,rfl,f,q⟩:=hrel
  by_cases Q:k<n
  ·have t:=f.size
   have x:k<l.length:=by have:=u.out;omega
   obtain ⟨b,S,rfl,N,K,L,M⟩:=(D.out.below f) k x
   have B:=zq (fun h=>ox (jp o) l k x h (fun j d=>q.out j (by omega) d))
   have g:=zq (Lu l[k] o c wr ((f.cell (p:=⟨c,0,none⟩) m).trans G) ((f.cell (p:=⟨c,1,none⟩) m).trans H) ((f.cell (p:=⟨c,2,none⟩) m).trans I) (aC m t))
   have E:=zq (fun (h:jp o l[k]=false)=>(show ∀j (d:j<l.length),j<k+1->jp o l[j]=false from fun j d O=>by
    rcases cS j k with v | v
    ·exact q.out j d v
    ·have:j=k:=by omega
     subst this;exact h))
   generalize l[k]=a at *
   unfold kZ at g
   cases hi:jp o a
   ·rw [hi] at g
    have r:=zq hi
    clear hi
    go_wp2_with fail
    refine g.out.mono ?_;rintro e J ⟨rfl,s⟩
    go_wp2_with fail
    go_roundw
    case rel=>exact ⟨k+1,by omega,by go_num,f.trans (s.mono t),E.out r.out⟩
    case measure=>simp [intOf] <;> omega
   ·rw [hi] at g
    have r:=zq hi
    clear hi
    go_wp2_with fail
    refine g.out.mono ?_;rintro e J ⟨rfl,s⟩
    go_wp2_with fail
    go_ret
    exact ⟨dn (B.out r.out).symm,f.trans (s.mono t)⟩
  ·obtain rfl:k=n:=by omega
   have C:=zq (mN (jp o) l (fun j d=>q.out j d (by have:=u.out;omega)))
   go_wp2_with fail
   go_ret
   exact ⟨dn C.out.symm,f⟩
theorem sU (k:Nat):(eM (Value.agg #[aa ⟨#[]⟩,ab ae 0,ab ae 0]).cells k).toList.length=k * 3:=by
 rw [eK,size_zeroCells];rfl
theorem DJ (k:Nat):(eM (Value.agg #[aa ⟨#[]⟩,ab ae 0,ab ae 0]).cells k).size=k * 3:=by
 rw [size_zeroCells];rfl
theorem FC (k:Nat):∀u∈(eM (Value.agg #[aa ⟨#[]⟩,ab ae 0,ab ae 0]).cells k).toList,u.oneCell'=true:=by
 intro u a
 obtain ⟨j,b,rfl⟩:=cI a
 simp [eM,Value.cells]
 have:j % 3=0\/j % 3=1\/j % 3=2:=by omega
 rcases this with h | h | h <;> simp [h,eO]
theorem Jc {b:Array Oper} {rest:List Oper} {a:Act} {Q:Exit->Act->ai->Prop} {w:ai} {d t p f x g} (h:cH ah b Q (⟨d,.call { callee:=.builtin .clear,args:=x,argTypes:=#[22] },t,p,f,g⟩::rest) a w):cH ah b Q (⟨d,.call { callee:=.builtin .clear,args:=x,argTypes:=#[22] },t,p,f,g⟩::rest) a w:=h
theorem su {w:ai} {s:Array Oper} {rest:List Oper} {o:Oper} {a:Act} {Q:Exit->Act->ai->Prop} (A:o.guard=none) (x:ga)
  (D:o.op=.call { callee:=.builtin .clear,args:=#[x],argTypes:=#[22] })
  (d g n e i z c:Nat) (L:List OpR) (q:w.ownsRow d 39 3 (.slice (some ⟨g,0,none⟩) n e) n (aZ L)) (J:i<n) (G:z=0) (r:a.eval x=.slice (some ⟨g,z+i * 3,none⟩) (n-i) c)
  (h:∀w',w'.ownsRow d 39 3 (.slice (some ⟨g,0,none⟩) i e) i (aZ (L.take i))->(∀B w0,ax B w0 w->B<=d->ax B w0 w')->cH ah s Q rest (a.put o.dst (aK #[])) w'):cH ah s Q (o::rest) a w:=by
 subst G
 rw [ap] at r
 refine iL A fun K u=>?_
 have M:=kD q
 rcases q.2 with ⟨k,_⟩ | ⟨I,H,f,k,l,p,N,y,b,F⟩
 ·cases k
 ·injection k with h1 h2 h3
  injection h1 with h1
  injection h1 with h1 _ _
  subst h1;subst h3
  have j:=run_storeCells_at ah g (i * 3) 39 (eM (Value.agg #[aa ⟨#[]⟩,ab ae 0,ab ae 0]).cells (n-i)).toList 0 f w p (by rw [sU,b];omega) (FC _)
  rw [bv] at j
  obtain ⟨m,C⟩:∃m,n-i=m+1:=⟨n-i-1,by omega⟩
  have E:(Builtin.clear_ #[22] o.type #[.slice (some ⟨g,i * 3,none⟩) (n-i) c]).run ah w=.ok (aK #[]) (w.setRow g (f.toList.take (i * 3)++(eM (Value.agg #[aa ⟨#[]⟩,ab ae 0,ab ae 0]).cells (n-i)).toList++f.toList.drop (i * 3+(eM (Value.agg #[aa ⟨#[]⟩,ab ae 0,ab ae 0]).cells (n-i)).toList.length)).toArray):=by
   rw [C] at j |-
   simp [Builtin.clear_,run_underlying cD,j]
  unfold Oper.wp
  simp only [aP,D,resolve,invoke,builtin,Sem.run_bind,Sem.run_pure,Result.andThen_ok,List.map_toArray,List.map_cons,List.map_nil,r,E]
  refine u _ _ (h _ ⟨by rw [eS,bM];omega,.inr ⟨g,e,_,rfl,l,setRow_heap w g _ _ _ _ p,by omega,y,?_,?_⟩⟩ fun B w0 t v=>below_setRow t (aI v l) _)
  ·simp only [List.size_toArray,aB,bM,List.length_drop,eK,DJ,b]
   omega
  ·rw [<-pi,<-F,List.take_take,fF (by simp only [aB,bM,eK,b];omega),fF (by simp only [bM,eK,b];omega),List.take_take]
   congr 1;omega
theorem BB (A:Option Addr) (n cap:Nat) (l:List OpR) (o:OpR) (b c:Nat) (w:ai) (hm:n<=400) (s:w.ownsRow c 39 3 (.slice A n cap) n (aZ l)) (Z:b<c) (V:c<=w.heap.size) (n0:w.cell? ⟨b,0,none⟩=some (aa o.name)) (n1:w.cell? ⟨b,1,none⟩=some (ab ae o.typ)) (n2:w.cell? ⟨b,2,none⟩=some (ab ae o.prec)) :
  aJ ah 21 #[.slice A n cap,.func (.func 23) #[] #[au (some ⟨b,0,none⟩)]] w fun e w'=>∃n',e=aw (.slice A n' cap)/\ax c w w'/\w'.ownsRow c 39 3 (.slice A n' cap) n' (aZ (kI o l)):=by
 have N:=kD s
 have F:=zq (Bz A n cap l b o w N.symm hm (xI s) n0 n1 n2 (by omega))
 by_cases Y:∃k,∃hk:k<l.length,jp o l[k]=true/\∀j (x:j<k),jp o (l[j]'(by omega))=false
 ·obtain ⟨k,a1,H,I⟩:=Y
  have HD:=zq (Done.start (q:=fun a=>!jp o a) a1 (by simp [H]) (fun j x=>by simp [I j x]))
  rw [ox _ l k a1 H I] at F
  obtain ⟨g,b2,b3⟩:=tH s (by omega)
  injection b3 with hA _ hc
  subst hA;subst hc
  have b6:n<=cap/\cap<=be:=by
   rcases s.2 with ⟨hv,_⟩ | ⟨g',b2,c5,hv,_,_,y,B,_⟩
   ·cases hv
   ·injection hv with _ _ h3;subst h3;exact ⟨y,B⟩
  have a0:c<=g:=(s.lt g rfl).1
  obtain ⟨c6,b7⟩:=b6
  unfold be at b7
  have S:=zq s
  have R:=zq N
  have d3:k<n:=by omega
  clear s H I N a1
  obtain ⟨z,G⟩:∃z,Hid (z=0):=⟨0,zq rfl⟩
  have T:=zq (show (⟨g,0,none⟩:Addr)=⟨g,z,none⟩ by rw [G.out])
  rw [T.out] at F |-
  have HQ:=zq (show kI o l=l.filter (fun a=>!jp o a) from rfl)
  go_enter Tryz.func21,Tryz.ntmps21
  go_wp2_with fail
  refine F.out.mono ?_;rintro e u ⟨rfl,f⟩
  have d2:((k:Int) == -1)=false:=by rw [beq_eq_false_iff_ne];omega
  go_wp2_with fail
  have b5:=lH S.out f
  have b4:=f.mono V
  have d5:=f.size
  have Q:=zq (⟨(f.cell (p:=⟨b,0,none⟩) (by show b<_;omega)).trans n0,(f.cell (p:=⟨b,1,none⟩) (by show b<_;omega)).trans n1,(f.cell (p:=⟨b,2,none⟩) (by show b<_;omega)).trans n2⟩:u.cell? ⟨b,0,none⟩=some (aa o.name)/\u.cell? ⟨b,1,none⟩=some (ab ae o.typ)/\u.cell? ⟨b,2,none⟩=some (ab ae o.prec))
  clear n0 n1 n2
  go_loopw [5,6] (fun vi vj wr=>∃i j:Nat,vi=ab ae i/\vj=ab ae j/\ax c w wr/\u.heap.size<=wr.heap.size/\ax c u wr/\Hid (∃L,Done (fun a=>!jp o a) l L i j/\wr.ownsRow c 39 3 (.slice (some ⟨g,0,none⟩) n cap) n (aZ L))) (fun _ vj _=>n-(intOf vj).toNat)
  case atStart=>exact ⟨k,k+1,rfl,by go_num,b4,ag _,aj _ _,l,HD.out,b5⟩
  case round=>
   obtain ⟨i,j,rfl,rfl,J,O,K,v⟩:=hrel
   have b9:i<j/\j<=n:=by
    obtain ⟨L,hd,_⟩:=v.out
    have H:=hd.le;have I:=hd.jl;have h3:=R.out
    exact ⟨H,by omega⟩
   obtain ⟨c3,d0⟩:=b9
   by_cases d4:j<n
   ·have M:j<l.length:=by have:=R.out;omega
    have a9:Hid (wr.cell? ⟨g,z+j * 3,none⟩=some (aa l[j].name)/\wr.cell? ⟨g,z+j * 3+1,none⟩=some (ab ae l[j].typ)/\wr.cell? ⟨g,z+j * 3+2,none⟩=some (ab ae l[j].prec)):=by
     obtain ⟨L,hd,d⟩:=v.out
     have y:j<L.length:=by rw [hd.len];exact M
     have B:=(xF d) j y
     rw [hd.at M y] at B
     rw [G.out]
     exact zq B
    have E:=zq (fun (W:ai) (U:ax c u W) (hs:u.heap.size<=W.heap.size)=>Lu l[j] o b W ((U.cell (p:=⟨b,0,none⟩) Z).trans Q.out.1) ((U.cell (p:=⟨b,1,none⟩) Z).trans Q.out.2.1) ((U.cell (p:=⟨b,2,none⟩) Z).trans Q.out.2.2) (by omega))
    have HY:=zq (fun (h:jp o l[j]=false)=>(show ∀L,Done (fun a=>!jp o a) l L i j->Done (fun a=>!jp o a) l (L.set i l[j]) (i+1) (j+1) from fun L hd=>hd.yes M (by simp [h])))
    have HX:=zq (fun (h:jp o l[j]=true)=>(show ∀L,Done (fun a=>!jp o a) l L i j->Done (fun a=>!jp o a) l L i (j+1) from fun L hd=>hd.no M (by simp [h])))
    generalize l[j]=a at *
    unfold kZ at E
    obtain ⟨c0,c1,c2⟩:=a9.out
    have b8:g<wr.heap.size:=by obtain ⟨L,hd,d⟩:=v.out;exact (d.lt g rfl).2
    have D:c<=wr.heap.size:=by omega
    have C:=(aj wr.heap.size wr).alloc (ag _) (.cells #[aa a.name,ab ae a.typ,ab ae a.prec] 39)
    cases t:jp o a
    ·rw [t] at E
     have P:=zq t
     clear t
     go_wp2_with fail
     refine (E.out _ (K.trans (C.mono D)) (aI O C.size)).mono ?_;rintro e w2 ⟨rfl,m⟩
     have x0:w2.cell? ⟨wr.heap.size,0,none⟩=some (aa a.name):=(m.cell (p:=⟨_,_,none⟩) (by simp)).trans (aq _ _ _ 0)
     have x1:w2.cell? ⟨wr.heap.size,1,none⟩=some (ab ae a.typ):=(m.cell (p:=⟨_,_,none⟩) (by simp)).trans (aq _ _ _ 1)
     have x2:w2.cell? ⟨wr.heap.size,2,none⟩=some (ab ae a.prec):=(m.cell (p:=⟨_,_,none⟩) (by simp)).trans (aq _ _ _ 2)
     have r:ax wr.heap.size wr w2:=C.trans (m.mono (by simp))
     have a4:Hid (∃L,Done (fun a=>!jp o a) l L i j/\w2.ownsRow c 39 3 (.slice (some ⟨g,0,none⟩) n cap) n (aZ L)):=by
      obtain ⟨L,hd,d⟩:=v.out
      exact zq ⟨L,hd,lH d r⟩
     have d1:i<n:=by omega
     have b1:∃v0 v1 v2,w2.cell? ⟨g,z+i * 3,none⟩=some v0/\w2.cell? ⟨g,z+i * 3+1,none⟩=some v1/\w2.cell? ⟨g,z+i * 3+2,none⟩=some v2/\∀q,w2.frozen? ⟨g,q,none⟩=false:=by
      obtain ⟨L,hd,d⟩:=a4.out
      have y:i<L.length:=by have:=kD d;omega
      obtain ⟨B,h7,h8⟩:=(xF d) i y
      rw [G.out]
      exact ⟨_,_,_,B,h7,h8,d.frozenAt⟩
     obtain ⟨v0,v1,v2,y0,y1,y2,c8⟩:=b1
     go_wp2_with fail
     go_roundw
     case rel=>
      have X:ax c w2 (((w2.setCell ⟨g,z+i * 3,none⟩ (aa a.name)).setCell ⟨g,z+i * 3+1,none⟩ (ab ae a.typ)).setCell ⟨g,z+i * 3+2,none⟩ (ab ae a.prec)):=(((aj c w2).setCell (p:=⟨_,_,none⟩) a0 _).setCell (p:=⟨_,_,none⟩) a0 _).setCell (p:=⟨_,_,none⟩) a0 _
      refine ⟨i+1,j+1,by go_num,by go_num,(J.trans (r.mono D)).trans X,aI (aI O r.size) X.size,(K.trans (r.mono D)).trans X,?_⟩
      obtain ⟨L,hd,d⟩:=a4.out
      refine zq ⟨L.set i a,HY.out P.out L hd,?_⟩
      rw [G.out,ap]
      exact JJ d i a
     case measure=>simp [intOf] <;> omega
    ·rw [t] at E
     have P:=zq t
     clear t
     go_wp2_with fail
     refine (E.out _ (K.trans (C.mono D)) (aI O C.size)).mono ?_;rintro e w2 ⟨rfl,m⟩
     have r:ax wr.heap.size wr w2:=C.trans (m.mono (by simp))
     go_wp2_with fail
     go_roundw
     case rel=>
      refine ⟨i,j+1,rfl,by go_num,J.trans (r.mono D),aI O r.size,K.trans (r.mono D),?_⟩
      obtain ⟨L,hd,d⟩:=v.out
      exact zq ⟨L,HX.out P.out L hd,lH d r⟩
     case measure=>simp [intOf] <;> omega
   ·have c4:j=n:=by omega
    subst c4
    have b8:g<wr.heap.size:=by obtain ⟨L,hd,d⟩:=v.out;exact (d.lt g rfl).2
    obtain ⟨L,a5⟩:∃L,Hid (Done (fun a=>!jp o a) l L i j/\wr.ownsRow c 39 3 (.slice (some ⟨g,0,none⟩) j cap) j (aZ L)):=v.out.imp fun _ h=>zq h
    have c7:¬(cap=i):=by omega
    have c9:i<=cap:=by omega
    have b0:Hid (L.take i=kI o l):=by
     have a8:=a5.out.1
     rw [<-R.out] at a8
     exact zq a8.last
    go_wp2_with ((with_reducible refine Jc ?_);refine su rfl _ rfl c g _ cap i z _ L a5.out.2 c3 G.out rfl ?_;intro w2 a3 m)
    rw [b0.out] at a3
    have a7:=zq a3
    clear a3
    go_ret
    first | exact ⟨i,rfl,m _ _ J (ag _),by rw [<-T.out];exact a7.out⟩ | exact ⟨m _ _ J (ag _),by rw [<-T.out];exact a7.out⟩
 ·have a2:∀j (x:j<l.length),jp o l[j]=false:=by
   intro j
   induction j using Nat.strongRecOn with
   | ind j ih=>
    intro x
    cases hc:jp o l[j] with
    | false=>rfl
    | true=>exact absurd ⟨j,x,hc,fun i t=>ih i t (by omega)⟩ Y
  rw [mN _ l a2] at F
  have HR:=zq (show kI o l=l from List.filter_eq_self.2 fun a ha=>by
   obtain ⟨j,x,rfl⟩:=cI ha
   simp [a2 j x])
  have S:=zq s
  clear a2 Y s N
  go_enter Tryz.func21,Tryz.ntmps21
  go_wp2_with fail
  refine F.out.mono ?_;rintro e u ⟨rfl,f⟩
  have a6:=zq (lH S.out f)
  go_wp2_with fail
  go_ret
  first | exact ⟨n,rfl,f.mono V,by rw [HR.out];exact a6.out⟩ | exact ⟨f.mono V,by rw [HR.out];exact a6.out⟩
end Go.Proofs.YtlikcjbjibhjgaaGreatDoor
namespace Hb
open Go Go.RowKit Go.Sort Go.Proofs
theorem me (a b:OpR):gz a b<0↔gT a b=true:=by rw [mQ];simp
theorem oY {a b c:OpR} (d:gT a b=true) (e:gT b c=true):gT a c=true:=by
 have:=swo_op.trans a b c
 rw [kO,kO,kO] at this
 exact this d e
theorem Cs (a:OpR):gT a a=false:=by
 have:=swo_op.irrefl a
 rw [kO] at this
 exact this
theorem Fx {a b:OpR} (h:gT a b=true):gT b a=false:=by
 rw [<-dN]
 intro c
 have:=oY h c
 rw [Cs] at this
 cases this
theorem Ac (o a:OpR):jp o a=true↔a.name.toList=o.name.toList/\bX a.typ=bX o.typ:=by
 unfold jp gz Me Cp
 by_cases h:a.name.toList=o.name.toList
 ·rw [h,mP]
  simp [Fo]
 ·have b:(a.name.toList==o.name.toList)=false:=by simpa using h
  rw [b]
  cases h3:Op.bytesLess a.name.toList o.name.toList <;> simp [h]
theorem DE {a o:OpR} (c:gT a o=false) (d:jp o a=false):gT o a=true:=by
 rw [<-dN,kz] at c
 rw [<-dN,Ac] at d
 rw [kz]
 have e:o.name.toList<=a.name.toList:=fun h=>c (.inl h)
 by_cases b:a.name.toList=o.name.toList
 ·have g:¬bX a.typ<bX o.typ:=fun h=>c (.inr ⟨b,h⟩)
  have i:¬bX a.typ=bX o.typ:=fun h=>d ⟨b,h⟩
  exact .inr ⟨b.symm,by omega⟩
 ·rcases Classical.em (o.name.toList<a.name.toList) with h | h
  ·exact .inl h
  ·exact absurd (List.le_antisymm (fun f=>h f) e) b
def Sorted (l:List OpR):Prop:=l.Pairwise fun a b=>gT a b=true
theorem pz {l:List OpR} (h:bB l=true) (j:Nat) (b:j+1<l.length):sA l[j] l[j+1]=true:=by
 have a:=(ma l h).2 (j+1) b
 unfold Dg at a
 rw [lh l (j+1) b,Nat.add_sub_cancel,lh l j (by omega)] at a
 simp at a
 exact a.2
theorem FS {l:List OpR} (h:bB l=true) (j:Nat) (b:j<l.length):nK l[j]=true:=by
 have a:=(ma l h).2 j b
 unfold Dg at a
 rw [lh l j b] at a
 simp at a
 exact a.1
theorem zB {a b:OpR} (h:sA a b=true):gT a b=true:=by
 unfold sA at h
 rw [mQ]
 simp at h |-
 exact h.1
theorem kW {l:List OpR} (h:bB l=true):Sorted l:=by
 unfold Sorted
 rw [fp]
 have b:∀d i (a:i+d+1<l.length),gT l[i] l[i+d+1]=true:=by
  intro d
  induction d with
  | zero=>intro i a;exact zB (pz h i a)
  | succ d ih=>intro i a;exact oY (ih i (by omega)) (zB (pz h (i+d+1) (by omega)))
 intro i j a e c
 have:=b (j-i-1) i (by omega)
 simp only [show i+(j-i-1)+1=j by omega] at this
 exact this
theorem Sorted.rest {l:List OpR} (h:Sorted l) (o:OpR):Sorted (kI o l):=List.Pairwise.filter _ h
theorem Sorted.mono {l:List OpR} (h:Sorted l) (o:OpR):Lh o l:=by
 intro i j b e a
 rcases cS i j with c | d
 ·rw [me] at *
  exact oY ((fp.1 h) i j (by omega) b c) a
 ·have:i=j:=by omega
  subst this;exact a
theorem CZ (o:OpR) (l:List OpR):∀a∈kI o l,jp o a=false:=by
 intro a b
 have:=(List.mem_filter.1 b).2
 simpa using this
theorem uf (o:OpR):∀(t:List OpR) (i:Nat),(∀a∈t,jp o a=false)->Parts o t i i->t.take i++o::t.drop i=qE o t
 | [],i,_,h=>by
  have:=h.hl
  simp at this
  subst this
  rfl
 | a::t,0,hne,h=>by
  have c:=h.post 0 (by simp) (ag _)
  have d:gT o a=true:=DE (by rw [<-dN,<-me];exact c) (hne a (by simp))
  unfold qE
  rw [if_pos ((me o a).2 d)]
  rfl
 | a::t,i+1,hne,h=>by
  have c:=h.pre 0 (by simp) (by omega)
  have d:gT o a=false:=Fx ((me a o).1 c)
  unfold qE
  rw [if_neg (by rw [me,d];simp),<-uf o t i (fun b f=>hne b (by simp [f])) ⟨ag _,by have:=h.hl;simpa using this,fun j e g=>by have:=h.pre (j+1) (by simpa using e) (by omega);simpa using this,fun j e g=>by have:=h.post (j+1) (by simpa using e) (by omega);simpa using this⟩]
  rfl
def kT (l:List OpR) (o:OpR):Bool :=
 if (Iu o [44]||Iu o [91,93]||Iu o [123,125])=true then true
 else if (Iu o [124]&&(!bX o.typ==2||(decide (0<o.prec)&&decide (o.prec<=1000))))=true then true
 else if (o.prec==0||bX o.typ==1)=true then false
 else (dt l o.name (5-bX o.typ)).isSome
def oi (l:List OpR) (o:OpR):List OpR:=if 0<o.prec then qE o (kI o l) else kI o l
def nJ (l:List OpR) (o:OpR):List OpR×Int :=
 if (!bB l||decide (o.prec<0)||decide (1200<o.prec)||bX o.typ==0||decide (100<o.name.size))=true then ([],1)
 else if kT l o=true then ([],5)
 else if 100<(oi l o).length then ([],13) else (oi l o,0)
end Hb
