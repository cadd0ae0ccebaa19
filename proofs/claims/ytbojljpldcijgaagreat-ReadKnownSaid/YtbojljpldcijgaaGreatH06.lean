/- Parts of the proof. -/
import Derived.Test.YtbojljpldcijgaaGreatH05
import Derived.Test.YtbojljpldcijgaaGreatH02
import Derived.Test.YtbojljpldcijgaaGreatH01
import Derived.Test.YtbojljpldcijgaaGreatProg
import Derived.RegionTactic
import Derived.Deep.RegionWith
import Derived.Laws.EntriesVeiled
import Derived.Deep.CutBlock
import Derived.Lib.ItoaNum
import Derived.Lib.Builder
import Derived.Lib.AppendStr
import Derived.Lib.UnsafeStr
import Derived.Laws.Externs
import Derived.Laws.AppendOwnNone
import Derived.SliceStrings
import Derived.Deep.Slices
import Derived.ProofKit
import Derived.Laws.OwnMore
import Derived.Maps.AppendAt
import Derived.Deep.AppendLies
import Derived.Deep.RegionLaw
import Derived.Deep.DeepMust
namespace Hb
open Go Go.RowKit
theorem own_slice {w:World} {base e size:Nat} {v:Value} {n:Nat} {xs:List Value} (h:w.ownsRow base e size v n xs):∃A cap,v=.slice A n cap:=by
 rcases h.2 with ⟨rfl,rfl⟩ | ⟨g,cap,cur,rfl,_⟩
 ·exact ⟨_,_,rfl⟩
 ·exact ⟨_,_,rfl⟩
theorem own_mono {w:World} {base base' e size:Nat} {v:Value} {n:Nat} {xs:List Value} (h:w.ownsRow base e size v n xs) (hb:base'≤base):w.ownsRow base' e size v n xs:=by
 refine ⟨h.1,?_⟩
 rcases h.2 with hn | ⟨g,cap,cur,hv,hbg,rest⟩
 ·exact .inl hn
 ·exact .inr ⟨g,cap,cur,hv,by omega,rest⟩
theorem own_nil (w:World) (base e size:Nat):w.ownsRow base e size (.slice none 0 0) 0 []:=⟨by simp,.inl ⟨rfl,rfl⟩⟩
theorem own_only {w w':World} {base e size b:Nat} {v:Value} {n:Nat} {xs:List Value} (h:w.ownsRow base e size v n xs) (hb:b<base) (ho:∀k,k<w.heap.size→k≠b→w'.heap[k]? = w.heap[k]?):w'.ownsRow base e size v n xs:=by
 refine ⟨h.1,?_⟩
 rcases h.2 with hn | ⟨g,cap,cur,hv,hbg,hh,rest⟩
 ·exact .inl hn
 ·exact .inr ⟨g,cap,cur,hv,hbg,(ho g (by rw [Array.getElem?_eq_some_iff] at hh;exact hh.1) (by omega)).trans hh,rest⟩
def nxtCells (r:NextR):List Value:=[.int .i64 r.r.kind,.string ⟨r.r.text.toArray⟩,.int .i64 r.r.n,.int .i64 r.r.at_,.int .i64 r.r.end_,.bool r.lay]
def toksCells (l:List NextR):List Value:=l.flatMap nxtCells
theorem toksCells_snoc (l:List NextR) (r:NextR):toksCells (l++[r])=toksCells l++nxtCells r:=by simp [toksCells]
theorem cell_two (w:World) (cs:Array Value) (e:TypeId) (o:Obj) (j:Nat) (v:Value) (h:cs[j]? = some v):((w.alloc (.cells cs e)).alloc o).cell? ⟨w.heap.size,j,none⟩=some v :=
 (World.grownBy_alloc _ o none).cell ((World.cell?_alloc_new w cs e j).trans h) (by simp)
theorem slice_next (w:World) (o:Obj):Value.slice (some ⟨w.heap.size+1,0,none⟩) 1 1=Value.slice (some ⟨(w.alloc o).heap.size,0,none⟩) 1 1:=by simp
theorem own_ne {w:World} {base e size:Nat} {v:Value} {n:Nat} {xs:List Value} (h:w.ownsRow base e size v n xs) {k:Nat} (hk:w.heap.size≤k):some k≠v.ownBlock:=fun hh=>by
 have:=h.lt k hh.symm
 omega
end Hb
namespace Go.Proofs.YtbojljpldcijgaaGreat
open Go.RowKit Hb
set_option maxRecDepth 100000
theorem infoTok:(Tryz.prog.info? 76).map (fun i=>(i.zero,i.size,i.bytes))=some (some (.agg #[.int .i64 0,.string ⟨#[]⟩,.int .i64 0,.int .i64 0,.int .i64 0,.bool false]),6,56):=by kernel_rfl
def allTop (L:List UInt8) (at_:Int) (conv:List (Int×Int)):AllR:=if okArgs L at_ conv=true then allR (cvt (convT conv) L) L at_.toNat else ⟨[],0,1⟩
def GivesA (r:AllR) (w:World) (e:Ending) (w':World):Prop:=∃v,e=.returned (.tuple #[v,.int .i64 r.where_,.int .i64 r.err])∧Below w.heap.size w w'∧w'.ownsRow w.heap.size 76 6 v r.l.length (toksCells r.l)
set_option maxHeartbeats 1600000 in
theorem token_all (s:ByteArray) (at_:Int) (A:Option Addr) (n cap:Nat) (l:List (Int×Int)) (w:World) (hn:n=l.length) (hm:n≤maxLen) (hs:s.size≤maxLen) (hp:Pairs w A l) :
  Calls Tryz.prog 32 #[.string s,.int .i64 at_,.slice A n cap] w (GivesA (allTop s.data.toList at_ l) w):=by
 by_cases ho:openOk s at_ l
 ·have HK:=zq (show allTop s.data.toList at_ l=allR (cvt (convT l) s.data.toList) s.data.toList at_.toNat by unfold allTop;rw [if_pos ((okArgs_iff s at_ l).2 ho)])
  obtain ⟨k,hk⟩:=Int.eq_ofNat_of_zero_le ho.2.1
  subst hk
  have hk2:k≤s.size:=by have:=ho.2.2.1;omega
  have hsz:=ho.1
  have HO:=zq (lex_open_yes s k A n cap l w hn hm hp ho)
  clear hn hp ho
  rw [Int.toNat_natCast] at HK
  have HRl:Hid (s.data.toList.length=s.size):=size_data s
  have HMl:Hid ((cvt (convT l) s.data.toList).length=s.data.toList.length):=cvt_len _ _
  rw [HK.out]
  clear HK
  go_enter Tryz.func32,Tryz.ntmps32
  go_wp2_with fail
  refine HO.out.mono ?_;rintro e w1 ⟨b,rfl,hb,hB1,L⟩
  have hbl:=L.lt
  go_wp2_with fail
  go_loopw [1,6] (fun i v wr=>∃a f:Nat,∃q:Int,∃acc:List NextR,i=.int .i64 a∧a≤s.size∧s.size-a<f∧acc.length≤a∧Below w.heap.size w wr∧w1.heap.size≤wr.heap.size∧Lex wr b s (convT l) q∧wr.ownsRow w1.heap.size 76 6 v acc.length (toksCells acc)∧Hid (allF f (cvt (convT l) s.data.toList) s.data.toList a acc=allR (cvt (convT l) s.data.toList) s.data.toList k)) (fun i _ _=>s.size-(intOf i).toNat)
  case atStart=>exact ⟨k,s.size+1,_,[],rfl,hk2,by omega,Nat.zero_le _,hB1,Nat.le_refl _,L,own_nil _ _ _ _,by show _=_;unfold allR;rw [HRl.out]⟩
  case round=>
   obtain ⟨a,f,q,acc,rfl,ha,hf,hal,hB,hw1,Lr,hown,HE⟩:=hrel
   obtain ⟨f',rfl⟩:∃f',f=f'+1:=⟨f-1,by omega⟩
   obtain ⟨A',cap',rfl⟩:=own_slice hown
   have hbs:=hB.size
   have hne:=next_end (cvt (convT l) s.data.toList) s.data.toList HMl.out a (by rw [HRl.out];exact ha)
   rw [HRl.out] at hne
   have HF:=zq (allF_succ f' (cvt (convT l) s.data.toList) s.data.toList a acc)
   have HX:=zq (lex_next b s _ a _ wr Lr ha)
   generalize hr:nextR (cvt (convT l) s.data.toList) s.data.toList a=r at *
   clear hr Lr
   by_cases c1:r.r.err=14
   ·have b1:(r.r.err==14)=true:=by simp [c1]
    cases acc with
    | nil=>
     have b2:(r.r.err != 0)=true:=by simp [c1]
     have HV:=zq (HF.out.trans (by rw [if_neg (by simp),if_pos (by omega)]))
     clear hne c1
     go_wp2_with fail
     refine HX.out.mono ?_;rintro e w2 ⟨he,ho2,q2,L2⟩
     unfold GivesN nxtTup at he;subst he
     have hB2:=hB.trans (ho2.toBelow' hb hbs)
     go_wp2_with fail
     refine bodyPost_ret (v:=.tuple #[.slice none 0 0,.int .i64 r.where_,.int .i64 r.r.err]) (by simp [results,Tryz.results32,go_sem]) rfl ⟨_,by rw [←HE.out,HV.out],hB2.alloc hB2.size _,by rw [←HE.out,HV.out];exact own_nil _ _ _ _⟩
    | cons x xs=>
     have HV:=zq (HF.out.trans (by rw [if_pos ⟨c1,by simp⟩]))
     clear hne c1
     go_wp2_with fail
     refine HX.out.mono ?_;rintro e w2 ⟨he,ho2,q2,L2⟩
     unfold GivesN nxtTup at he;subst he
     have hB2:=hB.trans (ho2.toBelow' hb hbs)
     go_wp2_with fail
     refine bodyPost_ret (v:=.tuple #[.slice none 0 0,.int .i64 r.where_,.int .i64 7]) (by simp [results,Tryz.results32,go_sem]) rfl ⟨_,by rw [←HE.out,HV.out],hB2.alloc hB2.size _,by rw [←HE.out,HV.out];exact own_nil _ _ _ _⟩
   have b1:(r.r.err==14)=false:=by simp [c1]
   by_cases c2:r.r.err=0
   ·have b2:(r.r.err != 0)=false:=by simp [c2]
    obtain ⟨p,en,e1,e2,e3,e4,e5,e6,e7⟩:=hne c2
    by_cases c3:r.r.kind=7
    ·have b3:(r.r.kind==7)=true:=by simp [c3]
     have HV:=zq (HF.out.trans (by rw [if_neg (by simp [c1]),if_neg (by simpa using c2),if_pos c3]))
     clear hne c1 c2 c3 e1 e3 e6 e7
     go_wp2_with fail
     refine HX.out.mono ?_;rintro e w2 ⟨he,ho2,q2,L2⟩
     unfold GivesN nxtTup at he;subst he
     have hB2:=hB.trans (ho2.toBelow' hb hbs)
     have HOwn:=zq ((own_only hown hbl ho2.block).alloc (.cells #[.int .i64 r.r.kind,.string ⟨r.r.text.toArray⟩,.int .i64 r.r.n,.int .i64 r.r.at_,.int .i64 r.r.end_,.bool r.lay] 76))
     go_wp2_with (at_builtin;go_must (refine wpList_append_one rfl _ _ 65 76 rfl Tryz.underlying65 _ 6 56 infoTok rfl (by decide) w1.heap.size _ _ _ rfl _ HOwn.out #[.int .i64 r.r.kind,.string ⟨r.r.text.toArray⟩,.int .i64 r.r.n,.int .i64 r.r.at_,.int .i64 r.r.end_,.bool r.lay] rfl (by simp [Value.oneCell']) rfl (slice_next _ _) (by omega) (by omega) (by simp;have:=ho2.size;omega) ?_;intro v1 w3 hown3 hB3 hg3;have t0:=hg3.cell (cell_two w2 _ _ _ 0 _ rfl) (own_ne hown ho2.size);have t4:=hg3.cell (cell_two w2 _ _ _ 4 _ rfl) (own_ne hown ho2.size);clear HOwn))
     refine bodyPost_ret (v:=.tuple #[v1,.int .i64 0,.int .i64 0]) (by simp [results,Tryz.results32,go_sem]) rfl ⟨v1,by rw [←HE.out,HV.out],(hB2.alloc hB2.size _).trans (hB3.mono hB1.size),by rw [←HE.out,HV.out,toksCells_snoc,List.length_append];exact own_mono hown3 hB1.size⟩
    ·have b3:(r.r.kind==7)=false:=by simp [c3]
     have HV:=zq (HF.out.trans (by rw [if_neg (by simp [c1]),if_neg (by simpa using c2),if_neg c3,e3,Int.toNat_natCast]))
     have HE3:=zq e3
     clear hne c1 c2 c3 e1 e3 e6 e7
     go_wp2_with fail
     refine HX.out.mono ?_;rintro e w2 ⟨he,ho2,q2,L2⟩
     unfold GivesN nxtTup at he;subst he
     have hB2:=hB.trans (ho2.toBelow' hb hbs)
     have HOwn:=zq ((own_only hown hbl ho2.block).alloc (.cells #[.int .i64 r.r.kind,.string ⟨r.r.text.toArray⟩,.int .i64 r.r.n,.int .i64 r.r.at_,.int .i64 r.r.end_,.bool r.lay] 76))
     go_wp2_with (at_builtin;go_must (refine wpList_append_one rfl _ _ 65 76 rfl Tryz.underlying65 _ 6 56 infoTok rfl (by decide) w1.heap.size _ _ _ rfl _ HOwn.out #[.int .i64 r.r.kind,.string ⟨r.r.text.toArray⟩,.int .i64 r.r.n,.int .i64 r.r.at_,.int .i64 r.r.end_,.bool r.lay] rfl (by simp [Value.oneCell']) rfl (slice_next _ _) (by omega) (by omega) (by simp;have:=ho2.size;omega) ?_;intro v1 w3 hown3 hB3 hg3;have t0:=hg3.cell (cell_two w2 _ _ _ 0 _ rfl) (own_ne hown ho2.size);have t4:=hg3.cell (cell_two w2 _ _ _ 4 _ rfl) (own_ne hown ho2.size);clear HOwn))
     go_roundw
     case rel=>exact ⟨en,f',q2,acc++[r],congrArg (Value.int IntKind.i64) HE3.out,by omega,by omega,by simp;omega,(hB2.alloc hB2.size _).trans (hB3.mono hB1.size),Nat.le_trans hw1 (Nat.le_trans ho2.size (Nat.le_trans (by simp) hB3.size)),L2.below (((Below.refl w1.heap.size w2).alloc (Nat.le_trans hw1 ho2.size) _).trans hB3) hbl,by rw [toksCells_snoc,List.length_append];exact hown3,HV.out.symm.trans HE.out⟩
     case measure=>rw [HE3.out];simp [intOf];omega
   ·have b2:(r.r.err != 0)=true:=by simp [c2]
    have HV:=zq (HF.out.trans (by rw [if_neg (by simp [c1]),if_pos c2]))
    clear hne c1 c2
    go_wp2_with fail
    refine HX.out.mono ?_;rintro e w2 ⟨he,ho2,q2,L2⟩
    unfold GivesN nxtTup at he;subst he
    have hB2:=hB.trans (ho2.toBelow' hb hbs)
    go_wp2_with fail
    refine bodyPost_ret (v:=.tuple #[.slice none 0 0,.int .i64 r.where_,.int .i64 r.r.err]) (by simp [results,Tryz.results32,go_sem]) rfl ⟨_,by rw [←HE.out,HV.out],hB2.alloc hB2.size _,by rw [←HE.out,HV.out];exact own_nil _ _ _ _⟩
 ·have HK:=zq (show allTop s.data.toList at_ l=⟨[],0,1⟩ by unfold allTop;rw [if_neg (fun h=>ho ((okArgs_iff s at_ l).1 h))])
  have HO:=zq (lex_open_no s at_ A n cap l w hn hm hs hp ho)
  clear hn hp ho
  rw [HK.out]
  go_enter Tryz.func32,Tryz.ntmps32
  go_wp2_with fail
  refine HO.out.mono ?_;rintro e w1 ⟨rfl,hB1⟩
  go_wp2_with fail
  refine bodyPost_ret (v:=.tuple #[.slice none 0 0,.int .i64 0,.int .i64 1]) (by simp [results,Tryz.results32,go_sem]) rfl ⟨_,rfl,hB1,own_nil _ _ _ _⟩
end Go.Proofs.YtbojljpldcijgaaGreat
namespace Hb
open Go Go.RowKit
def sumN (l:List Tm) (k:Nat):Nat:=((l.take k).map Tm.nodes).sum
theorem sumN_zero (l:List Tm):sumN l 0=0:=rfl
theorem sumN_succ (l:List Tm) (k:Nat) (hk:k<l.length):sumN l (k+1)=sumN l k+l[k].nodes:=by
 unfold sumN
 rw [List.take_succ_eq_append_getElem hk,List.map_append,List.sum_append]
 simp
theorem sumN_le (l:List Tm):∀d k,sumN l k≤sumN l (k+d):=by
 intro d
 induction d with
 | zero=>intro k;exact Nat.le_refl _
 | succ d ih=>
  intro k
  refine Nat.le_trans (ih k) ?_
  rcases Nat.lt_or_ge (k+d) l.length with h | h
  ·rw [show k+(d+1)=(k+d)+1 by omega,sumN_succ l (k+d) h];omega
  ·unfold sumN
   rw [List.take_of_length_le h,List.take_of_length_le (by omega)]
   exact Nat.le_refl _
theorem sumN_all (t:Tm):t.nodes=1+sumN t.args t.args.length:=by
 rw [Tm.nodes_eq];unfold sumN;rw [List.take_length]
structure TBoxT (w0 w:World) (t:Tm) (A:Option Addr) (cap:Nat):Prop where
 bel:Below w0.heap.size w0 w
 lt:w0.heap.size<w.heap.size
 c0:w.cell? ⟨w0.heap.size,0,none⟩=some (.int .i64 t.kind)
 c1:w.cell? ⟨w0.heap.size,1,none⟩=some (.int .i64 t.num)
 c2:w.cell? ⟨w0.heap.size,2,none⟩=some (.string t.name)
 c3:w.cell? ⟨w0.heap.size,3,none⟩=some (.slice A t.args.length cap)
theorem TBoxT.call {w0 w w':World} {t:Tm} {A:Option Addr} {cap:Nat} (h:TBoxT w0 w t A cap) (hB:Below w.heap.size w w'):TBoxT w0 w' t A cap where
 bel:=h.bel.trans (hB.mono (Nat.le_of_lt h.lt))
 lt:=Nat.lt_of_lt_of_le h.lt hB.size
 c0:=(hB.cell (p:=⟨_,_,none⟩) h.lt).trans h.c0
 c1:=(hB.cell (p:=⟨_,_,none⟩) h.lt).trans h.c1
 c2:=(hB.cell (p:=⟨_,_,none⟩) h.lt).trans h.c2
 c3:=(hB.cell (p:=⟨_,_,none⟩) h.lt).trans h.c3
theorem TBoxT.start (w:World) (t:Tm) (A:Option Addr) (cap:Nat) (e:TypeId):TBoxT w (w.alloc (.cells #[.int .i64 t.kind,.int .i64 t.num,.string t.name,.slice A t.args.length cap] e)) t A cap where
 bel:=(Below.refl _ _).alloc (Nat.le_refl _) _
 lt:=by simp
 c0:=World.cell?_alloc_new _ _ _ 0
 c1:=World.cell?_alloc_new _ _ _ 1
 c2:=World.cell?_alloc_new _ _ _ 2
 c3:=World.cell?_alloc_new _ _ _ 3
end Hb
namespace Go.Proofs.YtbojljpldcijgaaGreat
open Go.RowKit Hb
set_option maxRecDepth 100000
set_option maxHeartbeats 3200000 in
theorem ref_count:∀(t:Tm) (A:Option Addr) (cap most:Nat) (w:World),TmsAt w.heap.size w A t.args→1≤most→most≤2001 →
  Calls Tryz.prog 72 #[tmV t A cap,.int .i64 most] w fun e w'=>e=.returned (.int .i64 (min t.nodes most:Nat))∧Below w.heap.size w w':=by
 refine Tm.ind fun t ih=>?_
 intro A cap most w hT h1 h2
 have HX:=zq (TBoxT.start w t A cap 30)
 have HT:=zq hT
 have hm:=hT.len
 unfold maxLen at hm
 have HALL:=zq (sumN_all t)
 have HIH:=zq ih
 clear hT ih
 obtain ⟨L,HL⟩:=lz (t.args.length)
 unfold tmV
 rw [←HL.out] at hm ⊢
 go_enter Tryz.func72,Tryz.ntmps72
 go_wp2_with fail
 go_loopw [5,6] (fun c i wr=>∃k n:Nat,k≤L∧c=.int .i64 n∧i=.int .i64 k∧n=min (1+sumN t.args k) most∧Hid (TBoxT w wr t A cap)) (fun _ i _=>L-(intOf i).toNat)
 case atStart=>exact ⟨0,1,Nat.zero_le _,rfl,rfl,by rw [sumN_zero];omega,by rw [HL.out];exact HX⟩
 case round=>
  obtain ⟨k,n,hk,rfl,rfl,hn,HB⟩:=hrel
  have b3:=HB.out.c3
  rw [←HL.out] at b3
  by_cases hlt:k<L
  ·by_cases hnm:n<most
   ·have hkl:k<t.args.length:=by have:=HL.out;omega
    obtain ⟨b,off,A',cap',rfl,hb,c0,c1,c2,c3,hs⟩:=(HT.out.keep HB.out.bel).get k hkl
    have hss:=hs.mono HB.out.bel.size
    have hC:=zq (HIH.out t.args[k] (List.getElem_mem hkl) A' cap' (most-n) wr hss (by omega) (by omega))
    have hsum:=sumN_succ t.args k hkl
    unfold tmV at hC
    have hmn:((most:Int)-(n:Int))=((most-n:Nat):Int):=by omega
    obtain ⟨q,hq⟩:∃q,q=min t.args[k].nodes (most-n):=⟨_,rfl⟩
    rw [←hq] at hC
    have hq2:n+q=min (1+sumN t.args (k+1)) most:=by rw [hsum];omega
    clear hs hss hq hsum hn
    generalize t.args[k].kind=a0 at *
    generalize t.args[k].num=a1 at *
    generalize t.args[k].name=a2 at *
    generalize t.args[k].args.length=a3 at *
    have HQ:=zq hq2
    clear hq2
    go_wp2_with fail
    refine hC.out.mono ?_;rintro e w1 ⟨rfl,hB1⟩
    have HB1:=zq (HB.out.call hB1)
    have hnq:n+q≤2001:=by have:=HQ.out;omega
    clear b3 c0 c1 c2 c3 hB1
    go_wp2_with fail
    go_roundw
    case rel=>exact ⟨k+1,n+q,by omega,by go_num,by go_num,HQ.out,HB1⟩
    case measure=>simp [intOf] <;> omega
   ·have hend:n=min t.nodes most:=by
     have h3:=sumN_le t.args (t.args.length-k) k
     have h4:=HL.out
     rw [show k+(t.args.length-k)=t.args.length by omega] at h3
     rw [HALL.out];omega
    have HE:=zq hend
    have hbel:=HB.out.bel
    have hnm2:¬(n:Int)<(most:Int):=by omega
    clear hend hn
    go_wp2_with fail
    go_ret
    exact ⟨ret_int (by rw [HE.out]),hbel⟩
  ·have hend:n=min t.nodes most:=by
    have h4:=HL.out
    rw [HALL.out,←h4,hn,show k=L by omega]
   have HE:=zq hend
   have hbel:=HB.out.bel
   clear hend hn
   go_wp2_with fail
   go_ret
   exact ⟨ret_int (by rw [HE.out]),hbel⟩
theorem ref_size (t:Tm) (A:Option Addr) (cap:Nat) (w:World) (hT:TmsAt w.heap.size w A t.args):Calls Tryz.prog 45 #[tmV t A cap] w fun e w'=>e=.returned (.int .i64 (min t.nodes 2001:Nat))∧Below w.heap.size w w':=by
 have HX:=zq (TBoxT.start w t A cap 30)
 have HC:=zq (fun (w1:World) (h:TBoxT w w1 t A cap)=>ref_count t A cap 2001 w1 ((hT.keep h.bel).mono h.bel.size) (by decide) (by decide))
 unfold tmV at *
 clear hT
 generalize min t.nodes 2001=m at *
 generalize t.kind=a0 at *
 generalize t.num=a1 at *
 generalize t.name=a2 at *
 generalize t.args.length=a3 at *
 go_enter Tryz.func45,Tryz.ntmps45
 go_wp2_with fail
 refine (HC.out _ HX.out).mono ?_;rintro e w1 ⟨rfl,hB1⟩
 have hbel:=(HX.out.call hB1).bel
 go_wp2_with fail
 go_ret
 exact ⟨rfl,hbel⟩
set_option maxHeartbeats 3200000 in
theorem ref_node (t:Tm) (A:Option Addr) (cap:Nat) (w:World) (_hm:t.args.length≤maxLen):Calls Tryz.prog 73 #[tmV t A cap] w fun e w'=>e=.returned (.bool (nodeOk t))∧Below w.heap.size w w':=by
 unfold tmV
 go_enter Tryz.func73,Tryz.ntmps73
 go_wp2_with fail
 all_goals go_ret
 all_goals refine ⟨ret_bool ?_,(Below.refl _ _).alloc (Nat.le_refl _) _⟩
 all_goals unfold nodeOk
 all_goals grind
set_option maxHeartbeats 3200000 in
theorem ref_nodes:∀(t:Tm) (A:Option Addr) (cap:Nat) (w:World),TmsAt w.heap.size w A t.args →
  Calls Tryz.prog 46 #[tmV t A cap] w fun e w'=>e=.returned (.bool t.allOk)∧Below w.heap.size w w':=by
 refine Tm.ind fun t ih=>?_
 intro A cap w hT
 have HX:=zq (TBoxT.start w t A cap 30)
 have HT:=zq hT
 have hm:=hT.len
 have HND:=zq (fun w1 (h:TBoxT w w1 t A cap)=>(ref_node t A cap w1 hm).mono fun _ _ hh=>(⟨hh.1,h.call hh.2⟩:_∧TBoxT w _ t A cap))
 unfold maxLen at hm
 have HIH:=zq ih
 have HALL:=zq (Tm.allOk_eq t)
 clear hT ih
 obtain ⟨L,HL⟩:=lz (t.args.length)
 unfold tmV at *
 rw [←HL.out] at hm HND ⊢
 cases hno:nodeOk t
 ·rw [hno] at HND HALL
  clear hno
  go_enter Tryz.func46,Tryz.ntmps46
  go_wp2_with fail
  rw [←HL.out] at HX
  refine (HND.out _ HX.out).mono ?_;rintro e w1 ⟨rfl,hX1⟩
  have hbel:=hX1.bel
  go_wp2_with fail
  go_ret
  exact ⟨ret_bool (by rw [HALL.out];rfl),hbel⟩
 ·rw [hno] at HND HALL
  clear hno
  rw [←HL.out] at HX
  go_enter Tryz.func46,Tryz.ntmps46
  go_wp2_with fail
  refine (HND.out _ HX.out).mono ?_;rintro e w1 ⟨rfl,hX1⟩
  have HX1:=zq hX1
  clear hX1
  go_wp2_with fail
  go_loopw [3] (fun i wr=>∃k:Nat,k≤L∧i=.int .i64 k∧Hid (TBoxT w wr t A cap)∧Hid (∀j (hj:j<t.args.length),j<k→t.args[j].allOk=true)) (fun i _=>L-(intOf i).toNat)
  case atStart=>exact ⟨0,Nat.zero_le _,rfl,HX1,zq fun j _ hj=>absurd hj (by omega)⟩
  case round=>
   obtain ⟨k,hk,rfl,HB,HA⟩:=hrel
   have b3:=HB.out.c3
   rw [←HL.out] at b3
   by_cases hlt:k<L
   ·have hkl:k<t.args.length:=by have:=HL.out;omega
    obtain ⟨b,off,A',cap',rfl,hb,c0,c1,c2,c3,hs⟩:=(HT.out.keep HB.out.bel).get k hkl
    have hC:=zq (HIH.out t.args[k] (List.getElem_mem hkl) A' cap' wr (hs.mono HB.out.bel.size))
    have HNO:Hid (t.args[k].allOk=false→t.allOk=false):=zq fun h=>by
     rw [HALL.out,Bool.true_and,List.all_eq_false]
     exact ⟨_,List.getElem_mem hkl,by rw [h];simp⟩
    have HYES:Hid (t.args[k].allOk=true→∀j (hj:j<t.args.length),j<k+1→t.args[j].allOk=true):=zq fun h j hj hjk=>by
     rcases Nat.lt_or_ge j k with h' | h'
     ·exact HA.out j hj h'
     ·have:j=k:=by omega
      subst this;exact h
    clear hs
    generalize t.args[k].kind=a0 at *
    generalize t.args[k].num=a1 at *
    generalize t.args[k].name=a2 at *
    generalize t.args[k].args.length=a3 at *
    generalize t.args[k].allOk=q at *
    cases q
    ·go_wp2_with fail
     refine hC.out.mono ?_;rintro e w2 ⟨rfl,hB2⟩
     have hbel:=(HB.out.call hB2).bel
     go_wp2_with fail
     go_ret
     exact ⟨ret_bool (HNO.out (by first | rfl | trivial)).symm,hbel⟩
    ·go_wp2_with fail
     refine hC.out.mono ?_;rintro e w2 ⟨rfl,hB2⟩
     have HB2:=zq (HB.out.call hB2)
     go_wp2_with fail
     go_roundw
     case rel=>exact ⟨k+1,by omega,by go_num,HB2,zq (HYES.out (by first | rfl | trivial))⟩
     case measure=>simp [intOf] <;> omega
   ·have HE:Hid (t.allOk=true):=zq (by
     rw [HALL.out,Bool.true_and,List.all_eq_true]
     intro a ha
     obtain ⟨j,hj,rfl⟩:=List.getElem_of_mem ha
     exact HA.out j hj (by have:=HL.out;omega))
    have hbel:=HB.out.bel
    go_wp2_with fail
    go_ret
    exact ⟨ret_bool HE.out.symm,hbel⟩
theorem ref_tvalid (t:Tm) (A:Option Addr) (cap:Nat) (w:World) (hT:TmsAt w.heap.size w A t.args):Calls Tryz.prog 20 #[tmV t A cap] w fun e w'=>e=.returned (.bool (validT t))∧Below w.heap.size w w':=by
 have HX:=zq (TBoxT.start w t A cap 30)
 have HC:=zq (fun (w1:World) (h:TBoxT w w1 t A cap)=>(ref_size t A cap w1 ((hT.keep h.bel).mono h.bel.size)).mono fun _ _ hh=>(⟨hh.1,h.call hh.2⟩:_∧TBoxT w _ t A cap))
 have HN:=zq (fun (w1:World) (h:TBoxT w w1 t A cap)=>(ref_nodes t A cap w1 ((hT.keep h.bel).mono h.bel.size)).mono fun _ _ hh=>(⟨hh.1,h.call hh.2⟩:_∧TBoxT w _ t A cap))
 unfold tmV at *
 clear hT
 by_cases hsz:t.nodes≤2000
 ·have HV:Hid (validT t=t.allOk):=zq (by unfold validT;simp [hsz])
  have hmn:min t.nodes 2001=t.nodes:=by omega
  rw [hmn] at HC
  have b1:decide ((t.nodes:Int)≤2000)=true:=by simp;omega
  go_enter Tryz.func20,Tryz.ntmps20
  go_wp2_with fail
  refine (HC.out _ HX.out).mono ?_;rintro e w1 ⟨rfl,hX1⟩
  have c0:=hX1.c0
  have c1:=hX1.c1
  have c2:=hX1.c2
  have c3:=hX1.c3
  go_wp2_with fail
  refine (HN.out _ hX1).mono ?_;rintro e w2 ⟨rfl,hX2⟩
  have hbel:=hX2.bel
  go_wp2_with fail
  go_ret
  exact ⟨ret_bool HV.out.symm,hbel⟩
 ·have HV:Hid (validT t=false):=zq (by unfold validT;simp [hsz])
  have hmn:min t.nodes 2001=2001:=by omega
  rw [hmn] at HC
  go_enter Tryz.func20,Tryz.ntmps20
  go_wp2_with fail
  refine (HC.out _ HX.out).mono ?_;rintro e w1 ⟨rfl,hX1⟩
  have hbel:=hX1.bel
  go_wp2_with fail
  go_ret
  exact ⟨ret_bool HV.out.symm,hbel⟩
end Go.Proofs.YtbojljpldcijgaaGreat
namespace Hb
open Go Go.RowKit
structure WalkH (w0 w:World) (t:Tm) (A:Option Addr) (cap gl M:Nat):Prop where
 only:Hb.Only gl w0 w
 lt:w0.heap.size<w.heap.size
 b3:w.cell? ⟨w0.heap.size,3,none⟩=some (.slice A t.args.length cap)
 cell:w.cell? ⟨gl,0,none⟩=some (.int .i64 M)
 fr:∀o,w.frozen? ⟨gl,o,none⟩=false
structure LeftN (w0 w:World) (gl:Nat) (M:Nat):Prop where
 only:Hb.Only gl w0 w
 cell:w.cell? ⟨gl,0,none⟩=some (.int .i64 M)
 fr:∀o,w.frozen? ⟨gl,o,none⟩=false
theorem WalkH.left {w0 w:World} {t:Tm} {A:Option Addr} {cap gl M:Nat} (h:WalkH w0 w t A cap gl M):LeftN w0 w gl M:=⟨h.only,h.cell,h.fr⟩
theorem WalkH.call {w0 w w':World} {t:Tm} {A:Option Addr} {cap gl M M':Nat} (h:WalkH w0 w t A cap gl M) (hg:gl<w0.heap.size) (hl:LeftN w w' gl M'):WalkH w0 w' t A cap gl M' where
 only:=h.only.trans hl.only
 lt:=Nat.lt_of_lt_of_le h.lt hl.only.size
 b3:=(hl.only.cell (p:=⟨w0.heap.size,3,none⟩) h.lt (by show w0.heap.size≠gl;omega)).trans h.b3
 cell:=hl.cell
 fr:=hl.fr
theorem WalkH.start (w:World) (t:Tm) (A:Option Addr) (cap gl M LN:Nat) (e:TypeId) (hL:LN=t.args.length) (hgl:gl<w.heap.size) {u:Value} (hc:w.cell? ⟨gl,0,none⟩=some u) (hf:∀o,w.frozen? ⟨gl,o,none⟩=false) :
  WalkH w ((w.setCell ⟨gl,0,none⟩ (.int .i64 M)).alloc (.cells #[.int .i64 t.kind,.int .i64 t.num,.string t.name,.slice A LN cap] e)) t A cap gl M where
 only:=(Hb.Only.set gl 0 w _).trans (Hb.Only.alloc gl _ _)
 lt:=by simp
 b3:=by
  have h:=World.cell?_alloc_new (w.setCell ⟨gl,0,none⟩ (.int .i64 M)) #[.int .i64 t.kind,.int .i64 t.num,.string t.name,.slice A LN cap] e 3
  have hs:(w.setCell ⟨gl,0,none⟩ (.int .i64 M)).heap.size=w.heap.size:=by simp
  rw [hs] at h
  rw [h,hL];rfl
 cell:=by
  have hB:=(Below.refl (w.setCell ⟨gl,0,none⟩ (.int .i64 M)).heap.size (w.setCell ⟨gl,0,none⟩ (.int .i64 M))).alloc (Nat.le_refl _) (.cells #[.int .i64 t.kind,.int .i64 t.num,.string t.name,.slice A LN cap] e)
  rw [hB.cell (p:=⟨gl,0,none⟩) (by simpa using hgl)]
  exact World.cell?_setCell_same _ _ _ hc
 fr:=fun o=>by
  have hB:=(Below.refl (w.setCell ⟨gl,0,none⟩ (.int .i64 M)).heap.size (w.setCell ⟨gl,0,none⟩ (.int .i64 M))).alloc (Nat.le_refl _) (.cells #[.int .i64 t.kind,.int .i64 t.num,.string t.name,.slice A LN cap] e)
  rw [hB.frozen (p:=⟨gl,o,none⟩) (by simpa using hgl),World.frozen?_setCell]
  exact hf o
structure SizeH (w W:World) (F:Value):Prop where
 bel:Below w.heap.size w W
 lt1:w.heap.size+1<W.heap.size
 lt2:w.heap.size+1+1<W.heap.size
 left:LeftN W W (w.heap.size+1) 2001
 fn:W.cell? ⟨w.heap.size+1+1,0,none⟩=some F
theorem size_start (w:World) (o:Obj) (t1 t2:TypeId) (F:Value):SizeH w (((w.alloc o).alloc (.cells #[.int .i64 2001] t1)).alloc (.cells #[F] t2)) F where
 bel:=(((Below.refl _ _).alloc (Nat.le_refl _) _).alloc (by simp) _).alloc (by simp;omega) _
 lt1:=by simp
 lt2:=by simp
 left:=by
  have h1:=World.cell?_alloc_new (w.alloc o) #[.int .i64 2001] t1 0
  have hs:(w.alloc o).heap.size=w.heap.size+1:=by simp
  rw [hs] at h1
  have hB:=(Below.refl ((w.alloc o).alloc (.cells #[.int .i64 2001] t1)).heap.size ((w.alloc o).alloc (.cells #[.int .i64 2001] t1))).alloc (Nat.le_refl _) (.cells #[F] t2)
  refine ⟨Hb.Only.refl _ _,(hB.cell (p:=⟨w.heap.size+1,0,none⟩) (by simp)).trans h1,fun k=>?_⟩
  rw [hB.frozen (p:=⟨w.heap.size+1,k,none⟩) (by simp)]
  exact World.frozen?_alloc_at (w:=w.alloc o) #[.int .i64 2001] t1 (w.heap.size+1) k hs.symm
 fn:=by
  have h1:=World.cell?_alloc_new ((w.alloc o).alloc (.cells #[.int .i64 2001] t1)) #[F] t2 0
  have hs:((w.alloc o).alloc (.cells #[.int .i64 2001] t1)).heap.size=w.heap.size+1+1:=by simp
  rw [hs] at h1
  exact h1
end Hb
namespace Go.Proofs.YtbojljpldcijgaaGreat
open Go.RowKit Hb
set_option maxRecDepth 100000
def walkF (gl gw:Nat):Value:=.func (.func 98) #[] #[.pointer (some ⟨gl,0,none⟩),.pointer (some ⟨gw,0,none⟩)]
set_option maxHeartbeats 3200000 in
theorem size_walk:∀(t:Tm) (A:Option Addr) (cap B gl gw L:Nat) (w:World),TmsAt B w A t.args→B≤gl→B≤gw→gl≠gw→gl<w.heap.size→gw<w.heap.size→1≤L→L≤2001→LeftN w w gl L→w.cell? ⟨gw,0,none⟩=some (walkF gl gw) →
  Calls Tryz.prog 98 #[tmV t A cap,.pointer (some ⟨gl,0,none⟩),.pointer (some ⟨gw,0,none⟩)] w fun e w'=>e=.returned (.tuple #[])∧LeftN w w' gl (L-t.nodes):=by
 refine Tm.ind fun t ih=>?_
 intro A cap B gl gw L w hT hBl hBw hne hgl hgw h1 h2 hL hgc
 have hm:=hT.len
 unfold maxLen at hm
 have HT:=zq hT
 have HALL:=zq (sumN_all t)
 have HIH:=zq ih
 have gl0:=hL.cell
 have glf:=hL.fr
 have glf0:=glf 0
 have hl1:(L:Int)-1=((L-1:Nat):Int):=by omega
 obtain ⟨LN,HL⟩:=lz (t.args.length)
 clear hT ih
 unfold tmV
 rw [←HL.out] at hm ⊢
 have HWS:=zq (WalkH.start w t A cap gl (L-1) LN 30 HL.out hgl gl0 glf)
 have HGW:=zq hgc
 go_enter Tryz.func98,Tryz.ntmps98
 go_wp2_with fail
 clear hL hgc gl0 glf glf0 hl1
 go_loopw [4] (fun i wr=>∃k M:Nat,k≤LN∧i=.int .i64 k∧M=L-(1+sumN t.args k)∧Hid (WalkH w wr t A cap gl M)) (fun i _=>LN-(intOf i).toNat)
 case atStart=>exact ⟨0,L-1,Nat.zero_le _,rfl,by rw [sumN_zero],HWS⟩
 case round=>
  clear HWS
  obtain ⟨k,M,hk,rfl,hM,HB⟩:=hrel
  have b3:=HB.out.b3
  rw [←HL.out] at b3
  have gl0:=HB.out.cell
  by_cases hlt:k<LN
  ·by_cases hm0:0<M
   ·have hkl:k<t.args.length:=by have:=HL.out;omega
    have hBw':Below B w wr:=HB.out.only.below hBl (by omega)
    obtain ⟨b,off,A',cap',rfl,hb,c0,c1,c2,c3,hs⟩:=(HT.out.keep hBw').get k hkl
    have gwc:wr.cell? ⟨gw,0,none⟩=some (walkF gl gw):=(HB.out.only.cell (p:=⟨gw,0,none⟩) hgw (fun h=>hne h.symm)).trans HGW.out
    have hsz:=HB.out.only.size
    have HC:=zq (HIH.out t.args[k] (List.getElem_mem hkl) A' cap' B gl gw M wr.drew (hs.keep (Below.refl B wr).drew) hBl hBw hne (by show gl<wr.heap.size;omega) (by show gw<wr.heap.size;omega) hm0 (by omega) ⟨Hb.Only.refl _ _,gl0,HB.out.fr⟩ gwc)
    have hsum:=sumN_succ t.args k hkl
    have HQ:Hid (M-t.args[k].nodes=L-(1+sumN t.args (k+1))):=zq (by rw [hsum];omega)
    unfold tmV at HC
    unfold walkF at gwc
    clear hs hsum hM
    have hk0:(0:Int)≤(k:Int):=by omega
    have hk1:(k:Int)<(LN:Int):=by omega
    generalize t.args[k].kind=a0 at *
    generalize t.args[k].num=a1 at *
    generalize t.args[k].name=a2 at *
    generalize t.args[k].args.length=a3 at *
    generalize t.args[k].nodes=q at *
    go_wp2_with fail
    go_region_with (first | (go_at_call 98;(with_reducible refine HC.out.mono ?_);rintro e w2 ⟨rfl,hL2⟩))
    all_goals
     have HBn:=zq (HB.out.call hgl (⟨(Hb.Only.of (Below.refl wr.heap.size wr).drew).trans hL2.only,hL2.cell,hL2.fr⟩:LeftN wr w2 gl (M-q)))
     clear b3 gl0 c0 c1 c2 c3 gwc hL2
     go_wp2_with fail
     go_roundw
     case rel=>exact ⟨k+1,M-q,by omega,by go_num,HQ.out,HBn⟩
     case measure=>simp [intOf] <;> omega
   ·have hM0:M=0:=by omega
    subst hM0
    have h3:=sumN_le t.args (t.args.length-k) k
    have h4:=HL.out
    rw [show k+(t.args.length-k)=t.args.length by omega] at h3
    have hend:L-t.nodes=0:=by rw [HALL.out];omega
    have HE:=zq hend
    have hlf:=HB.out.left
    clear hend h3 h4 hM
    go_wp2_with fail
    refine bodyPost_end (v:=.tuple #[]) (by simp [results,Tryz.results98,go_sem]) rfl ⟨rfl,by rw [HE.out];exact hlf⟩
  ·have hend:M=L-t.nodes:=by
    have h4:=HL.out
    rw [HALL.out,←h4,hM,show k=LN by omega]
   have HE:=zq hend
   have hlf:=HB.out.left
   clear hend hM
   go_wp2_with fail
   refine bodyPost_end (v:=.tuple #[]) (by simp [results,Tryz.results98,go_sem]) rfl ⟨rfl,by rw [←HE.out];exact hlf⟩
theorem size_left (t:Tm) (A:Option Addr) (cap:Nat) (w:World) (hT:TmsAt w.heap.size w A t.args):Calls Tryz.prog 58 #[tmV t A cap] w fun e w'=>e=.returned (.int .i64 (min t.nodes 2001:Nat))∧Below w.heap.size w w':=by
 have HS:=zq (fun (o:Obj)=>size_start w o 3 140 (walkF (w.heap.size+1) (w.heap.size+1+1)))
 have HW:=zq (fun (o:Obj)=>size_walk t A cap w.heap.size (w.heap.size+1) (w.heap.size+1+1) 2001 _ (hT.keep (HS.out o).bel) (by omega) (by omega) (by omega) (HS.out o).lt1 (HS.out o).lt2 (by decide) (by decide) (HS.out o).left (HS.out o).fn)
 clear hT
 have hmin:(2001:Int)-((2001-t.nodes:Nat):Int)=((min t.nodes 2001:Nat):Int):=by omega
 have HMIN:=zq hmin
 clear hmin
 unfold tmV walkF at *
 generalize t.kind=a0 at *
 generalize t.num=a1 at *
 generalize t.name=a2 at *
 generalize t.args.length=a3 at *
 go_enter Tryz.func58,Tryz.ntmps58
 go_wp2_with fail
 refine (HW.out _).mono ?_;rintro e w1 ⟨rfl,hL1⟩
 have c0:=hL1.cell
 have hbel:=(HS.out (.cells #[.int .i64 a0,.int .i64 a1,.string a2,.slice A a3 cap] 30)).bel.trans (hL1.only.below (by omega) (HS.out (.cells #[.int .i64 a0,.int .i64 a1,.string a2,.slice A a3 cap] 30)).bel.size)
 have hr0:(0:Int)≤((2001-t.nodes:Nat):Int):=by omega
 have hr1:((2001-t.nodes:Nat):Int)≤2001:=by omega
 go_wp2_with fail
 go_ret
 exact ⟨ret_int (by rw [←HMIN.out]),hbel⟩
end Go.Proofs.YtbojljpldcijgaaGreat
namespace Hb
open Go Go.RowKit
def okTo (t:Tm) (k:Nat):Bool:=nodeOk t&&(t.args.take k).all Tm.allOk
theorem okTo_zero (t:Tm):okTo t 0=nodeOk t:=by unfold okTo;simp
theorem okTo_succ (t:Tm) (k:Nat) (h:k<t.args.length):okTo t (k+1)=(okTo t k&&t.args[k].allOk):=by
 unfold okTo;rw [List.take_succ_eq_append_getElem h,List.all_append,Bool.and_assoc];simp
theorem okTo_end (t:Tm) (k:Nat) (h:t.args.length≤k):okTo t k=t.allOk:=by
 rw [Tm.allOk_eq];unfold okTo;rw [List.take_of_length_le h]
theorem okTo_no (t:Tm) (k:Nat) (h:okTo t k=false):t.allOk=false:=by
 rw [Tm.allOk_eq]
 unfold okTo at h
 cases h1:nodeOk t
 ·rfl
 ·rw [h1,Bool.true_and] at h
  rw [Bool.true_and,List.all_eq_false] at *
  obtain ⟨x,hx,hx2⟩:=h
  exact ⟨x,List.mem_of_mem_take hx,hx2⟩
end Hb
namespace Go.Proofs.YtbojljpldcijgaaGreat
open Go.RowKit Hb
set_option maxRecDepth 100000
set_option maxHeartbeats 6400000 in
theorem fits_all:∀(t:Tm) (A:Option Addr) (cap:Nat) (w:World),TmsAt w.heap.size w A t.args →
  Calls Tryz.prog 59 #[tmV t A cap] w fun e w'=>e=.returned (.bool t.allOk)∧Below w.heap.size w w':=by
 refine Tm.ind fun t ih=>?_
 intro A cap w hT
 have HX:=zq (TBoxT.start w t A cap 30)
 have HT:=zq hT
 have hm:=hT.len
 unfold maxLen at hm
 have HIH:=zq ih
 have H0:=zq (okTo_zero t)
 clear hT ih
 obtain ⟨L,HL⟩:=lz (t.args.length)
 unfold tmV at *
 rw [←HL.out] at hm ⊢ HX
 go_enter Tryz.func59,Tryz.ntmps59
 go_upto_block 0 with fail
 go_cut [0,3] from 4 (fun p q wc=>p=.agg #[.int .i64 t.kind,.int .i64 t.num,.string t.name,.slice A L cap]∧q=.bool (nodeOk t)∧wc=w.alloc (.cells #[.int .i64 t.kind,.int .i64 t.num,.string t.name,.slice A L cap] 30))
 case first=>
  go_wp2_with fail
  all_goals
   go_meet
   case rel=>
    refine ⟨?_,?_,?_⟩
    ·first | rfl | simp only [*]
    ·unfold nodeOk
     rw [←HL.out]
     congr 1
     grind
    ·first | rfl | simp only [*]
 case rest=>
  obtain ⟨rfl,rfl,rfl⟩:=hcut
  go_wp2_with fail
  go_loopw [3,4] (fun b i wr=>∃k:Nat,∃q:Bool,k≤L∧b=.bool q∧i=.int .i64 k∧Hid (TBoxT w wr t A cap)∧Hid (q=okTo t k)) (fun b i _=>L-(intOf i).toNat)
  case atStart=>exact ⟨0,_,Nat.zero_le _,rfl,rfl,HX,zq H0.out.symm⟩
  case round=>
   obtain ⟨k,q,hk,rfl,rfl,HB,HQ⟩:=hrel
   have b3:=HB.out.c3
   rw [←HL.out] at b3
   cases q
   ·have HE:=zq (okTo_no t k HQ.out.symm)
    have hbel:=HB.out.bel
    by_cases hlt:k<L
    all_goals
     go_wp2_with fail
     go_ret
     exact ⟨ret_bool HE.out.symm,hbel⟩
   ·by_cases hlt:k<L
    ·have hkl:k<t.args.length:=by have:=HL.out;omega
     obtain ⟨b,off,A',cap',rfl,hb,c0,c1,c2,c3,hs⟩:=(HT.out.keep HB.out.bel).get k hkl
     have hC:=zq (HIH.out t.args[k] (List.getElem_mem hkl) A' cap' wr (hs.mono HB.out.bel.size))
     have HN:=zq (okTo_succ t k hkl)
     rw [←HQ.out,Bool.true_and] at HN
     clear hs
     generalize t.args[k].kind=a0 at *
     generalize t.args[k].num=a1 at *
     generalize t.args[k].name=a2 at *
     generalize t.args[k].args.length=a3 at *
     generalize t.args[k].allOk=q at *
     go_wp2_with fail
     refine hC.out.mono ?_;rintro e w2 ⟨rfl,hB2⟩
     have HB2:=zq (HB.out.call hB2)
     go_wp2_with fail
     go_roundw
     case rel=>first | exact ⟨k+1,by omega,q,rfl,by go_num,HB2,zq HN.out.symm⟩ | exact ⟨k+1,q,by omega,rfl,by go_num,HB2,zq HN.out.symm⟩ | exact ⟨k+1,by omega,by go_num,HB2,zq HN.out.symm⟩ 
     case measure=>simp [intOf] <;> omega
    ·have HE:=zq (okTo_end t k (by have:=HL.out;omega))
     rw [←HQ.out] at HE
     have hbel:=HB.out.bel
     go_wp2_with fail
     go_ret
     exact ⟨ret_bool HE.out,hbel⟩
theorem t_valid (t:Tm) (A:Option Addr) (cap:Nat) (w:World) (hT:TmsAt w.heap.size w A t.args):Calls Tryz.prog 34 #[tmV t A cap] w fun e w'=>e=.returned (.bool (validT t))∧Below w.heap.size w w':=by
 have HX:=zq (TBoxT.start w t A cap 30)
 have HC:=zq (fun (w1:World) (h:TBoxT w w1 t A cap)=>(size_left t A cap w1 ((hT.keep h.bel).mono h.bel.size)).mono fun _ _ hh=>(⟨hh.1,h.call hh.2⟩:_∧TBoxT w _ t A cap))
 have HN:=zq (fun (w1:World) (h:TBoxT w w1 t A cap)=>(fits_all t A cap w1 ((hT.keep h.bel).mono h.bel.size)).mono fun _ _ hh=>(⟨hh.1,h.call hh.2⟩:_∧TBoxT w _ t A cap))
 unfold tmV at *
 clear hT
 by_cases hsz:t.nodes≤2000
 ·have HV:Hid (validT t=t.allOk):=zq (by unfold validT;simp [hsz])
  have hmn:min t.nodes 2001=t.nodes:=by omega
  rw [hmn] at HC
  have b1:decide ((t.nodes:Int)≤2000)=true:=by simp;omega
  go_enter Tryz.func34,Tryz.ntmps34
  go_wp2_with fail
  refine (HC.out _ HX.out).mono ?_;rintro e w1 ⟨rfl,hX1⟩
  have c0:=hX1.c0
  have c1:=hX1.c1
  have c2:=hX1.c2
  have c3:=hX1.c3
  go_wp2_with fail
  refine (HN.out _ hX1).mono ?_;rintro e w2 ⟨rfl,hX2⟩
  have hbel:=hX2.bel
  go_wp2_with fail
  go_ret
  exact ⟨ret_bool HV.out.symm,hbel⟩
 ·have HV:Hid (validT t=false):=zq (by unfold validT;simp [hsz])
  have hmn:min t.nodes 2001=2001:=by omega
  rw [hmn] at HC
  go_enter Tryz.func34,Tryz.ntmps34
  go_wp2_with fail
  refine (HC.out _ HX.out).mono ?_;rintro e w1 ⟨rfl,hX1⟩
  have hbel:=hX1.bel
  go_wp2_with fail
  go_ret
  exact ⟨ret_bool HV.out.symm,hbel⟩
end Go.Proofs.YtbojljpldcijgaaGreat
namespace Hb
theorem tl_loop (s:ByteArray):∀(d i:Nat) (r:List UInt8),s.size-i=d→ByteArray.toList.loop s i r=r.reverse++s.data.toList.drop i
 | 0,i,r,h=>by
  unfold ByteArray.toList.loop
  rw [if_neg (by omega),List.drop_of_length_le (by simp;omega)];simp
 | d+1,i,r,h=>by
  have hi:i<s.size:=by omega
  have hi':i<s.data.toList.length:=by simpa using hi
  unfold ByteArray.toList.loop
  rw [if_pos hi,tl_loop s d (i+1) _ (by omega),List.drop_eq_getElem_cons hi']
  simp [ByteArray.get!,hi]
  first | rfl | (have:s.data[i]! = s.data[i]:=getElem!_pos s.data i hi;simp [this]) | skip
theorem tl_data (s:ByteArray):s.toList=s.data.toList:=by
 unfold ByteArray.toList
 rw [tl_loop s _ 0 [] rfl];simp
end Hb
namespace Hb
open Go Go.RowKit
def tm0:Tm:=.mk 0 0 ⟨#[]⟩ []
def s1 (c:UInt8):ByteArray:=⟨#[c]⟩
def has (T:List OpR) (s:ByteArray) (c:Int):Bool:=(findR T s c).isSome
def hd (l:List ByteArray):ByteArray:=l.headD ⟨#[]⟩
theorem addr_add (b off j:Nat):(⟨b,off,none⟩:Addr).add j=⟨b,off+j,none⟩:=by unfold Addr.add;split <;> simp_all
abbrev TR:=Tm×Option Addr×Nat
def rowC (r:TR):List Value:=[.int .i64 r.1.kind,.int .i64 r.1.num,.string r.1.name,.slice r.2.1 r.1.args.length r.2.2]
def rowsC (rs:List TR):List Value:=rs.flatMap rowC
theorem rowsC_app (a b:List TR):rowsC (a++b)=rowsC a++rowsC b:=by unfold rowsC;rw [List.flatMap_append]
theorem rowsC_get:∀(rs:List TR) (i:Nat) (h:i<rs.length),(rowsC rs)[i * 4]? = some (.int .i64 rs[i].1.kind)∧(rowsC rs)[i * 4+1]? = some (.int .i64 rs[i].1.num)∧(rowsC rs)[i * 4+2]? = some (.string rs[i].1.name)∧(rowsC rs)[i * 4+3]? = some (.slice rs[i].2.1 rs[i].1.args.length rs[i].2.2)
 | p::l,0,_=>⟨rfl,rfl,rfl,rfl⟩
 | p::l,i+1,h=>by
  have:=rowsC_get l i (by simpa using h)
  have e:rowsC (p::l)=.int .i64 p.1.kind::.int .i64 p.1.num::.string p.1.name::.slice p.2.1 p.1.args.length p.2.2::rowsC l:=rfl
  rw [e,show (i+1) * 4=i * 4+4 by omega]
  exact ⟨by simpa using this.1,by simpa using this.2.1,by simpa using this.2.2.1,by simpa using this.2.2.2⟩
theorem rowC_one (r:TR):∀u∈rowC r,u.oneCell'=true:=by
 intro u hu
 simp [rowC] at hu
 rcases hu with rfl|rfl|rfl|rfl <;> rfl
structure OwnR (lo:Nat) (e:TypeId) (w:World) (v:Value) (rs:List TR):Prop where
 own:w.ownsRow lo e 4 v rs.length (rowsC rs)
 sub:∀r∈rs,TmsK (fun b=>lo≤b∧b<w.heap.size∧v.ownBlock≠some b) w r.2.1 r.1.args
theorem OwnR.nul (lo:Nat) (e:TypeId) (w:World):OwnR lo e w (.slice none 0 0) []:=⟨World.ownsRow_nil _ _ _ _,fun r hr=>absurd hr (by simp)⟩
theorem OwnR.keep {lo:Nat} {e:TypeId} {w w':World} {v:Value} {rs:List TR} (h:OwnR lo e w v rs) (hs:w.heap.size≤w'.heap.size) (hb:∀b,lo≤b→b<w.heap.size→w'.heap[b]? = w.heap[b]?):OwnR lo e w' v rs where
 own:=by
  refine ⟨h.own.1,?_⟩
  rcases h.own.2 with hn | ⟨g,cap,cur,hv,hg,hh,rest⟩
  ·exact .inl hn
  ·exact .inr ⟨g,cap,cur,hv,hg,by rw [hb g hg (Array.getElem?_eq_some_iff.1 hh).1];exact hh,rest⟩
 sub:=fun r hr=>(h.sub r hr).keep (fun b hk=>hb b hk.1 hk.2.1) (fun b hk=>⟨hk.1,Nat.lt_of_lt_of_le hk.2.1 hs,hk.2.2⟩)
theorem OwnR.below {lo:Nat} {e:TypeId} {w w':World} {v:Value} {rs:List TR} (h:OwnR lo e w v rs) (hB:Below w.heap.size w w'):OwnR lo e w' v rs:=h.keep hB.size fun b _ hb=>hB.block b hb
theorem OwnR.snoc {lo:Nat} {e:TypeId} {W w2:World} {v v':Value} {rs:List TR} (h:OwnR lo e W v rs) (r:TR) (hr:TmsK (fun b=>lo≤b∧b<W.heap.size∧v.ownBlock≠some b) W r.2.1 r.1.args)
  (hown:w2.ownsRow lo e 4 v' (rs.length+1) (rowsC rs++rowC r)) (hg:W.grownBy w2 v.ownBlock) (hat:v'.ownBlock=v.ownBlock∨v'.ownBlock=some W.heap.size):OwnR lo e w2 v' (rs++[r]) where
 own:=by
  rw [rowsC_app,List.length_append]
  have e1:rowsC [r]=rowC r:=by unfold rowsC;simp
  rw [e1];exact hown
 sub:=by
  have key:∀{A:Option Addr} {l:List Tm},TmsK (fun b=>lo≤b∧b<W.heap.size∧v.ownBlock≠some b) W A l→TmsK (fun b=>lo≤b∧b<w2.heap.size∧v'.ownBlock≠some b) w2 A l:=fun hk=>by
   refine hk.keep (fun b hb=>hg.block b hb.2.1 (fun e=>hb.2.2 e.symm)) (fun b hb=>⟨hb.1,Nat.lt_of_lt_of_le hb.2.1 hg.size,fun e=>?_⟩)
   rcases hat with h' | h'
   ·rw [h'] at e;exact hb.2.2 e
   ·rw [h'] at e;injection e with e;have:=hb.2.1;omega
  intro x hx
  rcases List.mem_append.1 hx with hx | hx
  ·exact key (h.sub x hx)
  ·rw [List.mem_singleton] at hx;subst hx;exact key hr
theorem OwnR.tms {lo:Nat} {e:TypeId} {w:World} {v:Value} {rs:List TR} (h:OwnR lo e w v rs):∃A cap,v=.slice A rs.length cap∧TmsK (fun b=>lo≤b∧b<w.heap.size) w A (rs.map (·.1)):=by
 have hsub:∀j (hj:j<rs.length),TmsK (fun b=>lo≤b∧b<w.heap.size) w rs[j].2.1 rs[j].1.args:=fun j hj=>(h.sub _ (List.getElem_mem hj)).keep (fun _ _=>rfl) (fun b hb=>⟨hb.1,hb.2.1⟩)
 rcases h.own.2 with ⟨hv,h0⟩ | ⟨g,cap,cur,hv,hg,hh,hn,hm,rest⟩
 ·have:rs=[]:=List.eq_nil_of_length_eq_zero h0
  subst this
  exact ⟨_,_,hv,TmsK.nil⟩
 ·refine ⟨some ⟨g,0,none⟩,cap,hv,.mk _ _ (fun j=>(rs.getD j (tm0,none,0)).2.1) (fun j=>(rs.getD j (tm0,none,0)).2.2) (by rw [List.length_map];omega) (fun j hj=>?_) (fun j hj=>?_)⟩
  ·rw [List.length_map] at hj
   obtain ⟨p0,p1,p2,p3⟩:=rowsC_get rs j hj
   have hc:∀k u,(rowsC rs)[k]? = some u→w.cell? ⟨g,0+k,none⟩=some u:=fun k u hu=>by
    have:=h.own.cells (g:=g) (by rw [hv];rfl) k u hu
    rw [addr_add] at this
    exact this
   have e1:rs.getD j (tm0,none,0)=rs[j]:=by rw [List.getD_eq_getElem?_getD,List.getElem?_eq_getElem hj];rfl
   refine ⟨g,0,rfl,⟨hg,(Array.getElem?_eq_some_iff.1 hh).1⟩,?_,?_,?_,?_⟩
   ·rw [List.getElem_map];exact hc _ _ p0
   ·rw [List.getElem_map];exact hc _ _ p1
   ·rw [List.getElem_map];exact hc _ _ p2
   ·rw [List.getElem_map];simp only [e1];exact hc _ _ p3
  ·rw [List.length_map] at hj
   have e1:rs.getD j (tm0,none,0)=rs[j]:=by rw [List.getD_eq_getElem?_getD,List.getElem?_eq_getElem hj];rfl
   rw [List.getElem_map];simp only [e1]
   exact hsub j hj
structure CpH (w0 w:World) (e:TypeId) (t:Tm) (A:Option Addr) (cap:Nat) (v:Value) (rs:List TR):Prop where
 bel:Below w0.heap.size w0 w
 lt:w0.heap.size+3≤w.heap.size
 b3:w.cell? ⟨w0.heap.size,3,none⟩=some (.slice A t.args.length cap)
 r0:∃u,w.cell? ⟨w0.heap.size+1,0,none⟩=some u
 r1:∃u,w.cell? ⟨w0.heap.size+1,1,none⟩=some u
 r2:∃u,w.cell? ⟨w0.heap.size+1,2,none⟩=some u
 r3:∃u,w.cell? ⟨w0.heap.size+1,3,none⟩=some u
 rf:∀o,w.frozen? ⟨w0.heap.size+1,o,none⟩=false
 c0:w.cell? ⟨w0.heap.size+2,0,none⟩=some (.int .i64 t.kind)
 c1:w.cell? ⟨w0.heap.size+2,1,none⟩=some (.int .i64 t.num)
 c2:w.cell? ⟨w0.heap.size+2,2,none⟩=some (.string t.name)
 c3:w.cell? ⟨w0.heap.size+2,3,none⟩=some v
 cf:∀o,w.frozen? ⟨w0.heap.size+2,o,none⟩=false
 own:OwnR (w0.heap.size+3) e w v rs
section
variable {w0 w w':World} {e:TypeId} {t:Tm} {A:Option Addr} {cap:Nat} {v:Value} {rs:List TR}
theorem CpH.call (h:CpH w0 w e t A cap v rs) (hB:Below w.heap.size w w'):CpH w0 w' e t A cap v rs:=by
 have hl:=h.lt
 have hc:∀b o,b<w0.heap.size+3→w'.cell? ⟨b,o,none⟩=w.cell? ⟨b,o,none⟩:=fun b o hb=>hB.cell (p:=⟨b,o,none⟩) (by show b<_;omega)
 have hf:∀b o,b<w0.heap.size+3→w'.frozen? ⟨b,o,none⟩=w.frozen? ⟨b,o,none⟩:=fun b o hb=>hB.frozen (p:=⟨b,o,none⟩) (by show b<_;omega)
 exact ⟨h.bel.trans (hB.mono (by omega)),Nat.le_trans hl hB.size,(hc _ _ (by omega)).trans h.b3,h.r0.imp fun _ k=>(hc _ _ (by omega)).trans k,h.r1.imp fun _ k=>(hc _ _ (by omega)).trans k,h.r2.imp fun _ k=>(hc _ _ (by omega)).trans k,h.r3.imp fun _ k=>(hc _ _ (by omega)).trans k,
  fun o=>(hf _ _ (by omega)).trans (h.rf o),(hc _ _ (by omega)).trans h.c0,(hc _ _ (by omega)).trans h.c1,(hc _ _ (by omega)).trans h.c2,(hc _ _ (by omega)).trans h.c3,fun o=>(hf _ _ (by omega)).trans (h.cf o),h.own.below hB⟩
theorem CpH.drew (h:CpH w0 w e t A cap v rs):CpH w0 w.drew e t A cap v rs:=h.call (Below.refl w.heap.size w).drew
theorem CpH.far (h:CpH w0 w e t A cap v rs) (hg:w.grownBy w' v.ownBlock) (b o:Nat) (hb:b<w0.heap.size+3):w'.cell? ⟨b,o,none⟩=w.cell? ⟨b,o,none⟩∧w'.frozen? ⟨b,o,none⟩=w.frozen? ⟨b,o,none⟩:=by
 have hl:=h.lt
 have hne:some b≠v.ownBlock:=fun e=>by have:=(h.own.own.lt b e.symm).1;omega
 exact ⟨hg.cell_far ⟨b,o,none⟩ (by show b<_;omega) hne,hg.frozen_far ⟨b,o,none⟩ (by show b<_;omega) hne⟩
theorem CpH.app (h:CpH w0 w e t A cap v rs) (r:TR) (hr:TmsK (fun b=>w0.heap.size+3≤b∧b<w.heap.size∧v.ownBlock≠some b) w r.2.1 r.1.args) {v':Value} {w2:World}
  (hown:w2.ownsRow (w0.heap.size+3) e 4 v' (rs.length+1) (rowsC rs++rowC r)) (hg:w.grownBy w2 v.ownBlock) (hat:v'.ownBlock=v.ownBlock∨v'.ownBlock=some w.heap.size):CpH w0 (w2.setCell ⟨w0.heap.size+2,3,none⟩ v') e t A cap v' (rs++[r]):=by
 have hl:=h.lt
 have hO:=h.own.snoc r hr hown hg hat
 have hbel:Below w0.heap.size w0 w2:=h.bel.grown hg (by omega) (fun k hk=>by have:=(h.own.own.lt k hk).1;omega)
 have hc:∀b o,b<w0.heap.size+3→(b≠w0.heap.size+2∨o≠3)→(w2.setCell ⟨w0.heap.size+2,3,none⟩ v').cell? ⟨b,o,none⟩=w.cell? ⟨b,o,none⟩:=fun b o hb hne=>by
  rw [World.cell?_setCell_other _ _ _ _ (by intro e;injection e with e1 e2 _;rcases hne with hne | hne <;> omega)]
  exact (h.far hg b o hb).1
 have hf:∀b o,b<w0.heap.size+3→(w2.setCell ⟨w0.heap.size+2,3,none⟩ v').frozen? ⟨b,o,none⟩=w.frozen? ⟨b,o,none⟩:=fun b o hb=>by
  rw [World.frozen?_setCell];exact (h.far hg b o hb).2
 refine ⟨hbel.setCell (p:=⟨_,_,none⟩) (by show w0.heap.size≤w0.heap.size+2;omega) _,by have:=hg.size;simp;omega,(hc _ _ (by omega) (.inl (by omega))).trans h.b3,h.r0.imp fun _ k=>(hc _ _ (by omega) (.inl (by omega))).trans k,h.r1.imp fun _ k=>(hc _ _ (by omega) (.inl (by omega))).trans k,h.r2.imp fun _ k=>(hc _ _ (by omega) (.inl (by omega))).trans k,h.r3.imp fun _ k=>(hc _ _ (by omega) (.inl (by omega))).trans k,
  fun o=>(hf _ _ (by omega)).trans (h.rf o),(hc _ _ (by omega) (.inr (by omega))).trans h.c0,(hc _ _ (by omega) (.inr (by omega))).trans h.c1,(hc _ _ (by omega) (.inr (by omega))).trans h.c2,World.cell?_setCell_same _ _ _ ((h.far hg _ _ (by omega)).1.trans h.c3),fun o=>(hf _ _ (by omega)).trans (h.cf o),hO.keep (by simp) fun b hb _=>heap_setCell_other w2 ⟨w0.heap.size+2,3,none⟩ b v' (fun e=>by simp at e;omega)⟩
end
theorem CpH.start (w:World) (t:Tm) (A:Option Addr) (cap LN:Nat) (e:TypeId) (hL:LN=t.args.length) :
  CpH w ((((w.alloc (.cells #[.int .i64 t.kind,.int .i64 t.num,.string t.name,.slice A LN cap] e)).alloc (.cells #[.int .i64 0,.int .i64 0,.string ⟨#[]⟩,.slice none 0 0] e)).alloc (.cells #[.int .i64 t.kind,.int .i64 t.num,.string t.name,.slice none 0 0] e))) e t A cap (.slice none 0 0) []:=by
 obtain ⟨W1,hW1⟩:∃W1,W1=w.alloc (.cells #[.int .i64 t.kind,.int .i64 t.num,.string t.name,.slice A LN cap] e):=⟨_,rfl⟩
 obtain ⟨W2,hW2⟩:∃W2,W2=W1.alloc (.cells #[.int .i64 0,.int .i64 0,.string ⟨#[]⟩,.slice none 0 0] e):=⟨_,rfl⟩
 rw [←hW1,←hW2]
 have s1:W1.heap.size=w.heap.size+1:=by rw [hW1];simp
 have s2:W2.heap.size=w.heap.size+2:=by rw [hW2];simp;omega
 have hB2:Below W1.heap.size W1 W2:=by rw [hW2];exact (Below.refl _ _).alloc (Nat.le_refl _) _
 have hB3:Below W2.heap.size W2 (W2.alloc (.cells #[.int .i64 t.kind,.int .i64 t.num,.string t.name,.slice none 0 0] e)):=(Below.refl _ _).alloc (Nat.le_refl _) _
 have hB1:Below w.heap.size w W1:=by rw [hW1];exact (Below.refl _ _).alloc (Nat.le_refl _) _
 have a3:W1.cell? ⟨w.heap.size,3,none⟩=some (.slice A t.args.length cap):=by rw [hW1,←hL];exact World.cell?_alloc_new _ _ _ 3
 have r:∀j u,(#[.int .i64 0,.int .i64 0,.string ⟨#[]⟩,.slice none 0 0]:Array Value)[j]? = some u→W2.cell? ⟨w.heap.size+1,j,none⟩=some u:=fun j u hu=>by
  have:=World.cell?_alloc_new W1 #[.int .i64 0,.int .i64 0,.string ⟨#[]⟩,.slice none 0 0] e j
  rw [s1,←hW2] at this;rw [this];exact hu
 have rf:∀o,W2.frozen? ⟨w.heap.size+1,o,none⟩=false:=fun o=>by
  have:=World.frozen?_alloc_at (w:=W1) #[.int .i64 0,.int .i64 0,.string ⟨#[]⟩,.slice none 0 0] e (w.heap.size+1) o s1.symm
  rw [←hW2] at this;exact this
 have c:∀j,(W2.alloc (.cells #[.int .i64 t.kind,.int .i64 t.num,.string t.name,.slice none 0 0] e)).cell? ⟨w.heap.size+2,j,none⟩=(#[.int .i64 t.kind,.int .i64 t.num,.string t.name,.slice none 0 0]:Array Value)[j]?:=fun j=>by
  have:=World.cell?_alloc_new W2 #[.int .i64 t.kind,.int .i64 t.num,.string t.name,.slice none 0 0] e j
  rw [s2] at this;exact this
 have k2:∀o,(W2.alloc (.cells #[.int .i64 t.kind,.int .i64 t.num,.string t.name,.slice none 0 0] e)).cell? ⟨w.heap.size+1,o,none⟩=W2.cell? ⟨w.heap.size+1,o,none⟩:=fun o=>hB3.cell (p:=⟨w.heap.size+1,o,none⟩) (show w.heap.size+1<W2.heap.size by omega)
 refine ⟨(hB1.trans (hB2.mono (by omega))).trans (hB3.mono (by omega)),by simp;omega,?_,⟨_,(k2 0).trans (r 0 _ rfl)⟩,⟨_,(k2 1).trans (r 1 _ rfl)⟩,⟨_,(k2 2).trans (r 2 _ rfl)⟩,⟨_,(k2 3).trans (r 3 _ rfl)⟩,fun o=>?_,c 0,c 1,c 2,c 3,fun o=>?_,OwnR.nul _ _ _⟩
 ·rw [hB3.cell (p:=⟨w.heap.size,3,none⟩) (show w.heap.size<W2.heap.size by omega),hB2.cell (p:=⟨w.heap.size,3,none⟩) (show w.heap.size<W1.heap.size by omega)];exact a3
 ·rw [hB3.frozen (p:=⟨w.heap.size+1,o,none⟩) (show w.heap.size+1<W2.heap.size by omega)];exact rf o
 ·exact World.frozen?_alloc_at (w:=W2) _ _ (w.heap.size+2) o s2.symm
theorem CpH.put {w0 w:World} {e:TypeId} {t:Tm} {A:Option Addr} {cap:Nat} {v:Value} {rs:List TR} (h:CpH w0 w e t A cap v rs) (x0 x1 x2 x3:Value) :
  Below w0.heap.size w0 ((((w.setCell ⟨w0.heap.size+1,0,none⟩ x0).setCell ⟨w0.heap.size+1,1,none⟩ x1).setCell ⟨w0.heap.size+1,2,none⟩ x2).setCell ⟨w0.heap.size+1,3,none⟩ x3) ∧
  OwnR (w0.heap.size+3) e ((((w.setCell ⟨w0.heap.size+1,0,none⟩ x0).setCell ⟨w0.heap.size+1,1,none⟩ x1).setCell ⟨w0.heap.size+1,2,none⟩ x2).setCell ⟨w0.heap.size+1,3,none⟩ x3) v rs:=by
 have hle:w0.heap.size≤w0.heap.size+1:=by omega
 refine ⟨((((h.bel.setCell (p:=⟨_,_,none⟩) hle _).setCell (p:=⟨_,_,none⟩) hle _).setCell (p:=⟨_,_,none⟩) hle _).setCell (p:=⟨_,_,none⟩) hle _),h.own.keep (by simp) fun b hb _=>?_⟩
 have hne:∀o,b≠(⟨w0.heap.size+1,o,none⟩:Addr).block:=fun o e=>by simp at e;omega
 rw [heap_setCell_other _ _ _ _ (hne _),heap_setCell_other _ _ _ _ (hne _),heap_setCell_other _ _ _ _ (hne _),heap_setCell_other _ _ _ _ (hne _)]
def NewT (w w':World) (A:Option Addr) (l:List Tm):Prop:=TmsK (fun b=>w.heap.size≤b∧b<w'.heap.size) w' A l
end Hb
namespace Go.Proofs.YtbojljpldcijgaaGreat
open Go.RowKit Hb
set_option maxRecDepth 100000
theorem infoTm:(Tryz.prog.info? 30).map (fun i=>(i.zero,i.size,i.bytes))=some (some (.agg #[.int .i64 0,.int .i64 0,.string ⟨#[]⟩,.slice none 0 0]),4,56):=by kernel_rfl
end Go.Proofs.YtbojljpldcijgaaGreat
