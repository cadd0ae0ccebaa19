/- Parts of the proof. -/
import Derived.Test.YtbojljpldcijgaaGreatH01
import Derived.Test.YtbojljpldcijgaaGreatH07
import Derived.Test.YtbojljpldcijgaaGreatH10
import Derived.Test.YtbojljpldcijgaaGreatH11
namespace Hb
open Go Go.RowKit
structure FlR where
 q:Int
 u:Int
 c:Bool
 d:Bool
def flV (f:FlR):Value:=.agg #[.int .i64 f.q,.int .i64 f.u,.bool f.c,.bool f.d]
def flOk (f:FlR):Bool:=decide (1≤f.q)&&(decide (f.q≤3)&&(f.u==1||f.u==2))
def flDef:FlR:=⟨1,1,false,false⟩
def atomT (s:ByteArray):Tm:=.mk 2 0 s []
def intT (n:Int):Tm:=.mk 1 n ⟨#[]⟩ []
end Hb
namespace Go.Proofs.YtbojljpldcijgaaGreat
open Go.RowKit Hb
set_option maxRecDepth 100000
theorem f_default (w:World):Calls Tryz.prog 48 #[] w fun e w'=>e=.returned (flV flDef)∧Below w.heap.size w w':=by
 have hB:=(Below.refl w.heap.size w).alloc (Nat.le_refl _) (.cells #[.int .i64 1,.int .i64 1,.bool false,.bool false] 24)
 go_enter Tryz.func48,Tryz.ntmps48
 go_wp2_with fail
 exact bodyPost_ret (v:=flV flDef) (by simp [results,Tryz.results48,go_sem,flV,flDef]) rfl ⟨rfl,hB⟩
theorem f_valid (f:FlR) (w:World):Calls Tryz.prog 51 #[flV f] w fun e w'=>e=.returned (.bool (flOk f))∧Below w.heap.size w w':=by
 have hB:=(Below.refl w.heap.size w).alloc (Nat.le_refl _) (.cells #[.int .i64 f.q,.int .i64 f.u,.bool f.c,.bool f.d] 24)
 have HF:Hid (flOk f=(decide (1≤f.q)&&(decide (f.q≤3)&&(f.u==1||f.u==2)))):=zq rfl
 unfold flV
 generalize flOk f=r at *
 generalize f.q=q at *
 generalize f.u=u at *
 have dq:(q<1)∨(3<q)∨(1≤q∧q≤3):=by omega
 have du:u=1∨u=2∨(¬u=1∧¬u=2):=by omega
 rcases dq with dq | dq | ⟨dq,dq'⟩ <;> rcases du with rfl|rfl | ⟨du,du'⟩
 all_goals
  go_enter Tryz.func51,Tryz.ntmps51
  go_wp2_with fail
  go_ret
  refine ⟨ret_bool ?_,hB⟩
  rw [HF.out]
  simp [*] <;> omega
end Go.Proofs.YtbojljpldcijgaaGreat
namespace Hb
open Go Go.RowKit
theorem atomT_ok {s:ByteArray} (h:s.size≤100):validT (atomT s)=true:=(validT_iff _).2 ⟨by rw [Tm.nodes_eq];simp [atomT,Tm.args],by
 rw [Tm.allOk_eq]
 unfold nodeOk atomT Tm.kind Tm.num Tm.name Tm.args
 simp [h]⟩
theorem cloneT_yes {t:Tm} (h:validT t=true):cloneT t=t:=by unfold cloneT;rw [if_pos h]
end Hb
namespace Go.Proofs.YtbojljpldcijgaaGreat
open Go.RowKit Hb
set_option maxRecDepth 100000
set_option maxHeartbeats 1600000 in
theorem t_atom (s:ByteArray) (h:s.size≤100) (w:World) :
  Calls Tryz.prog 175 #[.string s] w fun e w'=>∃A' cap',e=.returned (tmV (atomT s) A' cap')∧Below w.heap.size w w':=by
 have hX0:=R4.start (w0:=w) (w:=w) (Below.refl _ _) (.int .i64 0) (.int .i64 0) (.string ⟨#[]⟩) (.slice none 0 0) 30
 have HX:=zq hX0
 have HC:=zq (fun (W:World)=>t_clone (atomT s) none 0 W TmsK.nil)
 rw [cloneT_yes (atomT_ok h)] at HC
 have HE:Hid (∀(A':Option Addr) (c':Nat),tmV (atomT s) A' c'=.agg #[.int .i64 2,.int .i64 0,.string s,.slice A' 0 c']):=zq (fun _ _=>rfl)
 clear hX0
 go_enter Tryz.func175,Tryz.ntmps175
 go_wp2_with fail
 refine (HC.out _).mono ?_;rintro e w2 ⟨A2,n2,rfl,hB2,hN⟩
 rw [HE.out]
 have hX2:=HX.out.call hB2
 obtain ⟨v0,r0⟩:=hX2.r0
 obtain ⟨v1,r1⟩:=hX2.r1
 obtain ⟨v2,r2⟩:=hX2.r2
 obtain ⟨v3,r3⟩:=hX2.r3
 have f0:=hX2.fr 0
 have f1:=hX2.fr 1
 have f2:=hX2.fr 2
 have f3:=hX2.fr 3
 have HP:=zq (hX2.put (.int .i64 2) (.int .i64 0) (.string s) (.slice A2 0 n2))
 clear hN
 go_wp2_with fail
 exact bodyPost_ret (v:=.agg #[.int .i64 2,.int .i64 0,.string s,.slice A2 0 n2]) (by simp [results,Tryz.results175,go_sem,r0,r1,r2,r3]) rfl ⟨A2,n2,rfl,HP.out⟩
theorem t_int (n:Int) (w:World):Calls Tryz.prog 138 #[.int .i64 n] w fun e w'=>e=.returned (.agg #[.int .i64 1,.int .i64 n,.string ⟨#[]⟩,.slice none 0 0])∧Below w.heap.size w w':=by
 have hB:=(Below.refl w.heap.size w).alloc (Nat.le_refl _) (.cells #[.int .i64 1,.int .i64 n,.string ⟨#[]⟩,.slice none 0 0] 30)
 go_enter Tryz.func138,Tryz.ntmps138
 go_wp2_with fail
 exact bodyPost_ret (v:=.agg #[.int .i64 1,.int .i64 n,.string ⟨#[]⟩,.slice none 0 0]) (by simp [results,Tryz.results138,go_sem]) rfl ⟨rfl,hB⟩
end Go.Proofs.YtbojljpldcijgaaGreat
namespace Hb
open Go Go.RowKit
theorem lsT_drop (l:List Tm) (t:Tm) (j:Nat) (h:j<l.length):lsT (l.drop j) t=stT ⟨#[46]⟩ [l[j],lsT (l.drop (j+1)) t]:=by rw [List.drop_eq_getElem_cons h];rfl
theorem lsT_end (l:List Tm) (t:Tm):lsT (l.drop l.length) t=t:=by rw [List.drop_length];rfl
structure LsM (K:Nat→Prop) (w0 w:World) (t:Tm) (A:Option Addr) (cap:Nat):Prop where
 bel:Below w0.heap.size w0 w
 bs:Bks w [(w0.heap.size+1,[.int .i64 0,.int .i64 0,.string ⟨#[]⟩,.slice none 0 0]),(w0.heap.size,[.int .i64 t.kind,.int .i64 t.num,.string t.name,.slice A t.args.length cap])]
 tms:TmsK (fun b=>K b∨(w0.heap.size+1<b∧b<w.heap.size)) w A t.args
end Hb
namespace Go.Proofs.YtbojljpldcijgaaGreat
open Go.RowKit Hb
set_option maxRecDepth 100000
set_option linter.unusedSimpArgs false
theorem rd_atom (s:ByteArray) (h:s.size≤100) (w:World):Calls Tryz.prog 175 #[.string s] w fun e w'=>∃A' c',e=.returned (.agg #[.int .i64 2,.int .i64 0,.string s,.slice A' 0 c'])∧Below w.heap.size w w':=t_atom s h w
theorem put4_belowL {B:Nat} {w0 w:World} (h:Below B w0 w) (g:Nat) (hg:B≤g) (x y z u:Value):Below B w0 ((((w.setCell ⟨g,0,none⟩ x).setCell ⟨g,1,none⟩ y).setCell ⟨g,2,none⟩ z).setCell ⟨g,3,none⟩ u) :=
 (((h.setCell (p:=⟨_,_,none⟩) hg _).setCell (p:=⟨_,_,none⟩) hg _).setCell (p:=⟨_,_,none⟩) hg _).setCell (p:=⟨_,_,none⟩) hg _
theorem LsM.start {K:Nat→Prop} (w:World) (t:Tm) (A:Option Addr) (cap:Nat) (h:TmsK K w A t.args) (hK:∀b,K b→b<w.heap.size):LsM K w ((w.alloc (.cells #[.int .i64 t.kind,.int .i64 t.num,.string t.name,.slice A t.args.length cap] 30)).alloc (.cells #[.int .i64 0,.int .i64 0,.string ⟨#[]⟩,.slice none 0 0] 30)) t A cap where
 bel:=((Below.refl _ _).alloc (Nat.le_refl _) _).alloc (by simp) _
 bs:=((Bks.nil w).new [.int .i64 t.kind,.int .i64 t.num,.string t.name,.slice A t.args.length cap] 30 rfl).new [.int .i64 0,.int .i64 0,.string ⟨#[]⟩,.slice none 0 0] 30 (by simp)
 tms:=h.keep (fun b hb=>((((Below.refl w.heap.size w).alloc (Nat.le_refl _) _).alloc (by simp) _).block b (hK b hb))) fun b hb=>.inl hb
theorem LsM.step {K:Nat→Prop} {w0 w wS:World} {t x:Tm} {A B:Option Addr} {cap cb:Nat} (h:LsM K w0 w t A cap) (hx:TmsK K w0 B x.args) (hK:∀b,K b→b<w0.heap.size) (hB:Below (w.heap.size+1) (w.alloc (.cells (rowsC [(x,B,cb),(t,A,cap)]).toArray 30)) wS) :
  LsM K w0 ((((wS.setCell ⟨w0.heap.size,0,none⟩ (.int .i64 3)).setCell ⟨w0.heap.size,1,none⟩ (.int .i64 0)).setCell ⟨w0.heap.size,2,none⟩ (.string ⟨#[46]⟩)).setCell ⟨w0.heap.size,3,none⟩ (.slice (some ⟨w.heap.size,0,none⟩) 2 2)) (stT ⟨#[46]⟩ [x,t]) (some ⟨w.heap.size,0,none⟩) 2:=by
 have hlt:=h.bs.lt 0 rfl
 have hA:Below w.heap.size w (w.alloc (.cells (rowsC [(x,B,cb),(t,A,cap)]).toArray 30)):=(Below.refl _ _).alloc (Nat.le_refl _) _
 have hS:Below w.heap.size w wS:=hA.trans (hB.mono (Nat.le_succ _))
 have hrow:=tmsK_row (K:=fun b=>K b∨(w0.heap.size+1<b∧b<w.heap.size+1)) (K':=fun b=>K b∨(w0.heap.size+1<b∧b<w.heap.size)) (w:=w) 30 [(x,B,cb),(t,A,cap)] (by unfold maxLen;simp) (.inr ⟨hlt,Nat.lt_succ_self _⟩) (fun b hb=>by
   rcases hb with hb | hb
   ·exact ⟨.inl hb,by have:=hK b hb;have:=h.bel.size;omega⟩
   ·exact ⟨.inr ⟨hb.1,by omega⟩,hb.2⟩) (fun r hr=>by
   simp only [List.mem_cons,List.mem_nil_iff,or_false] at hr
   rcases hr with rfl|rfl
   ·exact hx.keep (fun b hb=>h.bel.block b (hK b hb)) fun b hb=>.inl hb
   ·exact h.tms)
 have hsz:(w.alloc (.cells (rowsC [(x,B,cb),(t,A,cap)]).toArray 30)).heap.size=w.heap.size+1:=by simp
 refine ⟨put4_belowL (h.bel.trans (hS.mono h.bel.size)) _ (Nat.le_refl _) _ _ _ _,(h.bs.call hS).set4 1 rfl _ _ _ _,TmsK.keep hrow (fun b hb=>?_) fun b hb=>?_⟩
 ·have hb2:b<w.heap.size+1:=by
   rcases hb with hb | hb
   ·have:=hK b hb;have:=h.bel.size;omega
   ·exact hb.2
  have hne:b≠w0.heap.size:=by
   rcases hb with hb | hb
   ·have:=hK b hb;omega
   ·omega
  rw [put4_block _ _ _ _ _ _ _ hne]
  exact hB.block b hb2
 ·rcases hb with hb | hb
  ·exact .inl hb
  ·exact .inr ⟨hb.1,by have:=hB.size;rw [hsz] at this;simp;omega⟩
set_option maxHeartbeats 3200000 in
theorem rd_list (K:Nat→Prop) (l:List Tm) (A:Option Addr) (n cap:Nat) (t:Tm) (B:Option Addr) (cb:Nat) (w:World) (hn:n=l.length) (hK:∀b,K b→b<w.heap.size) (hl:TmsK K w A l) (ht:TmsK K w B t.args) :
  Calls Tryz.prog 176 #[.slice A n cap,tmV t B cb] w fun e w'=>∃A' c',e=.returned (tmV (lsT l t) A' c')∧Below w.heap.size w w'∧TmsK (fun b=>K b∨(w.heap.size≤b∧b<w'.heap.size)) w' A' (lsT l t).args:=by
 have hm:n≤maxLen:=by rw [hn];exact hl.len
 unfold maxLen at hm
 have HN:=zq hn
 have HL:=zq hl
 have HKK:=zq hK
 have HST:=zq (fun (s:ByteArray) A n c W=>rd_structure s A n c W)
 have HS:=zq (LsM.start w t B cb ht hK)
 clear hl ht hn hK
 obtain ⟨RT,HRT⟩:=lz (lsT l t)
 rw [←HRT.out]
 unfold tmV
 go_enter Tryz.func176,Tryz.ntmps176
 go_wp2_with fail
 go_loopw [5] (fun i wr=>∃k:Nat,k≤n∧(k=0→i=.int .i64 (-1))∧(∀j:Nat,k=j+1→i=.int .i64 j)∧∃A' cap',Hid (LsM K w wr (lsT (l.drop k) t) A' cap')) (fun i _=>(intOf i+1).toNat)
 case atStart=>exact ⟨n,Nat.le_refl _,fun h=>by subst h;rfl,fun j h=>by congr 1;omega,B,cb,by rw [HN.out,lsT_end l t];exact HS⟩
 case round=>
  obtain ⟨k,hk,hi0,hi1,A',cap',HL2⟩:=hrel
  rcases Nat.eq_zero_or_pos k with rfl | hpos
  ·have hi:=hi0 rfl
   subst hi
   rw [List.drop_zero,←HRT.out] at HL2
   have cc:=HL2.out.bs.all
   simp only [bksAll,bkAll,Nat.zero_add,Nat.reduceAdd,and_true] at cc
   clear hi0 hi1 HRT
   go_wp2_with fail
   refine bodyPost_ret (v:=.agg #[.int .i64 RT.kind,.int .i64 RT.num,.string RT.name,.slice A' RT.args.length cap']) (by simp [results,Tryz.results176,go_sem,cc]) rfl ⟨A',cap',rfl,put4_belowL HL2.out.bel _ (Nat.le_succ _) _ _ _ _,?_⟩
   refine HL2.out.tms.keep (fun b hb=>put4_block _ _ _ _ _ _ _ ?_) fun b hb=>?_
   ·rcases hb with hb | hb
    ·have:=HKK.out b hb;omega
    ·omega
   ·rcases hb with hb | hb
    ·exact .inl hb
    ·exact .inr ⟨by omega,by simpa using hb.2⟩
  ·obtain ⟨j,rfl⟩:∃j,k=j+1:=⟨k-1,by omega⟩
   have hi:=hi1 j rfl
   subst hi
   have hjl:j<l.length:=by have:=HN.out;omega
   obtain ⟨b,off,B',cb',rfl,hb,e0,e1,e2,e3,hs⟩:=HL.out.get j hjl
   have hbw:=HKK.out b hb
   have hw:∀o,wr.cell? ⟨b,o,none⟩=w.cell? ⟨b,o,none⟩:=fun o=>HL2.out.bel.cell (p:=⟨b,o,none⟩) hbw
   have d0:=(hw _).trans e0
   have d1:=(hw _).trans e1
   have d2:=(hw _).trans e2
   have d3:=(hw _).trans e3
   have HSTEP:=zq (fun wS h=>LsM.step (cb:=cb') (wS:=wS) HL2.out hs HKK.out h)
   have HDR:Hid (stT ⟨#[46]⟩ [l[j],lsT (l.drop (j+1)) t]=lsT (l.drop j) t):=zq (lsT_drop l t j hjl).symm
   have cc:=HL2.out.bs.all
   simp only [bksAll,bkAll,Nat.zero_add,Nat.reduceAdd,and_true] at cc
   have HBS:=zq HL2.out.bs
   have k0:(0:Int)≤(j:Int):=by omega
   have k1:(j:Int)<(n:Int):=by omega
   clear hi0 hi1 hs hw e0 e1 e2 e3 HL2 HL
   generalize lsT (l.drop (j+1)) t=u at *
   generalize l[j]=x at *
   unfold rowsC rowC at HSTEP
   simp only [List.flatMap_cons,List.flatMap_nil,List.cons_append,List.nil_append] at HSTEP
   go_wp2_with fail
   go_region_with (go_at_call 97;refine (HST.out _ _ _ _ _).mono ?_;rintro e wS ⟨rfl,hBS⟩;(have hX:=((Below.refl wr.heap.size wr).alloc (Nat.le_refl _) _).drew.trans (hBS.mono (by simp [World.drew])));have cw:=(HBS.out.call hX).all;simp only [bksAll,bkAll,Nat.zero_add,Nat.reduceAdd,and_true] at cw)
   all_goals
    have HQ:=zq (HSTEP.out _ ((Below.refl _ _).drew.trans (hBS.mono (by simp [World.drew]))))
    rw [HDR.out] at HQ
    clear hBS hX cw cc
    go_wp2_with fail
    go_roundw
    case rel=>exact ⟨j,by omega,fun h=>by subst h;rfl,fun i h=>by congr 1;omega,_,_,HQ⟩
    case measure=>simp [intOf] <;> omega
theorem wpList_app_leaf {w W:World} {ops:Array Oper} {rest:List Oper} {o:Oper} {a:Act} {Q:Exit→Act→World→Prop} (hgd:o.guard=none) (s x:Operand)
  (ho:o.op=.call { callee:=.builtin .append,args:=#[s,x],argTypes:=#[28,28] }) (lo:Nat) (v:Value) (rs:List TR) (hs:a.eval s=v) (hO:OwnR lo 30 W v rs) (hlo:lo≤W.heap.size)
  (r:TR) (hr:r.1.args=[]) (hw:w=W.alloc (.cells (rowC r).toArray 30)) (hx:a.eval x=.slice (some ⟨W.heap.size,0,none⟩) 1 1) (hn:rs.length≤100000)
  (h:∀v' w',Hid (OwnR lo 30 w' v' (rs++[r]))→Hid (Below lo W w')→wpList Tryz.prog ops Q rest (a.put o.dst v') w'):wpList Tryz.prog ops Q (o::rest) a w:=by
 obtain ⟨i,hi,hz0,hz1,hz2⟩:=info_parts infoTermR
 subst hw
 have hB:Below W.heap.size W (W.alloc (.cells (rowC r).toArray 30)):=(Below.refl _ _).alloc (Nat.le_refl _) _
 have hO1:=hO.below hB
 refine wpList_append_own_at _ hgd s x 28 ho lo 30 i _ 4 56 Tryz.underlying28 hi hz0 hz1 hz2 rfl (by decide) v rs.length (rowsC rs) hs hO1.own ⟨W.heap.size,0,none⟩ 1 1 (rowC r) hx rfl ?_ (by
   intro y hy
   simp only [rowC,List.mem_cons,List.mem_nil_iff,or_false] at hy
   rcases hy with rfl|rfl|rfl|rfl <;> rfl) (by unfold maxLen;omega) (by omega) (by simp;omega) ?_
 ·intro j y hy
  rw [addr_add]
  have:=World.cell?_alloc_new W (rowC r).toArray 30 j
  rw [show 0+j=j by omega,this]
  simpa using hy
 ·intro v' w' hown hgr _ hat
  refine h v' w' (zq (hO1.snoc r (by rw [hr];exact TmsK.nil) hown hgr hat)) (zq ((hB.mono hlo).grown hgr (by simp;omega) fun k hk=>(hO1.own.lt k hk).1))
theorem extract_one (s:ByteArray) (k:Nat) (h:k<s.size):s.extract k (k+1)=⟨#[s[k]]⟩:=by
 apply ByteArray.ext
 apply Array.ext'
 rw [ByteArray.data_extract]
 simp
 have:k<s.data.toList.length:=by simpa using h
 rw [List.drop_eq_getElem_cons this]
 rfl
set_option maxHeartbeats 3200000 in
theorem rd_str {c:PC} {n:Nat} {v:VS} {nv:Value} {w:World} (p:PsAt c n v nv w) (s:ByteArray) (hs:s.size≤20000) :
  Calls Tryz.prog 140 #[.pointer (some ⟨c.P,0,none⟩),.string s] w fun e w'=>∃A' c',e=.returned (tmV (sgT c.E.q s.data.toList) A' c')∧Below w.heap.size w w'∧TmsK (fun b=>w.heap.size≤b∧b<w'.heap.size) w' A' (sgT c.E.q s.data.toList).args:=by
 have hB0:Below w.heap.size w (w.alloc (.cells #[.int .i64 0,.int .i64 0,.string ⟨#[]⟩,.slice none 0 0] 30)):=(Below.refl _ _).alloc (Nat.le_refl _) _
 have hK0:=(Bks.nil w).new [.int .i64 0,.int .i64 0,.string ⟨#[]⟩,.slice none 0 0] 30 rfl
 have HP:=zq p
 obtain ⟨R,HR⟩:=lz (sgT c.E.q s.data.toList)
 have HSZ:=zq hs
 have HRQ:Hid (¬c.E.q=3→R=lsT (s.data.toList.map (chT c.E.q)) nilT):=zq fun h=>by rw [HR.out];unfold sgT;rw [if_neg h]
 have HCH:Hid (∀b,chT c.E.q b=if c.E.q=1 then inT b.toNat else atT ⟨#[b]⟩):=zq fun _=>rfl
 rw [←HR.out]
 have HPC:Hid (∀W,Below w.heap.size w W→W.cell? ⟨c.P,3,none⟩=some (.int .i64 c.E.q)):=zq fun W h=>(HP.out.bk.call h).c 3 _ rfl
 clear p
 by_cases h3:c.E.q=3
 ·have HR3:Hid (R=.mk 2 0 s []):=zq (by rw [HR.out];unfold sgT;rw [if_pos h3];rfl)
  rw [HR3.out]
  have b3:(c.E.q==3)=true:=by simpa using h3
  have pc:=HPC.out _ hB0
  have HB:=zq hB0
  clear hB0 hK0 h3 HCH HRQ HR hs
  generalize c.E.q=q at *
  go_enter Tryz.func140,Tryz.ntmps140
  go_wp2_with fail
  refine bodyPost_ret (v:=.agg #[.int .i64 2,.int .i64 0,.string s,.slice none 0 0]) (by simp [results,Tryz.results140,go_sem]) rfl ⟨none,0,rfl,?_,TmsK.nil⟩
  exact (Below.refl _ _).alloc (Nat.le_refl _) _
 ·have b3:(c.E.q==3)=false:=by simpa using h3
  have HR3:=zq (HRQ.out h3)
  have pc:=HPC.out _ hB0
  have HB:=zq hB0
  have HK:=zq hK0
  clear hB0 hK0 h3 HRQ HR
  generalize c.E.q=q at *
  go_enter Tryz.func140,Tryz.ntmps140
  go_wp2_with fail
  clear pc
  go_loopw [5,16] (fun v5 i wr=>∃k:Nat,i=.int .i64 k∧k≤s.size∧∃rs:List TR,rs.map (·.1)=(s.data.toList.take k).map (chT q)∧Hid (OwnR (w.heap.size+1) 30 wr v5 rs)∧Hid (Below w.heap.size w wr)∧Hid (Bks wr [(w.heap.size,[.int .i64 0,.int .i64 0,.string ⟨#[]⟩,.slice none 0 0])])) (fun _ i _=>s.size-(intOf i).toNat)
  case atStart=>exact ⟨0,rfl,Nat.zero_le _,[],by simp,zq (OwnR.nul _ _ _),HB,HK⟩
  case round=>
   obtain ⟨k,rfl,hk,rs,hrs,HO,HBr,HKr⟩:=hrel
   have hlen:rs.length=k:=by have:=congrArg List.length hrs;simpa [Nat.min_eq_left hk] using this
   by_cases hkn:k<s.size
   ·have hb:decide ((k:Int)<(s.size:Int))=true:=by simp;omega
    have pc:=HPC.out _ HBr.out
    have hw1:wrap64 ((k:Int)+1)=(k:Int)+1:=inc64 (by omega)
    obtain ⟨A5,c5,hv5,_⟩:=HO.out.tms
    subst hv5
    have hx1:=extract_one s k hkn
    have HX1:=zq hx1
    have HRS:=zq hrs
    have HLN:=zq hlen
    clear hrs hx1 hlen
    by_cases h1:q=1
    ·have b1:(q==1)=true:=by simpa using h1
     have H1:=zq h1
     clear h1
     have hw2:wrap64 (s[k].toNat:Int)=(s[k].toNat:Int):=IntWalk.wrap64_in _ (by have:=s[k].toNat_lt;omega)
     go_wp2_with fail
     rw [hw2]
     refine (t_int _ _).mono ?_;rintro e w4 ⟨rfl,hB4⟩
     have HO4:=zq (HO.out.below hB4)
     have HB4:=bz HBr hB4
     have HK4:=zq (HKr.out.call hB4)
     have HLE:Hid (w.heap.size+1≤w4.heap.size):=zq (HK4.out.lt 0 rfl)
     clear hB4 HO HBr HKr pc
     go_wp2_with (at_builtin;go_must (refine wpList_app_leaf rfl _ _ rfl (w.heap.size+1) _ rs rfl HO4.out HLE.out (inT s[k].toNat,none,0) rfl rfl rfl (by have:=HLN.out;omega) ?_;intro v5 w5 HO5 hB5;have HB5:=zq (HB4.out.trans (hB5.out.mono (Nat.le_succ _)));have HK5:=zq (HK4.out.keep (fun (x:Nat×List Value) hx=>hB5.out.block x.1 (by rw [List.mem_singleton] at hx;subst hx;exact Nat.lt_succ_self _)))))
     have hrs2:(rs++[((inT s[k].toNat,none,0):TR)]).map (fun r:TR=>r.1)=(s.data.toList.take (k+1)).map (chT q):=by
      have hk2:k<s.data.toList.length:=by simpa using hkn
      rw [List.map_append,HRS.out,List.take_succ_eq_append_getElem hk2,List.map_append,List.map_cons,List.map_nil,List.map_cons,List.map_nil,HCH.out]
      congr 1
      rw [if_pos H1.out]
      rfl
     go_roundw
     case rel=>exact ⟨k+1,rfl,by omega,_,hrs2,HO5,HB5,HK5⟩
     case measure=>simp [intOf] <;> omega
    ·have b1:(q==1)=false:=by simpa using h1
     have H1:=zq h1
     clear h1
     go_wp2_with fail
     rw [HX1.out]
     refine (rd_atom _ (by show 1≤100;omega) _).mono ?_;rintro e w4 ⟨A4,c4,rfl,hB4⟩
     have HO4:=zq (HO.out.below hB4)
     have HB4:=bz HBr hB4
     have HK4:=zq (HKr.out.call hB4)
     have HLE:Hid (w.heap.size+1≤w4.heap.size):=zq (HK4.out.lt 0 rfl)
     clear hB4 HO HBr HKr pc
     go_wp2_with (at_builtin;go_must (refine wpList_app_leaf rfl _ _ rfl (w.heap.size+1) _ rs rfl HO4.out HLE.out (atT ⟨#[s[k]]⟩,A4,c4) rfl rfl rfl (by have:=HLN.out;omega) ?_;intro v5 w5 HO5 hB5;have HB5:=zq (HB4.out.trans (hB5.out.mono (Nat.le_succ _)));have HK5:=zq (HK4.out.keep (fun (x:Nat×List Value) hx=>hB5.out.block x.1 (by rw [List.mem_singleton] at hx;subst hx;exact Nat.lt_succ_self _)))))
     have hrs2:(rs++[((atT ⟨#[s[k]]⟩,A4,c4):TR)]).map (fun r:TR=>r.1)=(s.data.toList.take (k+1)).map (chT q):=by
      have hk2:k<s.data.toList.length:=by simpa using hkn
      rw [List.map_append,HRS.out,List.take_succ_eq_append_getElem hk2,List.map_append,List.map_cons,List.map_nil,List.map_cons,List.map_nil,HCH.out]
      congr 1
      rw [if_neg H1.out]
      rfl
     go_roundw
     case rel=>exact ⟨k+1,rfl,by omega,_,hrs2,HO5,HB5,HK5⟩
     case measure=>simp [intOf] <;> omega
   ·have hb:decide ((k:Int)<(s.size:Int))=false:=by simp;omega
    have hkk:k=s.size:=by omega
    subst hkk
    have hrs2:rs.map (·.1)=s.data.toList.map (chT q):=by rw [hrs,List.take_of_length_le (by simp)]
    obtain ⟨A5,c5,hv5,hT5⟩:=HO.out.tms
    subst hv5
    have HR5:Hid (R=lsT (rs.map (·.1)) nilT):=zq (by rw [HR3.out,hrs2])
    have HT5:=zq hT5
    have HLN:=zq hlen
    clear hrs hrs2 hT5 hlen
    go_wp2_with fail
    refine (rd_atom ⟨#[91,93]⟩ (by decide) _).mono ?_;rintro e w4 ⟨A4,c4,rfl,hB4⟩
    have hT4:=HT5.out.keep (fun b hb=>hB4.block b hb.2) (fun b hb=>(⟨hb.1,Nat.lt_of_lt_of_le hb.2 hB4.size⟩:w.heap.size+1≤b∧b<w4.heap.size))
    have HLS:=zq (rd_list (fun b=>w.heap.size+1≤b∧b<w4.heap.size) (rs.map (·.1)) A5 rs.length c5 nilT A4 c4 w4 (by simp) (fun b hb=>hb.2) hT4 TmsK.nil)
    rw [←HR5.out] at HLS
    have HB4:=bz HBr hB4
    have HK4:=zq (HKr.out.call hB4)
    clear hB4 hT4 HBr HKr HO HT5
    have e4:tmV nilT A4 c4=.agg #[.int .i64 2,.int .i64 0,.string ⟨#[91,93]⟩,.slice A4 0 c4]:=rfl
    rw [e4] at HLS
    go_wp2_with fail
    refine HLS.out.mono ?_;rintro e w6 ⟨A6,c6,rfl,hB6,hT6⟩
    have HB6:=bz HB4 hB6
    have HK6:=zq (HK4.out.call hB6)
    have HT6:=zq hT6
    have HLE:Hid (w.heap.size+1≤w4.heap.size):=zq (HK4.out.lt 0 rfl)
    have HSZ6:=zq hB6.size
    clear hB6 hT6 HLS HB4 HK4 HR5
    have cc:=HK6.out.all
    simp only [bksAll,bkAll,Nat.zero_add,Nat.reduceAdd,and_true] at cc
    unfold tmV
    go_wp2_with fail
    refine bodyPost_ret (v:=.agg #[.int .i64 R.kind,.int .i64 R.num,.string R.name,.slice A6 R.args.length c6]) (by simp [results,Tryz.results140,go_sem,cc]) rfl ⟨A6,c6,rfl,put4_belowL HB6.out _ (Nat.le_refl _) _ _ _ _,?_⟩
    refine HT6.out.keep (fun b hb=>put4_block _ _ _ _ _ _ _ ?_) fun b hb=>⟨?_,?_⟩
    ·rcases hb with hb | hb
     ·omega
     ·have:=HLE.out;omega
    ·rcases hb with hb | hb
     ·omega
     ·have:=HLE.out;omega
    ·rcases hb with hb | hb
     ·have h1:=hb.2;simp;exact Nat.lt_of_lt_of_le h1 HSZ6.out
     ·simpa using hb.2
structure Pz (c:PC) (x:List Value) (NV NO:Nat) (fV:List UInt8→Option Nat) (fO:Nat→Nat) (nv:Value) (m:List (List UInt8×Nat)) (nv0:Value) (w0:World) (L:List (Nat×List Value)) (w:World):Prop where
 ok:c.Ok
 low:c.lo≤w0.heap.size
 bk:Bk w c.P x
 tk:TokAt w c.g c.E.T
 ops:OpsAt w c.OA c.E.P
 vm:NumMap Tryz.prog 9 2 w c.V NV fV
 om:CntMap Tryz.prog 2 3 w c.O NO fO
 nm:w.ownsRow c.lo 44 2 nv m.length (nmCells m)
 s:Stp c nv0 w0 nv w
 bs:Bks w L
 off:∀x∈L,¬c.mine nv x.1∧w0.heap.size≤x.1
theorem Pz.of {c:PC} {n:Nat} {v:VS} {nv0 nv:Value} {w0 w:World} {L:List (Nat×List Value)} (h:Wk c n v nv0 w0 nv w L) (p0:PsAt c n v nv0 w0) (hL:∀x∈L,w0.heap.size≤x.1):Pz c (c.cells n v nv) v.o.length v.o.length v.look (fun x=>v.o.count x) nv v.m nv0 w0 L w :=
 ⟨p0.ok,p0.low,h.p.bk,h.p.tk,h.p.ops,h.p.vm,h.p.om,h.p.nm,h.s,⟨fun x hx=>h.b.bk x (List.mem_append_left _ hx),by have:=h.b.ord;rw [List.map_append,List.pairwise_append] at this;exact this.1⟩,fun x hx=>⟨h.off x hx,hL x hx⟩⟩
theorem Pz.keep {c:PC} {x:List Value} {NV NO:Nat} {fV:List UInt8→Option Nat} {fO:Nat→Nat} {nv:Value} {m:List (List UInt8×Nat)} {nv0:Value} {w0 w w':World} {L:List (Nat×List Value)} (h:Pz c x NV NO fV fO nv m nv0 w0 L w) (hB:Below w.heap.size w w'):Pz c x NV NO fV fO nv m nv0 w0 L w' :=
 ⟨h.ok,h.low,h.bk.call hB,tok_keep h.tk (hB.block _ (by have:=h.ok.gl;have:=h.ok.p1;have:=h.low;have:=h.s.size;omega)),h.ops.below hB,h.vm.keep (hB.block _ h.vm.lt),h.om.keep (hB.block _ h.om.lt),row_keep h.nm fun k hk=>hB.block k (h.nm.lt k hk).2,h.s.trans (.of hB),h.bs.call hB,h.off⟩
theorem Pz.turn {c:PC} {x:List Value} {NV NO:Nat} {fV:List UInt8→Option Nat} {fO:Nat→Nat} {nv:Value} {m:List (List UInt8×Nat)} {nv0:Value} {w0 w w':World} {L:List (Nat×List Value)} (h:Pz c x NV NO fV fO nv m nv0 w0 L w) {b:Nat} (hb:c.mine nv b) (hg:w.grownBy w' (some b)) :
  TokAt w' c.g c.E.T∧OpsAt w' c.OA c.E.P∧Stp c nv0 w0 nv w'∧Bks w' L∧∀k,k<w.heap.size→k≠b→w'.heap[k]? = w.heap[k]?:=by
 have hk:∀k,k<w.heap.size→k≠b→w'.heap[k]? = w.heap[k]?:=fun k h1 h2=>hg.block k h1 fun e=>h2 (by injection e)
 have hs:=h.s.size
 have h1:=h.ok.p1
 have h2:=h.ok.v1
 have h3:=h.ok.o1
 have hlow:=h.low
 have hbB:c.B1≤b:=by
  rcases hb with e | e | e | e
  ·omega
  ·omega
  ·omega
  ·have:=(h.nm.lt b e).1;omega
 refine ⟨tok_keep h.tk (hk _ (by have:=h.ok.gl;omega) (by have:=h.ok.gl;omega)),ops_keep h.ops hg.size (fun hl k off e=>hk k (by have:=h.ok.ob hl k off e;omega) (by have:=h.ok.ob hl k off e;omega)),h.s.trans ⟨hg.os,hg.tape,hg.output,hg.size,fun k h1 h2=>hk k h1 (fun e=>h2 (e ▸ hb)),fun _ h=>.inl h⟩,h.bs.keep fun y hy=>hk _ (h.bs.bk y hy).lt (fun e=>(h.off y hy).1 (e ▸ hb)),hk⟩
theorem Pz.cell {c:PC} {x:List Value} {NV NO:Nat} {fV:List UInt8→Option Nat} {fO:Nat→Nat} {nv:Value} {m:List (List UInt8×Nat)} {nv0:Value} {w0 w:World} {L:List (Nat×List Value)} (h:Pz c x NV NO fV fO nv m nv0 w0 L w) (i:Nat) (u:Value):Pz c (x.set i u) NV NO fV fO nv m nv0 w0 L (w.setCell ⟨c.P,i,none⟩ u):=by
 have hg:w.grownBy (w.setCell ⟨c.P,i,none⟩ u) (some c.P):=⟨rfl,rfl,rfl,by simp,fun k _ hk=>heap_setCell_other _ _ _ _ (fun e=>hk (by rw [e]))⟩
 obtain ⟨h1,h2,h3,h4,hk⟩:=h.turn (.inl rfl) hg
 exact ⟨h.ok,h.low,h.bk.set i u,h1,h2,h.vm.keep (hk _ h.vm.lt (fun e=>h.ok.pv e.symm)),h.om.keep (hk _ h.om.lt (fun e=>h.ok.po e.symm)),row_keep h.nm (fun k hk2=>hk k (h.nm.lt k hk2).2 (by have:=(h.nm.lt k hk2).1;have:=h.ok.p1;omega)),h3,h4,h.off⟩
theorem Pz.vput {c:PC} {x:List Value} {NV NO N':Nat} {fV f':List UInt8→Option Nat} {fO:Nat→Nat} {nv:Value} {m:List (List UInt8×Nat)} {nv0:Value} {w0 w w':World} {L:List (Nat×List Value)} (h:Pz c x NV NO fV fO nv m nv0 w0 L w) (hm:NumMap Tryz.prog 9 2 w' c.V N' f') (hg:w.grownBy w' (some c.V)):Pz c x N' NO f' fO nv m nv0 w0 L w':=by
 obtain ⟨h1,h2,h3,h4,hk⟩:=h.turn (.inr (.inl rfl)) hg
 exact ⟨h.ok,h.low,h.bk.keeps (hk _ h.bk.lt h.ok.pv),h1,h2,hm,h.om.keep (hk _ h.om.lt (fun e=>h.ok.vo e.symm)),row_keep h.nm (fun k hk2=>hk k (h.nm.lt k hk2).2 (by have:=(h.nm.lt k hk2).1;have:=h.ok.v1;omega)),h3,h4,h.off⟩
theorem Pz.oput {c:PC} {x:List Value} {NV NO N':Nat} {fV:List UInt8→Option Nat} {fO f':Nat→Nat} {nv:Value} {m:List (List UInt8×Nat)} {nv0:Value} {w0 w w':World} {L:List (Nat×List Value)} (h:Pz c x NV NO fV fO nv m nv0 w0 L w) (hm:CntMap Tryz.prog 2 3 w' c.O N' f') (hg:w.grownBy w' (some c.O)):Pz c x NV N' fV f' nv m nv0 w0 L w':=by
 obtain ⟨h1,h2,h3,h4,hk⟩:=h.turn (.inr (.inr (.inl rfl))) hg
 exact ⟨h.ok,h.low,h.bk.keeps (hk _ h.bk.lt h.ok.po),h1,h2,h.vm.keep (hk _ h.vm.lt h.ok.vo),hm,row_keep h.nm (fun k hk2=>hk k (h.nm.lt k hk2).2 (by have:=(h.nm.lt k hk2).1;have:=h.ok.o1;omega)),h3,h4,h.off⟩
theorem Pz.grow {c:PC} {x:List Value} {NV NO:Nat} {fV:List UInt8→Option Nat} {fO:Nat→Nat} {nv nv':Value} {m:List (List UInt8×Nat)} {nv0:Value} {w0 w w':World} {L:List (Nat×List Value)} (h:Pz c x NV NO fV fO nv m nv0 w0 L w) (p:List UInt8×Nat)
  (ho:w'.ownsRow c.lo 44 2 nv' (m.length+1) (nmCells m++[.string ⟨p.1.toArray⟩,.int .i64 (p.2:Int)])) (hg:w.grownBy w' nv.ownBlock) (hat:nv'.ownBlock=nv.ownBlock∨nv'.ownBlock=some w.heap.size):Pz c x NV NO fV fO nv' (m++[p]) nv0 w0 L w':=by
 have hk:∀k,k<w.heap.size→nv.ownBlock≠some k→w'.heap[k]? = w.heap[k]?:=fun k h1 h2=>hg.block k h1 fun e=>h2 e.symm
 have hlo:∀k,k<c.lo→nv.ownBlock≠some k:=fun k h1 h2=>by have:=(h.nm.lt k h2).1;omega
 have hs:=h.s.size
 have h1:=h.ok.p1
 have h2:=h.ok.v1
 have h3:=h.ok.o1
 have hlow:=h.low
 have hstp:Stp c nv w nv' w':=⟨hg.os,hg.tape,hg.output,hg.size,fun b hb hm=>hk b hb (fun e=>hm (.inr (.inr (.inr e)))),fun b hb=>by
  rcases hat with e | e
  ·rw [e] at hb;exact .inl hb
  ·rw [e] at hb;injection hb with hb;exact .inr (by omega)⟩
 refine ⟨h.ok,h.low,h.bk.keeps (hk _ h.bk.lt (hlo _ (by omega))),tok_keep h.tk (hk _ (by have:=h.ok.gl;omega) (hlo _ (by have:=h.ok.gl;omega))),ops_keep h.ops hg.size (fun hl k off e=>hk k (by have:=h.ok.ob hl k off e;omega) (hlo _ (by have:=h.ok.ob hl k off e;omega))),h.vm.keep (hk _ h.vm.lt (hlo _ (by omega))),h.om.keep (hk _ h.om.lt (hlo _ (by omega))),?_,h.s.trans hstp,h.bs.keep fun y hy=>hk _ (h.bs.bk y hy).lt (fun e=>(h.off y hy).1 (.inr (.inr (.inr e)))),fun y hy=>⟨fun hm=>?_,(h.off y hy).2⟩⟩
 ·unfold nmCells at *
  rw [List.flatMap_append,List.length_append]
  exact ho
 ·rcases hm with e | e | e | e
  ·exact (h.off y hy).1 (.inl e)
  ·exact (h.off y hy).1 (.inr (.inl e))
  ·exact (h.off y hy).1 (.inr (.inr (.inl e)))
  ·rcases hat with e2 | e2
   ·rw [e2] at e;exact (h.off y hy).1 (.inr (.inr (.inr e)))
   ·rw [e2] at e;injection e with e
    have:=(h.bs.bk y hy).lt;omega
theorem Pz.back {c:PC} {n:Nat} {v:VS} {nv:Value} {nv0:Value} {w0 w:World} {L:List (Nat×List Value)} {N1 N2:Nat} {fV:List UInt8→Option Nat} {fO:Nat→Nat} {m:List (List UInt8×Nat)} {x:List Value} (h:Pz c x N1 N2 fV fO nv m nv0 w0 L w) (hx:x=c.cells n v nv) (h1:N1≤v.o.length) (h2:N2≤v.o.length) (hV:fV=v.look) (hO:fO=fun x=>v.o.count x) (hm:m=v.m) (hn:n<c.E.T.length) (hvn:v.o.length≤n) (hv:v.Ok):PsAt c n v nv w:=by
 subst hx hV hO hm
 have hom:CntMap Tryz.prog 2 3 w c.O v.o.length (fun x=>v.o.count x):=by
  obtain ⟨D,ho,hD⟩:=h.om;exact ⟨D,ho.mono h2,hD⟩
 exact ⟨h.ok,Nat.le_trans h.low h.s.size,h.bk,h.tk,h.ops,h.vm.mono h1,hom,h.nm,hn,hvn,hv⟩
theorem Pz.put4 {c:PC} {x:List Value} {NV NO:Nat} {fV:List UInt8→Option Nat} {fO:Nat→Nat} {nv:Value} {m:List (List UInt8×Nat)} {nv0:Value} {w0 w:World} {L:List (Nat×List Value)} (h:Pz c x NV NO fV fO nv m nv0 w0 L w) (j:Nat) {g:Nat} {u0 u1 u2 u3:Value} (hx:L[j]? = some (g,[u0,u1,u2,u3])) (v0 v1 v2 v3:Value) :
  Pz c x NV NO fV fO nv m nv0 w0 (L.set j (g,[v0,v1,v2,v3])) ((((w.setCell ⟨g,0,none⟩ v0).setCell ⟨g,1,none⟩ v1).setCell ⟨g,2,none⟩ v2).setCell ⟨g,3,none⟩ v3):=by
 have hb:=h.bs.set4 j hx v0 v1 v2 v3
 have ho:=h.off _ (List.mem_of_getElem? hx)
 have hk:∀k,k≠g→((((w.setCell ⟨g,0,none⟩ v0).setCell ⟨g,1,none⟩ v1).setCell ⟨g,2,none⟩ v2).setCell ⟨g,3,none⟩ v3).heap[k]? = w.heap[k]?:=fun k hk=>by
  rw [heap_setCell_other _ _ _ _ hk,heap_setCell_other _ _ _ _ hk,heap_setCell_other _ _ _ _ hk,heap_setCell_other _ _ _ _ hk]
 have hne:∀k,c.mine nv k→k≠g:=fun k hm e=>ho.1 (e ▸ hm)
 have hlt:∀k,k<c.B1→k≠g:=fun k hm e=>by have:=ho.2;have:=h.low;have:=h.ok.p1;simp only at *;omega
 refine ⟨h.ok,h.low,h.bk.keeps (hk _ (hne _ (.inl rfl))),tok_keep h.tk (hk _ (hlt _ h.ok.gl)),ops_keep h.ops (by simp) (fun hl b off e=>hk b (hlt b (h.ok.ob hl b off e))),h.vm.keep (hk _ (hne _ (.inr (.inl rfl)))),h.om.keep (hk _ (hne _ (.inr (.inr (.inl rfl))))),row_keep h.nm (fun b hb=>hk b (hne b (.inr (.inr (.inr hb))))),⟨h.s.os,h.s.tape,h.s.output,by simpa using h.s.size,fun b hb2 hm=>(hk b (by have:=ho.2;simp only at *;omega)).trans (h.s.block b hb2 hm),h.s.own⟩,hb,fun y hy=>?_⟩
 obtain ⟨z,hz,e⟩:=set_fst [v0,v1,v2,v3] hx y hy
 rw [←e];exact h.off z hz
theorem put4_belowR {B:Nat} {w0 w:World} (h:Below B w0 w) (g:Nat) (hg:B≤g) (x y z u:Value):Below B w0 ((((w.setCell ⟨g,0,none⟩ x).setCell ⟨g,1,none⟩ y).setCell ⟨g,2,none⟩ z).setCell ⟨g,3,none⟩ u) :=
 (((h.setCell (p:=⟨_,_,none⟩) hg _).setCell (p:=⟨_,_,none⟩) hg _).setCell (p:=⟨_,_,none⟩) hg _).setCell (p:=⟨_,_,none⟩) hg _
theorem infoVN:(Tryz.prog.info? 44).map (fun i=>(i.zero,i.size,i.bytes))=some (some (.agg #[.string ⟨#[]⟩,.int .i64 0]),2,24):=by kernel_rfl
theorem wpList_app_name {w W:World} {ops:Array Oper} {rest:List Oper} {o:Oper} {a:Act} {Q:Exit→Act→World→Prop} (hgd:o.guard=none) (s x:Operand)
  (ho:o.op=.call { callee:=.builtin .append,args:=#[s,x],argTypes:=#[31,31] }) {c:PC} {xs:List Value} {NV NO:Nat} {fV:List UInt8→Option Nat} {fO:Nat→Nat} {nv:Value} {m:List (List UInt8×Nat)} {nv0:Value} {w0:World} {L:List (Nat×List Value)} (h:Pz c xs NV NO fV fO nv m nv0 w0 L W) (hs:a.eval s=nv)
  (p:List UInt8×Nat) (hw:w=W.alloc (.cells #[.string ⟨p.1.toArray⟩,.int .i64 (p.2:Int)] 44)) (hx:a.eval x=.slice (some ⟨W.heap.size,0,none⟩) 1 1) (hn:m.length≤100000)
  (K:∀v' w',Hid (Pz c xs NV NO fV fO v' (m++[p]) nv0 w0 L w')→wpList Tryz.prog ops Q rest (a.put o.dst v') w'):wpList Tryz.prog ops Q (o::rest) a w:=by
 obtain ⟨i,hi,hz0,hz1,hz2⟩:=info_parts infoVN
 subst hw
 have hB:Below W.heap.size W (W.alloc (.cells #[.string ⟨p.1.toArray⟩,.int .i64 (p.2:Int)] 44)):=(Below.refl _ _).alloc (Nat.le_refl _) _
 have h1:=h.keep hB
 have hlo:c.lo≤W.heap.size:=Nat.le_trans h.low h.s.size
 refine wpList_append_own_at _ hgd s x 31 ho c.lo 44 i _ 2 24 Tryz.underlying31 hi hz0 hz1 hz2 rfl (by decide) nv m.length (nmCells m) hs h1.nm ⟨W.heap.size,0,none⟩ 1 1 [.string ⟨p.1.toArray⟩,.int .i64 (p.2:Int)] hx rfl ?_ (by
   intro y hy
   simp only [List.mem_cons,List.mem_nil_iff,or_false] at hy
   rcases hy with rfl|rfl <;> rfl) (by unfold maxLen;omega) (by omega) (by simp;omega) ?_
 ·intro j y hy
  rw [addr_add]
  have:=World.cell?_alloc_new W #[.string ⟨p.1.toArray⟩,.int .i64 (p.2:Int)] 44 j
  rw [show 0+j=j by omega,this]
  simpa using hy
 ·intro v' w' hown hgr _ hat
  exact K v' w' (zq (h1.grow p hown hgr hat))
theorem VS.step_look (v:VS) (x:List UInt8):(v.step x).look=if v.old x=true∨x=[95] then v.look else updO v.look x (some v.c):=by
 funext y
 by_cases h:v.old x=true∨x=[95]
 ·rw [if_pos h]
  unfold VS.look VS.step
  simp only [h,if_true]
 ·rw [if_neg h]
  have hx:¬x=[95]:=fun e=>h (.inr e)
  have hl:v.look x=none:=by
   cases hk:v.look x with
   | none=>rfl
   | some k=>exact absurd (.inl (by unfold VS.old;simp [hx,hk])) h
  have:=VS.look_snoc v x v.c (v.step x).c (v.step x).o hl y
  unfold updO
  rw [←this]
  unfold VS.look VS.step
  simp only [h,if_false]
theorem cnt_step (v:VS) (x:List UInt8):updO (fun y=>v.o.count y) (v.num x) (v.o.count (v.num x)+1)=fun y=>(v.step x).o.count y:=by
 funext y
 unfold updO VS.step
 simp only [List.count_append,List.count_singleton]
 by_cases e:y=v.num x
 ·subst e;simp
 ·rw [if_neg e];simp;exact fun h=>e h.symm
theorem t_var (n:Int) (hn:0≤n∧n≤1099511627776) (w:World):Calls Tryz.prog 174 #[.int .i64 n] w fun e w'=>e=.returned (.agg #[.int .i64 0,.int .i64 n,.string ⟨#[]⟩,.slice none 0 0])∧Below w.heap.size w w':=by
 have hN:∀W:World,Calls Tryz.prog 196 #[.int .i64 n] W fun e w'=>e=.returned (.bool true)∧Below W.heap.size W w':=fun W=>by
  have h1:decide (0≤n)=true:=decide_eq_true hn.1
  have h2:decide (n≤1099511627776)=true:=decide_eq_true hn.2
  clear hn
  go_enter Tryz.func196,Tryz.ntmps196
  go_wp2_with fail
  go_ret
  exact ⟨rfl,Below.refl _ _⟩
 have HN:=zq hN
 have HB:=zq ((Below.refl w.heap.size w).alloc (Nat.le_refl _) (.cells #[.int .i64 0,.int .i64 0,.string ⟨#[]⟩,.slice none 0 0] 30))
 have HK:=zq ((Bks.nil w).new [.int .i64 0,.int .i64 0,.string ⟨#[]⟩,.slice none 0 0] 30 rfl)
 clear hn hN
 go_enter Tryz.func174,Tryz.ntmps174
 go_wp2_with fail
 refine (HN.out _).mono ?_;rintro e w1 ⟨rfl,hB⟩
 have cc:=(HK.out.call hB).all
 simp only [bksAll,bkAll,Nat.zero_add,Nat.reduceAdd,and_true] at cc
 have hB1:=HB.out.trans (hB.mono HB.out.size)
 go_wp2_with fail
 refine bodyPost_ret (v:=.agg #[.int .i64 0,.int .i64 n,.string ⟨#[]⟩,.slice none 0 0]) (by simp [results,Tryz.results174,go_sem,cc]) rfl ⟨rfl,?_⟩
 exact put4_belowR hB1 _ (Nat.le_refl _) _ _ _ _
theorem zero64 (w:World):(zeroValue 2).run Tryz.prog w=.ok (.int .i64 0) w:=by kernel_rfl
theorem zeroI (w:World):(zeroValue 3).run Tryz.prog w=.ok (.int .i64 0) w:=by kernel_rfl
set_option maxHeartbeats 3200000 in
theorem rd_variable {c:PC} {n:Nat} {v:VS} {nv:Value} {w:World} (p:PsAt c n v nv w) (t:ByteArray) (ht:t.size≤20000) (hn:v.o.length<n):Calls Tryz.prog 139 #[.pointer (some ⟨c.P,0,none⟩),.string t] w fun e w'=>e=.returned (.agg #[.int .i64 0,.int .i64 (v.num t.data.toList:Nat),.string ⟨#[]⟩,.slice none 0 0])∧∃nv',PsAt c n (v.step t.data.toList) nv' w'∧Stp c nv w nv' w':=by
 have hvo:v.o.length≤20000:=by have:=p.n1;have:=p.ok.len;omega
 have hvc:v.c≤20000:=by have:=p.vc.co;omega
 have hvm:v.m.length≤20000:=by have:=p.vc.mo;omega
 have hnum:=VS.num_le p.vc t.data.toList
 have hK:v.num t.data.toList≤20000:=by omega
 have h0:=Pz.of ((Wk.start p).new [.int .i64 0,.int .i64 0,.string ⟨#[]⟩,.slice none 0 0] 30 rfl) p (by intro x hx;rw [List.mem_singleton] at hx;subst hx;exact Nat.le_refl _)
 obtain ⟨lc,lb,hlk,hls⟩:=h0.vm.look Tryz.underlying9 Tryz.underlying69 Tryz.underlying2 t (by unfold maxLen;omega) (zero64 _)
 obtain ⟨W0,HW0⟩:=lz (w.alloc (.cells #[.int .i64 0,.int .i64 0,.string ⟨#[]⟩,.slice none 0 0] 30))
 have HP0:=zq h0
 rw [←HW0.out] at HP0 hlk
 have HVO:=zq hvo
 have HVC:=zq hvc
 have HVM:=zq hvm
 have HK:=zq hK
 have HBACK:=zq (⟨p.n1,hn,p.vc⟩:n<c.E.T.length∧v.o.length<n∧v.Ok)
 have HL:=zq hls
 have HTS:Hid ((t.toList==[95])=decide (t.data.toList=[95])):=zq (by rw [tl_dataR];by_cases h:t.data.toList=[95] <;> simp [h])
 have hcnt:∀(W:World) (f:Nat→Nat) (N:Nat),CntMap Tryz.prog 2 3 W c.O N f→N≤20000→f (v.num t.data.toList)≤20000→(Instr.lookup 70 (.map (some c.O)) (.int .i64 (v.num t.data.toList:Nat)) false).run Tryz.prog W=.ok (.int .i64 (f (v.num t.data.toList):Nat)) W∧∃W',(Instr.mapUpdate 70 (.map (some c.O)) (.int .i64 (v.num t.data.toList:Nat)) (.int .i64 ((f (v.num t.data.toList):Nat)+1:Int))).run Tryz.prog W=.ok () W'∧CntMap Tryz.prog 2 3 W' c.O (N+1) (updO f (v.num t.data.toList) (f (v.num t.data.toList)+1))∧W.grownBy W' (some c.O):=fun W f N h h1 h2=>
  ⟨h.look Tryz.underlying2 Tryz.underlying70 Tryz.underlying3 _ (by omega) (zeroI _),h.put Tryz.underlying2 Tryz.underlying70 Tryz.underlying3 _ (f (v.num t.data.toList)+1) (by omega) (by unfold maxLen;omega) (by omega)⟩
 have HCNT:=zq hcnt
 have hcl:v.o.count (v.num t.data.toList)≤20000:=Nat.le_trans List.count_le_length hvo
 have HCL:=zq hcl
 clear hvo hvc hvm hnum hK h0 hls hcnt hcl p hn
 have HEND:Hid (∀(N1 N2:Nat) (fV:List UInt8→Option Nat) (fO:Nat→Nat) (nv':Value) (m:List (List UInt8×Nat)) (x:List Value) (W:World) (L:List (Nat×List Value)),Pz c x N1 N2 fV fO nv' m nv w L W→x=c.cells n (v.step t.data.toList) nv'→N1≤v.o.length+1→N2≤v.o.length+1→fV=(v.step t.data.toList).look→fO=(fun y=>(v.step t.data.toList).o.count y)→m=(v.step t.data.toList).m→∃nv',PsAt c n (v.step t.data.toList) nv' W∧Stp c nv w nv' W):=zq fun N1 N2 fV fO nv' m x W L h hx h1 h2 hV hO hm=>
  ⟨nv',h.back hx (by rw [VS.step_len];exact h1) (by rw [VS.step_len];exact h2) hV hO hm HBACK.out.1 (by rw [VS.step_len];exact HBACK.out.2.1) (VS.step_ok HBACK.out.2.2 _),h.s⟩
 by_cases hold:v.old t.data.toList=true
 ·obtain ⟨hx,k,hk⟩:=VS.look_old hold
  have ht1:(t.toList==[95])=false:=by rw [HTS.out];simpa using hx
  obtain ⟨rfl,rfl⟩:=HL.out hx
  have hnk:v.num t.data.toList=k:=by unfold VS.num;rw [if_neg hx,hk];rfl
  have e1:(v.look t.data.toList).isSome=true:=by rw [hk];rfl
  have e2:(v.look t.data.toList).getD 0=v.num t.data.toList:=by rw [hk,hnk];rfl
  rw [e1,e2] at hlk
  have HST:Hid ((v.step t.data.toList).c=v.c∧(v.step t.data.toList).m=v.m∧(v.step t.data.toList).look=v.look):=zq ⟨by unfold VS.step;simp [hold],by unfold VS.step;simp [hold],by rw [VS.step_look,if_pos (.inl hold)]⟩
  have hw:=HW0.out
  clear HL HTS hold hx hk hnk e1 e2
  have cc0:=HP0.out.bk.all0
  simp only [PC.cells,List.set_cons_zero,List.set_cons_succ,bkAll,Nat.zero_add,Nat.reduceAdd,and_true] at cc0
  obtain ⟨hlk2,wo1,hup2,hom2,hg2⟩:=HCNT.out W0 _ _ HP0.out.om (by have:=HVO.out;omega) HCL.out
  have HP1:=zq (HP0.out.oput hom2 hg2)
  have hci:wrap64 ((v.o.count (v.num t.data.toList):Int)+1)=(v.o.count (v.num t.data.toList):Int)+1:=inc64 (by have:=HCL.out;omega)
  clear hom2 hg2
  go_enter Tryz.func139,Tryz.ntmps139
  go_upto_region 1 with fail
  rw [←hw]
  clear hw
  go_wp2_with fail
  clear cc0 hlk hlk2 hup2
  refine (t_var (v.num t.data.toList:Nat) (by have:=HK.out;omega) _).mono ?_;rintro e wl ⟨rfl,hB⟩
  have HPL:=zq (HP1.out.keep hB)
  clear hB
  have cl:=HPL.out.bs.all
  simp only [bksAll,bkAll,Nat.zero_add,Nat.reduceAdd,and_true] at cl
  go_wp2_with fail
  refine bodyPost_ret (v:=.agg #[.int .i64 0,.int .i64 (v.num t.data.toList:Nat),.string ⟨#[]⟩,.slice none 0 0]) (by simp [results,Tryz.results139,go_sem,cl]) rfl ⟨rfl,?_⟩
  have hz:=HPL.out.put4 0 rfl (.int .i64 0) (.int .i64 (v.num t.data.toList:Nat)) (.string ⟨#[]⟩) (.slice none 0 0)
  exact HEND.out _ _ _ _ _ _ _ _ _ hz (by unfold PC.cells;rw [HST.out.1]) (Nat.le_succ _) (Nat.le_refl _) HST.out.2.2.symm (cnt_step v _) HST.out.2.1.symm
 by_cases hx:t.data.toList=[95]
 ·have ht1:(t.toList==[95])=true:=by rw [HTS.out];simpa using hx
  have ht2:(t.toList != [95])=false:=by simp [bne,ht1]
  have hnk:v.num t.data.toList=v.c:=by unfold VS.num;rw [if_pos hx]
  have HST:Hid ((v.step t.data.toList).c=v.c+1∧(v.step t.data.toList).m=v.m∧(v.step t.data.toList).look=v.look):=zq ⟨by unfold VS.step;simp [hold],by unfold VS.step;simp [hx],by rw [VS.step_look,if_pos (.inr hx)]⟩
  have hw:=HW0.out
  have hc2:wrap64 ((v.c:Int)+1)=(v.c:Int)+1:=inc64 (by have:=HVC.out;omega)
  obtain ⟨w2,hup,hvm2,hgv⟩:=(HP0.out.cell 6 (.int .i64 ((v.c:Int)+1))).vm.put Tryz.underlying9 Tryz.underlying69 Tryz.underlying2 t v.c (by unfold maxLen;omega) (by have:=HVO.out;unfold maxLen;omega) (by have:=HVC.out;omega)
  have HP2:=zq ((HP0.out.cell 6 (.int .i64 ((v.c:Int)+1))).vput hvm2 hgv)
  clear hvm2 hgv
  rw [if_pos hx] at HP2
  have cc0:=HP0.out.bk.all0
  simp only [PC.cells,List.set_cons_zero,List.set_cons_succ,bkAll,Nat.zero_add,Nat.reduceAdd,and_true] at cc0
  have cc2:=HP2.out.bk.all0
  simp only [PC.cells,List.set_cons_zero,List.set_cons_succ,bkAll,Nat.zero_add,Nat.reduceAdd,and_true] at cc2
  obtain ⟨hlk2,wo3,hup2,hom2,hg2⟩:=HCNT.out w2 _ _ HP2.out.om (by have:=HVO.out;omega) HCL.out
  have HP3:=zq (HP2.out.oput hom2 hg2)
  have hci:wrap64 ((v.o.count (v.num t.data.toList):Int)+1)=(v.o.count (v.num t.data.toList):Int)+1:=inc64 (by have:=HCL.out;omega)
  clear hom2 hg2
  rw [hnk] at hlk2 hup2 hci
  have HNK:=zq hnk
  clear HL HTS hold hx hnk
  cases lb
  all_goals
   go_enter Tryz.func139,Tryz.ntmps139
   go_upto_region 1 with fail
   rw [←hw]
   clear hw
   go_wp2_with fail
   clear cc0 cc2 hlk hlk2 hup2 hup
   refine (t_var (v.c:Nat) (by have:=HVC.out;omega) _).mono ?_;rintro e wl ⟨rfl,hB⟩
   have HPL:=zq (HP3.out.keep hB)
   clear hB
   have cl:=HPL.out.bs.all
   simp only [bksAll,bkAll,Nat.zero_add,Nat.reduceAdd,and_true] at cl
   go_wp2_with fail
   refine bodyPost_ret (v:=.agg #[.int .i64 0,.int .i64 (v.c:Nat),.string ⟨#[]⟩,.slice none 0 0]) (by simp [results,Tryz.results139,go_sem,cl]) rfl ⟨by rw [HNK.out],?_⟩
   have hz:=HPL.out.put4 0 rfl (.int .i64 0) (.int .i64 (v.c:Nat)) (.string ⟨#[]⟩) (.slice none 0 0)
   exact HEND.out _ _ _ _ _ _ _ _ _ hz (by unfold PC.cells;rw [HST.out.1];rfl) (Nat.le_refl _) (Nat.le_refl _) HST.out.2.2.symm (cnt_step v _) HST.out.2.1.symm
 have ht1:(t.toList==[95])=false:=by rw [HTS.out];simpa using hx
 have ht2:(t.toList != [95])=true:=by simp [bne,ht1]
 have hnone:v.look t.data.toList=none:=by
  cases hk:v.look t.data.toList with
  | none=>rfl
  | some k=>exact absurd (by unfold VS.old;simp [hx,hk]) hold
 obtain ⟨rfl,rfl⟩:=HL.out hx
 rw [hnone] at hlk
 have hnk:v.num t.data.toList=v.c:=by unfold VS.num;rw [if_neg hx,hnone];rfl
 have HST:Hid ((v.step t.data.toList).c=v.c+1∧(v.step t.data.toList).m=v.m++[(t.data.toList,v.c)]∧(v.step t.data.toList).look=updO v.look t.data.toList (some v.c)):=zq ⟨by unfold VS.step;simp [hold],by unfold VS.step;simp [hold,hx],by rw [VS.step_look,if_neg (by simp [hold,hx])]⟩
 have hw:=HW0.out
 have hc2:wrap64 ((v.c:Int)+1)=(v.c:Int)+1:=inc64 (by have:=HVC.out;omega)
 obtain ⟨w2,hup,hvm2,hgv⟩:=(HP0.out.cell 6 (.int .i64 ((v.c:Int)+1))).vm.put Tryz.underlying9 Tryz.underlying69 Tryz.underlying2 t v.c (by unfold maxLen;omega) (by have:=HVO.out;unfold maxLen;omega) (by have:=HVC.out;omega)
 have HP2:=zq ((HP0.out.cell 6 (.int .i64 ((v.c:Int)+1))).vput hvm2 hgv)
 clear hvm2 hgv
 rw [if_neg hx] at HP2
 have cc0:=HP0.out.bk.all0
 simp only [PC.cells,List.set_cons_zero,List.set_cons_succ,bkAll,Nat.zero_add,Nat.reduceAdd,and_true] at cc0
 have cc2:=HP2.out.bk.all0
 simp only [PC.cells,List.set_cons_zero,List.set_cons_succ,bkAll,Nat.zero_add,Nat.reduceAdd,and_true] at cc2
 have HNK:=zq hnk
 clear HL HTS hold hx hnk hnone
 go_enter Tryz.func139,Tryz.ntmps139
 go_upto_region 1 with fail
 rw [←hw]
 clear hw
 go_wp2_with (at_builtin;go_must (refine wpList_app_name rfl _ _ rfl HP2.out rfl (t.data.toList,v.c) rfl rfl (by have:=HVM.out;omega) ?_;intro nv3 w3 HP3;(obtain ⟨A3,k3,rfl⟩:=own_slice HP3.out.nm);(obtain ⟨n3,hn3⟩:∃n3,(v.m++[(t.data.toList,v.c)]).length=n3:=⟨_,rfl⟩);rw [hn3] at HP3 ⊢;have HP4:=zq (HP3.out.cell 7 (.slice A3 n3 k3));(obtain ⟨hlk2,wo5,hup2,hom2,hg2⟩:=HCNT.out (w3.setCell ⟨c.P,7,none⟩ (.slice A3 n3 k3)) _ _ HP4.out.om (by have:=HVO.out;omega) HCL.out);have HP5:=zq (HP4.out.oput hom2 hg2);have hci:wrap64 ((v.o.count (v.num t.data.toList):Int)+1)=(v.o.count (v.num t.data.toList):Int)+1:=inc64 (by have:=HCL.out;omega);rw [HNK.out] at hlk2 hup2 hci;clear hom2 hg2;have cc3:=HP3.out.bk.all0;simp only [PC.cells,List.set_cons_zero,List.set_cons_succ,bkAll,Nat.zero_add,Nat.reduceAdd,and_true] at cc3))
 clear cc0 cc2 cc3 hlk hlk2 hup2 hup
 refine (t_var (v.c:Nat) (by have:=HVC.out;omega) _).mono ?_;rintro e wl ⟨rfl,hB⟩
 have HPL:=zq (HP5.out.keep hB)
 clear hB
 have cl:=HPL.out.bs.all
 simp only [bksAll,bkAll,Nat.zero_add,Nat.reduceAdd,and_true] at cl
 go_wp2_with fail
 refine bodyPost_ret (v:=.agg #[.int .i64 0,.int .i64 (v.c:Nat),.string ⟨#[]⟩,.slice none 0 0]) (by simp [results,Tryz.results139,go_sem,cl]) rfl ⟨by rw [HNK.out],?_⟩
 have hz:=HPL.out.put4 0 rfl (.int .i64 0) (.int .i64 (v.c:Nat)) (.string ⟨#[]⟩) (.slice none 0 0)
 exact HEND.out _ _ _ _ _ _ _ _ _ hz (by unfold PC.cells;rw [HST.out.1];rfl) (Nat.le_refl _) (Nat.le_refl _) HST.out.2.2.symm (cnt_step v _) HST.out.2.1.symm
end Go.Proofs.YtbojljpldcijgaaGreat
namespace Hb
open Go Go.RowKit
def preR (acc:List Tm):RR (List Tm×Nat)→RR (List Tm×Nat)
 | .error k=>.error k
 | .ok (l,m)=>.ok (acc++l,m)
theorem preR_nil (r:RR (List Tm×Nat)):preR [] r=r:=by cases r <;> rfl
theorem preR_pre (a b:List Tm) (r:RR (List Tm×Nat)):preR a (preR b r)=preR (a++b) r:=by
 cases r with
 | error k=>rfl
 | ok x=>simp [preR]
theorem rowG_succ (E:RE) (S:PT) (k n:Nat):rowG E S (k+1) n=match S 999 n with
  | .error e=>.error e
  | .ok (t,_,m)=>if isP (E.at m) [44]=true then preR [t] (rowG E S k (m+1)) else .ok ([t],m):=by
 rw [rowG]
 cases S 999 n with
 | error e=>rfl
 | ok x=>
  simp only
  split
  ·cases rowG E S k (x.2.2+1) <;> rfl
  ·rfl
end Hb
namespace Go.Proofs.YtbojljpldcijgaaGreat
open Go.RowKit Hb
set_option maxRecDepth 100000
set_option linter.unusedSimpArgs false
def TOut (c:PC) (n:Nat) (nv:Value) (w0:World) (r:RR (Tm×Int×Nat)) (e:Ending) (w':World):Prop:=match r with
 | .error k=>Bad c nv w0 k e w'
 | .ok (t,p,m)=>n<m∧∃A cap nv',e=.returned (.tuple #[tmV t A cap,.int .i64 p])∧PsAt c m (vsAt c.E.T m) nv' w'∧Stp c nv w0 nv' w'∧TmsK (c.new nv' w0 w') w' A t.args
def ROut (c:PC) (n:Nat) (nv:Value) (w0:World) (r:RR (List Tm×Nat)) (e:Ending) (w':World):Prop:=match r with
 | .error k=>Bad c nv w0 k e w'
 | .ok (l,m)=>n<m∧∃A cap nv',e=.returned (.slice A l.length cap)∧PsAt c m (vsAt c.E.T m) nv' w'∧Stp c nv w0 nv' w'∧TmsK (c.new nv' w0 w') w' A l
def BOut (c:PC) (n:Nat) (nv:Value) (w0:World) (r:RR (Tm×Nat)) (e:Ending) (w':World):Prop:=match r with
 | .error k=>Bad c nv w0 k e w'
 | .ok (t,m)=>n<m∧∃A cap nv',e=.returned (tmV t A cap)∧PsAt c m (vsAt c.E.T m) nv' w'∧Stp c nv w0 nv' w'∧TmsK (c.new nv' w0 w') w' A t.args
def COut (c:PC) (n:Nat) (nv:Value) (w0:World) (r:RR (Option Tm×Nat)) (e:Ending) (w':World):Prop:=match r with
 | .error k=>Bad c nv w0 k e w'
 | .ok (some t,m)=>n<m∧∃A cap nv',e=.returned (.tuple #[tmV t A cap,.bool true])∧PsAt c m (vsAt c.E.T m) nv' w'∧Stp c nv w0 nv' w'∧TmsK (c.new nv' w0 w') w' A t.args
 | .ok (none,m)=>m=n∧e=.returned (.tuple #[.agg #[.int .i64 0,.int .i64 0,.string ⟨#[]⟩,.slice none 0 0],.bool false])∧PsAt c n (vsAt c.E.T n) nv w'∧Stp c nv w0 nv w'
def TrmOk (c:PC) (S:PT) (k:Nat):Prop:=∀(most:Int) (n:Nat) (nv:Value) (w:World),k≤n→PsAt c n (vsAt c.E.T n) nv w→Calls Tryz.prog 56 #[.pointer (some ⟨c.P,0,none⟩),.int .i64 most] w (TOut c n nv w (S most n))
theorem PsAt.skip {c:PC} {n:Nat} {nv:Value} {w:World} (hk:isV (c.E.at n)=false) (hn:n<c.E.T.length) (p:PsAt c (n+1) (vsAt c.E.T n) nv w):PsAt c (n+1) (vsAt c.E.T (n+1)) nv w:=by rw [vs_skip hn hk];exact p
set_option maxHeartbeats 3200000 in
theorem rd_row {c:PC} {S:PT} {k n:Nat} {nv:Value} {w:World} (hS:TrmOk c S k) (hk:k≤n) (p:PsAt c n (vsAt c.E.T n) nv w) :
  Calls Tryz.prog 180 #[.pointer (some ⟨c.P,0,none⟩)] w (ROut c n nv w (rowX c.E S n)):=by
 obtain ⟨R,HR⟩:=lz (rowX c.E S n)
 rw [←HR.out]
 have HS:=zq hS
 have HQ0:=zq (Wk.start p)
 have HK:=zq hk
 have HLN:=zq p.ok.len
 clear p hS hk
 go_enter Tryz.func180,Tryz.ntmps180
 go_wp2_with fail
 go_loopw [3] (fun v3 wr=>∃(n':Nat) (nv':Value) (rs:List TR) (j:Nat),n≤n'∧(rs=[]∨n<n')∧c.E.T.length≤n'+j∧rs.length≤n'∧Hid (Wk c n' (vsAt c.E.T n') nv w nv' wr [])∧Hid (OwnT c nv' w wr [] v3 rs)∧Hid (R=preR (rs.map (·.1)) (rowG c.E S j n'))) (fun _ wr=>match wr.cell? ⟨c.P,1,none⟩ with | some (.int _ i)=>c.E.T.length-i.toNat | _=>0)
 case atStart=>exact ⟨n,nv,[],c.E.T.length,Nat.le_refl _,.inl rfl,by omega,Nat.zero_le _,HQ0,zq (OwnT.nul _ _ _ _ _),zq (by rw [HR.out,List.map_nil,preR_nil];rfl)⟩
 case round=>
  obtain ⟨n',nv',rs,j,hnn,hrs,hj,hrl,HQ,HO,HE⟩:=hrel
  have hn1:=HQ.out.p.n1
  obtain ⟨j,rfl⟩:∃i,j=i+1:=⟨j-1,by omega⟩
  obtain ⟨A3,c3,hv3,_⟩:=HO.out.tms
  subst hv3
  have HC:=zq (HS.out 999 n' nv' wr (Nat.le_trans HK.out hnn) HQ.out.p)
  have HE2:=zq (rowG_succ c.E S j n')
  have HNN:=zq (⟨hnn,hj,hrl,hn1⟩:_∧_∧_∧_)
  have hpc:wr.cell? ⟨c.P,1,none⟩=some (.int .i64 (n':Int)):=HQ.out.p.bk.c 1 _ rfl
  have HPC:=zq hpc
  clear hnn hrs hj hrl hn1 hpc
  rcases hs:S 999 n' with e | ⟨t,pr,m⟩
  ·rw [hs] at HC HE2
   have HV:Hid (R=.error e):=zq (by rw [HE.out,HE2.out];rfl)
   rw [HV.out]
   clear hs HE HE2
   go_wp2_with fail
   refine HC.out.mono ?_;rintro e w1 ⟨rfl,hB1⟩
   exact ⟨rfl,rfl,HQ.out.fall hB1⟩
  ·rw [hs] at HC HE2
   clear hs
   go_wp2_with fail
   refine HC.out.mono ?_;rintro e w1 ⟨hnm,At,ct,nv1,rfl,hp1,hs1,ht1⟩
   have HQ1:=zq (HQ.out.step hp1 hs1)
   have HO1:=zq (HO.out.step hs1)
   have hwr:=HQ.out.s.size
   have ht1':TmsK (fun b=>(c.new nv1 w w1 b∧b ∉ ([]:List Nat))∧(Value.slice A3 rs.length c3).ownBlock≠some b) w1 At t.args:=ht1.keep (fun _ _=>rfl) fun b hb=>⟨⟨⟨Nat.le_trans hwr hb.1,hb.2⟩,by simp⟩,fun e=>by
    have:=(HO.out.own.lt b e).2;have:=hb.1;omega⟩
   have HT1:=zq ht1'
   have HM:=zq hnm
   clear hp1 hs1 ht1 ht1' hnm HC HQ HO hwr
   obtain ⟨wb,HWB⟩:=lz (w1.alloc (.cells #[.int .i64 t.kind,.int .i64 t.num,.string t.name,.slice At t.args.length ct] 30))
   have hBb:Below w1.heap.size w1 wb:=by rw [HWB.out];exact (Below.refl _ _).alloc (Nat.le_refl _) _
   have hBk:Bk wb w1.heap.size [.int .i64 t.kind,.int .i64 t.num,.string t.name,.slice At t.args.length ct]:=by rw [HWB.out];exact Bk.new w1 _ _
   have HQ2:=zq (HQ1.out.call hBb)
   have HO2:=zq (HO1.out.call hBb)
   have HT2:=zq (HT1.out.keep (fun b hb=>hBb.block b hb.1.1.2.1) fun b hb=>(⟨⟨⟨hb.1.1.1,Nat.lt_of_lt_of_le hb.1.1.2.1 hBb.size,hb.1.1.2.2⟩,hb.1.2⟩,hb.2⟩:(c.new nv1 w wb b∧b ∉ ([]:List Nat))∧(Value.slice A3 rs.length c3).ownBlock≠some b))
   have cb:=hBk.all0
   simp only [bkAll,Nat.zero_add,Nat.reduceAdd,and_true] at cb
   have HSZ:Hid (w.heap.size≤wb.heap.size):=zq HQ2.out.s.size
   have HRL:Hid (rs.length≤100000):=zq (by have:=HNN.out;have:=HLN.out;omega)
   clear hBb hBk HQ1 HO1 HT1
   unfold tmV
   go_upto_region 3 with fail
   rw [←HWB.out]
   clear HWB
   go_wp2_with (at_builtin;go_must (refine wpList_app_term rfl _ _ rfl c m _ nv1 w [] _ rs rfl HO2.out HQ2.out.p HSZ.out (by simp) (t,At,ct) HT2.out _ rfl rfl rfl HRL.out ?_;intro v4 w4 HO4 HG4;have HQ4:=zq ((HQ2.out.call ((Below.refl _ _).alloc (Nat.le_refl _) (.cells (rowC (t,At,ct)).toArray 30))).grown (HO2.out.call ((Below.refl _ _).alloc (Nat.le_refl _) (.cells (rowC (t,At,ct)).toArray 30))) (by simp) HG4.out)))
   clear cb HO2 HT2 HQ2
   cases hc:isP (c.E.at m) [44]
   ·have HV:Hid (R=.ok (rs.map (·.1)++[t],m)):=zq (by rw [HE.out,HE2.out];simp only [hc];rfl)
    refine (rd_take_no HQ4.out.p ⟨#[44]⟩ hc).mono ?_;rintro e w5 ⟨rfl,hB5⟩
    have HQ5:=zq (HQ4.out.call hB5)
    obtain ⟨A4,c4,hv4,ht4⟩:=(HO4.out.call hB5).tms
    have HT5:=zq ht4
    subst hv4
    clear hB5 HQ4 HO4 HE HE2 hc ht4
    go_wp2_with fail
    go_ret
    rw [HV.out]
    exact ⟨Nat.lt_of_le_of_lt HNN.out.1 HM.out,A4,c4,nv1,by rw [show (rs.map (·.1)++[t]).length=rs.length+1 by simp];rfl,HQ5.out.p,HQ5.out.s,by have:=HT5.out.out;rwa [List.map_append] at this⟩
   ·have hv0:=isV_punct hc
    have hmore:=HQ4.out.p.more (isP_kind hc)
    have HV:Hid (R=preR ((rs++[((t,At,ct):TR)]).map (·.1)) (rowG c.E S j (m+1))):=zq (by rw [HE.out,HE2.out];simp only [hc,if_true];rw [preR_pre,List.map_append];rfl)
    refine (rd_take_yes HQ4.out.p ⟨#[44]⟩ hc).mono ?_;rintro e w5 ⟨rfl,hp5,hs5⟩
    have HQ5:=zq (HQ4.out.step (PsAt.skip hv0 HQ4.out.p.n1 hp5) hs5)
    have HO5:=zq (HO4.out.step hs5)
    have hpc5:w5.cell? ⟨c.P,1,none⟩=some (.int .i64 ((m+1:Nat):Int)):=HQ5.out.p.bk.c 1 _ rfl
    have HPC5:=zq hpc5
    have HMM:=zq (⟨HM.out,hmore⟩:n'<m∧m+1<c.E.T.length)
    clear hp5 hs5 HQ4 HO4 HE HE2 hc hv0 hmore hpc5
    go_wp2_with fail
    go_roundw
    case rel=>exact ⟨m+1,nv1,rs++[(t,At,ct)],j,by have:=HMM.out;have:=HNN.out;omega,.inr (by have:=HMM.out;have:=HNN.out;omega),by have:=HMM.out;have:=HNN.out;omega,by have:=HMM.out;have:=HNN.out;simp;omega,HQ5,HO5,HV⟩
    case measure=>rw [HPC5.out,HPC.out];have:=HMM.out;have:=HNN.out;simp;omega
theorem opn_isP {t:NextR} (h:opn t=true):isP t [40]=true:=by unfold opn at h;rw [Bool.and_eq_true] at h;exact h.1
set_option maxHeartbeats 3200000 in
theorem rd_compound {c:PC} {S:PT} {k n:Nat} {nv:Value} {w:World} (hS:TrmOk c S k) (hk:k≤n+1) (p:PsAt c n (vsAt c.E.T n) nv w) (s:ByteArray) :
  Calls Tryz.prog 179 #[.pointer (some ⟨c.P,0,none⟩),.string s] w (COut c n nv w (compG c.E S s n)):=by
 obtain ⟨R,HR⟩:=lz (compG c.E S s n)
 rw [←HR.out]
 have HQ0:=zq ((Wk.start p).new [.int .i64 0,.int .i64 0,.string ⟨#[]⟩,.slice none 0 0] 30 rfl)
 have HPK:=zq (rd_peek HQ0.out.p 0 (by decide))
 have HOP:=zq fun W=>rd_opens (c.E.at n) W
 have HRW:=zq fun nv' W (h:PsAt c (n+1) (vsAt c.E.T (n+1)) nv' W)=>rd_row hS hk h
 have HRS:=zq fun (A:Option Addr) (m cap:Nat) (W:World)=>rd_structure s A m cap W
 have HN1:=zq p.n1
 have HMO:=zq p.more
 rw [Nat.add_zero] at HPK
 clear p
 cases ho:opn (c.E.at n)
 ·skip
  have HV:Hid (R=.ok (none,n)):=zq (by rw [HR.out];unfold compG;rw [if_neg (by rw [ho];simp)])
  rw [HV.out]
  rw [ho] at HOP
  clear ho HRW HRS HN1 HMO HR
  generalize c.E.at n=t at *
  unfold tkV at *
  go_enter Tryz.func179,Tryz.ntmps179
  go_wp2_with fail
  refine (HPK.out).mono ?_;rintro e w1 ⟨rfl,hB⟩
  have HQ2:=zq (HQ0.out.call hB)
  clear HQ0
  clear hB 
  go_wp2_with fail
  refine (HOP.out _).mono ?_;rintro e w3 ⟨rfl,hB⟩
  have HQ4:=zq (HQ2.out.call hB)
  clear HQ2
  clear hB 
  have cc5:=HQ4.out.b.all
  simp only [PC.cells,List.cons_append,List.nil_append,List.append_nil,bksAll,bkAll,Nat.zero_add,Nat.reduceAdd,and_true] at cc5
  go_wp2_with fail
  have hz:=HQ4.out.put4 0 rfl (.int .i64 0) (.int .i64 0) (.string ⟨#[]⟩) (.slice none 0 0) (Nat.le_refl _)
  exact bodyPost_ret (v:=.tuple #[.agg #[.int .i64 0,.int .i64 0,.string ⟨#[]⟩,.slice none 0 0],.bool false]) (by simp [results,Tryz.results179,go_sem,cc5]) rfl ⟨rfl,rfl,hz.p,hz.s⟩
 ·skip
  have HI:=zq (opn_isP ho)
  have HM:=zq (HMO.out (isP_kind HI.out))
  have HV0:=zq (isV_punct HI.out)
  have HE:Hid (R=match rowX c.E S (n+1) with | .error e=>.error e | .ok (l,m)=>needG c.E [41] m (some (stT s l))):=zq (by rw [HR.out];unfold compG;rw [if_pos ho];rfl)
  rw [ho] at HOP
  have HI6:=zq (inc64 (n:=n) (by have:=HQ0.out.p.ok.len;have:=HN1.out;omega))
  clear ho HMO HR HI
  unfold tkV at *
  go_enter Tryz.func179,Tryz.ntmps179
  go_wp2_with fail
  refine (HPK.out).mono ?_;rintro e w1 ⟨rfl,hB⟩
  have HQ2:=zq (HQ0.out.call hB)
  clear HQ0
  clear hB 
  go_wp2_with fail
  refine (HOP.out _).mono ?_;rintro e w3 ⟨rfl,hB⟩
  have HQ4:=zq (HQ2.out.call hB)
  clear HQ2
  clear hB 
  have cc5:=HQ4.out.b.all
  simp only [PC.cells,List.cons_append,List.nil_append,List.append_nil,bksAll,bkAll,Nat.zero_add,Nat.reduceAdd,and_true] at cc5
  have hi:=HI6.out
  go_wp2_with fail
  have hq:=HQ4.out.inc HM.out
  obtain ⟨wn,HWN⟩:=lz (w3.setCell ⟨c.P,1,none⟩ (.int .i64 ((n:Int)+1)))
  rw [←HWN.out] at hq ⊢
  have hpn:=PsAt.skip HV0.out HN1.out hq.p
  have HQn:=zq (hq.step hpn (Stp.refl c nv wn))
  clear hq HWN HQ4 cc5 hi hpn
  have HX:=zq (HRW.out nv wn HQn.out.p)
  rcases hs:rowX c.E S (n+1) with e | ⟨l,m⟩
  ·skip
   rw [hs] at HX HE
   clear hs
   have HV:Hid (R=.error e):=HE
   refine HX.out.mono ?_;rintro e w1 ⟨rfl,hB1⟩
   refine ⟨rfl,?_⟩
   rw [HV.out]
   exact ⟨rfl,HQn.out.fall hB1⟩
  rw [hs] at HX HE
  clear hs
  have HE2:Hid (R=needG c.E [41] m (some (stT s l))):=HE
  clear HE
  refine (HX.out).mono ?_;rintro e w6 ⟨hnm,A,cap,nv1,rfl,hp,hs,ht⟩
  have HT0:=zq (Trm.sub (w0:=w) (F:=[w.heap.size]) ht HQn.out.s.size (by intro b hb;rw [List.mem_singleton] at hb;subst hb;exact HQn.out.b.lt 0 rfl))
  have HNM:=zq hnm
  clear ht hnm
  have HQ7:=zq (HQn.out.step hp hs)
  clear HQn
  clear hp hs
  cases hc:isP (c.E.at m) [41]
  ·skip
   have HV:Hid (R=.error m):=zq (by rw [HE2.out];unfold needG;rw [hc];rfl)
   go_wp2_with fail
   refine (rd_need_no HQ7.out.p ⟨#[41]⟩ hc).mono ?_;rintro e w9 ⟨rfl,hB9⟩
   refine ⟨rfl,?_⟩
   rw [HV.out]
   exact ⟨rfl,HQ7.out.fall hB9⟩
  have HV:Hid (R=.ok (some (stT s l),m+1)):=zq (by rw [HE2.out];unfold needG;rw [hc];rfl)
  have HV1:=zq (isV_punct hc)
  clear HE2
  go_wp2_with fail
  refine (rd_need_yes HQ7.out.p ⟨#[41]⟩ hc).mono ?_;rintro e w8 ⟨rfl,hp,hs⟩
  have HQ9:=zq (HQ7.out.step (PsAt.skip HV1.out HQ7.out.p.n1 hp) hs)
  have HT0_9:=zq (HT0.out.step hs)
  clear HQ7 HT0
  clear hp hs
  go_wp2_with fail
  refine (HRS.out _ _ _ _).mono ?_;rintro e w10 ⟨rfl,hB⟩
  have HQ11:=zq (HQ9.out.call hB)
  have HT0_11:=zq (HT0_9.out.call hB)
  clear HQ9 HT0_9
  clear hB 
  have cc12:=HQ11.out.b.all
  simp only [PC.cells,List.cons_append,List.nil_append,List.append_nil,bksAll,bkAll,Nat.zero_add,Nat.reduceAdd,and_true] at cc12
  go_wp2_with fail
  have hz:=HQ11.out.put4 0 rfl (.int .i64 3) (.int .i64 0) (.string s) (.slice A l.length cap) (Nat.le_refl _)
  have ht:=HT0_11.out.put (g:=w.heap.size) (by simp) (fun b hb=>put4_block _ _ (.int .i64 3) (.int .i64 0) (.string s) (.slice A l.length cap) b hb) (by simp)
  refine bodyPost_ret (v:=.tuple #[.agg #[.int .i64 3,.int .i64 0,.string s,.slice A l.length cap],.bool true]) (by simp [results,Tryz.results179,go_sem,cc12]) rfl ?_
  rw [HV.out]
  exact ⟨by have:=HNM.out;omega,A,cap,nv1,rfl,hz.p,hz.s,ht.out⟩
end Go.Proofs.YtbojljpldcijgaaGreat
