/- Parts of the proof. -/
import Derived.Test.YtbojljpldcijgaaGreatH01
import Derived.Test.YtbojljpldcijgaaGreatH02
import Derived.Test.YtbojljpldcijgaaGreatH03
import Derived.Test.YtbojljpldcijgaaGreatH04
import Derived.Test.YtbojljpldcijgaaGreatH05
import Derived.Test.YtbojljpldcijgaaGreatH06
import Derived.Test.YtbojljpldcijgaaGreatH07
import Derived.Test.YtbojljpldcijgaaGreatH08
import Derived.Test.YtbojljpldcijgaaGreatH09
import Derived.Test.YtbojljpldcijgaaGreatH10
import Derived.Test.YtbojljpldcijgaaGreatH11
import Derived.Test.YtbojljpldcijgaaGreatH12
import Derived.Test.YtbojljpldcijgaaGreatH13
import Derived.Test.YtbojljpldcijgaaGreatH14
import Derived.Test.YtbojljpldcijgaaGreatH15
import Derived.Test.YtbojljpldcijgaaGreatH16
import Derived.Test.YtbojljpldcijgaaGreatH17
import Derived.Test.YtbojljpldcijgaaGreatH18
import Derived.Test.YtbojljpldcijgaaGreatH21
import Derived.Test.YtbojljpldcijgaaGreatH22
import Derived.Test.YtbojljpldcijgaaGreatH23
import Derived.Test.YtbojljpldcijgaaGreatH24
import Derived.Test.YtbojljpldcijgaaGreatH25
import Derived.Test.YtbojljpldcijgaaGreatH26
import Derived.Test.YtbojljpldcijgaaGreatH27
namespace Hb
open Go Go.RowKit
theorem Tab.none (w:World):Tab w none 0 0 []:=⟨rfl,OpsAt.nil _ _,fun _=>.inl rfl⟩
def allP (L:List UInt8) (s:Sy):Nat→Int→List RdR→List RdR×Int×Int
 | 0,_,_=>([],0,99)
 | f+1,a,acc=>if (readS L a s).err=14 then (acc,0,0) else if ¬(readS L a s).err=0 then ([],(readS L a s).where_,(readS L a s).err) else allP L s f (readS L a s).end_ (acc++[readS L a s])
def allS (L:List UInt8) (s:Sy):List RdR×Int×Int:=allP L s (L.length+1) 0 []
theorem read_more {L:List UInt8} {a:Nat} {s:Sy} (h:(readS L a s).err=0):∃e:Nat,(readS L a s).end_=e∧a<e∧e≤L.length∧L.length≤16384:=by
 have hb:badArgs L a s=false:=by
  cases hb:badArgs L a s
  ·rfl
  ·exfalso
   unfold readS at h
   rw [hb,if_pos rfl] at h
   exact absurd h (by show ¬(1:Int)=0;decide)
 obtain ⟨h1,h2,h3,_⟩:=bad_no hb
 obtain ⟨_,h5,_,_,h6,_⟩:=read_in L a s (by omega) h1
 have h7:=(h6 h).2
 exact ⟨(readS L a s).end_.toNat,by omega,by omega,by omega,h1⟩
structure RW where
 r:RdR
 A:Option Addr
 cap:Nat
 NA:Option Addr
 nc:Nat
 SA:Option Addr
 sn:Nat
def rdC (x:RW):List Value:=[.int .i64 x.r.t.kind,.int .i64 x.r.t.num,.string x.r.t.name,.slice x.A x.r.t.args.length x.cap,.slice x.NA x.r.names.length x.nc,.slice x.SA x.r.singles.length x.sn,.int .i64 x.r.end_]
def rdsC (l:List RW):List Value:=l.flatMap rdC
structure RdK (K:Nat→Prop) (w:World) (x:RW):Prop where
 t:TmsK K w x.A x.r.t.args
 n:NmAt K w x.NA x.r.names
 s:NmAt K w x.SA x.r.singles
theorem RdK.keep {K K':Nat→Prop} {w w':World} {x:RW} (h:RdK K w x) (hB:∀b,K b→w'.heap[b]? = w.heap[b]?) (hK:∀b,K b→K' b):RdK K' w' x:=⟨h.t.keep hB hK,h.n.keep hB hK,h.s.keep hB hK⟩
structure OwnRd (base:Nat) (ty:TypeId) (w:World) (v:Value) (rs:List RW):Prop where
 own:w.ownsRow base ty 7 v rs.length (rdsC rs)
 sub:∀x∈rs,RdK (fun b=>base≤b∧b<w.heap.size∧v.ownBlock≠some b) w x
theorem OwnRd.nul (base ty:Nat) (w:World):OwnRd base ty w (.slice none 0 0) []:=⟨World.ownsRow_nil _ _ _ _,fun r hr=>absurd hr (by simp)⟩
theorem OwnRd.mono {base base':Nat} {ty:TypeId} {w:World} {v:Value} {rs:List RW} (hb:base'≤base) (h:OwnRd base ty w v rs):OwnRd base' ty w v rs where
 own:=by
  refine ⟨h.own.1,?_⟩
  rcases h.own.2 with hn | ⟨g,cap,cur,hv,hbg,rest⟩
  ·exact .inl hn
  ·exact .inr ⟨g,cap,cur,hv,Nat.le_trans hb hbg,rest⟩
 sub:=fun x hx=>(h.sub x hx).keep (fun _ _=>rfl) fun b hb'=>⟨Nat.le_trans hb hb'.1,hb'.2⟩
theorem OwnRd.call {base:Nat} {ty:TypeId} {w w':World} {v:Value} {rs:List RW} (h:OwnRd base ty w v rs) (hB:Below w.heap.size w w'):OwnRd base ty w' v rs where
 own:=by
  refine ⟨h.own.1,?_⟩
  rcases h.own.2 with hn | ⟨g,cap,cur,hv,hbg,hh,rest⟩
  ·exact .inl hn
  ·exact .inr ⟨g,cap,cur,hv,hbg,(hB.block g (Array.getElem?_eq_some_iff.1 hh).1).trans hh,rest⟩
 sub:=fun x hx=>(h.sub x hx).keep (fun b hb=>hB.block b hb.2.1) fun b hb=>⟨hb.1,Nat.lt_of_lt_of_le hb.2.1 hB.size,hb.2.2⟩
theorem OwnRd.snoc {base:Nat} {ty:TypeId} {W w2:World} {v v':Value} {rs:List RW} (h:OwnRd base ty W v rs) (x:RW) (hx:RdK (fun b=>base≤b∧b<W.heap.size∧v.ownBlock≠some b) W x)
  (hown:w2.ownsRow base ty 7 v' (rs.length+1) (rdsC rs++rdC x)) (hg:W.grownBy w2 v.ownBlock) (hat:v'.ownBlock=v.ownBlock∨v'.ownBlock=some W.heap.size):OwnRd base ty w2 v' (rs++[x]) where
 own:=by
  have e:rdsC (rs++[x])=rdsC rs++rdC x:=by unfold rdsC;simp
  rw [e,List.length_append];exact hown
 sub:=fun y hy=>by
  have hk:RdK (fun b=>base≤b∧b<W.heap.size∧v.ownBlock≠some b) W y:=by
   rcases List.mem_append.1 hy with hy | hy
   ·exact h.sub y hy
   ·rw [List.mem_singleton.1 hy];exact hx
  refine hk.keep (fun b hb=>hg.block b hb.2.1 (fun e=>hb.2.2 e.symm)) fun b hb=>⟨hb.1,Nat.lt_of_lt_of_le hb.2.1 hg.size,fun e=>?_⟩
  rcases hat with h' | h'
  ·exact hb.2.2 (h' ▸ e)
  ·rw [h'] at e
   injection e with e
   have:=hb.2.1
   omega
theorem rdsC_get:∀(l:List RW) (j:Nat) (h:j<l.length) (i:Nat) (v:Value),(rdC l[j])[i]? = some v→(rdsC l)[j * 7+i]? = some v
 | x::l,0,_,i,v,hv=>by
  have e:rdsC (x::l)=rdC x++rdsC l:=rfl
  have hv:(rdC x)[i]? = some v:=hv
  have hl:=(List.getElem?_eq_some_iff.1 hv).1
  rw [e,Nat.zero_mul,Nat.zero_add,List.getElem?_append_left hl];exact hv
 | x::l,j+1,h,i,v,hv=>by
  have e:rdsC (x::l)=rdC x++rdsC l:=rfl
  have hl:(rdC x).length=7:=rfl
  rw [e,List.getElem?_append_right (by omega),hl,show (j+1) * 7+i-7=j * 7+i by omega]
  exact rdsC_get l j (by simpa using h) i v hv
theorem OwnRd.val {base:Nat} {ty:TypeId} {w:World} {v:Value} {rs:List RW} (h:OwnRd base ty w v rs):∃A cap,v=.slice A rs.length cap∧rs.length≤maxLen∧∀j (hj:j<rs.length),∃g,A=some ⟨g,0,none⟩∧base≤g∧g<w.heap.size∧∀i u,(rdC rs[j])[i]? = some u→w.cell? ⟨g,j * 7+i,none⟩=some u:=by
 rcases h.own.2 with ⟨hv,h0⟩ | ⟨g,c2,cur,hv,hg,hh,hn,hm,rest⟩
 ·have:rs=[]:=List.eq_nil_of_length_eq_zero h0
  subst this
  exact ⟨none,0,hv,by decide,fun j hj=>absurd hj (by simp)⟩
 ·refine ⟨some ⟨g,0,none⟩,c2,hv,by omega,fun j hj=>⟨g,rfl,hg,(Array.getElem?_eq_some_iff.1 hh).1,fun i u hu=>?_⟩⟩
  have:=h.own.cells (g:=g) (by rw [hv];rfl) _ _ (rdsC_get rs j hj i u hu)
  rw [addr_add,Nat.zero_add] at this
  exact this
end Hb
namespace Go.Proofs.YtbojljpldcijgaaGreat
open Go.RowKit Hb
set_option maxRecDepth 100000
theorem infoRead:(Tryz.prog.info? 33).map (fun i=>(i.zero,i.size,i.bytes))=some (some (.agg #[.int .i64 0,.int .i64 0,.string ⟨#[]⟩,.slice none 0 0,.slice none 0 0,.slice none 0 0,.int .i64 0]),7,112):=by kernel_rfl
theorem wpList_app_rd {w W:World} {ops:Array Oper} {rest:List Oper} {o:Oper} {a:Act} {Q:Exit→Act→World→Prop} (hgd:o.guard=none) (s x:Operand)
  (ho:o.op=.call { callee:=.builtin .append,args:=#[s,x],argTypes:=#[49,49] }) (base:Nat) (v:Value) (rs:List RW) (hs:a.eval s=v) (hO:OwnRd base 33 W v rs) (h0:base≤W.heap.size)
  (r:RW) (hr:RdK (fun b=>base≤b∧b<W.heap.size∧v.ownBlock≠some b) W r) (cs:Array Value) (hcs:cs=(rdC r).toArray) (hw:w=W.alloc (.cells cs 33)) (hx:a.eval x=.slice (some ⟨W.heap.size,0,none⟩) 1 1) (hn:rs.length≤100000)
  (h:∀v' w',Hid (OwnRd base 33 w' v' (rs++[r]))→Hid (w.grownBy w' v.ownBlock)→wpList Tryz.prog ops Q rest (a.put o.dst v') w'):wpList Tryz.prog ops Q (o::rest) a w:=by
 obtain ⟨i,hi,hz0,hz1,hz2⟩:=info_parts infoRead
 subst hw hcs
 have hB:Below W.heap.size W (W.alloc (.cells (rdC r).toArray 33)):=(Below.refl _ _).alloc (Nat.le_refl _) _
 have hO1:=hO.call hB
 refine wpList_append_own_at _ hgd s x 49 ho base 33 i _ 7 112 Tryz.underlying49 hi hz0 hz1 hz2 rfl (by decide) v rs.length (rdsC rs) hs hO1.own ⟨W.heap.size,0,none⟩ 1 1 (rdC r) hx rfl ?_ (by
   intro y hy
   simp only [rdC,List.mem_cons,List.mem_nil_iff,or_false] at hy
   rcases hy with rfl|rfl|rfl|rfl|rfl|rfl|rfl <;> rfl) (by unfold maxLen;omega) (by omega) (by simp;omega) ?_
 ·intro j y hy
  rw [addr_add]
  have:=World.cell?_alloc_new W (rdC r).toArray 33 j
  rw [show 0+j=j by omega,this]
  simpa using hy
 ·intro v' w' hown hgr _ hat
  refine h v' w' (Lib.hid (hO1.snoc r ?_ hown hgr hat)) (Lib.hid hgr)
  exact hr.keep (fun b hb=>hB.block b hb.2.1) fun b hb=>⟨hb.1,Nat.lt_of_lt_of_le hb.2.1 hB.size,hb.2.2⟩
end Go.Proofs.YtbojljpldcijgaaGreat
namespace Hb
open Go Go.RowKit
set_option maxRecDepth 100000
theorem wrong_lex {L:List UInt8} {a:Int} (h:(badArgs L 0 syD,(toksOf L 0 syD).err,(toksOf L 0 syD).where_)=(false,(7:Int),a)):wrongR L a=true:=by
 simp only [Prod.mk.injEq] at h
 obtain ⟨h1,h2,h3⟩:=h
 unfold wrongR readS
 rw [h1,if_neg (by simp),h2,if_pos (by decide),h3]
 unfold sameRd rdErr
 simp only [same_refl zero_valid]
 simp
theorem read_lex {L:List UInt8} {at_:Int} {s:Sy} {a k:Int} (h:(badArgs L at_ s,(toksOf L at_ s).err,(toksOf L at_ s).where_)=(false,k,a)) (hk:¬k=0):readS L at_ s=rdErr a k:=by
 simp only [Prod.mk.injEq] at h
 obtain ⟨h1,h2,h3⟩:=h
 unfold readS
 rw [h1,if_neg (by simp),h2,if_pos hk,h3]
theorem read_long {L:List UInt8} {at_:Int} {s:Sy} {t:Tm} {m:Nat} {a:Int} (h:(badArgs L at_ s,(toksOf L at_ s).err,wholeG ⟨(toksOf L at_ s).l,s.P,s.q⟩,nodeOk t,(tokA (toksOf L at_ s).l 0).r.at_)=(false,(0:Int),(.ok (t,m):RR (Tm×Nat)),false,a)):readS L at_ s=rdErr a 2:=by
 simp only [Prod.mk.injEq] at h
 obtain ⟨h1,h2,h3,h4,h5⟩:=h
 have hv:validT t=false:=by unfold validT;rw [Tm.allOk_eq,h4];simp
 unfold readS
 rw [h1,if_neg (by simp),h2,if_neg (by simp)]
 unfold readT
 rw [h3]
 simp only
 unfold readOk
 rw [hv,if_neg (by simp)]
 simp only [RE.at,h5]
theorem read_bad {L:List UInt8} {at_:Int} {s:Sy} (h:badArgs L at_ s=true):readS L at_ s=rdErr 0 1:=by
 unfold readS
 rw [h,if_pos rfl]
theorem all_end {L:List UInt8} {s:Sy} {f:Nat} {a:Int} {acc:List RdR} {k:Int} (h:readS L a s=rdErr k 14):allP L s (f+1) a acc=(acc,0,0):=by
 unfold allP;rw [h];rfl
theorem all_err {L:List UInt8} {s:Sy} {f:Nat} {a:Int} {acc:List RdR} {k e:Int} (h:readS L a s=rdErr k e) (h1:¬e=14) (h2:¬e=0):allP L s (f+1) a acc=([],k,e):=by
 unfold allP;rw [h,if_neg (show ¬(rdErr k e).err=14 from h1),if_pos (show ¬(rdErr k e).err=0 from h2)];rfl
theorem all_more {L:List UInt8} {s:Sy} {f:Nat} {a e:Int} {acc:List RdR} {t:Tm} {nm sg:List (List UInt8×Nat)} (h:readS L a s=⟨t,nm,sg,e,0,0⟩):allP L s (f+1) a acc=allP L s f e (acc++[⟨t,nm,sg,e,0,0⟩]):=by
 rw [allP,h,if_neg (by show ¬(0:Int)=14;decide),if_neg (fun h=>h rfl)]
theorem k_read:readS [88,32,61,32,102,40,95,44,32,89,44,32,95,90,44,32,89,41,46] 0 syD=⟨(strT ⟨#[61]⟩ [varT 0,strT ⟨#[102]⟩ [varT 1,varT 2,varT 3,varT 2]]),[([88],0),([89],2),([95,90],3)],[([88],0),([95,90],3)],19,0,0⟩:=read_closed (m:=12) (n:=7) (by kernel_rfl) (by decide)
theorem k_same:sameT (strT ⟨#[61]⟩ [varT 0,strT ⟨#[102]⟩ [varT 1,varT 2,varT 3,varT 2]]) (strT ⟨#[61]⟩ [varT 0,strT ⟨#[102]⟩ [varT 1,varT 2,varT 3,varT 2]])=true:=same_refl (chk_valid (n:=7) (by kernel_rfl) (by decide))
theorem k_nine:readS [102,40,49,44,32,50,44,32,51,44,32,52,44,32,53,44,32,54,44,32,55,44,32,56,44,32,57,41,46] 0 syD=rdErr 0 2:=read_long (t:=(strT ⟨#[102]⟩ [intT 1,intT 2,intT 3,intT 4,intT 5,intT 6,intT 7,intT 8,intT 9])) (m:=20) (by kernel_rfl)
theorem k_com:readS [32,37,32,111,110,108,121,32,97,32,99,111,109,109,101,110,116] 0 syD=rdErr 17 14:=read_lex (by kernel_rfl) (by decide)
theorem k_at:readS [97,46] 3 syD=rdErr 0 1:=read_bad (by kernel_rfl)
theorem k_zero:readS [97,46] 0 ⟨[],0,0,false,false,[]⟩=rdErr 0 1:=read_bad (by kernel_rfl)
def kA:RdR:=⟨atomT ⟨#[97]⟩,[],[],2,0,0⟩
def kB:RdR:=⟨atomT ⟨#[98]⟩,[],[],5,0,0⟩
theorem k_allA:allS [97,46,32,98,46,10,37,32,99,10] syD=([kA,kB],0,0):=(all_more (read_closed (m:=1) (n:=1) (t:=atomT ⟨#[97]⟩) (nm:=[]) (sg:=[]) (en:=2) (by kernel_rfl) (by decide))).trans ((all_more (read_closed (m:=1) (n:=1) (t:=atomT ⟨#[98]⟩) (nm:=[]) (sg:=[]) (en:=5) (by kernel_rfl) (by decide))).trans (all_end (k:=10) (read_lex (by kernel_rfl) (by decide))))
theorem k_allB:allS [97,46,32,98,46,32,99] syD=([],7,7):=(all_more (read_closed (m:=1) (n:=1) (t:=atomT ⟨#[97]⟩) (nm:=[]) (sg:=[]) (en:=2) (by kernel_rfl) (by decide))).trans ((all_more (read_closed (m:=1) (n:=1) (t:=atomT ⟨#[98]⟩) (nm:=[]) (sg:=[]) (en:=5) (by kernel_rfl) (by decide))).trans (all_err (read_lex (by kernel_rfl) (by decide)) (by decide) (by decide)))
theorem k_allC:allS [] syD=([],0,0):=all_end (k:=0) (read_lex (by kernel_rfl) (by decide))
theorem kn_g0:givesR [45,49,46] (intT (-1))=true:=gives_closed (m:=2) (n:=1) (nm:=[]) (sg:=[]) (by kernel_rfl) (by decide)
theorem kn_g1:givesR [45,40,49,41,46] (strT ⟨#[45]⟩ [(intT (1))])=true:=gives_closed (m:=4) (n:=2) (nm:=[]) (sg:=[]) (by kernel_rfl) (by decide)
theorem kn_g2:givesR [45,32,40,49,44,32,50,41,46] (strT ⟨#[45]⟩ [(strT ⟨#[44]⟩ [(intT (1)),(intT (2))])])=true:=gives_closed (m:=6) (n:=4) (nm:=[]) (sg:=[]) (by kernel_rfl) (by decide)
theorem kn_g3:givesR [45,40,49,44,32,50,41,46] (strT ⟨#[45]⟩ [(intT (1)),(intT (2))])=true:=gives_closed (m:=6) (n:=3) (nm:=[]) (sg:=[]) (by kernel_rfl) (by decide)
theorem kn_g4:givesR [91,45,93,46] (strT ⟨#[46]⟩ [(atomT ⟨#[45]⟩),(atomT ⟨#[91,93]⟩)])=true:=gives_closed (m:=3) (n:=3) (nm:=[]) (sg:=[]) (by kernel_rfl) (by decide)
theorem kn_g5:givesR [102,40,58,45,44,32,43,41,46] (strT ⟨#[102]⟩ [(atomT ⟨#[58,45]⟩),(atomT ⟨#[43]⟩)])=true:=gives_closed (m:=6) (n:=3) (nm:=[]) (sg:=[]) (by kernel_rfl) (by decide)
theorem kn_g6:givesR [45,97,46] (strT ⟨#[45]⟩ [(atomT ⟨#[97]⟩)])=true:=gives_closed (m:=2) (n:=2) (nm:=[]) (sg:=[]) (by kernel_rfl) (by decide)
theorem kn_g7:givesR [45,32,49,32,94,32,50,46] (strT ⟨#[45]⟩ [(strT ⟨#[94]⟩ [(intT (1)),(intT (2))])])=true:=gives_closed (m:=4) (n:=4) (nm:=[]) (sg:=[]) (by kernel_rfl) (by decide)
theorem kn_g8:givesR [45,49,32,94,32,50,46] (strT ⟨#[94]⟩ [(intT (-1)),(intT (2))])=true:=gives_closed (m:=4) (n:=3) (nm:=[]) (sg:=[]) (by kernel_rfl) (by decide)
theorem kn_g9:givesR [45,97,32,94,32,50,46] (strT ⟨#[45]⟩ [(strT ⟨#[94]⟩ [(atomT ⟨#[97]⟩),(intT (2))])])=true:=gives_closed (m:=4) (n:=4) (nm:=[]) (sg:=[]) (by kernel_rfl) (by decide)
theorem kn_g10:givesR [123,97,44,32,98,125,46] (strT ⟨#[123,125]⟩ [(strT ⟨#[44]⟩ [(atomT ⟨#[97]⟩),(atomT ⟨#[98]⟩)])])=true:=gives_closed (m:=5) (n:=4) (nm:=[]) (sg:=[]) (by kernel_rfl) (by decide)
theorem kn_g11:givesR [91,93,40,120,41,46] (strT ⟨#[91,93]⟩ [(atomT ⟨#[120]⟩)])=true:=gives_closed (m:=5) (n:=2) (nm:=[]) (sg:=[]) (by kernel_rfl) (by decide)
theorem kn_g12:givesR [34,97,98,34,46] (strT ⟨#[46]⟩ [(intT (97)),(strT ⟨#[46]⟩ [(intT (98)),(atomT ⟨#[91,93]⟩)])])=true:=gives_closed (m:=1) (n:=5) (nm:=[]) (sg:=[]) (by kernel_rfl) (by decide)
theorem kn_g13:givesR [123,32,125,46] (atomT ⟨#[123,125]⟩)=true:=gives_closed (m:=2) (n:=1) (nm:=[]) (sg:=[]) (by kernel_rfl) (by decide)
theorem kn_g14:givesR [39,104,101,108,108,111,32,119,111,114,108,100,39,40,97,41,46] (strT ⟨#[104,101,108,108,111,32,119,111,114,108,100]⟩ [(atomT ⟨#[97]⟩)])=true:=gives_closed (m:=4) (n:=2) (nm:=[]) (sg:=[]) (by kernel_rfl) (by decide)
theorem kn_g15:givesR [97,32,39,45,39,32,49,46] (strT ⟨#[45]⟩ [(atomT ⟨#[97]⟩),(intT (1))])=true:=gives_closed (m:=3) (n:=3) (nm:=[]) (sg:=[]) (by kernel_rfl) (by decide)
theorem kn_g16:givesR [39,45,39,49,46] (strT ⟨#[45]⟩ [(intT (1))])=true:=gives_closed (m:=2) (n:=2) (nm:=[]) (sg:=[]) (by kernel_rfl) (by decide)
theorem kn_g17:givesR [45,32,45,32,49,46] (strT ⟨#[45]⟩ [(strT ⟨#[45]⟩ [(intT (1))])])=true:=gives_closed (m:=3) (n:=3) (nm:=[]) (sg:=[]) (by kernel_rfl) (by decide)
theorem kn_g18:givesR [92,43,32,40,97,44,32,98,41,46] (strT ⟨#[92,43]⟩ [(strT ⟨#[44]⟩ [(atomT ⟨#[97]⟩),(atomT ⟨#[98]⟩)])])=true:=gives_closed (m:=6) (n:=4) (nm:=[]) (sg:=[]) (by kernel_rfl) (by decide)
theorem kn_g19:givesR [97,61,40,98,41,46] (strT ⟨#[61]⟩ [(atomT ⟨#[97]⟩),(atomT ⟨#[98]⟩)])=true:=gives_closed (m:=5) (n:=3) (nm:=[]) (sg:=[]) (by kernel_rfl) (by decide)
theorem kn_g20:givesR [45,32,61,40,97,44,32,98,41,46] (strT ⟨#[45]⟩ [(strT ⟨#[61]⟩ [(atomT ⟨#[97]⟩),(atomT ⟨#[98]⟩)])])=true:=gives_closed (m:=7) (n:=4) (nm:=[]) (sg:=[]) (by kernel_rfl) (by decide)
theorem kn_g21:givesR [42,32,61,32,42,32,46] (strT ⟨#[61]⟩ [(atomT ⟨#[42]⟩),(atomT ⟨#[42]⟩)])=true:=gives_closed (m:=3) (n:=3) (nm:=[]) (sg:=[]) (by kernel_rfl) (by decide)
theorem kn_g22:givesR [34,34,46] (atomT ⟨#[91,93]⟩)=true:=gives_closed (m:=1) (n:=1) (nm:=[]) (sg:=[]) (by kernel_rfl) (by decide)
theorem kn_w0:wrongR [102,40,97,46] 3=true:=wrong_closed (k:=3) (a:=3) (by kernel_rfl)
theorem kn_w1:wrongR [88,40,97,41,46] 1=true:=wrong_closed (k:=1) (a:=1) (by kernel_rfl)
theorem kn_w2:wrongR [102,40,41,46] 2=true:=wrong_closed (k:=2) (a:=2) (by kernel_rfl)
theorem kn_w3:wrongR [97,32,98,46] 2=true:=wrong_closed (k:=1) (a:=2) (by kernel_rfl)
theorem kn_w4:wrongR [41,46] 0=true:=wrong_closed (k:=0) (a:=0) (by kernel_rfl)
theorem kn_w5:wrongR [91,97,32,124,32,98,44,32,99,93,46] 6=true:=wrong_closed (k:=4) (a:=6) (by kernel_rfl)
theorem kn_w6:wrongR [57,50,50,51,51,55,50,48,51,54,56,53,52,55,55,53,56,48,56,46] 0=true:=wrong_closed (k:=0) (a:=0) (by kernel_rfl)
theorem kn_w7:wrongR [45,32,57,50,50,51,51,55,50,48,51,54,56,53,52,55,55,53,56,48,56,46] 2=true:=wrong_closed (k:=1) (a:=2) (by kernel_rfl)
theorem kn_w8:wrongR [97] 1=true:=wrong_lex (by kernel_rfl)
theorem kn_w9:wrongR [123,97,46] 2=true:=wrong_closed (k:=2) (a:=2) (by kernel_rfl)
theorem kn_w10:wrongR [97,32,44,32,46] 4=true:=wrong_closed (k:=2) (a:=4) (by kernel_rfl)
theorem kn_w11:wrongR [102,40,97,32,58,45,32,98,41,46] 4=true:=wrong_closed (k:=3) (a:=4) (by kernel_rfl)
end Hb
