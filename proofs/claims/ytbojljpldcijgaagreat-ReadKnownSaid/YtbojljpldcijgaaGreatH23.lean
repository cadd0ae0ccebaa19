/- Parts of the proof. -/
import Derived.Test.YtbojljpldcijgaaGreatH01
import Derived.Test.YtbojljpldcijgaaGreatH22
namespace Hb
open Go Go.RowKit
theorem pvalid_nilR:pvalid []=true:=by decide +kernel
theorem sy_conv_ok {s:Sy} (h:s.ok=true):pvalid s.conv=true:=by
 unfold Sy.ok at h
 rw [Bool.and_eq_true,Bool.and_eq_true] at h
 unfold Sy.conv
 split
 ·exact h.2.2
 ·exact pvalid_nilR
theorem bad_no {L:List UInt8} {at_:Int} {s:Sy} (h:badArgs L at_ s=false):L.length≤16384∧0≤at_∧at_≤L.length∧s.ok=true:=by
 unfold badArgs at h
 simp at h
 exact ⟨h.1,h.2.1,h.2.2.1,h.2.2.2⟩
theorem Bks.keepB {X Y:World} {l:List (Nat×List Value)} {B:Nat} (h:Bks X l) (hB:Below B X Y) (hl:∀x∈l,x.1<B):Bks Y l:=h.keep fun x hx=>hB.block _ (hl x hx)
end Hb
namespace Go.Proofs.YtbojljpldcijgaaGreat
open Go.RowKit Hb
attribute [local go_sem] Oper.semAt_some
set_option maxRecDepth 100000
set_option linter.unusedSimpArgs false
theorem put7_below {B:Nat} {w0 w:World} (h:Below B w0 w) (g:Nat) (hg:B≤g) (a b c d e f k:Value):Below B w0 (((((((w.setCell ⟨g,0,none⟩ a).setCell ⟨g,1,none⟩ b).setCell ⟨g,2,none⟩ c).setCell ⟨g,3,none⟩ d).setCell ⟨g,4,none⟩ e).setCell ⟨g,5,none⟩ f).setCell ⟨g,6,none⟩ k) :=
 ((((((h.setCell (p:=⟨_,_,none⟩) hg _).setCell (p:=⟨_,_,none⟩) hg _).setCell (p:=⟨_,_,none⟩) hg _).setCell (p:=⟨_,_,none⟩) hg _).setCell (p:=⟨_,_,none⟩) hg _).setCell (p:=⟨_,_,none⟩) hg _).setCell (p:=⟨_,_,none⟩) hg _
theorem Bx.one (g N:Nat) (X:World) (i:Nat) (v:Value):Bx g N X (X.setCell ⟨g,i,none⟩ v):=⟨rfl,rfl,rfl,by simp,fun k _ hne=>heap_setCell_other _ _ _ _ hne⟩
theorem Bx.put7 (g N:Nat) (X:World) (a b c d e f k:Value):Bx g N X (((((((X.setCell ⟨g,0,none⟩ a).setCell ⟨g,1,none⟩ b).setCell ⟨g,2,none⟩ c).setCell ⟨g,3,none⟩ d).setCell ⟨g,4,none⟩ e).setCell ⟨g,5,none⟩ f).setCell ⟨g,6,none⟩ k) :=
 (((((((Bx.one g N X 0 a).trans (Bx.one g N _ 1 b)).trans (Bx.one g N _ 2 c)).trans (Bx.one g N _ 3 d)).trans (Bx.one g N _ 4 e)).trans (Bx.one g N _ 5 f)).trans (Bx.one g N _ 6 k))
theorem wpList_app_nm {w W:World} {ops:Array Oper} {rest:List Oper} {o:Oper} {a:Act} {Q:Exit→Act→World→Prop} (hgd:o.guard=none) (s x:Operand)
  (ho:o.op=.call { callee:=.builtin .append,args:=#[s,x],argTypes:=#[31,31] }) (base:Nat) (v:Value) (n:Nat) (xs:List Value) (hs:a.eval s=v) (hO:W.ownsRow base 44 2 v n xs) (hb:base≤W.heap.size)
  (p:List UInt8×Nat) (hw:w=W.alloc (.cells #[.string ⟨p.1.toArray⟩,.int .i64 (p.2:Int)] 44)) (hx:a.eval x=.slice (some ⟨W.heap.size,0,none⟩) 1 1) (hn:n≤100000)
  (K:∀v' w',Hid (w'.ownsRow base 44 2 v' (n+1) (xs++[.string ⟨p.1.toArray⟩,.int .i64 (p.2:Int)]))→Hid (Below base W w')→wpList Tryz.prog ops Q rest (a.put o.dst v') w'):wpList Tryz.prog ops Q (o::rest) a w :=
 wpList_append_one hgd s x 31 44 ho Tryz.underlying31 _ 2 24 infoVN rfl (by decide) base v n xs hs W hO #[.string ⟨p.1.toArray⟩,.int .i64 (p.2:Int)] rfl (by simp [Value.oneCell']) hw hx (by omega) (by omega) hb fun v' w' h1 h2 _=>K v' w' (zq h1) (zq h2)
theorem dltT {j n:Nat} (h:j<n):decide ((j:Int)<(n:Int))=true:=decide_eq_true (by omega)
theorem dltF {j n:Nat} (h:¬j<n):decide ((j:Int)<(n:Int))=false:=decide_eq_false (by omega)
theorem oneT {c:Nat} (h:c=1):((c:Int)==1)=true:=by simp;omega
theorem oneF {c:Nat} (h:¬c=1):((c:Int)==1)=false:=by simp;omega
theorem natLt {j n:Nat} (h:j<n):(0:Int)≤(j:Int)∧(j:Int)<(n:Int):=⟨by omega,by omega⟩
theorem wrapN {j n:Nat} (h:j<n) (hn:n≤20000):wrap64 ((j:Int)+1)=((j+1:Nat):Int):=inc64 (by omega)
theorem measW {j n:Nat} (hw:wrap64 ((j:Int)+1)=((j+1:Nat):Int)) (h:j<n):n-(intOf (.int .i64 (wrap64 ((j:Int)+1)))).toNat<n-(intOf (.int .i64 (j:Int))).toNat:=by
 rw [hw];simp only [intOf];omega
theorem filt_len {α:Type} (f:α→Bool) (l:List α) (k n:Nat) (hn:n=((l.take k).filter f).length) (hl:l.length≤20000):n≤100000:=by
 have h3:=List.length_filter_le f (l.take k)
 rw [List.length_take] at h3;omega
theorem notlt {j n:Nat} (h:¬j<n) (hj:j≤n):j=n:=by omega
theorem betw {a b c d e:Nat} (h:b≤c∧c<d) (ha:a≤b) (hd:d≤e):a≤c∧c<e:=⟨by omega,by omega⟩
theorem ne_low {a b c:Nat} (h:a<b) (hc:b≤c):¬c=a:=by omega
def ROk (w0:World) (r:RdR) (e:Ending) (w':World):Prop:=∃A cap NA nc SA sc,e=.returned (.tuple #[.agg #[.int .i64 r.t.kind,.int .i64 r.t.num,.string r.t.name,.slice A r.t.args.length cap,.slice NA r.names.length nc,.slice SA r.singles.length sc,.int .i64 r.end_],.int .i64 r.where_,.int .i64 r.err])∧Below w0.heap.size w0 w' ∧
 TmsK (fun b=>w0.heap.size≤b∧b<w'.heap.size) w' A r.t.args∧NmAt (fun b=>w0.heap.size≤b∧b<w'.heap.size) w' NA r.names∧NmAt (fun b=>w0.heap.size≤b∧b<w'.heap.size) w' SA r.singles
theorem allTop_ok {L:List UInt8} {at_:Int} {s:Sy} (h:badArgs L at_ s=false):allTop L at_ s.conv=toksOf L at_ s:=by
 obtain ⟨h1,h2,h3,h4⟩:=bad_no h
 unfold allTop toksOf
 rw [if_pos]
 unfold okArgs
 rw [decide_eq_true h1,decide_eq_true h2,decide_eq_true h3,sy_conv_ok h4];rfl
theorem toks_in {L:List UInt8} {at_:Int} {s:Sy} (h:badArgs L at_ s=false) (he:(toksOf L at_ s).err=0):ToksOk L.length (toksOf L at_ s).l:=by
 obtain ⟨h1,h2,h3,_⟩:=bad_no h
 exact allR_toks _ _ (cvt_len _ _) _ (by omega) he
theorem toks_cell:∀(T:List NextR) (j:Nat) (h:j<T.length) (i:Nat) (v:Value),(nxtCells T[j])[i]? = some v→(toksCells T)[j * 6+i]? = some v
 | t::T,0,_,i,v,hv=>by
  have e:toksCells (t::T)=nxtCells t++toksCells T:=rfl
  have hv:(nxtCells t)[i]? = some v:=hv
  have hl:=(List.getElem?_eq_some_iff.1 hv).1
  rw [e,Nat.zero_mul,Nat.zero_add,List.getElem?_append_left hl];exact hv
 | t::T,j+1,h,i,v,hv=>by
  have e:toksCells (t::T)=nxtCells t++toksCells T:=rfl
  have hl:(nxtCells t).length=6:=rfl
  rw [e,List.getElem?_append_right (by omega),hl,show (j+1) * 6+i-6=j * 6+i by omega]
  exact toks_cell T j (by simpa using h) i v hv
theorem PsAt.begin {w X:World} (E:RE) (g tc:Nat) (OA:Option Addr) (on oc:Nat) (hT:ToksOk 16384 E.T) (hop:on=E.P.length) (hfew:on≤100) (hO:OpsAt X OA E.P) (hw:w.heap.size≤X.heap.size)
  (hown:X.ownsRow w.heap.size 76 6 (.slice (some ⟨g,0,none⟩) E.T.length tc) E.T.length (toksCells E.T)) :
  PsAt ⟨w.heap.size,X.heap.size,X.heap.size+3,X.heap.size+2,X.heap.size,X.heap.size+1,g,tc,OA,on,oc,E⟩ 0 (vsAt E.T 0) (.slice none 0 0)
   (((X.alloc (.map #[] 0)).alloc (.map #[] 0)).alloc (.cells #[.slice (some ⟨g,0,none⟩) E.T.length tc,.int .i64 0,.slice OA on oc,.int .i64 E.q,.map (some X.heap.size),.map (some (X.heap.size+1)),.int .i64 0,.slice none 0 0] 72)):=by
 have hB:Below X.heap.size X (((X.alloc (.map #[] 0)).alloc (.map #[] 0)).alloc (.cells #[.slice (some ⟨g,0,none⟩) E.T.length tc,.int .i64 0,.slice OA on oc,.int .i64 E.q,.map (some X.heap.size),.map (some (X.heap.size+1)),.int .i64 0,.slice none 0 0] 72)):=(((Below.refl _ _).alloc (Nat.le_refl _) _).alloc (by simp) _).alloc (by simp;omega) _
 have hgX:=(hown.lt g rfl).2
 have hpos:=hT.pos
 have hlast:(E.at (E.T.length-1)).r.kind=7:=by
  rw [E.at_get (by omega)]
  exact (hT.last _ (by omega)).2 (by omega)
 have htc:E.T.length≤tc:=by
  rcases hown.2 with ⟨hv,_⟩ | ⟨g',cap,cur,hv,_,_,hn,_⟩
  ·cases hv
  ·injection hv with _ _ h3;omega
 have s1:(X.alloc (.map #[] 0)).heap.size=X.heap.size+1:=by simp
 have hbk:Bk (((X.alloc (.map #[] 0)).alloc (.map #[] 0)).alloc (.cells #[.slice (some ⟨g,0,none⟩) E.T.length tc,.int .i64 0,.slice OA on oc,.int .i64 E.q,.map (some X.heap.size),.map (some (X.heap.size+1)),.int .i64 0,.slice none 0 0] 72)) (X.heap.size+2) [.slice (some ⟨g,0,none⟩) E.T.length tc,.int .i64 0,.slice OA on oc,.int .i64 E.q,.map (some X.heap.size),.map (some (X.heap.size+1)),.int .i64 0,.slice none 0 0]:=by
  have:=Bk.new ((X.alloc (.map #[] 0)).alloc (.map #[] 0)) [.slice (some ⟨g,0,none⟩) E.T.length tc,.int .i64 0,.slice OA on oc,.int .i64 E.q,.map (some X.heap.size),.map (some (X.heap.size+1)),.int .i64 0,.slice none 0 0] 72
  simpa using this
 refine { ok:={ b01:=hw,p1:=⟨by simp,by simp⟩,v1:=⟨by simp,by simp⟩,o1:=⟨by simp,by simp⟩,pv:=by simp,po:=by simp,vo:=by simp,gl:=hgX,len:=by have:=hT.len;simp only;omega,pos:=hpos,tcap:=htc,endk:=hlast,opl:=hop,few:=hfew,ob:=fun hl=>?_,txt:=fun t ht=>?_,nms:=fun t ht hn=>?_ },low:=by simp,bk:=?_,tk:=fun j hj i v hv=>?_,ops:=hO.below hB,vm:=?_,om:=?_,nm:=?_,n1:=hpos,vn:=by rw [vsAt_zero];exact Nat.le_refl _,vc:=by rw [vsAt_zero];exact vs0_ok }
 ·intro b off e
  have h0:0<E.P.length:=hl
  obtain ⟨b',off',e2,hb,_⟩:=hO 0 h0
  rw [show OA=some ⟨b,off,none⟩ from e] at e2
  injection e2 with e2;injection e2 with e2 _ _
  show b<X.heap.size
  omega
 ·have:=hT.fits t ht
  exact ⟨by have:=this.txt;omega,this.num⟩
 ·have:=(hT.fits t ht).nam
  unfold isNam at hn
  simp at hn
  exact this (by omega)
 ·rw [vsAt_zero];exact hbk
 ·have h1:(toksCells E.T)[j * 6+i]? = some v:=toks_cell E.T j hj i v hv
  have h2:=hown.cells (g:=g) rfl _ _ h1
  rw [addr_add] at h2
  rw [hB.cell (p:=⟨g,_,none⟩) hgX]
  rw [show (0:Nat)+(j * 6+i)=j * 6+i by omega] at h2
  exact h2
 ·rw [vsAt_zero]
  have h1:=NumMap.new Tryz.prog 9 2 X
  exact h1.keep (((Below.refl (X.heap.size+1) (X.alloc (.map #[] 0))).alloc (by simp) _).alloc (by simp) _ |>.block _ (Nat.lt_succ_self _))
 ·rw [vsAt_zero]
  have h1:=CntMap.new Tryz.prog 2 3 (X.alloc (.map #[] 0))
  rw [s1] at h1
  exact h1.keep ((Below.refl (X.heap.size+2) ((X.alloc (.map #[] 0)).alloc (.map #[] 0))).alloc (by simp) _ |>.block _ (Nat.lt_succ_self _))
 ·rw [vsAt_zero];exact World.ownsRow_nil _ _ _ _
set_option maxHeartbeats 6400000 in
theorem rd_Term (text:ByteArray) (at_:Int) (OA:Option Addr) (on oc:Nat) (q u:Int) (c d:Bool) (CA:Option Addr) (cn cc:Nat) (ol:List OpR) (cl:List (Int×Int)) (w:World) (hO:Tab w OA on oc ol) (hcl:cn=cl.length) (hcn:cn≤maxLen) (hC:Pairs w CA cl) (hs:text.size≤maxLen) :
  Calls Tryz.prog 11 #[.string text,.int .i64 at_,.agg #[.slice OA on oc,.int .i64 q,.int .i64 u,.bool c,.bool d,.slice CA cn cc]] w (ROk w (readS text.data.toList at_ ⟨ol,q,u,c,d,cl⟩)):=by
 obtain ⟨s,HS⟩:=lz (α:=Sy) (⟨ol,q,u,c,d,cl⟩)
 obtain ⟨R,HR⟩:=lz (readS text.data.toList at_ s)
 rw [←HS.out,←HR.out]
 obtain ⟨bad,HBD⟩:=lz (badArgs text.data.toList at_ s)
 have HE:Hid (R=if bad=true then rdErr 0 1 else if ¬(toksOf text.data.toList at_ s).err=0 then rdErr (toksOf text.data.toList at_ s).where_ (toksOf text.data.toList at_ s).err else readT ⟨(toksOf text.data.toList at_ s).l,s.P,s.q⟩):=zq (by rw [HR.out,HBD.out];rfl)
 have HBE:Hid (bad=(decide ((16384:Int)<(text.size:Int))||(decide (at_<0)||(decide ((text.size:Int)<at_) || !s.ok)))):=zq (by
  rw [HBD.out];unfold badArgs;rw [size_data]
  congr 1
  by_cases h:16384<text.size
  ·rw [decide_eq_true h,decide_eq_true (by omega)]
  ·rw [decide_eq_false h,decide_eq_false (by omega)])
 have HB0:Hid (Below w.heap.size w ((w.alloc (.cells #[.slice OA on oc,.int .i64 q,.int .i64 u,.bool c,.bool d,.slice CA cn cc] 27)).alloc (.cells #[.int .i64 0,.int .i64 0,.string ⟨#[]⟩,.slice none 0 0,.slice none 0 0,.slice none 0 0,.int .i64 0] 33))):=zq (((Below.refl _ _).alloc (Nat.le_refl _) _).alloc (by simp) _)
 have HK0:Hid (Bks ((w.alloc (.cells #[.slice OA on oc,.int .i64 q,.int .i64 u,.bool c,.bool d,.slice CA cn cc] 27)).alloc (.cells #[.int .i64 0,.int .i64 0,.string ⟨#[]⟩,.slice none 0 0,.slice none 0 0,.slice none 0 0,.int .i64 0] 33)) [(w.heap.size+1,[.int .i64 0,.int .i64 0,.string ⟨#[]⟩,.slice none 0 0,.slice none 0 0,.slice none 0 0,.int .i64 0]),(w.heap.size,[.slice OA on oc,.int .i64 q,.int .i64 u,.bool c,.bool d,.slice CA cn cc])]):=zq (((Bks.nil w).new [.slice OA on oc,.int .i64 q,.int .i64 u,.bool c,.bool d,.slice CA cn cc] 27 rfl).new [.int .i64 0,.int .i64 0,.string ⟨#[]⟩,.slice none 0 0,.slice none 0 0,.slice none 0 0,.int .i64 0] 33 (g:=w.heap.size+1) (by simp))
 have HVS:Hid (∀X,Below w.heap.size w X→Calls Tryz.prog 31 #[.agg #[.slice OA on oc,.int .i64 q,.int .i64 u,.bool c,.bool d,.slice CA cn cc]] X fun e w'=>e=.returned (.bool s.ok)∧Below X.heap.size X w'):=zq fun X hX=>by
  rw [HS.out];exact f_validSyntaxL OA on oc q u c d CA cn cc ol cl X (hO.below hX) hcl hcn (hC.below hX)
 have HOO:=zq hO
 have HTX:=zq hs
 have HSP:Hid (s.P=ol∧s.q=q∧s.c=c):=zq (by rw [HS.out];exact ⟨rfl,rfl,rfl⟩)
 obtain ⟨CV,vn,vc,HCV⟩:∃CV vn vc,Hid ((c=true→CV=CA∧vn=cn∧vc=cc)∧(c=false→CV=none∧vn=0∧vc=0)∧vn=s.conv.length∧vn≤maxLen∧∀W,Below w.heap.size w W→Pairs W CV s.conv):=by
  rw [HS.out]
  cases c
  ·exact ⟨none,0,0,zq ⟨fun h=>(by cases h),fun _=>⟨rfl,rfl,rfl⟩,rfl,Nat.zero_le _,fun W _=>Pairs.nil _ _⟩⟩
  ·exact ⟨CA,cn,cc,zq ⟨fun _=>⟨rfl,rfl,rfl⟩,fun h=>(by cases h),hcl,hcn,fun W h=>hC.below h⟩⟩
 clear hO hcl hcn hC hs HR HS
 go_enter Tryz.func11,Tryz.ntmps11
 go_upto_region 1 with fail
 obtain ⟨w1,HW1⟩:=lz (((w.alloc (.cells #[.slice OA on oc,.int .i64 q,.int .i64 u,.bool c,.bool d,.slice CA cn cc] 27)).alloc (.cells #[.int .i64 0,.int .i64 0,.string ⟨#[]⟩,.slice none 0 0,.slice none 0 0,.slice none 0 0,.int .i64 0] 33)))
 rw [←HW1.out] at HB0 HK0 ⊢
 clear HW1
 go_cut [33] from 16 to 33 (fun x wc=>x=.bool bad∧Hid (Below w.heap.size w wc)∧Hid (Bks wc [(w.heap.size+1,[.int .i64 0,.int .i64 0,.string ⟨#[]⟩,.slice none 0 0,.slice none 0 0,.slice none 0 0,.int .i64 0]),(w.heap.size,[.slice OA on oc,.int .i64 q,.int .i64 u,.bool c,.bool d,.slice CA cn cc])]))
 case first=>
  have hbe:=HBE.out
  clear HE HBD HCV HSP HTX HOO HBE
  have cc0:=HK0.out.all
  simp only [bksAll,bkAll,Nat.zero_add,Nat.reduceAdd,and_true] at cc0
  by_cases h1:(16384:Int)<(text.size:Int)
  ·have dh1:=decide_eq_true h1
   rw [dh1] at hbe
   clear h1
   have hm:bad=true:=hbe
   clear hbe
   subst hm
   go_wp2_with fail
   go_meet
   exact ⟨rfl,HB0,HK0⟩
  have dh1:=decide_eq_false h1
  rw [dh1] at hbe
  clear h1
  by_cases h2:at_<0
  ·have dh2:=decide_eq_true h2
   rw [dh2] at hbe
   clear h2
   have hm:bad=true:=hbe
   clear hbe
   subst hm
   go_wp2_with fail
   go_meet
   exact ⟨rfl,HB0,HK0⟩
  have dh2:=decide_eq_false h2
  rw [dh2] at hbe
  clear h2
  by_cases h3:(text.size:Int)<at_
  ·have dh3:=decide_eq_true h3
   rw [dh3] at hbe
   clear h3
   have hm:bad=true:=hbe
   clear hbe
   subst hm
   go_wp2_with fail
   go_meet
   exact ⟨rfl,HB0,HK0⟩
  have dh3:=decide_eq_false h3
  rw [dh3] at hbe
  clear h3
  have hm:bad=!s.ok:=hbe
  clear hbe
  subst hm
  go_wp2_with fail
  refine (HVS.out _ HB0.out).mono ?_;rintro e w2 ⟨rfl,hB2⟩
  have HB2:=bz HB0 hB2
  have HK2:=zq (HK0.out.call hB2)
  clear hB2 HB0 HK0 cc0
  go_wp2_with fail
  go_meet
  exact ⟨rfl,HB2,HK2⟩
 case rest=>
  obtain ⟨rfl,HB1,HK1⟩:=hcut
  clear HB0 HK0 HBE HVS
  cases bad
  rotate_left
  ·skip
   have HV:Hid (R=rdErr 0 1):=HE
   clear HE HBD HCV HSP HTX HOO
   have cc1:=HK1.out.all
   simp only [bksAll,bkAll,Nat.zero_add,Nat.reduceAdd,and_true] at cc1
   go_wp2_with fail
   refine bodyPost_ret (v:=.tuple #[.agg #[.int .i64 0,.int .i64 0,.string ⟨#[]⟩,.slice none 0 0,.slice none 0 0,.slice none 0 0,.int .i64 0],.int .i64 0,.int .i64 1]) (by simp [results,Tryz.results11,go_sem,cc1]) rfl ?_
   rw [HV.out]
   exact ⟨none,0,none,0,none,0,rfl,put7_below HB1.out (w.heap.size+1) (Nat.le_succ _) _ _ _ _ _ _ _,TmsK.nil,NmAt.nil,NmAt.nil⟩
  have hbn:=bad_no HBD.out.symm
  have HBN:=zq hbn
  have HTK:=zq (allTop_ok (s:=s) HBD.out.symm)
  have HTI:=zq (fun h=>toks_in (s:=s) HBD.out.symm h)
  have HE2:Hid (R=if ¬(toksOf text.data.toList at_ s).err=0 then rdErr (toksOf text.data.toList at_ s).where_ (toksOf text.data.toList at_ s).err else readT ⟨(toksOf text.data.toList at_ s).l,s.P,s.q⟩):=HE
  clear HE HBD hbn
  have cf:=HK1.out.all
  simp only [bksAll,bkAll,Nat.zero_add,Nat.reduceAdd,and_true] at cf
  go_upto_if 37 with fail
  clear cf
  obtain ⟨wd,HWD⟩:=lz (wc)
  rw [←HWD.out] at HB1 HK1 ⊢
  clear HWD
  go_cut [9] from 35 to 39 (fun x w2=>x=.slice CV vn vc∧w2=wd)
  case first=>
   have hcv:=HCV.out
   clear HE2 HCV HSP HTX HOO HTK HTI HBN
   have cc1:=HK1.out.all
   simp only [bksAll,bkAll,Nat.zero_add,Nat.reduceAdd,and_true] at cc1
   cases c
   ·obtain ⟨rfl,rfl,rfl⟩:=hcv.2.1 rfl
    clear hcv
    go_wp2_with fail
    go_meet
    exact ⟨rfl,rfl⟩
   ·obtain ⟨rfl,rfl,rfl⟩:=hcv.1 rfl
    clear hcv
    go_wp2_with fail
    go_meet
    exact ⟨rfl,rfl⟩
  case rest=>
   obtain ⟨rfl,hcw⟩:=hcut
   rw [hcw]
   clear hcw
   have HA:=zq (token_all text at_ CV vn vc s.conv wd HCV.out.2.2.1 HCV.out.2.2.2.1 HTX.out (HCV.out.2.2.2.2 _ HB1.out))
   rw [HTK.out] at HA
   obtain ⟨ra,HRA⟩:=lz (toksOf text.data.toList at_ s)
   rw [←HRA.out] at HA HTI HE2
   clear HCV HTK HTX HRA
   go_wp2_with fail
   refine HA.out.mono ?_;rintro e w2 ⟨va,rfl,hB2,hown⟩
   obtain ⟨Av,cv,rfl⟩:=own_slice hown
   have HOW:=zq (own_mono hown HB1.out.size)
   have HGB:=zq (fun k (hk:(Value.slice Av ra.l.length cv).ownBlock=some k)=>Nat.lt_of_lt_of_le (HK1.out.lt 0 rfl) (hown.lt k hk).1)
   have HB2:=bz HB1 hB2
   have HK2:=zq (HK1.out.call hB2)
   clear hB2 HB1 HK1 HA hown
   by_cases he:ra.err=0
   rotate_left
   ·have b0:(ra.err != 0)=true:=by simpa using he
    have HV:Hid (R=rdErr ra.where_ ra.err):=zq (by rw [HE2.out,if_pos he])
    clear he HE2 HTI HSP HOO HBN HOW
    have cc2:=HK2.out.all
    simp only [bksAll,bkAll,Nat.zero_add,Nat.reduceAdd,and_true] at cc2
    go_wp2_with fail
    refine bodyPost_ret (v:=.tuple #[.agg #[.int .i64 0,.int .i64 0,.string ⟨#[]⟩,.slice none 0 0,.slice none 0 0,.slice none 0 0,.int .i64 0],.int .i64 ra.where_,.int .i64 ra.err]) (by simp [results,Tryz.results11,go_sem,cc2]) rfl ?_
    rw [HV.out]
    exact ⟨none,0,none,0,none,0,rfl,put7_below HB2.out (w.heap.size+1) (Nat.le_succ _) _ _ _ _ _ _ _,TmsK.nil,NmAt.nil,NmAt.nil⟩
   have b0:(ra.err != 0)=false:=by simpa using he
   have HTO:=zq (HTI.out he)
   have HE3:Hid (R=readT ⟨ra.l,s.P,s.q⟩):=zq (by rw [HE2.out,if_neg (fun h=>h he)])
   clear he HTI HE2
   have cc2:=HK2.out.all
   simp only [bksAll,bkAll,Nat.zero_add,Nat.reduceAdd,and_true] at cc2
   have hmk1:∀(w:World),(Instr.makeMap 69 none).run Tryz.prog w=.ok (.map (some w.heap.size)) (w.alloc (.map #[] 0)):=fun w=>run_makeMap _ w
   have hmk2:∀(w:World),(Instr.makeMap 70 none).run Tryz.prog w=.ok (.map (some w.heap.size)) (w.alloc (.map #[] 0)):=fun w=>run_makeMap _ w
   have hg:∃g,Av=some ⟨g,0,none⟩:=by
    rcases HOW.out.2 with ⟨hv,h0⟩ | ⟨g,cap,cur,hv,_⟩
    ·exact absurd h0 (by have:=HTO.out.pos;omega)
    ·injection hv with hv _ _;exact ⟨g,hv⟩
   obtain ⟨g,rfl⟩:=hg
   have HGN:=zq (HGB.out g rfl)
   clear HGB
   go_upto_region 10 with fail
   clear hmk1 hmk2 b0
   obtain ⟨z,HZ⟩:=lz (α:=PC) (⟨w.heap.size,w2.heap.size,w2.heap.size+3,w2.heap.size+2,w2.heap.size,w2.heap.size+1,g,cv,OA,on,oc,⟨ra.l,s.P,s.q⟩⟩)
   obtain ⟨wp,HWP⟩:=lz (((w2.alloc (.map #[] 0)).alloc (.map #[] 0)).alloc (.cells #[.slice (some ⟨g,0,none⟩) ra.l.length cv,.int .i64 0,.slice OA on oc,.int .i64 q,.map (some w2.heap.size),.map (some (w2.heap.size+1)),.int .i64 0,.slice none 0 0] 72))
   have hval:opsValid ol=true:=by
    have:=HBN.out.2.2.2
    unfold Sy.ok at this
    rw [Bool.and_eq_true] at this
    rw [←HSP.out.1];exact this.1
   have hps:=PsAt.begin ⟨ra.l,s.P,s.q⟩ g cv OA on oc (w:=w) (X:=w2) ⟨by have:=HTO.out.len;have:=HBN.out.1;simp only;omega,HTO.out.pos,HTO.out.last,fun t ht=>⟨by have:=(HTO.out.fits t ht).txt;have:=HBN.out.1;omega,(HTO.out.fits t ht).num,(HTO.out.fits t ht).nam⟩⟩ (by simp only;rw [HSP.out.1];exact HOO.out.len) (by rw [HOO.out.len];exact (opsValid_at ol hval).1) (by simp only;rw [HSP.out.1];exact HOO.out.ops.below (HB2.out.mono (Nat.le_refl _))) HB2.out.size HOW.out
   simp only at hps
   rw [←HZ.out,HSP.out.2.1,←HWP.out] at hps
   have hB8:Below w2.heap.size w2 wp:=by rw [HWP.out];exact (((Below.refl _ _).alloc (Nat.le_refl _) _).alloc (by simp) _).alloc (by simp;omega) _
   have HB8:=bz HB2 hB8
   have HK8:=zq (HK2.out.call hB8)
   have HZF:Hid (z.P=w2.heap.size+1+1∧z.B1=w2.heap.size∧z.E=⟨ra.l,s.P,s.q⟩∧z.g=g∧z.E.T.length=ra.l.length∧z.tc=cv):=zq (by rw [HZ.out];exact ⟨rfl,rfl,rfl,rfl,rfl,rfl⟩)
   have HS8:=zq hB8.size
   have HGL:Hid (w.heap.size+1<w2.heap.size):=zq (HK2.out.lt 0 rfl)
   have HPS:Hid (PsAt z 0 (vsAt z.E.T 0) (.slice none 0 0) wp):=zq (by
    have e:vsAt z.E.T 0=vsAt ra.l 0:=by rw [HZF.out.2.2.1]
    rw [e];exact hps)
   have HX:=zq (rd_whole HPS.out)
   rw [←HZF.out.2.2.1] at HE3
   rw [←HWP.out,←HZF.out.1]
   clear hps hB8 HB2 HK2 HWP HSP HOO HOW HTO HBN hval cc2 HZ
   unfold readT at HE3
   rcases hw:wholeG z.E with k | ⟨t,m⟩
   ·skip
    rw [hw] at HX HE3
    have HV:Hid (R=rdErr (z.E.at k).r.at_ 7):=HE3
    clear HE3 hw
    go_wp2_with fail
    refine HX.out.mono ?_;rintro e w9 ⟨rfl,hB9⟩
    rw [HZF.out.2.1] at hB9
    have hGL:=HGL.out
    have HB9:=zq (HB8.out.trans (hB9.mono (by have:=HGL.out;omega)))
    have HK9:=zq ((HK8.out.keepB hB9 (by intro x hx;simp only [List.mem_cons,List.mem_nil_iff,or_false] at hx;rcases hx with rfl|rfl <;> simp only <;> omega)).call ((Below.refl w9.heap.size w9).alloc (Nat.le_refl _) (.cells #[.int .i64 0,.int .i64 0,.string ⟨#[]⟩,.slice none 0 0] 30)))
    have HBA:=zq (HB9.out.alloc HB9.out.size (.cells #[.int .i64 0,.int .i64 0,.string ⟨#[]⟩,.slice none 0 0] 30))
    clear hB9 HB9 HK8 HB8 HX
    have cc9:=HK9.out.all
    simp only [bksAll,bkAll,Nat.zero_add,Nat.reduceAdd,and_true] at cc9
    go_wp2_with fail
    refine bodyPost_ret (v:=.tuple #[.agg #[.int .i64 0,.int .i64 0,.string ⟨#[]⟩,.slice none 0 0,.slice none 0 0,.slice none 0 0,.int .i64 0],.int .i64 (z.E.at k).r.at_,.int .i64 7]) (by simp [results,Tryz.results11,go_sem,cc9]) rfl ?_
    rw [HV.out]
    exact ⟨none,0,none,0,none,0,rfl,put7_below HBA.out (w.heap.size+1) (Nat.le_succ _) _ _ _ _ _ _ _,TmsK.nil,NmAt.nil,NmAt.nil⟩
   ·skip
    rw [hw] at HX HE3
    have HE4:Hid (R=readOk z.E t m):=HE3
    clear HE3 hw
    go_wp2_with fail
    refine HX.out.mono ?_;rintro e w9 ⟨At,ct,nv1,rfl,hp,hs,ht⟩
    have hGL:=HGL.out
    have hB9:=hs.low HPS.out
    rw [HZF.out.2.1] at hB9
    have HP9:=zq hp
    have HB9:=zq (HB8.out.trans (hB9.mono (by omega)))
    have HK9:=zq (HK8.out.keepB hB9 (by intro x hx;simp only [List.mem_cons,List.mem_nil_iff,or_false] at hx;rcases hx with rfl|rfl <;> simp only <;> omega))
    have HT9:=zq (ht.keep (fun _ _=>rfl) fun b hb=>(⟨Nat.le_trans HS8.out hb.1,hb.2.1⟩:w2.heap.size≤b∧b<w9.heap.size))
    clear hB9 hp hs ht HX HB8 HK8 HPS
    unfold tmV
    obtain ⟨wt,HWT⟩:=lz (w9.alloc (.cells #[.int .i64 t.kind,.int .i64 t.num,.string t.name,.slice At t.args.length ct] 30))
    obtain ⟨gt,HGT⟩:=lz (w9.heap.size)
    have hBt:Below w9.heap.size w9 wt:=by rw [HWT.out];exact (Below.refl _ _).alloc (Nat.le_refl _) _
    have hkt:Bks wt [(gt,[.int .i64 t.kind,.int .i64 t.num,.string t.name,.slice At t.args.length ct]),(w.heap.size+1,[.int .i64 0,.int .i64 0,.string ⟨#[]⟩,.slice none 0 0,.slice none 0 0,.slice none 0 0,.int .i64 0]),(w.heap.size,[.slice OA on oc,.int .i64 q,.int .i64 u,.bool c,.bool d,.slice CA cn cc])]:=by rw [HWT.out,HGT.out];exact HK9.out.new [.int .i64 t.kind,.int .i64 t.num,.string t.name,.slice At t.args.length ct] 30 rfl
    have HP10:=zq (HP9.out.call hBt)
    have HB10:=bz HB9 hBt
    have HK10:=zq (HK9.out.call hBt)
    have HT10:=zq (HT9.out.keep (fun b hb=>hBt.block b hb.2) (fun b hb=>(⟨hb.1,Nat.lt_of_lt_of_le hb.2 hBt.size⟩:w2.heap.size≤b∧b<wt.heap.size)))
    clear HP9 HB9 HK9 HT9
    clear HK10
    have HK10:=zq hkt
    clear hBt hkt
    go_upto_region 11 with fail
    rw [←HWT.out,←HGT.out]
    clear HWT HGT
    have cc:=HK10.out.all
    simp only [bksAll,bkAll,Nat.zero_add,Nat.reduceAdd,and_true] at cc
    have HVT:=zq (t_valid t At ct wt (HT10.out.keep (fun _ _=>rfl) fun b hb=>hb.2))
    unfold tmV at HVT
    go_wp2_with fail
    refine HVT.out.mono ?_;rintro e w11 ⟨rfl,hB11⟩
    have HP11:=zq (HP10.out.call hB11)
    have HB11:=bz HB10 hB11
    have HK11:=zq (HK10.out.call hB11)
    have HT11:=zq (HT10.out.keep (fun b hb=>hB11.block b hb.2) (fun b hb=>(⟨hb.1,Nat.lt_of_lt_of_le hb.2 hB11.size⟩:w2.heap.size≤b∧b<w11.heap.size)))
    clear HP10 HB10 HK10 HT10
    clear hB11 HVT cc
    unfold readOk at HE4
    cases hvt:validT t
    ·skip
     rw [hvt] at HE4
     have HV:Hid (R=rdErr (z.E.at 0).r.at_ 2):=HE4
     clear HE4 hvt
     have hk3:=HP11.out.tk 0 HP11.out.ok.pos 3 _ rfl
     rw [←z.E.at_get HP11.out.ok.pos,HZF.out.2.2.2.1,Nat.zero_mul,Nat.zero_add] at hk3
     have hgn:=HGN.out
     have hg1:¬g=w.heap.size+1:=by omega
     have hg2:¬w.heap.size+1=g:=by omega
     clear hgn
     have hlen:(0:Int)<(ra.l.length:Int):=by have:=HP11.out.ok.pos;rw [HZF.out.2.2.2.2.1] at this;omega
     have cc:=HK11.out.all
     simp only [bksAll,bkAll,Nat.zero_add,Nat.reduceAdd,and_true] at cc
     go_wp2_with fail
     go_region
     all_goals
      go_wp2_with fail
      refine bodyPost_ret (v:=.tuple #[.agg #[.int .i64 0,.int .i64 0,.string ⟨#[]⟩,.slice none 0 0,.slice none 0 0,.slice none 0 0,.int .i64 0],.int .i64 (z.E.at 0).r.at_,.int .i64 2]) (by simp [results,Tryz.results11,go_sem,cc]) rfl ?_
      rw [HV.out]
      exact ⟨none,0,none,0,none,0,rfl,(put7_below HB11.out (w.heap.size+1) (Nat.le_succ _) _ _ _ _ _ _ _).drew,TmsK.nil,NmAt.nil,NmAt.nil⟩
    ·skip
     rw [hvt] at HE4
     have HV:Hid (R=⟨t,(vsAt z.E.T m).m,sglV (vsAt z.E.T m),(z.E.at m).r.end_,0,0⟩):=HE4
     clear HE4 hvt
     obtain ⟨NA,nc,rfl⟩:=own_slice HP11.out.nm
     obtain ⟨nn,HNN⟩:=lz ((vsAt z.E.T m).m.length)
     rw [←HNN.out] at HP11
     obtain ⟨qt,HQT⟩:=lz (z.E.at m)
     obtain ⟨en,HEN⟩:=lz (qt.r.end_)
     have HPK:=zq (fun X (hX:Below w11.heap.size w11 X)=>rd_peek (HP11.out.call hX) 0 (by decide))
     rw [Nat.add_zero,←HQT.out] at HPK
     rw [←HQT.out,←HEN.out] at HV
     have hf:∀W,(Instr.field 76 (.agg #[.int .i64 qt.r.kind,.string qt.txt,.int .i64 qt.r.n,.int .i64 qt.r.at_,.int .i64 qt.r.end_,.bool qt.lay]) 4).run Tryz.prog W=.ok (.int .i64 qt.r.end_) W:=fun W=>by kernel_rfl
     rw [←HEN.out] at hf
     have HFE:=zq hf
     clear hf
     unfold tkV at HPK
     rw [←HEN.out] at HPK
     go_wp2_with fail
     rename_i K7 hK7
     refine region_last (w0:=w11) [rVal [] [0] (fun|[v]=>v=.agg #[.int .i64 t.kind,.int .i64 t.num,.string t.name,.slice At t.args.length ct]|_=>False),
      rPure [] [1] (fun|[v]=>v=.pointer (some ⟨z.P,0,none⟩)|_=>False),
      rPure [1] [2] (fun|[v]=>v=.pointer (some ⟨z.P,0,none⟩)|_=>False),
      rPure [1,2] [3] (fun|[v]=>v=.pointer (some ⟨z.P,7,none⟩)|_=>False),
      rVal [1,2,3] [4] (fun|[v]=>v=.slice NA nn nc|_=>False),
      rPure [] [5] (fun|[v]=>v=.pointer (some ⟨z.P,0,none⟩)|_=>False),
      rVal [5] [6] (fun|[v]=>v=.agg #[.int .i64 qt.r.kind,.string qt.txt,.int .i64 qt.r.n,.int .i64 qt.r.at_,.int .i64 en,.bool qt.lay]|_=>False),
      rPure [5,6] [7] (fun|[v]=>v=.int .i64 en|_=>False),
      rPure (List.range 8) [8] (fun|[v]=>v=.agg #[.int .i64 t.kind,.int .i64 t.num,.string t.name,.slice At t.args.length ct,.slice NA nn nc,.slice none 0 0,.int .i64 en]|_=>False),
      rLast (List.range 9) [] (fun _=>True)]
      [some 81,some 82,some 83,some 84,some 85,some 86,some 87,some 88,some 89,none] (fun _=>True) (w11.heap.size) 9 (fun _ X=>Hid (Below w.heap.size w X∧Bx (w.heap.size+1) w11.heap.size w11 X∧Bk X (w.heap.size+1) [.int .i64 t.kind,.int .i64 t.num,.string t.name,.slice At t.args.length ct,.slice NA nn nc,.slice none 0 0,.int .i64 en])) (by kernel_rfl) (Nat.le_refl _) (by kernel_rfl) (by kernel_rfl) ⟨by decide,rfl⟩ (fun j o ho=>?srv7) (fun val Y hv HF=>?fin7)
     case srv7=>
      have hlt:j<10:=(Array.getElem?_eq_some_iff.1 ho).1
      rcases (show j=0∨j=1∨j=2∨j=3∨j=4∨j=5∨j=6∨j=7∨j=8∨j=9 by omega) with rfl|rfl|rfl|rfl|rfl|rfl|rfl|rfl|rfl|rfl
      ·cases ho
       refine srv_val rfl rfl (fun _ _ _=>trivial) (fun val E X hE hB hA=>?_)
       have e12:=hE.t 12 (.pointer (some ⟨gt,0,none⟩)) rfl
       have hk:=((HK11.out.call hB).at 0 _ _ rfl).all0
       simp only [bkAll,Nat.zero_add,Nat.reduceAdd,and_true] at hk
       exact ⟨.agg #[.int .i64 t.kind,.int .i64 t.num,.string t.name,.slice At t.args.length ct],by simp [execOp,go_sem,e12,hk],rfl⟩
      ·cases ho
       refine srv_pure rfl rfl (fun val E hE hA=>?_)
       have e11:=hE.t 11 (.pointer (some ⟨z.P,0,none⟩)) rfl
       exact ⟨.pointer (some ⟨z.P,0,none⟩),fun X=>by simp [execOp,go_sem,e11],rfl⟩
      ·cases ho
       refine srv_pure rfl rfl (fun val E hE hA=>?_)
       have e82:=hE.t 82 (val 1) rfl
       have h1:val 1=.pointer (some ⟨z.P,0,none⟩):=hA 1 (oz rfl)
       exact ⟨.pointer (some ⟨z.P,0,none⟩),fun X=>by simp [execOp,go_sem,e82,h1],rfl⟩
      ·cases ho
       refine srv_pure rfl rfl (fun val E hE hA=>?_)
       have e83:=hE.t 83 (val 2) rfl
       have h2:val 2=.pointer (some ⟨z.P,0,none⟩):=hA 2 (oz rfl)
       exact ⟨.pointer (some ⟨z.P,7,none⟩),fun X=>by simp [execOp,go_sem,e83,h2],rfl⟩
      ·cases ho
       refine srv_val rfl rfl (fun _ _ _=>trivial) (fun val E X hE hB hA=>?_)
       have e84:=hE.t 84 (val 3) rfl
       have h3:val 3=.pointer (some ⟨z.P,7,none⟩):=hA 3 (oz rfl)
       have hk:=(HP11.out.call hB).bk.c 7 _ rfl
       exact ⟨.slice NA nn nc,by simp [execOp,go_sem,e84,h3,hk],rfl⟩
      ·cases ho
       refine srv_pure rfl rfl (fun val E hE hA=>?_)
       have e11:=hE.t 11 (.pointer (some ⟨z.P,0,none⟩)) rfl
       exact ⟨.pointer (some ⟨z.P,0,none⟩),fun X=>by simp [execOp,go_sem,e11],rfl⟩
      ·cases ho
       refine srv_calV rfl rfl (fun _ _ _=>trivial) (fun val E X hE hB hA=>?_)
       have e86:=hE.t 86 (val 5) rfl
       have h5:val 5=.pointer (some ⟨z.P,0,none⟩):=hA 5 (oz rfl)
       exact ⟨_,_,_,by simp [execOp,go_sem,hE.c,hE.f,e86,h5] <;> rfl,HPK.out X hB,rfl⟩
      ·cases ho
       refine srv_pure rfl rfl (fun val E hE hA=>?_)
       have e87:=hE.t 87 (val 6) rfl
       have h6:val 6=.agg #[.int .i64 qt.r.kind,.string qt.txt,.int .i64 qt.r.n,.int .i64 qt.r.at_,.int .i64 en,.bool qt.lay]:=hA 6 (oz rfl)
       have hf:=HFE.out
       exact ⟨.int .i64 en,fun X=>by simp [execOp,go_sem,e87,h6,hf],rfl⟩
      ·cases ho
       refine srv_pure rfl rfl (fun val E hE hA=>?_)
       have e81:=hE.t 81 (val 0) rfl
       have h0:val 0=.agg #[.int .i64 t.kind,.int .i64 t.num,.string t.name,.slice At t.args.length ct]:=hA 0 (oz rfl)
       have e85:=hE.t 85 (val 4) rfl
       have h4:val 4=.slice NA nn nc:=hA 4 (oz rfl)
       have e88:=hE.t 88 (val 7) rfl
       have h7:val 7=.int .i64 en:=hA 7 (oz rfl)
       exact ⟨.agg #[.int .i64 t.kind,.int .i64 t.num,.string t.name,.slice At t.args.length ct,.slice NA nn nc,.slice none 0 0,.int .i64 en],fun X=>by simp [execOp,go_sem,e81,h0,e85,h4,e88,h7],rfl⟩
      ·cases ho
       refine srv_last rfl rfl fun val E X N hE hC hA hc _=>?_
       have h8:val 8=.agg #[.int .i64 t.kind,.int .i64 t.num,.string t.name,.slice At t.args.length ct,.slice NA nn nc,.slice none 0 0,.int .i64 en]:=hA 8 (oz rfl)
       have e6':E (.tmp 6)=.pointer (some ⟨w.heap.size+1,0,none⟩):=by rw [hE.eq];rfl
       have e89:=hE.t 89 (val 8) rfl
       have hk:Bk X (w.heap.size+1) [.int .i64 0,.int .i64 0,.string ⟨#[]⟩,.slice none 0 0,.slice none 0 0,.slice none 0 0,.int .i64 0]:=(HK11.out.call hC.bel).at 1 _ _ rfl
       have z0:=hk.c 0 _ rfl
       have f0:=hk.f 0
       have z1:=hk.c 1 _ rfl
       have f1:=hk.f 1
       have z2:=hk.c 2 _ rfl
       have f2:=hk.f 2
       have z3:=hk.c 3 _ rfl
       have f3:=hk.f 3
       have z4:=hk.c 4 _ rfl
       have f4:=hk.f 4
       have z5:=hk.c 5 _ rfl
       have f5:=hk.f 5
       have z6:=hk.c 6 _ rfl
       have f6:=hk.f 6
       have hX:=HB11.out.trans (hC.bel.mono HB11.out.size)
       exact .inr (.inl ⟨(((((((X.setCell ⟨w.heap.size+1,0,none⟩ (.int .i64 t.kind)).setCell ⟨w.heap.size+1,1,none⟩ (.int .i64 t.num)).setCell ⟨w.heap.size+1,2,none⟩ (.string t.name)).setCell ⟨w.heap.size+1,3,none⟩ (.slice At t.args.length ct)).setCell ⟨w.heap.size+1,4,none⟩ (.slice NA nn nc)).setCell ⟨w.heap.size+1,5,none⟩ (.slice none 0 0)).setCell ⟨w.heap.size+1,6,none⟩ (.int .i64 en)),by simp [execOp,go_sem,e6',e89,h8,z0,f0,z1,f1,z2,f2,z3,f3,z4,f4,z5,f5,z6,f6],trivial,zq ⟨put7_below hX (w.heap.size+1) (Nat.le_succ _) _ _ _ _ _ _ _,(Bx.of hC.bel).trans (Bx.put7 _ _ _ _ _ _ _ _ _ _),((((((hk.set 0 _).set 1 _).set 2 _).set 3 _).set 4 _).set 5 _).set 6 _⟩⟩)
     case fin7=>
      have h0:val 0=.agg #[.int .i64 t.kind,.int .i64 t.num,.string t.name,.slice At t.args.length ct]:=hv 0 (by decide)
      have h1:val 1=.pointer (some ⟨z.P,0,none⟩):=hv 1 (by decide)
      have h2:val 2=.pointer (some ⟨z.P,0,none⟩):=hv 2 (by decide)
      have h3:val 3=.pointer (some ⟨z.P,7,none⟩):=hv 3 (by decide)
      have h4:val 4=.slice NA nn nc:=hv 4 (by decide)
      have h5:val 5=.pointer (some ⟨z.P,0,none⟩):=hv 5 (by decide)
      have h6:val 6=.agg #[.int .i64 qt.r.kind,.string qt.txt,.int .i64 qt.r.n,.int .i64 qt.r.at_,.int .i64 en,.bool qt.lay]:=hv 6 (by decide)
      have h7:val 7=.int .i64 en:=hv 7 (by decide)
      have h8:val 8=.agg #[.int .i64 t.kind,.int .i64 t.num,.string t.name,.slice At t.args.length ct,.slice NA nn nc,.slice none 0 0,.int .i64 en]:=hv 8 (by decide)
      obtain ⟨hB7,hX7,hk7⟩:=Hid.out HF
      rename_i Y
      have HBL:=zq hB7
      have HBX:=zq hX7
      have HBR:=zq hk7
      clear hv HF hB7 hX7 hk7
      refine hK7 _ _ ?_
      simp only [fillD,List.set_cons_zero,List.set_cons_succ,Nat.reduceAdd,Nat.zero_add,h0,h1,h2,h3,h4,h5,h6,h7,h8]
      clear hK7 h0 h1 h2 h3 h4 h5 h6 h7 h8 HPK HFE
      have HNW:Hid (z.B1=w2.heap.size∧w.heap.size+1<w2.heap.size):=zq ⟨HZF.out.2.1,HGL.out⟩
      obtain ⟨NN,HNS⟩:=lz (w11.heap.size)
      have HPB:Hid (∀X,Bx (w.heap.size+1) NN w11 X→Bk X z.P (z.cells m (vsAt z.E.T m) (.slice NA nn nc))):=zq fun X h=>HP11.out.bk.keeps (h.block _ (by rw [HNS.out];exact HP11.out.bk.lt) (by have:=HP11.out.ok.p1;have:=HNW.out;omega))
      have HPO:Hid (∀X Y,Bx (w.heap.size+1) NN w11 X→(∀b,b<X.heap.size→Y.heap[b]? = X.heap[b]?)→CntMap Tryz.prog 2 3 Y z.O (vsAt z.E.T m).o.length (fun x=>(vsAt z.E.T m).o.count x)):=zq fun X Y h hy=>HP11.out.om.keep ((hy _ (Nat.lt_of_lt_of_le HP11.out.om.lt h.size)).trans (h.block _ (by rw [HNS.out];exact HP11.out.om.lt) (by have:=HP11.out.ok.o1;have:=HNW.out;omega)))
      have hnm0:=NmAt.own (m:=(vsAt z.E.T m).m) (by have:=HP11.out.nm;rw [HNN.out] at this;exact this)
      have HNM:Hid (∀X,Bx (w.heap.size+1) NN w11 X→NmAt (fun b=>w2.heap.size≤b∧b<NN) X NA (vsAt z.E.T m).m):=zq fun X h=>hnm0.2.keep (fun b hb=>h.block b (by rw [HNS.out];exact hb.2) (by have:=hb.1;have:=HP11.out.ok.p1;have:=HNW.out;omega)) fun b hb=>⟨by have:=hb.1;have:=HP11.out.ok.p1;have:=HNW.out;omega,by rw [HNS.out];exact hb.2⟩
      have HTM:Hid (∀X,Bx (w.heap.size+1) NN w11 X→TmsK (fun b=>w2.heap.size≤b∧b<NN) X At t.args):=zq fun X h=>HT11.out.keep (fun b hb=>h.block b (by rw [HNS.out];exact hb.2) (by have:=hb.1;have:=HNW.out;omega)) fun b hb=>⟨hb.1,by rw [HNS.out];exact hb.2⟩
      have HVO:Hid ((vsAt z.E.T m).o.length≤20000∧(vsAt z.E.T m).m.length≤20000∧∀p∈(vsAt z.E.T m).m,p.2≤20000):=zq (by
       have h1:=HP11.out.vn
       have h2:=HP11.out.n1
       have h3:=HP11.out.ok.len
       have h4:=HP11.out.vc
       exact ⟨by omega,by have:=h4.mo;omega,fun p hp=>by have:=h4.lt p hp;have:=h4.co;omega⟩)
      have HNL:Hid (NN≤Y.heap.size):=zq (by rw [HNS.out];exact HBX.out.size)
      have HWN:Hid (w.heap.size+1<NN∧w2.heap.size≤NN):=zq (by rw [HNS.out];have:=HK11.out.lt 1 rfl;exact ⟨this,by have:=HP11.out.low;have:=HP11.out.ok.p1;have:=HNW.out;omega⟩)
      rw [←HNS.out] at HBX
      clear hnm0 HP11 HB11 HK11 HT11 HZF HGN HGL
      have kp:=HPB.out Y HBX.out
      have kpc:=kp.all0
      simp only [PC.cells,bkAll,Nat.zero_add,Nat.reduceAdd,and_true] at kpc
      go_wp2_with fail
      clear kp kpc
      go_loopw [95] (fun i wr=>∃j:Nat,i=.int .i64 j∧j≤nn∧∃v,Hid (Bx (w.heap.size+1) NN w11 wr)∧Hid (Below w.heap.size w wr)∧Hid (Bk wr (w.heap.size+1) [.int .i64 t.kind,.int .i64 t.num,.string t.name,.slice At t.args.length ct,.slice NA nn nc,v,.int .i64 en])∧Hid (wr.ownsRow NN 44 2 v (((vsAt z.E.T m).m.take j).filter (fun p:List UInt8×Nat=>(vsAt z.E.T m).o.count p.2==1)).length (nmCells (((vsAt z.E.T m).m.take j).filter (fun p:List UInt8×Nat=>(vsAt z.E.T m).o.count p.2==1))))) (fun i _=>nn-(intOf i).toNat)
      case atStart=>exact ⟨0,rfl,Nat.zero_le _,.slice none 0 0,HBX,HBL,HBR,zq (World.ownsRow_nil _ _ _ _)⟩
      case round=>
       obtain ⟨j,rfl,hj,v,HX2,HL2,HR2,HO2⟩:=hrel
       obtain ⟨SA,sc,hv⟩:=own_slice HO2.out
       obtain ⟨ns,HNSL⟩:=lz ((((vsAt z.E.T m).m.take j).filter (fun p:List UInt8×Nat=>(vsAt z.E.T m).o.count p.2==1)).length)
       rw [←HNSL.out] at hv HO2
       subst hv
       have HJ:=zq hj
       have kr:=HR2.out.all0
       simp only [bkAll,Nat.zero_add,Nat.reduceAdd,and_true] at kr
       by_cases hjn:j<nn
       ·have hb:=dltT hjn
        have hjm:j<(vsAt z.E.T m).m.length:=by rw [←HNN.out];exact hjn
        obtain ⟨b,off,rfl,hbk,c0,c1⟩:=(HNM.out wr HX2.out).2 j hjm
        obtain ⟨pm,HPM⟩:=lz ((vsAt z.E.T m).m[j])
        have HPV:Hid (pm.2≤20000):=zq (by rw [HPM.out];exact HVO.out.2.2 _ (List.getElem_mem hjm))
        have HTK:Hid ((vsAt z.E.T m).m.take (j+1)=(vsAt z.E.T m).m.take j++[pm]):=zq (by rw [HPM.out];exact List.take_succ_eq_append_getElem hjm)
        rw [←HPM.out] at c0 c1
        obtain ⟨k0,k1⟩:=natLt hjn
        have HW1:=zq (wrapN hjn (by rw [HNN.out];exact HVO.out.2.1))
        have kp:=HPB.out wr HX2.out
        have kpc:=kp.all0
        simp only [PC.cells,bkAll,Nat.zero_add,Nat.reduceAdd,and_true] at kpc
        have hgr:¬b=w.heap.size+1:=ne_low HNW.out.2 hbk.1
        clear hj hjm hbk HPM kp
        have HJL:=zq (HX2.out.size)
        obtain ⟨wv,HWV⟩:=lz (wr.alloc (.cells #[.string ⟨pm.1.toArray⟩,.int .i64 (pm.2:Int)] 44))
        obtain ⟨g15,HG15⟩:=lz (wr.heap.size)
        have hBv:Below wr.heap.size wr wv:=by rw [HWV.out];exact (Below.refl _ _).alloc (Nat.le_refl _) _
        have hkv:Bk wv g15 [.string ⟨pm.1.toArray⟩,.int .i64 (pm.2:Int)]:=by rw [HWV.out,HG15.out];exact Bk.new wr [.string ⟨pm.1.toArray⟩,.int .i64 (pm.2:Int)] 44
        have HNR:Hid (NN≤wr.heap.size):=zq (Nat.le_trans (by rw [HNS.out];exact Nat.le_refl _) HX2.out.size)
        have HXv:=zq (HX2.out.trans (Bx.of (hBv.mono HNR.out)))
        have HLv:=bz HL2 hBv
        have HRv:=zq (HR2.out.call hBv)
        have HOv:=zq (row_keep HO2.out fun k hk=>hBv.block k (HO2.out.lt k hk).2)
        have HNv:Hid (NN≤wv.heap.size):=zq (Nat.le_trans HNR.out hBv.size)
        have hlk:=(HPO.out wv wv.drew HXv.out (fun _ _=>rfl)).look Tryz.underlying2 Tryz.underlying70 Tryz.underlying3 pm.2 (Nat.le_trans HPV.out (by decide)) (zeroI _)
        go_upto_region 19 with fail
        rw [←HWV.out,←HG15.out]
        have HKV:=zq hkv
        clear hBv hkv HX2 HL2 HR2 HO2 kr kpc c0 c1 k0 k1 hgr HWV HG15 HJL hb
        have kp:=HPB.out wv HXv.out
        have kpc:=kp.all0
        simp only [PC.cells,bkAll,Nat.zero_add,Nat.reduceAdd,and_true] at kpc
        have kv:=HKV.out.all0
        simp only [bkAll,Nat.zero_add,Nat.reduceAdd,and_true] at kv
        clear kp
        generalize hcn:(vsAt z.E.T m).o.count pm.2=cnt at *
        have HCN:=zq hcn
        clear hcn
        go_region
        all_goals
         obtain ⟨wx,hwx⟩:∃x,x=wv.drew:=⟨_,rfl⟩
         rw [←hwx]
         have hBx:Below wv.heap.size wv wx:=by rw [hwx];exact (Below.refl _ _).drew
         have HXx:=zq (HXv.out.trans (Bx.of (hBx.mono HNv.out)))
         have HLx:=bz HLv hBx
         have HRx:=zq (HRv.out.call hBx)
         have HOx:=zq (row_keep HOv.out fun k hk=>hBx.block k (HOv.out.lt k hk).2)
         have HKx:=zq (HKV.out.call hBx)
         have HNx:Hid (NN≤wx.heap.size):=zq (Nat.le_trans HNv.out hBx.size)
         clear hBx HXv HLv HRv HOv HKV HNv kpc kv hlk hwx
         by_cases h1:cnt=1
         ·have b1:=oneT h1
          have HFL:Hid (((vsAt z.E.T m).m.take (j+1)).filter (fun p:List UInt8×Nat=>(vsAt z.E.T m).o.count p.2==1)=(((vsAt z.E.T m).m.take j).filter (fun p:List UInt8×Nat=>(vsAt z.E.T m).o.count p.2==1))++[pm]):=zq (by
           rw [HTK.out,List.filter_append]
           congr 1
           rw [List.filter_cons_of_pos (by rw [HCN.out,h1];rfl)];rfl)
          clear h1
          have kr:=HRx.out.all0
          simp only [bkAll,Nat.zero_add,Nat.reduceAdd,and_true] at kr
          have kv:=HKx.out.all0
          simp only [bkAll,Nat.zero_add,Nat.reduceAdd,and_true] at kv
          have hNS:ns≤100000:=filt_len (fun p:List UInt8×Nat=>(vsAt z.E.T m).o.count p.2==1) _ _ _ HNSL.out HVO.out.2.1
          have HNS2:=zq hNS
          clear hNS
          go_wp2_with (at_builtin;go_must (refine wpList_app_nm rfl _ _ rfl NN _ ns _ rfl HOx.out HNx.out pm rfl rfl HNS2.out ?_;intro v5 w5 HO5 hB5;(obtain ⟨A5,c5,hv5⟩:=own_slice HO5.out);subst hv5;have HR5:=zq (HRx.out.keeps (hB5.out.block _ HWN.out.1));have k5:=HR5.out.all0;simp only [bkAll,Nat.zero_add,Nat.reduceAdd,and_true] at k5))
          have hl5:(((vsAt z.E.T m).m.take (j+1)).filter (fun p:List UInt8×Nat=>(vsAt z.E.T m).o.count p.2==1)).length=ns+1:=by rw [HFL.out,List.length_append,←HNSL.out];rfl
          have hc5:nmCells (((vsAt z.E.T m).m.take (j+1)).filter (fun p:List UInt8×Nat=>(vsAt z.E.T m).o.count p.2==1))=nmCells (((vsAt z.E.T m).m.take j).filter (fun p:List UInt8×Nat=>(vsAt z.E.T m).o.count p.2==1))++[.string ⟨pm.1.toArray⟩,.int .i64 (pm.2:Int)]:=by rw [HFL.out];unfold nmCells;rw [List.flatMap_append];rfl
          have HL5:=zq (⟨hl5,hc5⟩:_∧_)
          clear hl5 hc5 k5 kr kv
          go_roundw
          case rel=>exact ⟨j+1,congrArg (Value.int IntKind.i64) HW1.out,hjn,.slice A5 (ns+1) c5,zq ((HXx.out.trans (Bx.of hB5.out)).trans (Bx.one _ _ _ 5 _)),zq ((HLx.out.trans (hB5.out.mono (Nat.le_of_lt (Nat.lt_trans (Nat.lt_succ_self _) HWN.out.1)))).setCell (p:=⟨w.heap.size+1,5,none⟩) (Nat.le_succ _) _),zq (HR5.out.set 5 _),zq (by rw [HL5.out.1,HL5.out.2];exact ownsRow_setCell_below HO5.out (show w.heap.size+1<NN from HWN.out.1) _)⟩
          case measure=>exact measW HW1.out hjn
         ·have b1:=oneF h1
          have HFL:Hid (((vsAt z.E.T m).m.take (j+1)).filter (fun p:List UInt8×Nat=>(vsAt z.E.T m).o.count p.2==1)=(((vsAt z.E.T m).m.take j).filter (fun p:List UInt8×Nat=>(vsAt z.E.T m).o.count p.2==1))):=zq (by
           rw [HTK.out,List.filter_append,List.filter_cons_of_neg (by rw [HCN.out];simpa using h1)];simp)
          clear h1
          go_wp2_with fail
          go_roundw
          case rel=>exact ⟨j+1,congrArg (Value.int IntKind.i64) HW1.out,hjn,.slice SA ns sc,HXx,HLx,HRx,zq (by rw [HFL.out,←HNSL.out];exact HOx.out)⟩
          case measure=>exact measW HW1.out hjn
       ·have hb:=dltF hjn
        have hjj:=notlt hjn hj
        subst hjj
        have hfull:(vsAt z.E.T m).m.take j=(vsAt z.E.T m).m:=List.take_of_length_le (by rw [←HNN.out];exact Nat.le_refl _)
        have HNSG:Hid (ns=(sglV (vsAt z.E.T m)).length):=zq (by rw [HNSL.out,hfull];rfl)
        have HSA:=zq ((NmAt.own (m:=sglV (vsAt z.E.T m)) (by have h:=HO2.out;rw [hfull] at h;rw [HNSG.out] at h;exact h)).2)
        clear hfull hj hjn
        go_wp2_with fail
        refine bodyPost_ret (v:=.tuple #[.agg #[.int .i64 t.kind,.int .i64 t.num,.string t.name,.slice At t.args.length ct,.slice NA j nc,.slice SA ns sc,.int .i64 en],.int .i64 0,.int .i64 0]) (by simp [results,Tryz.results11,go_sem,kr]) rfl ?_
        rw [HV.out]
        have hXF:=HX2.out.trans (Bx.put7 (w.heap.size+1) NN wr (.int .i64 t.kind) (.int .i64 t.num) (.string t.name) (.slice At t.args.length ct) (.slice NA j nc) (.slice SA ns sc) (.int .i64 en))
        have hNX:NN≤wr.heap.size:=Nat.le_trans (Nat.le_of_eq HNS.out) HX2.out.size
        have hW2:w.heap.size≤w2.heap.size:=Nat.le_of_lt (Nat.lt_trans (Nat.lt_succ_self _) HNW.out.2)
        refine ⟨At,ct,NA,nc,SA,sc,by simp only;rw [HNN.out,HNSG.out],put7_below HL2.out _ (Nat.le_succ _) _ _ _ _ _ _ _,(HTM.out _ hXF).keep (fun _ _=>rfl) fun b hb=>betw hb hW2 (Nat.le_trans hNX (by simp)),(HNM.out _ hXF).keep (fun _ _=>rfl) fun b hb=>betw hb hW2 (Nat.le_trans hNX (by simp)),HSA.out.keep (fun b hb=>(Bx.put7 (w.heap.size+1) wr.heap.size wr _ _ _ _ _ _ _).block b hb.2 (ne_low HWN.out.1 hb.1)) fun b hb=>betw hb (Nat.le_trans hW2 HWN.out.2) (by simp)⟩
end Go.Proofs.YtbojljpldcijgaaGreat
