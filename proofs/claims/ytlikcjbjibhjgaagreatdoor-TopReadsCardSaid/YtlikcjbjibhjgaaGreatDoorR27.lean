/- Parts of the proof. -/
import Derived.Test.YtlikcjbjibhjgaaGreatDoorR01
import Derived.Test.YtlikcjbjibhjgaaGreatDoorR26
set_option maxHeartbeats 12800000
set_option maxRecDepth 100000
set_option linter.unusedSimpArgs false
open Bool renaming and_eq_true -> aF
open Go renaming Value -> az, World -> ai, bodyPost_ret -> ay, execOp -> aP
open Go.IntKind renaming i64 -> ae, i64 -> gg
open Go.Proofs.Tryz renaming prog -> ah
open Go.RowKit renaming Below -> ax
open Go.RowKit.Below renaming refl -> aj
open Go.Value renaming agg -> aN, bool -> am, int -> ab, int -> fK, pointer -> au, string -> aa, tuple -> aK
open Go.World renaming ownsRow_nil -> dQ
open List renaming filter_append -> fu, mem_cons -> bg, mem_nil_iff -> bQ, range -> aY
open Nat renaming le_of_lt -> fd, le_refl -> ag, le_succ -> cQ, le_trans -> aI, lt_of_lt_of_le -> aC, lt_succ_self -> bY, lt_trans -> gc, reduceAdd -> ar, zero_add -> ap, zero_le -> bp, zero_mul -> gY
namespace Hb
open Go Go.RowKit
theorem zi:jz []=true:=by decide +kernel
theorem AR {s:Sy} (h:s.ok=true):jz s.conv=true:=by
 unfold Sy.ok at h
 rw [aF,aF] at h
 unfold Sy.conv
 split
 ·exact h.2.2
 ·exact zi
theorem Ct {L:List UInt8} {a:Int} {s:Sy} (h:li L a s=false):L.length<=16384/\0<=a/\a<=L.length/\s.ok=true:=by
 unfold li at h
 simp at h
 exact ⟨h.1,h.2.1,h.2.2.1,h.2.2.2⟩
theorem Bks.keepB {X Y:ai} {l:List (Nat×List az)} {B:Nat} (h:Bks X l) (a:ax B X Y) (b:∀x∈l,x.1<B):Bks Y l:=h.keep fun x c=>a.block _ (b x c)
end Hb
namespace Go.Proofs.YtlikcjbjibhjgaaGreatDoor
open Go.RowKit Hb
attribute [local go_sem] Oper.semAt_some
theorem kq {B:Nat} {w0 w:ai} (h:ax B w0 w) (g:Nat) (i:B<=g) (a b c d e f k:az):ax B w0 (((((((w.setCell ⟨g,0,none⟩ a).setCell ⟨g,1,none⟩ b).setCell ⟨g,2,none⟩ c).setCell ⟨g,3,none⟩ d).setCell ⟨g,4,none⟩ e).setCell ⟨g,5,none⟩ f).setCell ⟨g,6,none⟩ k) :=
 ((((((h.setCell (p:=⟨_,_,none⟩) i _).setCell (p:=⟨_,_,none⟩) i _).setCell (p:=⟨_,_,none⟩) i _).setCell (p:=⟨_,_,none⟩) i _).setCell (p:=⟨_,_,none⟩) i _).setCell (p:=⟨_,_,none⟩) i _).setCell (p:=⟨_,_,none⟩) i _
theorem Bx.one (g N:Nat) (X:ai) (i:Nat) (v:az):Bx g N X (X.setCell ⟨g,i,none⟩ v):=⟨rfl,rfl,rfl,by simp,fun k _ a=>heap_setCell_other _ _ _ _ a⟩
theorem Bx.put7 (g N:Nat) (X:ai) (a b c d e f k:az):Bx g N X (((((((X.setCell ⟨g,0,none⟩ a).setCell ⟨g,1,none⟩ b).setCell ⟨g,2,none⟩ c).setCell ⟨g,3,none⟩ d).setCell ⟨g,4,none⟩ e).setCell ⟨g,5,none⟩ f).setCell ⟨g,6,none⟩ k) :=
 (((((((Bx.one g N X 0 a).trans (Bx.one g N _ 1 b)).trans (Bx.one g N _ 2 c)).trans (Bx.one g N _ 3 d)).trans (Bx.one g N _ 4 e)).trans (Bx.one g N _ 5 f)).trans (Bx.one g N _ 6 k))
theorem uO {w W:ai} {d:Array Oper} {rest:List Oper} {o:Oper} {a:Act} {Q:Exit->Act->ai->Prop} (i:o.guard=none) (s x:Operand)
  (j:o.op=.call { callee:=.builtin .append,args:=#[s,x],argTypes:=#[43,43] }) (b:Nat) (v:az) (n:Nat) (xs:List az) (k:a.eval s=v) (g:W.ownsRow b 86 2 v n xs) (h:b<=W.heap.size)
  (p:List UInt8×Nat) (l:w=W.alloc (.cells #[aa ⟨p.1.toArray⟩,ab ae (p.2:Int)] 86)) (m:a.eval x=.slice (some ⟨W.heap.size,0,none⟩) 1 1) (q:n<=100000)
  (K:∀c w',Hid (w'.ownsRow b 86 2 c (n+1) (xs++[aa ⟨p.1.toArray⟩,ab ae (p.2:Int)]))->Hid (ax b W w')->wpList ah d Q rest (a.put o.dst c) w'):wpList ah d Q (o::rest) a w :=
 dO i s x 43 86 j Tryz.underlying43 _ 2 24 Iv rfl (by decide) b v n xs k W g #[aa ⟨p.1.toArray⟩,ab ae (p.2:Int)] rfl (by simp [Value.oneCell']) l m (by omega) (by omega) h fun c w' e f _=>K c w' (zq e) (zq f)
theorem Ov {j n:Nat} (h:j<n):decide ((j:Int)<(n:Int))=true:=decide_eq_true (by omega)
theorem Ow {j n:Nat} (h:¬j<n):decide ((j:Int)<(n:Int))=false:=decide_eq_false (by omega)
theorem Oj {c:Nat} (h:c=1):((c:Int)==1)=true:=by simp;omega
theorem Ol {c:Nat} (h:¬c=1):((c:Int)==1)=false:=by simp;omega
theorem Ny {j n:Nat} (h:j<n):(0:Int)<=(j:Int)/\(j:Int)<(n:Int):=⟨by omega,by omega⟩
theorem Nd {j n:Nat} (h:j<n) (a:n<=20000):wrap64 ((j:Int)+1)=((j+1:Nat):Int):=nF (by omega)
theorem LA {j n:Nat} (a:wrap64 ((j:Int)+1)=((j+1:Nat):Int)) (h:j<n):n-(intOf (ab ae (wrap64 ((j:Int)+1)))).toNat<n-(intOf (ab ae (j:Int))).toNat:=by
 rw [a];simp only [intOf];omega
theorem IK {α:Type} (f:α->Bool) (l:List α) (k n:Nat) (c:n=((l.take k).filter f).length) (b:l.length<=20000):n<=100000:=by
 have a:=List.length_filter_le f (l.take k)
 rw [List.length_take] at a;omega
theorem Nu {j n:Nat} (h:¬j<n) (a:j<=n):j=n:=by omega
theorem MP {a b c d e:Nat} (h:b<=c/\c<d) (f:a<=b) (hd:d<=e):a<=c/\c<e:=⟨by omega,by omega⟩
theorem Il {a b c:Nat} (h:a<b) (d:b<=c):¬c=a:=by omega
def OV (w0:ai) (r:RdR) (e:Ending) (w':ai):Prop:=∃A cap NA nc SA sc,e=.returned (aK #[aN #[ab ae r.t.kind,ab ae r.t.num,aa r.t.name,.slice A r.t.args.length cap,.slice NA r.names.length nc,.slice SA r.singles.length sc,ab ae r.end_],ab ae r.where_,ab ae r.err])/\ax w0.heap.size w0 w' /\
 TmsK (fun b=>w0.heap.size<=b/\b<w'.heap.size) w' A r.t.args/\NmAt (fun b=>w0.heap.size<=b/\b<w'.heap.size) w' NA r.names/\NmAt (fun b=>w0.heap.size<=b/\b<w'.heap.size) w' SA r.singles
theorem Fy {L:List UInt8} {a:Int} {s:Sy} (h:li L a s=false):pY L a s.conv=iB L a s:=by
 obtain ⟨b,c,d,e⟩:=Ct h
 unfold pY iB
 rw [if_pos]
 unfold xQ
 rw [decide_eq_true b,decide_eq_true c,decide_eq_true d,AR e];rfl
theorem JA {L:List UInt8} {a:Int} {s:Sy} (h:li L a s=false) (b:(iB L a s).err=0):ToksOk L.length (iB L a s).l:=by
 obtain ⟨c,d,e,_⟩:=Ct h
 exact Fz _ _ (dK _ _) _ (by omega) b
theorem vq:∀(T:List NextR) (j:Nat) (h:j<T.length) (i:Nat) (v:az),(kM T[j])[i]? = some v->(gG T)[j * 6+i]? = some v
 | t::T,0,_,i,v,a=>by
  have e:gG (t::T)=kM t++gG T:=rfl
  have a:(kM t)[i]? = some v:=a
  have b:=(List.getElem?_eq_some_iff.1 a).1
  rw [e,gY,ap,List.getElem?_append_left b];exact a
 | t::T,j+1,h,i,v,a=>by
  have e:gG (t::T)=kM t++gG T:=rfl
  have b:(kM t).length=6:=rfl
  rw [e,List.getElem?_append_right (by omega),b,show (j+1) * 6+i-6=j * 6+i by omega]
  exact vq T j (by simpa using h) i v a
theorem PsAt.begin {w X:ai} (E:RE) (g tc:Nat) (a:Option Addr) (on d:Nat) (h:ToksOk 16384 E.T) (G:on=E.P.length) (B:on<=100) (u:OpsAt X a E.P) (I:w.heap.size<=X.heap.size)
  (n:X.ownsRow w.heap.size 83 6 (.slice (some ⟨g,0,none⟩) E.T.length tc) E.T.length (gG E.T)) :
  PsAt ⟨w.heap.size,X.heap.size,X.heap.size+3,X.heap.size+2,X.heap.size,X.heap.size+1,g,tc,a,on,d,E⟩ 0 (cM E.T 0) (.slice none 0 0)
   (((X.alloc (.map #[] 0)).alloc (.map #[] 0)).alloc (.cells #[.slice (some ⟨g,0,none⟩) E.T.length tc,ab ae 0,.slice a on d,ab ae E.q,.map (some X.heap.size),.map (some (X.heap.size+1)),ab ae 0,.slice none 0 0] 79)):=by
 have s:ax X.heap.size X (((X.alloc (.map #[] 0)).alloc (.map #[] 0)).alloc (.cells #[.slice (some ⟨g,0,none⟩) E.T.length tc,ab ae 0,.slice a on d,ab ae E.q,.map (some X.heap.size),.map (some (X.heap.size+1)),ab ae 0,.slice none 0 0] 79)):=(((aj _ _).alloc (ag _) _).alloc (by simp) _).alloc (by simp;omega) _
 have x:=(n.lt g rfl).2
 have y:=h.pos
 have F:(E.at (E.T.length-1)).r.kind=7:=by
  rw [E.at_get (by omega)]
  exact (h.last _ (by omega)).2 (by omega)
 have H:E.T.length<=tc:=by
  rcases n.2 with ⟨k,_⟩ | ⟨N,L,M,k,_,_,m,_⟩
  ·cases k
  ·injection k with _ _ h3;omega
 have s1:(X.alloc (.map #[] 0)).heap.size=X.heap.size+1:=by simp
 have A:Bk (((X.alloc (.map #[] 0)).alloc (.map #[] 0)).alloc (.cells #[.slice (some ⟨g,0,none⟩) E.T.length tc,ab ae 0,.slice a on d,ab ae E.q,.map (some X.heap.size),.map (some (X.heap.size+1)),ab ae 0,.slice none 0 0] 79)) (X.heap.size+2) [.slice (some ⟨g,0,none⟩) E.T.length tc,ab ae 0,.slice a on d,ab ae E.q,.map (some X.heap.size),.map (some (X.heap.size+1)),ab ae 0,.slice none 0 0]:=by
  have:=Bk.new ((X.alloc (.map #[] 0)).alloc (.map #[] 0)) [.slice (some ⟨g,0,none⟩) E.T.length tc,ab ae 0,.slice a on d,ab ae E.q,.map (some X.heap.size),.map (some (X.heap.size+1)),ab ae 0,.slice none 0 0] 79
  simpa using this
 refine { ok:={ b01:=I,p1:=⟨by simp,by simp⟩,v1:=⟨by simp,by simp⟩,o1:=⟨by simp,by simp⟩,pv:=by simp,po:=by simp,vo:=by simp,gl:=x,len:=by have:=h.len;simp only;omega,pos:=y,tcap:=H,endk:=F,opl:=G,few:=B,ob:=fun D=>?_,txt:=fun t o=>?_,nms:=fun t o m=>?_ },low:=by simp,bk:=?_,tk:=fun j C i v k=>?_,ops:=u.below s,vm:=?_,om:=?_,nm:=?_,n1:=y,vn:=by rw [ll];exact ag _,vc:=by rw [ll];exact LP }
 ·intro b J e
  have z:0<E.P.length:=D
  obtain ⟨K,Q,f,O,_⟩:=u 0 z
  rw [show a=some ⟨b,J,none⟩ from e] at f
  injection f with f;injection f with f _ _
  show b<X.heap.size
  omega
 ·have:=h.fits t o
  exact ⟨by have:=this.txt;omega,this.num⟩
 ·have:=(h.fits t o).nam
  unfold ge at m
  simp at m
  exact this (by omega)
 ·rw [ll];exact A
 ·have c:(gG E.T)[j * 6+i]? = some v:=vq E.T j C i v k
  have l:=n.cells (g:=g) rfl _ _ c
  rw [fC] at l
  rw [s.cell (p:=⟨g,_,none⟩) x]
  rw [show (0:Nat)+(j * 6+i)=j * 6+i by omega] at l
  exact l
 ·rw [ll]
  have c:=NumMap.new ah 9 2 X
  exact c.keep (((aj (X.heap.size+1) (X.alloc (.map #[] 0))).alloc (by simp) _).alloc (by simp) _ |>.block _ (bY _))
 ·rw [ll]
  have c:=CntMap.new ah 2 3 (X.alloc (.map #[] 0))
  rw [s1] at c
  exact c.keep ((aj (X.heap.size+2) ((X.alloc (.map #[] 0)).alloc (.map #[] 0))).alloc (by simp) _ |>.block _ (bY _))
 ·rw [ll];exact dQ _ _ _ _
theorem Db (D:ByteArray) (G:Int) (M:Option Addr) (on U:Nat) (q u:Int) (c d:Bool) (CA:Option Addr) (Q H:Nat) (ol:List OpR) (cl:List (Int×Int)) (w:ai) (hO:Tab w M on U ol) (k7:Q=cl.length) (d9:Q<=maxLen) (hC:Pairs w CA cl) (hs:D.size<=maxLen) :
  Calls ah 9 #[aa D,ab ae G,aN #[.slice M on U,ab ae q,ab ae u,am c,am d,.slice CA Q H]] w (OV w (tu D.data.toList G ⟨ol,q,u,c,d,cl⟩)):=by
 obtain ⟨s,HS⟩:=lz (α:=Sy) (⟨ol,q,u,c,d,cl⟩)
 obtain ⟨R,HR⟩:=lz (tu D.data.toList G s)
 rw [<-HS.out,<-HR.out]
 obtain ⟨b7,a7⟩:=lz (li D.data.toList G s)
 have HE:Hid (R=if b7=true then nX 0 1 else if ¬(iB D.data.toList G s).err=0 then nX (iB D.data.toList G s).where_ (iB D.data.toList G s).err else vG ⟨(iB D.data.toList G s).l,s.P,s.q⟩):=zq (by rw [HR.out,a7.out];rfl)
 have i3:Hid (b7=(decide ((16384:Int)<(D.size:Int))||(decide (G<0)||(decide ((D.size:Int)<G) || !s.ok)))):=zq (by
  rw [a7.out];unfold li;rw [size_data]
  congr 1
  by_cases h:16384<D.size
  ·rw [decide_eq_true h,decide_eq_true (by omega)]
  ·rw [decide_eq_false h,decide_eq_false (by omega)])
 have a6:Hid (ax w.heap.size w ((w.alloc (.cells #[.slice M on U,ab ae q,ab ae u,am c,am d,.slice CA Q H] 32)).alloc (.cells #[ab ae 0,ab ae 0,aa ⟨#[]⟩,.slice none 0 0,.slice none 0 0,.slice none 0 0,ab ae 0] 45))):=zq (((aj _ _).alloc (ag _) _).alloc (by simp) _)
 have b2:Hid (Bks ((w.alloc (.cells #[.slice M on U,ab ae q,ab ae u,am c,am d,.slice CA Q H] 32)).alloc (.cells #[ab ae 0,ab ae 0,aa ⟨#[]⟩,.slice none 0 0,.slice none 0 0,.slice none 0 0,ab ae 0] 45)) [(w.heap.size+1,[ab ae 0,ab ae 0,aa ⟨#[]⟩,.slice none 0 0,.slice none 0 0,.slice none 0 0,ab ae 0]),(w.heap.size,[.slice M on U,ab ae q,ab ae u,am c,am d,.slice CA Q H])]):=zq (((Bks.nil w).new [.slice M on U,ab ae q,ab ae u,am c,am d,.slice CA Q H] 32 rfl).new [ab ae 0,ab ae 0,aa ⟨#[]⟩,.slice none 0 0,.slice none 0 0,.slice none 0 0,ab ae 0] 45 (g:=w.heap.size+1) (by simp))
 have n2:Hid (∀X,ax w.heap.size w X->Calls ah 32 #[aN #[.slice M on U,ab ae q,ab ae u,am c,am d,.slice CA Q H]] X fun e w'=>e=.returned (am s.ok)/\ax X.heap.size X w'):=zq fun X hX=>by
  rw [HS.out];exact uq M on U q u c d CA Q H ol cl X (hO.below hX) k7 d9 (hC.below hX)
 have b4:=zq hO
 have e7:=zq hs
 have a3:Hid (s.P=ol/\s.q=q/\s.c=c):=zq (by rw [HS.out];exact ⟨rfl,rfl,rfl⟩)
 obtain ⟨CV,vn,vc,a8⟩:∃CV vn vc,Hid ((c=true->CV=CA/\vn=Q/\vc=H)/\(c=false->CV=none/\vn=0/\vc=0)/\vn=s.conv.length/\vn<=maxLen/\∀W,ax w.heap.size w W->Pairs W CV s.conv):=by
  rw [HS.out]
  cases c
  ·exact ⟨none,0,0,zq ⟨fun h=>(by cases h),fun _=>⟨rfl,rfl,rfl⟩,rfl,bp _,fun W _=>Pairs.nil _ _⟩⟩
  ·exact ⟨CA,Q,H,zq ⟨fun _=>⟨rfl,rfl,rfl⟩,fun h=>(by cases h),k7,d9,fun W h=>hC.below h⟩⟩
 clear hO k7 d9 hC hs HR HS
 go_enter Tryz.func9,Tryz.ntmps9
 go_upto_region 1 with fail
 obtain ⟨w1,c6⟩:=lz (((w.alloc (.cells #[.slice M on U,ab ae q,ab ae u,am c,am d,.slice CA Q H] 32)).alloc (.cells #[ab ae 0,ab ae 0,aa ⟨#[]⟩,.slice none 0 0,.slice none 0 0,.slice none 0 0,ab ae 0] 45)))
 rw [<-c6.out] at a6 b2 |-
 clear c6
 go_cut [33] from 16 to 33 (fun x wc=>x=am b7/\Hid (ax w.heap.size w wc)/\Hid (Bks wc [(w.heap.size+1,[ab ae 0,ab ae 0,aa ⟨#[]⟩,.slice none 0 0,.slice none 0 0,.slice none 0 0,ab ae 0]),(w.heap.size,[.slice M on U,ab ae q,ab ae u,am c,am d,.slice CA Q H])]))
 case first=>
  have S:=i3.out
  clear HE a7 a8 a3 e7 b4 i3
  have n5:=b2.out.all
  simp only [aU,bd,ap,ar,and_true] at n5
  by_cases K:(16384:Int)<(D.size:Int)
  ·have j8:=decide_eq_true K
   rw [j8] at S
   clear K
   have hm:b7=true:=S
   clear S
   subst hm
   go_wp2_with fail
   go_meet
   exact ⟨rfl,a6,b2⟩
  have j8:=decide_eq_false K
  rw [j8] at S
  clear K
  by_cases h2:G<0
  ·have j9:=decide_eq_true h2
   rw [j9] at S
   clear h2
   have hm:b7=true:=S
   clear S
   subst hm
   go_wp2_with fail
   go_meet
   exact ⟨rfl,a6,b2⟩
  have j9:=decide_eq_false h2
  rw [j9] at S
  clear h2
  by_cases h3:(D.size:Int)<G
  ·have k2:=decide_eq_true h3
   rw [k2] at S
   clear h3
   have hm:b7=true:=S
   clear S
   subst hm
   go_wp2_with fail
   go_meet
   exact ⟨rfl,a6,b2⟩
  have k2:=decide_eq_false h3
  rw [k2] at S
  clear h3
  have hm:b7=!s.ok:=S
  clear S
  subst hm
  go_wp2_with fail
  refine (n2.out _ a6.out).mono ?_;rintro e A ⟨rfl,c7⟩
  have b9:=bz a6 c7
  have c4:=zq (b2.out.call c7)
  clear c7 a6 b2 n5
  go_wp2_with fail
  go_meet
  exact ⟨rfl,b9,c4⟩
 case rest=>
  obtain ⟨rfl,c9,c3⟩:=hcut
  clear a6 b2 i3 n2
  cases b7
  rotate_left
  ·skip
   have HV:Hid (R=nX 0 1):=HE
   clear HE a7 a8 a3 e7 b4
   have g8:=c3.out.all
   simp only [aU,bd,ap,ar,and_true] at g8
   go_wp2_with fail
   refine ay (v:=aK #[aN #[ab ae 0,ab ae 0,aa ⟨#[]⟩,.slice none 0 0,.slice none 0 0,.slice none 0 0,ab ae 0],ab ae 0,ab ae 1]) (by simp [results,Tryz.results9,go_sem,g8]) rfl ?_
   rw [HV.out]
   exact ⟨none,0,none,0,none,0,rfl,kq c9.out (w.heap.size+1) (cQ _) _ _ _ _ _ _ _,TmsK.nil,NmAt.nil,NmAt.nil⟩
  have o5:=Ct a7.out.symm
  have d1:=zq o5
  have d5:=zq (Fy (s:=s) a7.out.symm)
  have e6:=zq (fun h=>JA (s:=s) a7.out.symm h)
  have d2:Hid (R=if ¬(iB D.data.toList G s).err=0 then nX (iB D.data.toList G s).where_ (iB D.data.toList G s).err else vG ⟨(iB D.data.toList G s).l,s.P,s.q⟩):=HE
  clear HE a7 o5
  have cf:=c3.out.all
  simp only [aU,bd,ap,ar,and_true] at cf
  go_upto_if 37 with fail
  clear cf
  obtain ⟨wd,n3⟩:=lz (wc)
  rw [<-n3.out] at c9 c3 |-
  clear n3
  go_cut [9] from 35 to 39 (fun x A=>x=.slice CV vn vc/\A=wd)
  case first=>
   have h9:=a8.out
   clear d2 a8 a3 e7 b4 d5 e6 d1
   have g8:=c3.out.all
   simp only [aU,bd,ap,ar,and_true] at g8
   cases c
   ·obtain ⟨rfl,rfl,rfl⟩:=h9.2.1 rfl
    clear h9
    go_wp2_with fail
    go_meet
    exact ⟨rfl,rfl⟩
   ·obtain ⟨rfl,rfl,rfl⟩:=h9.1 rfl
    clear h9
    go_wp2_with fail
    go_meet
    exact ⟨rfl,rfl⟩
  case rest=>
   obtain ⟨rfl,o7⟩:=hcut
   rw [o7]
   clear o7
   have HA:=zq (DT D G CV vn vc s.conv wd a8.out.2.2.1 a8.out.2.2.2.1 e7.out (a8.out.2.2.2.2 _ c9.out))
   rw [d5.out] at HA
   obtain ⟨L,m7⟩:=lz (iB D.data.toList G s)
   rw [<-m7.out] at HA e6 d2
   clear a8 d5 e7 m7
   go_wp2_with fail
   refine HA.out.mono ?_;rintro e A ⟨va,rfl,c7,i1⟩
   obtain ⟨Av,cv,rfl⟩:=kt i1
   have g2:=zq (zt i1 c9.out.size)
   have l3:=zq (fun k (y:(Value.slice Av L.l.length cv).ownBlock=some k)=>aC (c3.out.lt 0 rfl) (i1.lt k y).1)
   have b9:=bz c9 c7
   have c4:=zq (c3.out.call c7)
   clear c7 c9 c3 HA i1
   by_cases he:L.err=0
   rotate_left
   ·have b0:(L.err != 0)=true:=by simpa using he
    have HV:Hid (R=nX L.where_ L.err):=zq (by rw [d2.out,if_pos he])
    clear he d2 e6 a3 b4 d1 g2
    have e9:=c4.out.all
    simp only [aU,bd,ap,ar,and_true] at e9
    go_wp2_with fail
    refine ay (v:=aK #[aN #[ab ae 0,ab ae 0,aa ⟨#[]⟩,.slice none 0 0,.slice none 0 0,.slice none 0 0,ab ae 0],ab ae L.where_,ab ae L.err]) (by simp [results,Tryz.results9,go_sem,e9]) rfl ?_
    rw [HV.out]
    exact ⟨none,0,none,0,none,0,rfl,kq b9.out (w.heap.size+1) (cQ _) _ _ _ _ _ _ _,TmsK.nil,NmAt.nil,NmAt.nil⟩
   have b0:(L.err != 0)=false:=by simpa using he
   have b5:=zq (e6.out he)
   have a9:Hid (R=vG ⟨L.l,s.P,s.q⟩):=zq (by rw [d2.out,if_neg (fun h=>h he)])
   clear he e6 d2
   have e9:=c4.out.all
   simp only [aU,bd,ap,ar,and_true] at e9
   have s6:∀(w:ai),(Instr.makeMap 76 none).run ah w=.ok (.map (some w.heap.size)) (w.alloc (.map #[] 0)):=fun w=>run_makeMap _ w
   have s7:∀(w:ai),(Instr.makeMap 77 none).run ah w=.ok (.map (some w.heap.size)) (w.alloc (.map #[] 0)):=fun w=>run_makeMap _ w
   have hg:∃g,Av=some ⟨g,0,none⟩:=by
    rcases g2.out.2 with ⟨J,h0⟩ | ⟨g,t0,t1,J,_⟩
    ·exact absurd h0 (by have:=b5.out.pos;omega)
    ·injection J with J _ _;exact ⟨g,J⟩
   obtain ⟨g,rfl⟩:=hg
   have l4:=zq (l3.out g rfl)
   clear l3
   go_upto_region 10 with fail
   clear s6 s7 b0
   obtain ⟨z,HZ⟩:=lz (α:=PC) (⟨w.heap.size,A.heap.size,A.heap.size+3,A.heap.size+2,A.heap.size,A.heap.size+1,g,cv,M,on,U,⟨L.l,s.P,s.q⟩⟩)
   obtain ⟨wp,g4⟩:=lz (((A.alloc (.map #[] 0)).alloc (.map #[] 0)).alloc (.cells #[.slice (some ⟨g,0,none⟩) L.l.length cv,ab ae 0,.slice M on U,ab ae q,.map (some A.heap.size),.map (some (A.heap.size+1)),ab ae 0,.slice none 0 0] 79))
   have p4:bB ol=true:=by
    have:=d1.out.2.2.2
    unfold Sy.ok at this
    rw [aF] at this
    rw [<-a3.out.1];exact this.1
   have i2:=PsAt.begin ⟨L.l,s.P,s.q⟩ g cv M on U (w:=w) (X:=A) ⟨by have:=b5.out.len;have:=d1.out.1;simp only;omega,b5.out.pos,b5.out.last,fun t ht=>⟨by have:=(b5.out.fits t ht).txt;have:=d1.out.1;omega,(b5.out.fits t ht).num,(b5.out.fits t ht).nam⟩⟩ (by simp only;rw [a3.out.1];exact b4.out.len) (by rw [b4.out.len];exact (ma ol p4).1) (by simp only;rw [a3.out.1];exact b4.out.ops.below (b9.out.mono (ag _))) b9.out.size g2.out
   simp only at i2
   rw [<-HZ.out,a3.out.2.1,<-g4.out] at i2
   have g9:ax A.heap.size A wp:=by rw [g4.out];exact (((aj _ _).alloc (ag _) _).alloc (by simp) _).alloc (by simp;omega) _
   have f8:=bz b9 g9
   have g1:=zq (c4.out.call g9)
   have a4:Hid (z.P=A.heap.size+1+1/\z.B1=A.heap.size/\z.E=⟨L.l,s.P,s.q⟩/\z.g=g/\z.E.T.length=L.l.length/\z.tc=cv):=zq (by rw [HZ.out];exact ⟨rfl,rfl,rfl,rfl,rfl,rfl⟩)
   have q4:=zq g9.size
   have e0:Hid (w.heap.size+1<A.heap.size):=zq (c4.out.lt 0 rfl)
   have j2:Hid (PsAt z 0 (cM z.E.T 0) (.slice none 0 0) wp):=zq (by
    have e:cM z.E.T 0=cM L.l 0:=by rw [a4.out.2.2.1]
    rw [e];exact i2)
   have HX:=zq (GP j2.out)
   rw [<-a4.out.2.2.1] at a9
   rw [<-g4.out,<-a4.out.1]
   clear i2 g9 b9 c4 g4 a3 b4 g2 b5 d1 p4 e9 HZ
   unfold vG at a9
   rcases hw:rj z.E with k | ⟨t,m⟩
   ·skip
    rw [hw] at HX a9
    have HV:Hid (R=nX (z.E.at k).r.at_ 7):=a9
    clear a9 hw
    go_wp2_with fail
    refine HX.out.mono ?_;rintro e w9 ⟨rfl,a5⟩
    rw [a4.out.2.1] at a5
    have s0:=e0.out
    have d0:=zq (f8.out.trans (a5.mono (by have:=e0.out;omega)))
    have e3:=zq ((g1.out.keepB a5 (by intro x hx;simp only [bg,bQ,or_false] at hx;rcases hx with rfl|rfl <;> simp only <;> omega)).call ((aj w9.heap.size w9).alloc (ag _) (.cells #[ab ae 0,ab ae 0,aa ⟨#[]⟩,.slice none 0 0] 25)))
    have p5:=zq (d0.out.alloc d0.out.size (.cells #[ab ae 0,ab ae 0,aa ⟨#[]⟩,.slice none 0 0] 25))
    clear a5 d0 g1 f8 HX
    have n6:=e3.out.all
    simp only [aU,bd,ap,ar,and_true] at n6
    go_wp2_with fail
    refine ay (v:=aK #[aN #[ab ae 0,ab ae 0,aa ⟨#[]⟩,.slice none 0 0,.slice none 0 0,.slice none 0 0,ab ae 0],ab ae (z.E.at k).r.at_,ab ae 7]) (by simp [results,Tryz.results9,go_sem,n6]) rfl ?_
    rw [HV.out]
    exact ⟨none,0,none,0,none,0,rfl,kq p5.out (w.heap.size+1) (cQ _) _ _ _ _ _ _ _,TmsK.nil,NmAt.nil,NmAt.nil⟩
   ·skip
    rw [hw] at HX a9
    have c2:Hid (R=xv z.E t m):=a9
    clear a9 hw
    go_wp2_with fail
    refine HX.out.mono ?_;rintro e w9 ⟨Z,ct,t6,rfl,hp,hs,ht⟩
    have s0:=e0.out
    have a5:=hs.low j2.out
    rw [a4.out.2.1] at a5
    have m4:=zq hp
    have d0:=zq (f8.out.trans (a5.mono (by omega)))
    have e3:=zq (g1.out.keepB a5 (by intro x hx;simp only [bg,bQ,or_false] at hx;rcases hx with rfl|rfl <;> simp only <;> omega))
    have n0:=zq (ht.keep (fun _ _=>rfl) fun b a=>(⟨aI q4.out a.1,a.2.1⟩:A.heap.size<=b/\b<w9.heap.size))
    clear a5 hp hs ht HX f8 g1 j2
    unfold er
    obtain ⟨wt,g5⟩:=lz (w9.alloc (.cells #[ab ae t.kind,ab ae t.num,aa t.name,.slice Z t.args.length ct] 25))
    obtain ⟨gt,i6⟩:=lz (w9.heap.size)
    have d7:ax w9.heap.size w9 wt:=by rw [g5.out];exact (aj _ _).alloc (ag _) _
    have o9:Bks wt [(gt,[ab ae t.kind,ab ae t.num,aa t.name,.slice Z t.args.length ct]),(w.heap.size+1,[ab ae 0,ab ae 0,aa ⟨#[]⟩,.slice none 0 0,.slice none 0 0,.slice none 0 0,ab ae 0]),(w.heap.size,[.slice M on U,ab ae q,ab ae u,am c,am d,.slice CA Q H])]:=by rw [g5.out,i6.out];exact e3.out.new [ab ae t.kind,ab ae t.num,aa t.name,.slice Z t.args.length ct] 25 rfl
    have m3:=zq (m4.out.call d7)
    have l0:=bz d0 d7
    have e1:=zq (e3.out.call d7)
    have j5:=zq (n0.out.keep (fun b a=>d7.block b a.2) (fun b a=>(⟨a.1,aC a.2 d7.size⟩:A.heap.size<=b/\b<wt.heap.size)))
    clear m4 d0 e3 n0
    clear e1
    have e1:=zq o9
    clear d7 o9
    go_upto_region 11 with fail
    rw [<-g5.out,<-i6.out]
    clear g5 i6
    have H:=e1.out.all
    simp only [aU,bd,ap,ar,and_true] at H
    have j7:=zq (mT t Z ct wt (j5.out.keep (fun _ _=>rfl) fun b a=>a.2))
    unfold er at j7
    go_wp2_with fail
    refine j7.out.mono ?_;rintro e a0 ⟨rfl,d6⟩
    have B:=zq (m3.out.call d6)
    have f7:=bz l0 d6
    have e2:=zq (e1.out.call d6)
    have m9:=zq (j5.out.keep (fun b a=>d6.block b a.2) (fun b a=>(⟨a.1,aC a.2 d6.size⟩:A.heap.size<=b/\b<a0.heap.size)))
    clear m3 l0 e1 j5
    clear d6 j7 H
    unfold xv at c2
    cases hvt:cd t
    ·skip
     rw [hvt] at c2
     have HV:Hid (R=nX (z.E.at 0).r.at_ 2):=c2
     clear c2 hvt
     have s4:=B.out.tk 0 B.out.ok.pos 3 _ rfl
     rw [<-z.E.at_get B.out.ok.pos,a4.out.2.2.2.1,gY,ap] at s4
     have s1:=l4.out
     have t2:¬g=w.heap.size+1:=by omega
     have t3:¬w.heap.size+1=g:=by omega
     clear s1
     have t4:(0:Int)<(L.l.length:Int):=by have:=B.out.ok.pos;rw [a4.out.2.2.2.2.1] at this;omega
     have H:=e2.out.all
     simp only [aU,bd,ap,ar,and_true] at H
     go_wp2_with fail
     go_region
     all_goals
      go_wp2_with fail
      refine ay (v:=aK #[aN #[ab ae 0,ab ae 0,aa ⟨#[]⟩,.slice none 0 0,.slice none 0 0,.slice none 0 0,ab ae 0],ab ae (z.E.at 0).r.at_,ab ae 2]) (by simp [results,Tryz.results9,go_sem,H]) rfl ?_
      rw [HV.out]
      exact ⟨none,0,none,0,none,0,rfl,(kq f7.out (w.heap.size+1) (cQ _) _ _ _ _ _ _ _).drew,TmsK.nil,NmAt.nil,NmAt.nil⟩
    ·skip
     rw [hvt] at c2
     have HV:Hid (R=⟨t,(cM z.E.T m).m,GF (cM z.E.T m),(z.E.at m).r.end_,0,0⟩):=c2
     clear c2 hvt
     obtain ⟨NA,nc,rfl⟩:=kt B.out.nm
     obtain ⟨nn,d3⟩:=lz ((cM z.E.T m).m.length)
     rw [<-d3.out] at B
     obtain ⟨qt,m5⟩:=lz (z.E.at m)
     obtain ⟨en,i4⟩:=lz (qt.r.end_)
     have e5:=zq (fun X (hX:ax a0.heap.size a0 X)=>kc (B.out.call hX) 0 (by decide))
     rw [Nat.add_zero,<-m5.out] at e5
     rw [<-m5.out,<-i4.out] at HV
     have hf:∀W,(Instr.field 83 (aN #[ab ae qt.r.kind,aa qt.txt,ab ae qt.r.n,ab ae qt.r.at_,ab ae qt.r.end_,am qt.lay]) 4).run ah W=.ok (ab ae qt.r.end_) W:=fun W=>by kernel_rfl
     rw [<-i4.out] at hf
     have l2:=zq hf
     clear hf
     unfold qY at e5
     rw [<-i4.out] at e5
     go_wp2_with fail
     rename_i K7 n8
     refine sb (w0:=a0) [jn [] [0] (fun|[v]=>v=aN #[ab ae t.kind,ab ae t.num,aa t.name,.slice Z t.args.length ct]|_=>False),
      cV [] [1] (fun|[v]=>v=au (some ⟨z.P,0,none⟩)|_=>False),
      cV [1] [2] (fun|[v]=>v=au (some ⟨z.P,0,none⟩)|_=>False),
      cV [1,2] [3] (fun|[v]=>v=au (some ⟨z.P,7,none⟩)|_=>False),
      jn [1,2,3] [4] (fun|[v]=>v=.slice NA nn nc|_=>False),
      cV [] [5] (fun|[v]=>v=au (some ⟨z.P,0,none⟩)|_=>False),
      jn [5] [6] (fun|[v]=>v=aN #[ab ae qt.r.kind,aa qt.txt,ab ae qt.r.n,ab ae qt.r.at_,ab ae en,am qt.lay]|_=>False),
      cV [5,6] [7] (fun|[v]=>v=ab ae en|_=>False),
      cV (aY 8) [8] (fun|[v]=>v=aN #[ab ae t.kind,ab ae t.num,aa t.name,.slice Z t.args.length ct,.slice NA nn nc,.slice none 0 0,ab ae en]|_=>False),
      Lw (aY 9) [] (fun _=>True)]
      [some 81,some 82,some 83,some 84,some 85,some 86,some 87,some 88,some 89,none] (fun _=>True) (a0.heap.size) 9 (fun _ X=>Hid (ax w.heap.size w X/\Bx (w.heap.size+1) a0.heap.size a0 X/\Bk X (w.heap.size+1) [ab ae t.kind,ab ae t.num,aa t.name,.slice Z t.args.length ct,.slice NA nn nc,.slice none 0 0,ab ae en])) (by kernel_rfl) (ag _) (by kernel_rfl) (by kernel_rfl) ⟨by decide,rfl⟩ (fun j o ho=>?srv7) (fun val Y J HF=>?fin7)
     case srv7=>
      have t5:j<10:=(Array.getElem?_eq_some_iff.1 ho).1
      rcases (show j=0\/j=1\/j=2\/j=3\/j=4\/j=5\/j=6\/j=7\/j=8\/j=9 by omega) with rfl|rfl|rfl|rfl|rfl|rfl|rfl|rfl|rfl|rfl
      ·cases ho
       refine fI rfl rfl (fun _ _ _=>trivial) (fun val E X C hB I=>?_)
       have q8:=C.t 12 (au (some ⟨gt,0,none⟩)) rfl
       have y:=((e2.out.call hB).at 0 _ _ rfl).all0
       simp only [bd,ap,ar,and_true] at y
       exact ⟨_,by simp [aP,go_sem,q8,y],rfl⟩
      ·cases ho
       refine bq rfl rfl (fun val E C I=>?_)
       have k3:=C.t 11 (au (some ⟨z.P,0,none⟩)) rfl
       exact ⟨_,fun X=>by simp [aP,go_sem,k3],rfl⟩
      ·cases ho
       refine bq rfl rfl (fun val E C I=>?_)
       have r1:=C.t 82 (val 1) rfl
       have K:val 1=_:=I 1 (oz rfl)
       exact ⟨_,fun X=>by simp [aP,go_sem,r1,K],rfl⟩
      ·cases ho
       refine bq rfl rfl (fun val E C I=>?_)
       have r2:=C.t 83 (val 2) rfl
       have h2:val 2=_:=I 2 (oz rfl)
       exact ⟨_,fun X=>by simp [aP,go_sem,r2,h2],rfl⟩
      ·cases ho
       refine fI rfl rfl (fun _ _ _=>trivial) (fun val E X C hB I=>?_)
       have r3:=C.t 84 (val 3) rfl
       have h3:val 3=_:=I 3 (oz rfl)
       have y:=(B.out.call hB).bk.c 7 _ rfl
       exact ⟨_,by simp [aP,go_sem,r3,h3,y],rfl⟩
      ·cases ho
       refine bq rfl rfl (fun val E C I=>?_)
       have k3:=C.t 11 (au (some ⟨z.P,0,none⟩)) rfl
       exact ⟨_,fun X=>by simp [aP,go_sem,k3],rfl⟩
      ·cases ho
       refine ka rfl rfl (fun _ _ _=>trivial) (fun val E X C hB I=>?_)
       have r5:=C.t 86 (val 5) rfl
       have h5:val 5=_:=I 5 (oz rfl)
       exact ⟨_,_,_,by simp [aP,go_sem,C.c,C.f,r5,h5] <;> rfl,e5.out X hB,rfl⟩
      ·cases ho
       refine bq rfl rfl (fun val E C I=>?_)
       have r6:=C.t 87 (val 6) rfl
       have h6:val 6=_:=I 6 (oz rfl)
       have hf:=l2.out
       exact ⟨_,fun X=>by simp [aP,go_sem,r6,h6,hf],rfl⟩
      ·cases ho
       refine bq rfl rfl (fun val E C I=>?_)
       have r0:=C.t 81 (val 0) rfl
       have h0:val 0=_:=I 0 (oz rfl)
       have r4:=C.t 85 (val 4) rfl
       have h4:val 4=_:=I 4 (oz rfl)
       have r7:=C.t 88 (val 7) rfl
       have h7:val 7=_:=I 7 (oz rfl)
       exact ⟨_,fun X=>by simp [aP,go_sem,r0,h0,r4,h4,r7,h7],rfl⟩
      ·cases ho
       refine yG rfl rfl fun val E X N C hC I hc _=>?_
       have h8:val 8=_:=I 8 (oz rfl)
       have q9:E (.tmp 6)=au (some ⟨w.heap.size+1,0,none⟩):=by rw [C.eq];rfl
       have r8:=C.t 89 (val 8) rfl
       have y:Bk X (w.heap.size+1) [ab ae 0,ab ae 0,aa ⟨#[]⟩,.slice none 0 0,.slice none 0 0,.slice none 0 0,ab ae 0]:=(e2.out.call hC.bel).at 1 _ _ rfl
       have z0:=y.c 0 _ rfl
       have f0:=y.f 0
       have z1:=y.c 1 _ rfl
       have f1:=y.f 1
       have z2:=y.c 2 _ rfl
       have f2:=y.f 2
       have z3:=y.c 3 _ rfl
       have f3:=y.f 3
       have z4:=y.c 4 _ rfl
       have f4:=y.f 4
       have z5:=y.c 5 _ rfl
       have f5:=y.f 5
       have z6:=y.c 6 _ rfl
       have f6:=y.f 6
       have hX:=f7.out.trans (hC.bel.mono f7.out.size)
       exact .inr (.inl ⟨(((((((X.setCell ⟨w.heap.size+1,0,none⟩ (ab ae t.kind)).setCell ⟨w.heap.size+1,1,none⟩ (ab ae t.num)).setCell ⟨w.heap.size+1,2,none⟩ (aa t.name)).setCell ⟨w.heap.size+1,3,none⟩ (.slice Z t.args.length ct)).setCell ⟨w.heap.size+1,4,none⟩ (.slice NA nn nc)).setCell ⟨w.heap.size+1,5,none⟩ (.slice none 0 0)).setCell ⟨w.heap.size+1,6,none⟩ (ab ae en)),by simp [aP,go_sem,q9,r8,h8,z0,f0,z1,f1,z2,f2,z3,f3,z4,f4,z5,f5,z6,f6],trivial,zq ⟨kq hX (w.heap.size+1) (cQ _) _ _ _ _ _ _ _,(Bx.of hC.bel).trans (Bx.put7 _ _ _ _ _ _ _ _ _ _),((((((y.set 0 _).set 1 _).set 2 _).set 3 _).set 4 _).set 5 _).set 6 _⟩⟩)
     case fin7=>
      have h0:val 0=_:=J 0 (by decide)
      have K:val 1=_:=J 1 (by decide)
      have h2:val 2=_:=J 2 (by decide)
      have h3:val 3=_:=J 3 (by decide)
      have h4:val 4=_:=J 4 (by decide)
      have h5:val 5=_:=J 5 (by decide)
      have h6:val 6=_:=J 6 (by decide)
      have h7:val 7=_:=J 7 (by decide)
      have h8:val 8=_:=J 8 (by decide)
      obtain ⟨n7,o2,o8⟩:=Hid.out HF
      rename_i Y
      have p6:=zq n7
      have f9:=zq o2
      have p7:=zq o8
      clear J HF n7 o2 o8
      refine n8 _ _ ?_
      simp only [jD,List.set_cons_zero,List.set_cons_succ,ar,ap,h0,K,h2,h3,h4,h5,h6,h7,h8]
      clear n8 h0 K h2 h3 h4 h5 h6 h7 h8 e5 l2
      have b3:Hid (z.B1=A.heap.size/\w.heap.size+1<A.heap.size):=zq ⟨a4.out.2.1,e0.out⟩
      obtain ⟨F,a1⟩:=lz (a0.heap.size)
      have j1:Hid (∀X,Bx (w.heap.size+1) F a0 X->Bk X z.P (z.cells m (cM z.E.T m) (.slice NA nn nc))):=zq fun X h=>B.out.bk.keeps (h.block _ (by rw [a1.out];exact B.out.bk.lt) (by have:=B.out.ok.p1;have:=b3.out;omega))
      have q2:Hid (∀X Y,Bx (w.heap.size+1) F a0 X->(∀b,b<X.heap.size->Y.heap[b]? = X.heap[b]?)->CntMap ah 2 3 Y z.O (cM z.E.T m).o.length (fun x=>(cM z.E.T m).o.count x)):=zq fun X Y h hy=>B.out.om.keep ((hy _ (aC B.out.om.lt h.size)).trans (h.block _ (by rw [a1.out];exact B.out.om.lt) (by have:=B.out.ok.o1;have:=b3.out;omega)))
      have p3:=NmAt.own (m:=(cM z.E.T m).m) (by have:=B.out.nm;rw [d3.out] at this;exact this)
      have l8:Hid (∀X,Bx (w.heap.size+1) F a0 X->NmAt (fun b=>A.heap.size<=b/\b<F) X NA (cM z.E.T m).m):=zq fun X h=>p3.2.keep (fun b a=>h.block b (by rw [a1.out];exact a.2) (by have:=a.1;have:=B.out.ok.p1;have:=b3.out;omega)) fun b a=>⟨by have:=a.1;have:=B.out.ok.p1;have:=b3.out;omega,by rw [a1.out];exact a.2⟩
      have q6:Hid (∀X,Bx (w.heap.size+1) F a0 X->TmsK (fun b=>A.heap.size<=b/\b<F) X Z t.args):=zq fun X h=>m9.out.keep (fun b a=>h.block b (by rw [a1.out];exact a.2) (by have:=a.1;have:=b3.out;omega)) fun b a=>⟨a.1,by rw [a1.out];exact a.2⟩
      have j6:Hid ((cM z.E.T m).o.length<=20000/\(cM z.E.T m).m.length<=20000/\∀p∈(cM z.E.T m).m,p.2<=20000):=zq (by
       have K:=B.out.vn
       have h2:=B.out.n1
       have h3:=B.out.ok.len
       have h4:=B.out.vc
       exact ⟨by omega,by have:=h4.mo;omega,fun p hp=>by have:=h4.lt p hp;have:=h4.co;omega⟩)
      have s9:Hid (F<=Y.heap.size):=zq (by rw [a1.out];exact f9.out.size)
      have e8:Hid (w.heap.size+1<F/\A.heap.size<=F):=zq (by rw [a1.out];have:=e2.out.lt 1 rfl;exact ⟨this,by have:=B.out.low;have:=B.out.ok.p1;have:=b3.out;omega⟩)
      rw [<-a1.out] at f9
      clear p3 B f7 e2 m9 a4 l4 e0
      have kp:=j1.out Y f9.out
      have b8:=kp.all0
      simp only [PC.cells,bd,ap,ar,and_true] at b8
      go_wp2_with fail
      clear kp b8
      go_loopw [95] (fun i wr=>∃j:Nat,i=ab ae j/\j<=nn/\∃v,Hid (Bx (w.heap.size+1) F a0 wr)/\Hid (ax w.heap.size w wr)/\Hid (Bk wr (w.heap.size+1) [ab ae t.kind,ab ae t.num,aa t.name,.slice Z t.args.length ct,.slice NA nn nc,v,ab ae en])/\Hid (wr.ownsRow F 86 2 v (((cM z.E.T m).m.take j).filter (fun p:List UInt8×Nat=>(cM z.E.T m).o.count p.2==1)).length (iF (((cM z.E.T m).m.take j).filter (fun p:List UInt8×Nat=>(cM z.E.T m).o.count p.2==1))))) (fun i _=>nn-(intOf i).toNat)
      case atStart=>exact ⟨0,rfl,bp _,.slice none 0 0,f9,p6,p7,zq (dQ _ _ _ _)⟩
      case round=>
       obtain ⟨j,rfl,hj,v,b6,i8,j3,d4⟩:=hrel
       obtain ⟨SA,sc,J⟩:=kt d4.out
       obtain ⟨ns,e4⟩:=lz ((((cM z.E.T m).m.take j).filter (fun p:List UInt8×Nat=>(cM z.E.T m).o.count p.2==1)).length)
       rw [<-e4.out] at J d4
       subst J
       have HJ:=zq hj
       have kr:=j3.out.all0
       simp only [bd,ap,ar,and_true] at kr
       by_cases a2:j<nn
       ·have a:=Ov a2
        have i0:j<(cM z.E.T m).m.length:=by rw [<-d3.out];exact a2
        obtain ⟨b,t7,rfl,o4,c0,c1⟩:=(l8.out wr b6.out).2 j i0
        obtain ⟨V,g3⟩:=lz ((cM z.E.T m).m[j])
        have q3:Hid (V.2<=20000):=zq (by rw [g3.out];exact j6.out.2.2 _ (List.getElem_mem i0))
        have d5:Hid ((cM z.E.T m).m.take (j+1)=(cM z.E.T m).m.take j++[V]):=zq (by rw [g3.out];exact List.take_succ_eq_append_getElem i0)
        rw [<-g3.out] at c0 c1
        obtain ⟨k0,k1⟩:=Ny a2
        have c6:=zq (Nd a2 (by rw [d3.out];exact j6.out.2.1))
        have kp:=j1.out wr b6.out
        have b8:=kp.all0
        simp only [PC.cells,bd,ap,ar,and_true] at b8
        have s2:¬b=w.heap.size+1:=Il b3.out.2 o4.1
        clear hj i0 o4 g3 kp
        have p8:=zq (b6.out.size)
        obtain ⟨wv,g6⟩:=lz (wr.alloc (.cells #[aa ⟨V.1.toArray⟩,ab ae (V.2:Int)] 86))
        obtain ⟨r9,i5⟩:=lz (wr.heap.size)
        have d8:ax wr.heap.size wr wv:=by rw [g6.out];exact (aj _ _).alloc (ag _) _
        have p0:Bk wv r9 [aa ⟨V.1.toArray⟩,ab ae (V.2:Int)]:=by rw [g6.out,i5.out];exact Bk.new wr [aa ⟨V.1.toArray⟩,ab ae (V.2:Int)] 86
        have l9:Hid (F<=wr.heap.size):=zq (aI (by rw [a1.out];exact ag _) b6.out.size)
        have g7:=zq (b6.out.trans (Bx.of (d8.mono l9.out)))
        have l6:=bz i8 d8
        have m8:=zq (j3.out.call d8)
        have j0:=zq (iS d4.out fun k y=>d8.block k (d4.out.lt k y).2)
        have i9:Hid (F<=wv.heap.size):=zq (aI l9.out d8.size)
        have s5:=(q2.out wv wv.drew g7.out (fun _ _=>rfl)).look Tryz.underlying2 Tryz.underlying77 Tryz.underlying3 V.2 (aI q3.out (by decide)) (Lj _)
        go_upto_region 19 with fail
        rw [<-g6.out,<-i5.out]
        have i7:=zq p0
        clear d8 p0 b6 i8 j3 d4 kr b8 c0 c1 k0 k1 s2 g6 i5 p8 a
        have kp:=j1.out wv g7.out
        have b8:=kp.all0
        simp only [PC.cells,bd,ap,ar,and_true] at b8
        have kv:=i7.out.all0
        simp only [bd,ap,ar,and_true] at kv
        clear kp
        generalize d9:(cM z.E.T m).o.count V.2=q7 at *
        have l1:=zq d9
        clear d9
        go_region
        all_goals
         obtain ⟨wx,k9⟩:∃x,x=wv.drew:=⟨_,rfl⟩
         rw [<-k9]
         have c8:ax wv.heap.size wv wx:=by rw [k9];exact (aj _ _).drew
         have n4:=zq (g7.out.trans (Bx.of (c8.mono i9.out)))
         have l7:=bz l6 c8
         have j4:=zq (m8.out.call c8)
         have m2:=zq (iS j0.out fun k y=>c8.block k (j0.out.lt k y).2)
         have p9:=zq (i7.out.call c8)
         have q1:Hid (F<=wx.heap.size):=zq (aI i9.out c8.size)
         clear c8 g7 l6 m8 j0 i7 i9 b8 kv s5 k9
         by_cases K:q7=1
         ·have b1:=Oj K
          have g0:Hid (((cM z.E.T m).m.take (j+1)).filter (fun p:List UInt8×Nat=>(cM z.E.T m).o.count p.2==1)=(((cM z.E.T m).m.take j).filter (fun p:List UInt8×Nat=>(cM z.E.T m).o.count p.2==1))++[V]):=zq (by
           rw [d5.out,fu]
           congr 1
           rw [List.filter_cons_of_pos (by rw [l1.out,K];rfl)];rfl)
          clear K
          have kr:=j4.out.all0
          simp only [bd,ap,ar,and_true] at kr
          have kv:=p9.out.all0
          simp only [bd,ap,ar,and_true] at kv
          have n9:ns<=100000:=IK (fun p:List UInt8×Nat=>(cM z.E.T m).o.count p.2==1) _ _ _ e4.out j6.out.2.1
          have q0:=zq n9
          clear n9
          go_wp2_with (at_builtin;go_must (refine uO rfl _ _ rfl F _ ns _ rfl m2.out q1.out V rfl rfl q0.out ?_;intro v5 w5 m1 k4;(obtain ⟨A5,c5,s8⟩:=kt m1.out);subst s8;have m6:=zq (j4.out.keeps (k4.out.block _ e8.out.1));have k5:=m6.out.all0;simp only [bd,ap,ar,and_true] at k5))
          have p2:(((cM z.E.T m).m.take (j+1)).filter (fun p:List UInt8×Nat=>(cM z.E.T m).o.count p.2==1)).length=ns+1:=by rw [g0.out,List.length_append,<-e4.out];rfl
          have o6:iF (((cM z.E.T m).m.take (j+1)).filter (fun p:List UInt8×Nat=>(cM z.E.T m).o.count p.2==1))=iF (((cM z.E.T m).m.take j).filter (fun p:List UInt8×Nat=>(cM z.E.T m).o.count p.2==1))++[aa ⟨V.1.toArray⟩,ab ae (V.2:Int)]:=by rw [g0.out];unfold iF;rw [List.flatMap_append];rfl
          have l5:=zq (⟨p2,o6⟩:_/\_)
          clear p2 o6 k5 kr kv
          go_roundw
          case rel=>exact ⟨j+1,congrArg (fK gg) c6.out,a2,.slice A5 (ns+1) c5,zq ((n4.out.trans (Bx.of k4.out)).trans (Bx.one _ _ _ 5 _)),zq ((l7.out.trans (k4.out.mono (fd (gc (bY _) e8.out.1)))).setCell (p:=⟨w.heap.size+1,5,none⟩) (cQ _) _),zq (m6.out.set 5 _),zq (by rw [l5.out.1,l5.out.2];exact ownsRow_setCell_below m1.out (show w.heap.size+1<F from e8.out.1) _)⟩
          case measure=>exact LA c6.out a2
         ·have b1:=Ol K
          have g0:Hid (((cM z.E.T m).m.take (j+1)).filter (fun p:List UInt8×Nat=>(cM z.E.T m).o.count p.2==1)=(((cM z.E.T m).m.take j).filter (fun p:List UInt8×Nat=>(cM z.E.T m).o.count p.2==1))):=zq (by
           rw [d5.out,fu,List.filter_cons_of_neg (by rw [l1.out];simpa using K)];simp)
          clear K
          go_wp2_with fail
          go_roundw
          case rel=>exact ⟨j+1,congrArg (fK gg) c6.out,a2,.slice SA ns sc,n4,l7,j4,zq (by rw [g0.out,<-e4.out];exact m2.out)⟩
          case measure=>exact LA c6.out a2
       ·have a:=Ow a2
        have s3:=Nu a2 hj
        subst s3
        have k8:(cM z.E.T m).m.take j=(cM z.E.T m).m:=List.take_of_length_le (by rw [<-d3.out];exact ag _)
        have m0:Hid (ns=(GF (cM z.E.T m)).length):=zq (by rw [e4.out,k8];rfl)
        have q5:=zq ((NmAt.own (m:=GF (cM z.E.T m)) (by have h:=d4.out;rw [k8] at h;rw [m0.out] at h;exact h)).2)
        clear k8 hj a2
        go_wp2_with fail
        refine ay (v:=aK #[aN #[ab ae t.kind,ab ae t.num,aa t.name,.slice Z t.args.length ct,.slice NA j nc,.slice SA ns sc,ab ae en],ab ae 0,ab ae 0]) (by simp [results,Tryz.results9,go_sem,kr]) rfl ?_
        rw [HV.out]
        have o3:=b6.out.trans (Bx.put7 (w.heap.size+1) F wr (ab ae t.kind) (ab ae t.num) (aa t.name) (.slice Z t.args.length ct) (.slice NA j nc) (.slice SA ns sc) (ab ae en))
        have o0:F<=wr.heap.size:=aI (Nat.le_of_eq a1.out) b6.out.size
        have k6:w.heap.size<=A.heap.size:=fd (gc (bY _) b3.out.2)
        refine ⟨Z,ct,NA,nc,SA,sc,by simp only;rw [d3.out,m0.out],kq i8.out _ (cQ _) _ _ _ _ _ _ _,(q6.out _ o3).keep (fun _ _=>rfl) fun b a=>MP a k6 (aI o0 (by simp)),(l8.out _ o3).keep (fun _ _=>rfl) fun b a=>MP a k6 (aI o0 (by simp)),q5.out.keep (fun b a=>(Bx.put7 (w.heap.size+1) wr.heap.size wr _ _ _ _ _ _ _).block b a.2 (Il e8.out.1 a.1)) fun b a=>MP a (aI k6 e8.out.2) (by simp)⟩
end Go.Proofs.YtlikcjbjibhjgaaGreatDoor
