/- Parts of the proof. -/
import Derived.Test.YtbojljpldcijgaaGreatR01
import Derived.Test.YtbojljpldcijgaaGreatR25
import Derived.Test.YtbojljpldcijgaaGreatR24
import Derived.Test.YtbojljpldcijgaaGreatR12
import Derived.Test.YtbojljpldcijgaaGreatR09
set_option maxHeartbeats 12800000
set_option maxRecDepth 100000
set_option linter.unusedSimpArgs false
open Go renaming Operand -> eG, Value -> aC, World -> au, heap_setCell_other -> aW, wpList -> cq, wpList_append_own_at -> eP
open Go.IntKind renaming i64 -> ab
open Go.Proofs.Tryz renaming prog -> am
open Go.RowKit renaming Below -> aB
open Go.RowKit.Below renaming refl -> ap
open Go.Value renaming int -> aa, string -> ac
open Go.World renaming cell?_alloc_new -> aF
open List renaming count_singleton -> gp, getElem_map -> bT, length_append -> bC, length_map -> bZ, map_append -> cF, map_cons -> da, map_nil -> dV, mem_cons -> bh, mem_nil_iff -> be, mem_singleton -> aK, pairwise_iff_getElem -> fX, take_succ_eq_append_getElem -> bl
open Nat renaming le_refl -> ae, le_succ -> bm, le_trans -> aQ, lt_of_lt_of_le -> aA, lt_succ_self -> bK, reduceAdd -> af, zero_add -> ah
namespace Go.Proofs.YtbojljpldcijgaaGreat
open Go.RowKit Hb
theorem zR {c:QC} {n:Nat} {wr:Bool} {v:VS} {nv:VV} {w:au} (p:PsQ c n wr v nv w) (s:ByteArray) (hs:s.size<=20000) :
  Calls am 107 #[.pointer (some ⟨c.P,0,none⟩),ac s] w fun e w'=>∃A' c',e=.returned (fI (tY c.E.q s.data.toList) A' c')/\aB w.heap.size w w'/\TmsK (fun b=>w.heap.size<=b/\b<w'.heap.size) w' A' (tY c.E.q s.data.toList).args:=by
 have z:aB w.heap.size w (w.alloc (.cells #[aa ab 0,aa ab 0,ac ⟨#[]⟩,.slice none 0 0] 30)):=(ap _ _).alloc (ae _) _
 have J:=(Bks.nil w).new [aa ab 0,aa ab 0,ac ⟨#[]⟩,.slice none 0 0] 30 rfl
 have HP:=zq p
 obtain ⟨R,B⟩:=lz (tY c.E.q s.data.toList)
 have b9:=zq hs
 have Z:Hid (¬c.E.q=3->R=la (s.data.toList.map (xy c.E.q)) kn):=zq fun h=>by rw [B.out];unfold tY;rw [if_neg h]
 have O:Hid (∀b,xy c.E.q b=if c.E.q=1 then pQ b.toNat else qj ⟨#[b]⟩):=zq fun _=>rfl
 rw [<-B.out]
 have X:Hid (∀W,aB w.heap.size w W->W.cell? ⟨c.P,4,none⟩=some (aa ab c.E.q)):=zq fun W h=>(HP.out.bk.call h).c 4 _ rfl
 clear p
 by_cases y:c.E.q=3
 ·have Y:Hid (R=.mk 2 0 s []):=zq (by rw [B.out];unfold tY;rw [if_pos y];rfl)
  rw [Y.out]
  have b3:(c.E.q==3)=true:=by simpa using y
  have G:=X.out _ z
  have M:=zq z
  have Q:=zq J
  clear z J y O Z B hs
  generalize c.E.q=q at *
  go_enter Tryz.func107,Tryz.ntmps107
  go_wp2_with fail
  refine (ne s _).mono ?_;rintro e g ⟨rfl,d⟩
  have j:=bz M d
  have f:=zq (Q.out.call d)
  clear d
  have C:=f.out.all
  simp only [aH,aP,ah,af,and_true] at C
  go_wp2_with fail
  refine bodyPost_ret (v:=.agg #[aa ab 2,aa ab 0,ac s,.slice none 0 0]) (by simp [results,Tryz.results107,go_sem,C]) rfl ⟨none,0,rfl,?_,TmsK.nil⟩
  exact gM j.out _ (ae _) _ _ _ _
 ·have b3:(c.E.q==3)=false:=by simpa using y
  have Y:=zq (Z.out y)
  have G:=X.out _ z
  have M:=zq z
  have Q:=zq J
  clear z J y Z B
  generalize c.E.q=q at *
  go_enter Tryz.func107,Tryz.ntmps107
  go_wp2_with fail
  clear G
  go_loopw [5,6] (fun v5 i wr=>∃k:Nat,i=aa ab k/\k<=s.size/\∃rs:List TR,rs.map (·.1)=(s.data.toList.take k).map (xy q)/\Hid (OwnR (w.heap.size+1) 30 wr v5 rs)/\Hid (aB w.heap.size w wr)/\Hid (Bks wr [(w.heap.size,[aa ab 0,aa ab 0,ac ⟨#[]⟩,.slice none 0 0])])) (fun _ i _=>s.size-(intOf i).toNat)
  case atStart=>exact ⟨0,rfl,Nat.zero_le _,[],by simp,zq (OwnR.nul _ _ _),M,Q⟩
  case round=>
   obtain ⟨k,rfl,hk,rs,F,o,m,t⟩:=hrel
   have K:rs.length=k:=by have:=congrArg List.length F;simpa [Nat.min_eq_left hk] using this
   by_cases a1:k<s.size
   ·have a:decide ((k:Int)<(s.size:Int))=true:=by simp;omega
    have G:=X.out _ m.out
    have c0:wrap64 ((k:Int)+1)=(k:Int)+1:=jd (by omega)
    obtain ⟨A5,c5,a2,_⟩:=o.out.tms
    subst a2
    have a9:=oD s k a1
    have b6:=zq a9
    have a4:=zq F
    have T:=zq K
    clear F a9 K
    by_cases l:q=1
    ·have b1:(q==1)=true:=by simpa using l
     have L:=zq l
     clear l
     have b8:wrap64 (s[k].toNat:Int)=(s[k].toNat:Int):=IntWalk.wrap64_in _ (by have:=s[k].toNat_lt;omega)
     go_wp2_with fail
     rw [b8]
     refine (mj _ _).mono ?_;rintro e g ⟨rfl,d⟩
     have U:=zq (o.out.below d)
     have j:=bz m d
     have f:=zq (t.out.call d)
     have u:Hid (w.heap.size+1<=g.heap.size):=zq (f.out.lt 0 rfl)
     clear d o m t G
     go_wp2_with (at_builtin;go_must (refine iH rfl _ _ rfl (w.heap.size+1) _ rs rfl U.out u.out (pQ s[k].toNat,none,0) rfl rfl rfl (by have:=T.out;omega) ?_;intro v5 w5 V D;have N:=zq (j.out.trans (D.out.mono (bm _)));have S:=zq (f.out.keep (fun (x:Nat×List aC) hx=>D.out.block x.1 (by rw [aK] at hx;subst hx;exact bK _)))))
     have A:(rs++[((pQ s[k].toNat,none,0):TR)]).map (fun r:TR=>r.1)=(s.data.toList.take (k+1)).map (xy q):=by
      have a0:k<s.data.toList.length:=by simpa using a1
      rw [cF,a4.out,bl a0,cF,da,dV,da,dV,O.out]
      congr 1
      rw [if_pos L.out]
      rfl
     go_roundw
     case rel=>exact ⟨k+1,rfl,by omega,_,A,V,N,S⟩
     case measure=>simp [intOf] <;> omega
    ·have b1:(q==1)=false:=by simpa using l
     have L:=zq l
     clear l
     go_wp2_with fail
     rw [b6.out]
     refine (ne _ _).mono ?_;rintro e g ⟨rfl,d⟩
     have U:=zq (o.out.below d)
     have j:=bz m d
     have f:=zq (t.out.call d)
     have u:Hid (w.heap.size+1<=g.heap.size):=zq (f.out.lt 0 rfl)
     clear d o m t G
     go_wp2_with (at_builtin;go_must (refine iH rfl _ _ rfl (w.heap.size+1) _ rs rfl U.out u.out (qj ⟨#[s[k]]⟩,none,0) rfl rfl rfl (by have:=T.out;omega) ?_;intro v5 w5 V D;have N:=zq (j.out.trans (D.out.mono (bm _)));have S:=zq (f.out.keep (fun (x:Nat×List aC) hx=>D.out.block x.1 (by rw [aK] at hx;subst hx;exact bK _)))))
     have A:(rs++[((qj ⟨#[s[k]]⟩,none,0):TR)]).map (fun r:TR=>r.1)=(s.data.toList.take (k+1)).map (xy q):=by
      have a0:k<s.data.toList.length:=by simpa using a1
      rw [cF,a4.out,bl a0,cF,da,dV,da,dV,O.out]
      congr 1
      rw [if_neg L.out]
      rfl
     go_roundw
     case rel=>exact ⟨k+1,rfl,by omega,_,A,V,N,S⟩
     case measure=>simp [intOf] <;> omega
   ·have a:decide ((k:Int)<(s.size:Int))=false:=by simp;omega
    have b7:k=s.size:=by omega
    subst b7
    have A:rs.map (·.1)=s.data.toList.map (xy q):=by rw [F,List.take_of_length_le (by simp)]
    obtain ⟨A5,c5,a2,a7⟩:=o.out.tms
    subst a2
    have a3:Hid (R=la (rs.map (·.1)) kn):=zq (by rw [Y.out,A])
    have a5:=zq a7
    have T:=zq K
    clear F A a7 K
    go_wp2_with fail
    refine (ne ⟨#[91,93]⟩ _).mono ?_;rintro e g ⟨rfl,d⟩
    have a6:=a5.out.keep (fun b a=>d.block b a.2) (fun b a=>(⟨a.1,aA a.2 d.size⟩:w.heap.size+1<=b/\b<g.heap.size))
    have H:=zq (oU (fun b=>w.heap.size+1<=b/\b<g.heap.size) (rs.map (·.1)) A5 rs.length c5 kn none 0 g (by simp) (fun b a=>a.2) a6 TmsK.nil)
    rw [<-a3.out] at H
    have j:=bz m d
    have f:=zq (t.out.call d)
    clear d a6 m t o a5
    have e4:fI kn none 0=.agg #[aa ab 2,aa ab 0,ac ⟨#[91,93]⟩,.slice none 0 0]:=rfl
    rw [e4] at H
    go_wp2_with fail
    refine H.out.mono ?_;rintro e w6 ⟨A6,c6,rfl,I,a8⟩
    have b0:=bz j I
    have b2:=zq (f.out.call I)
    have b5:=zq a8
    have u:Hid (w.heap.size+1<=g.heap.size):=zq (f.out.lt 0 rfl)
    have b4:=zq I.size
    clear I a8 H j f a3
    have C:=b2.out.all
    simp only [aH,aP,ah,af,and_true] at C
    unfold fI
    go_wp2_with fail
    refine bodyPost_ret (v:=.agg #[aa ab R.kind,aa ab R.num,ac R.name,.slice A6 R.args.length c6]) (by simp [results,Tryz.results107,go_sem,C]) rfl ⟨A6,c6,rfl,gM b0.out _ (ae _) _ _ _ _,?_⟩
    refine b5.out.keep (fun b a=>bH _ _ _ _ _ _ _ ?_) fun b a=>⟨?_,?_⟩
    ·rcases a with a | a
     ·omega
     ·have:=u.out;omega
    ·rcases a with a | a
     ·omega
     ·have:=u.out;omega
    ·rcases a with a | a
     ·have l:=a.2;simp;exact aA l b4.out
     ·simpa using a.2
end Go.Proofs.YtbojljpldcijgaaGreat
namespace Hb
open Go Go.RowKit
structure VS.Nice (v:VS):Prop where
 lt:∀k∈v.o,k<v.c
 d:v.m.Pairwise fun p q=>p.2<q.2
 ok:v.Ok
theorem xH:vs0.Nice:=⟨fun k h=>(by cases h),List.Pairwise.nil,rz⟩
theorem VS.num_lt {v:VS} (h:v.Ok) {x:List UInt8} (a:v.old x=true):v.num x<v.c:=by
 unfold VS.old at a
 rw [Bool.and_eq_true,decide_eq_true_iff] at a
 unfold VS.num
 rw [if_neg a.1]
 obtain ⟨k,b⟩:=Option.isSome_iff_exists.1 a.2
 rw [b]
 exact VS.look_lt h b
theorem VS.Nice.step {v:VS} (h:v.Nice) (x:List UInt8):(v.step x).Nice:=by
 refine ⟨fun k a=>?_,?_,VS.step_ok h.ok x⟩
 ·unfold VS.step at a |-
  simp only [List.mem_append,aK] at a
  simp only
  by_cases b:v.old x=true
  ·rw [if_pos b]
   rcases a with a | rfl
   ·exact h.lt k a
   ·exact VS.num_lt h.ok b
  ·rw [if_neg b]
   rcases a with a | rfl
   ·exact Nat.lt_succ_of_lt (h.lt k a)
   ·exact Nat.lt_succ_of_le (VS.num_le h.ok x)
 ·unfold VS.step
  simp only
  split
  ·exact h.d
  ·rw [List.pairwise_append]
   exact ⟨h.d,List.pairwise_singleton _ _,fun p e q c=>by rw [aK] at c;subst c;exact h.ok.lt p e⟩
theorem ww (T:List NextR):(ry T).Nice:=by
 unfold ry
 have a:∀(l:List NextR) (v:VS),v.Nice->(l.foldl (fun v t=>v.step t.r.text) v).Nice:=by
  intro l
  induction l with
  | nil=>intro v h;exact h
  | cons t l ih=>intro v h;exact ih _ (h.step _)
 exact a _ _ xH
theorem wD (T:List NextR) (n:Nat):(bv T n).Nice:=ww _
theorem yJ (v:VS) (h:v.Nice):ec (v.step [95])=ec v/\(v.step [95]).m=v.m/\(v.step [95]).c=v.c+1:=by
 have e:v.old [95]=false:=by unfold VS.old;rw [decide_eq_false (by simp)];rfl
 have a:(v.step [95]).m=v.m:=by unfold VS.step;simp
 refine ⟨?_,a,by unfold VS.step;rw [e];rfl⟩
 unfold ec
 rw [a]
 refine List.map_congr_left fun p f=>?_
 have g:=h.ok.lt p f
 have b:(v.step [95]).o=v.o++[v.c]:=by unfold VS.step VS.num;simp
 rw [b,List.count_append,gp]
 have d:(v.c==p.2)=false:=by simp;omega
 rw [d]
 rfl
theorem Bq (v:VS) (h:v.Nice) {x:List UInt8} (f:¬x=[95]) (d:v.look x=none):ec (v.step x)=ec v++[aa ab 1]/\(v.step x).m=v.m++[(x,v.c)]/\(v.step x).c=v.c+1/\v.num x=v.c:=by
 have e:v.old x=false:=by unfold VS.old;rw [d];simp
 have b:v.num x=v.c:=by unfold VS.num;rw [if_neg f,d];rfl
 have a:(v.step x).m=v.m++[(x,v.c)]:=by unfold VS.step;rw [e];simp [f]
 have g:(v.step x).o=v.o++[v.c]:=by unfold VS.step;rw [b]
 refine ⟨?_,a,by unfold VS.step;rw [e];rfl,b⟩
 unfold ec
 rw [a,g,cF]
 have j:v.o.count v.c=0:=List.count_eq_zero.2 fun k=>absurd (h.lt _ k) (Nat.lt_irrefl _)
 congr 1
 ·refine List.map_congr_left fun p l=>?_
  have n:=h.ok.lt p l
  rw [List.count_append,gp]
  have i:(v.c==p.2)=false:=by simp;omega
  rw [i]
  rfl
 ·simp only [da,dV]
  rw [List.count_append,gp,j]
  simp
theorem Bp (v:VS) (h:v.Nice) {x:List UInt8} (r:¬x=[95]) {k:Nat} (a:k<v.m.length) (y:v.m[k].1=x) (u:∀j (g:j<v.m.length),j<k->¬v.m[j].1=x):ec (v.step x)=(ec v).set k (aa ab ((v.o.count v.m[k].2+1:Nat):Int))/\(v.step x).m=v.m/\(v.step x).c=v.c/\v.num x=v.m[k].2:=by
 have i:v.look x=some v.m[k].2:=by
  unfold VS.look
  have:v.m.find? (fun p=>p.1==x)=some v.m[k]:=by
   rw [List.find?_eq_some_iff_getElem]
   refine ⟨by simpa using y,k,a,rfl,fun j g=>?_⟩
   have:=u j (Nat.lt_trans g a) g
   simpa using this
  rw [this];rfl
 have q:v.old x=true:=by unfold VS.old;rw [i,decide_eq_true r];rfl
 have n:v.num x=v.m[k].2:=by unfold VS.num;rw [if_neg r,i];rfl
 have l:(v.step x).m=v.m:=by unfold VS.step;rw [q];simp
 have s:(v.step x).o=v.o++[v.m[k].2]:=by unfold VS.step;rw [n]
 refine ⟨?_,l,by unfold VS.step;rw [q];rfl,n⟩
 unfold ec
 rw [l,s]
 apply List.ext_getElem
 ·simp
 ·intro j b z
  simp only [bZ] at b
  rw [bT,List.getElem_set,bT,List.count_append,gp]
  by_cases e:k=j
  ·subst e
   rw [if_pos rfl]
   simp
  ·rw [if_neg e]
   have w:v.m[k].2≠v.m[j].2:=by
    rcases Nat.lt_or_gt_of_ne e with f | f
    ·exact Nat.ne_of_lt (fX.1 h.d k j a b f)
    ·exact Nat.ne_of_gt (fX.1 h.d j k b a f)
   have t:(v.m[k].2==v.m[j].2)=false:=by simpa using w
   rw [t]
   rfl
theorem Am (v:VS) (x:List UInt8) (h:∀j (a:j<v.m.length),¬v.m[j].1=x):v.look x=none:=by
 unfold VS.look
 rw [Option.map_eq_none_iff,List.find?_eq_none]
 intro p b
 obtain ⟨j,a,rfl⟩:=List.mem_iff_getElem.1 b
 simpa using h j a
end Hb
namespace Go.Proofs.YtbojljpldcijgaaGreat
open Go.RowKit Hb
structure Pq (c:QC) (x:List aC) (z:VV) (m:List (List UInt8×Nat)) (os:List aC) (z0:VV) (w0:au) (L:List (Nat×List aC)) (w:au):Prop where
 ok:c.Ok
 low:c.lo<=w0.heap.size
 bk:Bk w c.P x
 tk:oJ w c.g c.E.T
 ops:OpsAt w c.OA c.E.P
 nm:w.ownsRow c.lo 44 2 z.1 m.length (eE m)
 om:w.ownsRow c.lo 3 1 z.2 os.length os
 s:StQ c z0 w0 z w
 bs:Bks w L
 off:∀x∈L,¬c.mine z x.1/\w0.heap.size<=x.1
theorem Pq.of {c:QC} {n:Nat} {wr:Bool} {v:VS} {d z:VV} {w0 w:au} {L:List (Nat×List aC)} (h:Wq c n wr v d w0 z w L) (e:PsQ c n wr v d w0) (f:∀x∈L,w0.heap.size<=x.1):Pq c (c.cells n wr v z) z v.m (ec v) d w0 L w :=
 ⟨e.ok,e.low,h.p.bk,h.p.tk,h.p.ops,h.p.nm,by have:=h.p.om;unfold ec at *;rw [bZ];exact this,h.s,⟨fun x a=>h.b.bk x (List.mem_append_left _ a),by have:=h.b.ord;rw [cF,List.pairwise_append] at this;exact this.1⟩,fun x a=>⟨h.off x a,f x a⟩⟩
theorem Pq.dis {c:QC} {x:List aC} {z:VV} {m:List (List UInt8×Nat)} {j:List aC} {k:VV} {w0 w:au} {L:List (Nat×List aC)} (h:Pq c x z m j k w0 L w) (b:Nat) (a:z.1.ownBlock=some b):z.2.ownBlock≠some b:=by
 rcases h.nm.2 with ⟨d,_⟩ | ⟨g,l,n,d,o,i,p⟩
 ·rw [d] at a;cases a
 ·have f:g=b:=by rw [d] at a;simpa [Value.ownBlock] using a
  subst f
  have:=ow h.om i (by decide)
  exact fun e=>this e.symm
theorem Pq.lt {c:QC} {x:List aC} {z:VV} {m:List (List UInt8×Nat)} {d:List aC} {f:VV} {w0 w:au} {L:List (Nat×List aC)} (h:Pq c x z m d f w0 L w) {b:Nat} (a:c.mine z b):c.B1<=b/\b<w.heap.size:=by
 have g:=h.ok.p1
 rcases a with e | e | e
 ·have:=h.low;have:=h.s.size;omega
 ·have:=h.nm.lt b e;omega
 ·have:=h.om.lt b e;omega
theorem Pq.keep {c:QC} {x:List aC} {z:VV} {m:List (List UInt8×Nat)} {d:List aC} {e:VV} {w0 w w':au} {L:List (Nat×List aC)} (h:Pq c x z m d e w0 L w) (a:aB w.heap.size w w'):Pq c x z m d e w0 L w' :=
 ⟨h.ok,h.low,h.bk.call a,fN h.tk (a.block _ (by have:=h.ok.gl;have:=h.ok.p1;have:=h.low;have:=h.s.size;omega)),h.ops.below a,dJ h.nm fun k b=>a.block k (h.nm.lt k b).2,dJ h.om fun k b=>a.block k (h.om.lt k b).2,h.s.trans (.of a),h.bs.call a,h.off⟩
theorem Pq.turn {c:QC} {x:List aC} {z:VV} {m:List (List UInt8×Nat)} {q:List aC} {p:VV} {w0 w w':au} {L:List (Nat×List aC)} (h:Pq c x z m q p w0 L w) {b:Nat} (j:c.mine z b) (a:w.grownBy w' (some b)) :
  oJ w' c.g c.E.T/\OpsAt w' c.OA c.E.P/\StQ c p w0 z w'/\Bks w' L/\∀k,k<w.heap.size->k≠b->w'.heap[k]? = w.heap[k]?:=by
 have d:∀k,k<w.heap.size->k≠b->w'.heap[k]? = w.heap[k]?:=fun k f i=>a.block k f fun e=>i (by injection e)
 have u:=h.s.size
 have f:=h.ok.p1
 have t:=h.low
 have r:=(h.lt j).1
 refine ⟨fN h.tk (d _ (by have:=h.ok.gl;omega) (by have:=h.ok.gl;omega)),ii h.ops a.size (fun l k o e=>d k (by have:=h.ok.ob l k o e;omega) (by have:=h.ok.ob l k o e;omega)),h.s.trans ⟨a.os,a.tape,a.output,a.size,fun k f i=>d k f (fun e=>i (e ▸ j)),fun _ h=>.inl h⟩,h.bs.keep fun y n=>d _ (h.bs.bk y n).lt (fun e=>(h.off y n).1 (e ▸ j)),d⟩
theorem Pq.cell {c:QC} {x:List aC} {z:VV} {m:List (List UInt8×Nat)} {d:List aC} {f:VV} {w0 w:au} {L:List (Nat×List aC)} (h:Pq c x z m d f w0 L w) (i:Nat) (u:aC):Pq c (x.set i u) z m d f w0 L (w.setCell ⟨c.P,i,none⟩ u):=by
 have o:w.grownBy (w.setCell ⟨c.P,i,none⟩ u) (some c.P):=⟨rfl,rfl,rfl,by simp,fun k _ b=>aW _ _ _ _ (fun e=>b (by rw [e]))⟩
 obtain ⟨g,j,l,n,b⟩:=h.turn (.inl rfl) o
 exact ⟨h.ok,h.low,h.bk.set i u,g,j,dJ h.nm (fun k a=>b k (h.nm.lt k a).2 (by have:=(h.nm.lt k a).1;have:=h.ok.p1;omega)),dJ h.om (fun k a=>b k (h.om.lt k a).2 (by have:=(h.om.lt k a).1;have:=h.ok.p1;omega)),l,n,h.off⟩
theorem Pq.oset {c:QC} {x:List aC} {o:aC} {g a b:Nat} {m:List (List UInt8×Nat)} {os:List aC} {n:VV} {w0 w:au} {L:List (Nat×List aC)} (h:Pq c x (o,.slice (some ⟨g,0,none⟩) a b) m os n w0 L w) (j:a=os.length) (i:Nat) (u:aC):Pq c x (o,.slice (some ⟨g,0,none⟩) a b) m (os.set i u) n w0 L (w.setCell ⟨g,i,none⟩ u):=by
 have l:(Value.slice (some ⟨g,0,none⟩) a b).ownBlock=some g:=rfl
 have v:w.grownBy (w.setCell ⟨g,i,none⟩ u) (some g):=⟨rfl,rfl,rfl,by simp,fun k _ d=>aW _ _ _ _ (fun e=>d (by rw [e]))⟩
 obtain ⟨p,q,r,s,d⟩:=h.turn (.inr (.inr l)) v
 have y:=h.om.lt g l
 refine ⟨h.ok,h.low,h.bk.keeps (d _ h.bk.lt (by have:=h.ok.p1;omega)),p,q,dJ h.nm (fun k f=>d k (h.nm.lt k f).2 (fun e=>h.dis k f (by rw [e];rfl))),?_,r,s,h.off⟩
 have t:w.ownsRow c.lo 3 1 (.slice (some ⟨g,0,none⟩) a b) a os:=by have:=h.om;rw [<-j] at this;exact this
 have:=(t.stored i u).1
 rw [List.length_set,<-j]
 exact this
theorem Pq.grow1 {c:QC} {x:List aC} {j l f:aC} {m:List (List UInt8×Nat)} {B:List aC} {C:VV} {w0 w w':au} {L:List (Nat×List aC)} (h:Pq c x (j,l) m B C w0 L w) (p:List UInt8×Nat)
  (D:w'.ownsRow c.lo 44 2 f (m.length+1) (eE m++[ac ⟨p.1.toArray⟩,aa ab (p.2:Int)])) (g:w.grownBy w' j.ownBlock) (u:f.ownBlock=j.ownBlock\/f.ownBlock=some w.heap.size):Pq c x (f,l) (m++[p]) B C w0 L w':=by
 have i:∀k,k<w.heap.size->j.ownBlock≠some k->w'.heap[k]? = w.heap[k]?:=fun k o q=>g.block k o fun e=>q e.symm
 have r:∀k,k<c.lo->j.ownBlock≠some k:=fun k o q=>by have:=(h.nm.lt k q).1;omega
 have G:=h.s.size
 have o:=h.ok.p1
 have F:=h.low
 have E:StQ c (j,l) w (f,l) w':=⟨g.os,g.tape,g.output,g.size,fun b a t=>i b a (fun e=>t (.inr (.inl e))),fun b a=>by
  rcases a with a | a
  ·rcases u with e | e
   ·exact .inl (.inl (e ▸ a))
   ·have a:f.ownBlock=some b:=a
    rw [e] at a;injection a with a;exact .inr (by omega)
  ·exact .inl (.inr a)⟩
 refine ⟨h.ok,h.low,h.bk.keeps (i _ h.bk.lt (r _ (by omega))),fN h.tk (i _ (by have:=h.ok.gl;omega) (r _ (by have:=h.ok.gl;omega))),ii h.ops g.size (fun z k A e=>i k (by have:=h.ok.ob z k A e;omega) (r _ (by have:=h.ok.ob z k A e;omega))),?_,dJ h.om (fun k v=>i k (h.om.lt k v).2 (fun e=>h.dis k e v)),h.s.trans E,h.bs.keep fun y d=>i _ (h.bs.bk y d).lt (fun e=>(h.off y d).1 (.inr (.inl e))),fun y d=>⟨fun t=>?_,(h.off y d).2⟩⟩
 ·unfold eE at *
  rw [List.flatMap_append,bC]
  exact D
 ·rcases t with e | e | e
  ·exact (h.off y d).1 (.inl e)
  ·rcases u with n | n
   ·exact (h.off y d).1 (.inr (.inl (n ▸ e)))
   ·have e:f.ownBlock=some y.1:=e
    rw [n] at e;injection e with e
    have:=(h.bs.bk y d).lt;omega
  ·exact (h.off y d).1 (.inr (.inr e))
theorem Pq.grow2 {c:QC} {x:List aC} {n j f:aC} {m:List (List UInt8×Nat)} {l:List aC} {C:VV} {w0 w w':au} {L:List (Nat×List aC)} (h:Pq c x (n,j) m l C w0 L w) (u:aC)
  (D:w'.ownsRow c.lo 3 1 f (l.length+1) (l++[u])) (g:w.grownBy w' j.ownBlock) (v:f.ownBlock=j.ownBlock\/f.ownBlock=some w.heap.size):Pq c x (n,f) m (l++[u]) C w0 L w':=by
 have i:∀k,k<w.heap.size->j.ownBlock≠some k->w'.heap[k]? = w.heap[k]?:=fun k p q=>g.block k p fun e=>q e.symm
 have r:∀k,k<c.lo->j.ownBlock≠some k:=fun k p q=>by have:=(h.om.lt k q).1;omega
 have G:=h.s.size
 have p:=h.ok.p1
 have F:=h.low
 have E:StQ c (n,j) w (n,f) w':=⟨g.os,g.tape,g.output,g.size,fun b a t=>i b a (fun e=>t (.inr (.inr e))),fun b a=>by
  rcases a with a | a
  ·exact .inl (.inl a)
  ·rcases v with e | e
   ·exact .inl (.inr (e ▸ a))
   ·have a:f.ownBlock=some b:=a
    rw [e] at a;injection a with a;exact .inr (by omega)⟩
 refine ⟨h.ok,h.low,h.bk.keeps (i _ h.bk.lt (r _ (by omega))),fN h.tk (i _ (by have:=h.ok.gl;omega) (r _ (by have:=h.ok.gl;omega))),ii h.ops g.size (fun A k B e=>i k (by have:=h.ok.ob A k B e;omega) (r _ (by have:=h.ok.ob A k B e;omega))),dJ h.nm (fun k z=>i k (h.nm.lt k z).2 (fun e=>h.dis k z e)),?_,h.s.trans E,h.bs.keep fun y d=>i _ (h.bs.bk y d).lt (fun e=>(h.off y d).1 (.inr (.inr e))),fun y d=>⟨fun t=>?_,(h.off y d).2⟩⟩
 ·rw [bC];exact D
 ·rcases t with e | e | e
  ·exact (h.off y d).1 (.inl e)
  ·exact (h.off y d).1 (.inr (.inl e))
  ·rcases v with o | o
   ·exact (h.off y d).1 (.inr (.inr (o ▸ e)))
   ·have e:f.ownBlock=some y.1:=e
    rw [o] at e;injection e with e
    have:=(h.bs.bk y d).lt;omega
theorem Pq.back {c:QC} {n:Nat} {wr:Bool} {v:VS} {z j:VV} {w0 w:au} {L:List (Nat×List aC)} {m:List (List UInt8×Nat)} {a:List aC} {x:List aC} (h:Pq c x z m a j w0 L w) (i:x=c.cells n wr v z) (e:a=ec v) (b:m=v.m) (d:n<c.E.T.length) (g:v.o.length<=n) (f:v.Ok):PsQ c n wr v z w:=by
 subst i e b
 exact ⟨h.ok,aQ h.low h.s.size,h.bk,h.tk,h.ops,h.nm,by have:=h.om;unfold ec at *;rwa [bZ] at this,d,g,f⟩
theorem Pq.put4 {c:QC} {x:List aC} {z:VV} {m:List (List UInt8×Nat)} {v:List aC} {A:VV} {w0 w:au} {L:List (Nat×List aC)} (h:Pq c x z m v A w0 L w) (j:Nat) {g:Nat} {u0 u1 u2 u3:aC} (t:L[j]? = some (g,[u0,u1,u2,u3])) (f i l n:aC) :
  Pq c x z m v A w0 (L.set j (g,[f,i,l,n])) ((((w.setCell ⟨g,0,none⟩ f).setCell ⟨g,1,none⟩ i).setCell ⟨g,2,none⟩ l).setCell ⟨g,3,none⟩ n):=by
 have d:=h.bs.set4 j t f i l n
 have r:=h.off _ (List.mem_of_getElem? t)
 have a:∀k,k≠g->((((w.setCell ⟨g,0,none⟩ f).setCell ⟨g,1,none⟩ i).setCell ⟨g,2,none⟩ l).setCell ⟨g,3,none⟩ n).heap[k]? = w.heap[k]?:=fun k a=>by
  rw [aW _ _ _ _ a,aW _ _ _ _ a,aW _ _ _ _ a,aW _ _ _ _ a]
 have p:∀k,c.mine z k->k≠g:=fun k o e=>r.1 (e ▸ o)
 have u:∀k,k<c.B1->k≠g:=fun k o e=>by have:=r.2;have:=h.low;have:=h.ok.p1;simp only at *;omega
 refine ⟨h.ok,h.low,h.bk.keeps (a _ (p _ (.inl rfl))),fN h.tk (a _ (u _ h.ok.gl)),ii h.ops (by simp) (fun C b F e=>a b (u b (h.ok.ob C b F e))),dJ h.nm (fun b d=>a b (p b (.inr (.inl d)))),dJ h.om (fun b d=>a b (p b (.inr (.inr d)))),⟨h.s.os,h.s.tape,h.s.output,by simpa using h.s.size,fun b B o=>(a b (by have:=r.2;simp only at *;omega)).trans (h.s.block b B o),h.s.own⟩,d,fun y E=>?_⟩
 obtain ⟨q,D,e⟩:=oT [f,i,l,n] t y E
 rw [<-e];exact h.off q D
theorem yW:(Tryz.prog.info? 3).map (fun i=>(i.zero,i.size,i.bytes))=some (some (aa ab 0),1,8):=by kernel_rfl
theorem nK {w W:au} {g:Array Oper} {l:List Oper} {o:Oper} {a:Act} {Q:Exit->Act->au->Prop} (v:o.guard=none) (s x:eG)
  (B:o.op=.call { callee:=.builtin .append,args:=#[s,x],argTypes:=#[31,31] }) {c:QC} {n:List aC} {e r:aC} {m:List (List UInt8×Nat)} {k:List aC} {q:VV} {w0:au} {L:List (Nat×List aC)} (h:Pq c n (e,r) m k q w0 L W) (D:a.eval s=e)
  (p:List UInt8×Nat) (E:w=W.alloc (.cells #[ac ⟨p.1.toArray⟩,aa ab (p.2:Int)] 44)) (F:a.eval x=.slice (some ⟨W.heap.size,0,none⟩) 1 1) (M:m.length<=100000)
  (K:∀d w',Hid (Pq c n (d,r) (m++[p]) k q w0 L w')->cq am g Q l (a.put o.dst d) w'):cq am g Q (o::l) a w:=by
 obtain ⟨i,A,G,H,I⟩:=info_parts sw
 subst E
 have t:aB W.heap.size W (W.alloc (.cells #[ac ⟨p.1.toArray⟩,aa ab (p.2:Int)] 44)):=(ap _ _).alloc (ae _) _
 have f:=h.keep t
 have J:c.lo<=W.heap.size:=aQ h.low h.s.size
 refine eP _ v s x 31 B c.lo 44 i _ 2 24 Tryz.underlying31 A G H I rfl (by decide) e m.length (eE m) D f.nm ⟨W.heap.size,0,none⟩ 1 1 [ac ⟨p.1.toArray⟩,aa ab (p.2:Int)] F rfl ?_ (by
   intro y b
   simp only [bh,be,or_false] at b
   rcases b with rfl|rfl <;> rfl) (by unfold maxLen;omega) (by omega) (by simp;omega) ?_
 ·intro j y b
  rw [eO]
  have:=aF W #[ac ⟨p.1.toArray⟩,aa ab (p.2:Int)] 44 j
  rw [show 0+j=j by omega,this]
  simpa using b
 ·intro d w' C z _ u
  exact K d w' (zq (f.grow1 p C z u))
theorem pd {w W:au} {k:Array Oper} {l:List Oper} {o:Oper} {a:Act} {Q:Exit->Act->au->Prop} (u:o.guard=none) (s x:eG)
  (A:o.op=.call { callee:=.builtin .append,args:=#[s,x],argTypes:=#[80,80] }) {c:QC} {n:List aC} {q f:aC} {m:List (List UInt8×Nat)} {b:List aC} {p:VV} {w0:au} {L:List (Nat×List aC)} (h:Pq c n (q,f) m b p w0 L W) (C:a.eval s=f)
  (D:w=W.alloc (.cells #[aa ab 1] 3)) (E:a.eval x=.slice (some ⟨W.heap.size,0,none⟩) 1 1) (J:b.length<=100000)
  (K:∀e w',Hid (Pq c n (q,e) m (b++[aa ab 1]) p w0 L w')->cq am k Q l (a.put o.dst e) w'):cq am k Q (o::l) a w:=by
 obtain ⟨i,z,F,G,H⟩:=info_parts yW
 subst D
 have r:aB W.heap.size W (W.alloc (.cells #[aa ab 1] 3)):=(ap _ _).alloc (ae _) _
 have g:=h.keep r
 have I:c.lo<=W.heap.size:=aQ h.low h.s.size
 refine eP _ u s x 80 A c.lo 3 i _ 1 8 Tryz.underlying80 z F G H rfl (by decide) f b.length b C g.om ⟨W.heap.size,0,none⟩ 1 1 [aa ab 1] E rfl ?_ (by
   intro y d
   simp only [bh,be,or_false] at d
   rcases d with rfl;rfl) (by unfold maxLen;omega) (by omega) (by simp;omega) ?_
 ·intro j y d
  rw [eO]
  have:=aF W #[aa ab 1] 3 j
  rw [show 0+j=j by omega,this]
  simpa using d
 ·intro e w' B v _ t
  exact K e w' (zq (g.grow2 (aa ab 1) B v t))
end Go.Proofs.YtbojljpldcijgaaGreat
namespace Hb
open Go Go.RowKit
theorem tR {b:Nat} {a X Y:au} {v:aC} {e size n:Nat} {i:List aC} (h:aB b a X) (f:b<=X.heap.size) (g:X.ownsRow b e size v n i) (c:X.grownBy Y v.ownBlock):aB b a Y:=h.grown c f (fun k d=>(g.lt k d).1)
theorem pq {N a:Nat->Prop} {X c:au} {A:Option Addr} {l:List Tm} (h:TmsK N X A l) (e:∀b,N b->c.heap[b]? = X.heap[b]?) (d:∀b,N b->a b):TmsK a c A l:=h.keep e d
def BW (n:Nat):List aC->Prop | [v]=>∃g,v=.slice (some ⟨g,0,none⟩) n n | _=>False
def BX (n:Nat) (l:List Tm):List aC->(Nat->Prop)->au->Prop | [v],N,X=>∃g,v=.slice (some ⟨g,0,none⟩) n n/\TmsK N X (some ⟨g,0,none⟩) l | _,_,_=>False
def AR (s:ByteArray) (n:Nat):List aC->Prop | [v]=>∃g,v=.agg #[aa ab 3,aa ab 0,ac s,.slice (some ⟨g,0,none⟩) n n] | _=>False
def AS (s:ByteArray) (n:Nat) (l:List Tm):List aC->(Nat->Prop)->au->Prop | [v],N,X=>∃g,v=.agg #[aa ab 3,aa ab 0,ac s,.slice (some ⟨g,0,none⟩) n n]/\TmsK N X (some ⟨g,0,none⟩) l | _,_,_=>False
def Cv (A:List Nat) (j n:Nat) (l:List Tm):ROp:=yl A [j] (BW n) (BX n l) fun vs _ _ _ _ h b a _=>match vs,h with | [_],⟨g,e,ht⟩=>⟨g,e,pq ht b a⟩
def Ca (A:List Nat) (j:Nat) (s:ByteArray) (n:Nat) (l:List Tm):ROp:=yl A [j] (AR s n) (AS s n l) fun vs _ _ _ _ h b a _=>match vs,h with | [_],⟨g,e,ht⟩=>⟨g,e,pq ht b a⟩
theorem sL {P:Program} {k:Array Oper} {a:List ROp} {c:List aC->Prop} {B:Nat} {w0:au} {a0:Act} {T:List aC->au->Prop} {j:Nat} {o:Oper} {g:Nat} {b:Bool} (t:(opAt a j).cl=.call) (u:o.guard=some (g,b)) (w:∀val,sB a j val->val g=.bool b) (h:∀val E X N,EOf k val a0 o E->AtC c B w0 X N->sB a j val->Cr a j val N X->∃f args,(execOp E o).run P X=.ok (.enter f args) X/\Calls P f args X fun e w'=>∃v,e=.returned v/\aB X.heap.size X w'/\(opAt a j).vp (vals a j (updV val j v))/\∀N':Nat->Prop,(∀b,N b->N' b)->(∀b,X.heap.size<=b->b<w'.heap.size->N' b)->(opAt a j).vc (vals a j (updV val j v)) N' w'):fz P k a c B w0 a0 T j o:=by
 unfold fz;rw [t]
 refine fun val X N l m n p d s=>⟨fun _=>?_,fun i=>by rw [iO u (w val d)] at i;simp at i⟩
 obtain ⟨f,args,q,r⟩:=h val _ X N (EOf.at _ _ _ _) ⟨l,m,n,p⟩ d s
 exact .inr (.inr ⟨f,args,X,q,r⟩)
theorem zo {P:Program} {X:au} {o:Oper} {E:eG->aC} {R:aC->au->Prop} (s x:eG) (t:TypeId)
  (G:o.op=.call { callee:=.builtin .append,args:=#[s,x],argTypes:=#[t,t] })
  (d:Nat) (e:TypeId) (i:TypeInfo) (z:aC) (size g:Nat) (M:P.underlying t=some (.slice e)) (C:P.info? e=some i) (O:i.zero=some z)
  (K:i.size=size) (A:i.bytes=g) (Q:z.cells.size=size) (L:0<size)
  (v:aC) (n:Nat) (k:List aC) (J:E s=v) (H:X.ownsRow d e size v n k)
  (f:Addr) (m c:Nat) (b:List aC) (N:E x=.slice (some f) m c) (D:b.length=m * size) (F:∀j u,b[j]? = some u->X.cell? (f.add j)=some u) (l:∀u∈b,u.oneCell'=true)
  (w:n+m<=maxLen) (B:(n+m) * g<=140737488355328) (y:d<=X.heap.size)
  (h:∀a w',w'.ownsRow d e size a (n+m) (k++b)->X.grownBy w' v.ownBlock->(a.ownBlock=v.ownBlock\/a.ownBlock=some X.heap.size)->R a w'):RunsTo P (execOp E o) X R:=by
 obtain ⟨a,w',I,p,q,_,r⟩:=run_append_own_at (P:=P) X d t o.type e i z size g M C O K A Q L v n k H f m c b D F l w B y
 refine .inl ⟨a,w',?_,h a w' p q r⟩
 unfold execOp
 simp only [G,resolve,invoke,builtin,Sem.run_bind,Sem.run_pure,Result.andThen_ok,List.map_toArray,da,dV,J,N,I]
end Hb
