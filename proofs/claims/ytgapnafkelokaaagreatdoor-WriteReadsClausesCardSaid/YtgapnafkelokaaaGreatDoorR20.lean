/- Parts of the proof. -/
import Derived.Test.YtgapnafkelokaaaGreatDoorR01
import Derived.Test.YtgapnafkelokaaaGreatDoorR19
import Derived.Maps.AppendAt
set_option maxRecDepth 100000
set_option linter.unusedSimpArgs false
open Go renaming Value -> aA, World -> aj
open Go.Ending renaming returned -> av
open Go.Proofs.Tryz renaming prog -> ah
open Go.RowKit renaming Below -> ay
open Go.RowKit.Below renaming refl -> ak
open Go.Value renaming pointer -> ax, string -> aa
open List renaming getD_eq_getElem?_getD -> aR, getElem?_eq_getElem -> aT, getElem_map -> bM, length_map -> bm, mem_append -> dl, mem_cons -> bi, mem_singleton -> aJ
open Nat renaming add_zero -> bq, le_refl -> ag, le_trans -> aH, lt_of_lt_of_le -> aB
namespace Go.Proofs.YtgapnafkelokaaaGreatDoor
open Go.RowKit Hb
def _root_.Hb.PC.new (c:PC) (a:aA) (w0 w:aj) (b:Nat):Prop:=w0.heap.size<=b/\b<w.heap.size/\¬c.mine a b
theorem vH {c:PC} {a d:aA} {w0 w w':aj} (s:Stp c a w d w') {b:Nat} (h:c.new a w0 w b):c.new d w0 w' b:=⟨h.1,aB h.2.1 s.size,fun e=>h.2.2 (by
 rcases e with e | e | e | e
 ·exact .inl e
 ·exact .inr (.inl e)
 ·exact .inr (.inr (.inl e))
 ·rcases s.own b e with e | e
  ·exact .inr (.inr (.inr e))
  ·have:=h.2.1;omega)⟩
def Trm (c:PC) (a:aA) (w0 w:aj) (F:List Nat) (A:Option Addr) (l:List Tm):Prop:=TmsK (fun b=>c.new a w0 w b/\b ∉ F) w A l
theorem Trm.step {c:PC} {d e:aA} {w0 w w':aj} {F:List Nat} {A:Option Addr} {l:List Tm} (h:Trm c d w0 w F A l) (s:Stp c d w e w'):Trm c e w0 w' F A l :=
 h.keep (fun b a=>s.block b a.1.2.1 a.1.2.2) fun _ a=>⟨vH s a.1,a.2⟩
theorem Trm.call {c:PC} {a:aA} {w0 w w':aj} {F:List Nat} {A:Option Addr} {l:List Tm} (h:Trm c a w0 w F A l) (b:ay w.heap.size w w'):Trm c a w0 w' F A l:=h.step (.of b)
theorem Trm.new {c:PC} {d:aA} {w0 w:aj} {F:List Nat} {A:Option Addr} {l:List Tm} (h:Trm c d w0 w F A l) (o:Obj) {g:Nat} (f:w.heap.size=g):Trm c d w0 (w.alloc o) (g::F) A l :=
 TmsK.keep h (fun b a=>((ak w.heap.size w).alloc (ag _) o).block b a.1.2.1) fun b a=>⟨⟨a.1.1,aB a.1.2.1 (by simp),a.1.2.2⟩,fun e=>by
  rcases bi.1 e with e | e
  ·have:=a.1.2.1;omega
  ·exact a.2 e⟩
theorem Trm.put {c:PC} {d:aA} {w0 w w':aj} {F:List Nat} {A:Option Addr} {l:List Tm} (h:Trm c d w0 w F A l) {g:Nat} (i:g∈F) (f:∀k,k≠g->w'.heap[k]? = w.heap[k]?) (j:w.heap.size<=w'.heap.size):Trm c d w0 w' F A l :=
 TmsK.keep h (fun b a=>f b (fun e=>a.2 (e ▸ i))) fun _ a=>⟨⟨a.1.1,aB a.1.2.1 j,a.1.2.2⟩,a.2⟩
theorem Trm.fewer {c:PC} {f:aA} {w0 w:aj} {F a:List Nat} {A:Option Addr} {l:List Tm} (h:Trm c f w0 w F A l) (g:∀b∈a,b∈F):Trm c f w0 w a A l:=TmsK.keep h (fun _ _=>rfl) fun b d=>⟨d.1,fun e=>d.2 (g b e)⟩
theorem Trm.sub {c:PC} {f:aA} {w0 d w:aj} {F:List Nat} {A:Option Addr} {l:List Tm} (h:TmsK (c.new f d w) w A l) (i:w0.heap.size<=d.heap.size) (g:∀b∈F,b<d.heap.size):Trm c f w0 w F A l :=
 TmsK.keep h (fun _ _=>rfl) fun b a=>⟨⟨aH i a.1,a.2⟩,fun e=>by have:=g b e;have:=a.1;omega⟩
theorem Trm.out {c:PC} {a:aA} {w0 w:aj} {F:List Nat} {A:Option Addr} {l:List Tm} (h:Trm c a w0 w F A l):TmsK (c.new a w0 w) w A l:=TmsK.keep h (fun _ _=>rfl) fun _ b=>b.1
theorem Trm.row {c:PC} {n:Nat} {v:VS} {f:aA} {w0 w:aj} {F:List Nat} (p:PsAt c n v f w) (i:w0.heap.size<=w.heap.size) (g:∀b∈F,b<w.heap.size) (e:TypeId) (rs:List TR) (d:rs.length<=maxLen) (h:∀r∈rs,Trm c f w0 w F r.2.1 r.1.args):Trm c f w0 (w.alloc (.cells (dN rs).toArray e)) F (some ⟨w.heap.size,0,none⟩) (rs.map (·.1)):=by
 refine wH (K':=fun b=>c.new f w0 w b/\b ∉ F) e rs d ⟨⟨i,by simp,fun d=>?_⟩,fun d=>?_⟩ (fun b a=>⟨⟨⟨a.1.1,aB a.1.2.1 (by simp),a.1.2.2⟩,a.2⟩,a.1.2.1⟩) h
 ·have:=p.lts d;omega
 ·have:=g _ d;omega
structure OwnT (c:PC) (nv:aA) (w0 w:aj) (F:List Nat) (v:aA) (rs:List TR):Prop where
 own:w.ownsRow w0.heap.size 24 4 v rs.length (dN rs)
 off:∀g,v.ownBlock=some g->¬c.mine nv g/\g ∉ F
 sub:∀r∈rs,TmsK (fun b=>(c.new nv w0 w b/\b ∉ F)/\v.ownBlock≠some b) w r.2.1 r.1.args
theorem OwnT.nul (c:PC) (b:aA) (w0 w:aj) (F:List Nat):OwnT c b w0 w F (.slice none 0 0) []:=⟨World.ownsRow_nil _ _ _ _,fun g h=>(by cases h),fun r a=>absurd a (by simp)⟩
theorem OwnT.step {c:PC} {f i:aA} {w0 w w':aj} {F:List Nat} {v:aA} {rs:List TR} (h:OwnT c f w0 w F v rs) (s:Stp c f w i w'):OwnT c i w0 w' F v rs where
 own:=iq h.own fun k e=>s.block k (h.own.lt k e).2 (h.off k e).1
 off:=fun g d=>⟨fun j=>(vH (w0:=w0) s ⟨(h.own.lt g d).1,(h.own.lt g d).2,(h.off g d).1⟩).2.2 j,(h.off g d).2⟩
 sub:=fun r l=>(h.sub r l).keep (fun b a=>s.block b a.1.1.2.1 a.1.1.2.2) fun _ a=>⟨⟨vH s a.1.1,a.1.2⟩,a.2⟩
theorem OwnT.call {c:PC} {a:aA} {w0 w w':aj} {F:List Nat} {v:aA} {rs:List TR} (h:OwnT c a w0 w F v rs) (b:ay w.heap.size w w'):OwnT c a w0 w' F v rs:=h.step (.of b)
theorem OwnT.snoc {c:PC} {n:Nat} {u:VS} {i:aA} {w0 W m:aj} {F:List Nat} {v k:aA} {rs:List TR} (h:OwnT c i w0 W F v rs) (p:PsAt c n u i W) (y:∀b∈F,b<W.heap.size) (r:TR) (C:TmsK (fun b=>(c.new i w0 W b/\b ∉ F)/\v.ownBlock≠some b) W r.2.1 r.1.args)
  (B:m.ownsRow w0.heap.size 24 4 k (rs.length+1) (dN rs++ir r)) (s:W.grownBy m v.ownBlock) (q:k.ownBlock=v.ownBlock\/k.ownBlock=some W.heap.size):OwnT c i w0 m F k (rs++[r]) where
 own:=by
  rw [tW,List.length_append]
  have w:dN [r]=ir r:=by unfold dN;simp
  rw [w];exact B
 off:=fun g j=>by
  rcases q with d | d
  ·rw [d] at j;exact h.off g j
  ·rw [d] at j;injection j with j
   exact ⟨fun o=>by have:=p.lts o;omega,fun o=>by have:=y g o;omega⟩
 sub:=by
  have t:∀{A:Option Addr} {l:List Tm},TmsK (fun b=>(c.new i w0 W b/\b ∉ F)/\v.ownBlock≠some b) W A l->TmsK (fun b=>(c.new i w0 m b/\b ∉ F)/\k.ownBlock≠some b) m A l:=fun z=>by
   refine z.keep (fun b a=>s.block b a.1.1.2.1 (fun e=>a.2 e.symm)) (fun b a=>⟨⟨⟨a.1.1.1,aB a.1.1.2.1 s.size,a.1.1.2.2⟩,a.1.2⟩,fun e=>?_⟩)
   rcases q with d | d
   ·rw [d] at e;exact a.2 e
   ·rw [d] at e;injection e with e;have:=a.1.1.2.1;omega
  intro x f
  rcases dl.1 f with f | f
  ·exact t (h.sub x f)
  ·rw [aJ] at f;subst f;exact t C
theorem OwnT.tms {c:PC} {l:aA} {w0 w:aj} {F:List Nat} {v:aA} {rs:List TR} (h:OwnT c l w0 w F v rs):∃A f,v=.slice A rs.length f/\Trm c l w0 w F A (rs.map (·.1)):=by
 have r:∀j (a:j<rs.length),TmsK (fun b=>c.new l w0 w b/\b ∉ F) w rs[j].2.1 rs[j].1.args:=fun j a=>(h.sub _ (List.getElem_mem a)).keep (fun _ _=>rfl) (fun b o=>o.1)
 rcases h.own.2 with ⟨d,n⟩ | ⟨g,f,B,d,p,q,D,C,rest⟩
 ·have:rs=[]:=List.eq_nil_of_length_eq_zero n
  subst this
  exact ⟨_,_,d,TmsK.nil⟩
 ·refine ⟨some ⟨g,0,none⟩,f,d,.mk _ _ (fun j=>(rs.getD j (tm0,none,0)).2.1) (fun j=>(rs.getD j (tm0,none,0)).2.2) (by rw [bm];omega) (fun j a=>?_) (fun j a=>?_)⟩
  ·rw [bm] at a
   obtain ⟨t,x,y,z⟩:=lF rs j a
   have e:∀k u,(dN rs)[k]? = some u->w.cell? ⟨g,0+k,none⟩=some u:=fun k u s=>by
    have:=h.own.cells (g:=g) (by rw [d];rfl) k u s
    rw [iM] at this
    exact this
   have i:rs.getD j (tm0,none,0)=rs[j]:=by rw [aR,aT a];rfl
   have m:=h.off g (by rw [d];rfl)
   refine ⟨g,0,rfl,⟨⟨p,(Array.getElem?_eq_some_iff.1 q).1,m.1⟩,m.2⟩,?_,?_,?_,?_⟩
   ·rw [bM];exact e _ _ t
   ·rw [bM];exact e _ _ x
   ·rw [bM];exact e _ _ y
   ·rw [bM];simp only [i];exact e _ _ z
  ·rw [bm] at a
   have i:rs.getD j (tm0,none,0)=rs[j]:=by rw [aR,aT a];rfl
   rw [bM];simp only [i]
   exact r j a
theorem um:(Tryz.prog.info? 24).map (fun i=>(i.zero,i.size,i.bytes))=some (some (.agg #[.int .i64 0,.int .i64 0,aa ⟨#[]⟩,.slice none 0 0]),4,56):=by kernel_rfl
theorem mu {w W:aj} {t:Array Oper} {rest:List Oper} {o:Oper} {a:Act} {Q:Exit->Act->aj->Prop} (D:o.guard=none) (s x:Operand)
  (G:o.op=.call { callee:=.builtin .append,args:=#[s,x],argTypes:=#[22,22] }) (c:PC) (n:Nat) (u:VS) (g:aA) (w0:aj) (F:List Nat) (v:aA) (rs:List TR) (J:a.eval s=v) (A:OwnT c g w0 W F v rs) (p:PsAt c n u g W) (P:w0.heap.size<=W.heap.size) (z:∀b∈F,b<W.heap.size)
  (r:TR) (I:TmsK (fun b=>(c.new g w0 W b/\b ∉ F)/\v.ownBlock≠some b) W r.2.1 r.1.args) (l:Array aA) (C:l=(ir r).toArray) (K:w=W.alloc (.cells l 24)) (L:a.eval x=.slice (some ⟨W.heap.size,0,none⟩) 1 1) (R:rs.length<=100000)
  (h:∀k w',Hid (OwnT c g w0 w' F k (rs++[r]))->Hid (w.grownBy w' v.ownBlock)->wpList ah t Q rest (a.put o.dst k) w'):wpList ah t Q (o::rest) a w:=by
 obtain ⟨i,E,M,N,O⟩:=info_parts um
 subst K C
 have e:ay W.heap.size W (W.alloc (.cells (ir r).toArray 24)):=(ak _ _).alloc (ag _) _
 have m:=A.call e
 refine wpList_append_own_at _ D s x 22 G w0.heap.size 24 i _ 4 56 Tryz.underlying22 E M N O rfl (by decide) v rs.length (dN rs) J m.own ⟨W.heap.size,0,none⟩ 1 1 (ir r) L rfl ?_ (by
   intro y f
   simp only [ir,bi,List.mem_nil_iff,or_false] at f
   rcases f with rfl|rfl|rfl|rfl <;> rfl) (by unfold maxLen;omega) (by omega) (by simp;omega) ?_
 ·intro j y f
  rw [iM]
  have:=World.cell?_alloc_new W (ir r).toArray 24 j
  rw [show 0+j=j by omega,this]
  simpa using f
 ·intro k w' H q _ B
  refine h k w' (zq (m.snoc (p.call e) (fun b d=>aB (z b d) e.size) r ?_ H q B)) (zq q)
  exact I.keep (fun b d=>e.block b d.1.1.2.1) fun b d=>⟨⟨⟨d.1.1.1,aB d.1.1.2.1 e.size,d.1.1.2.2⟩,d.1.2⟩,d.2⟩
theorem PsAt.keep {c:PC} {n:Nat} {v:VS} {d:aA} {w w':aj} (p:PsAt c n v d w) (g:w.heap.size<=w'.heap.size) (a:∀b,c.mine d b->w'.heap[b]? = w.heap[b]?) (f:∀b,b<c.B1->w'.heap[b]? = w.heap[b]?):PsAt c n v d w' :=
 ⟨p.ok,aH p.low g,p.bk.keeps (a _ (.inl rfl)),jW p.tk (f _ p.ok.gl),lK p.ops g (fun i b j e=>f b (p.ok.ob i b j e)),p.vm.keep (a _ (.inr (.inl rfl))),p.om.keep (a _ (.inr (.inr (.inl rfl)))),iq p.nm (fun b h=>a b (.inr (.inr (.inr h)))),p.n1,p.vn,p.vc⟩
theorem Wk.box {c:PC} {n:Nat} {v:VS} {i f:aA} {w0 w Y:aj} {L:List (Nat×List aA)} (h:Wk c n v i w0 f w L) (j:ay w.heap.size w Y) {e:Nat} {vs:List aA} (k:w.heap.size<=e) (m:Bk Y e vs):Wk c n v i w0 f Y ((e,vs)::L):=by
 have d:=h.call j
 refine ⟨d.p,d.s,d.low,⟨fun x a=>?_,?_⟩,fun x a=>?_,h.start0⟩
 ·rcases bi.1 a with rfl | a
  ·exact m
  ·exact d.b.bk x a
 ·show (List.map (·.1) ((e,vs)::(L++[(c.P,c.cells n v f)]))).Pairwise (· > ·)
  rw [List.map_cons,List.pairwise_cons]
  refine ⟨fun g l=>?_,h.b.ord⟩
  obtain ⟨x,a,rfl⟩:=List.mem_map.1 l
  have:=(h.b.bk x a).lt
  show x.1<e
  omega
 ·rcases bi.1 a with rfl | a
  ·intro o
   have:=h.p.lts o
   have q:w.heap.size<=e:=k
   exact absurd this (by show ¬e<w.heap.size;omega)
  ·exact h.off x a
theorem Wk.grown {c:PC} {n:Nat} {v:VS} {l g:aA} {w0 w w':aj} {L:List (Nat×List aA)} {F:List Nat} {u:aA} {rs:List TR} (h:Wk c n v l w0 g w L) (k:OwnT c g w0 w F u rs) (r:∀x∈L,x.1∈F) (d:w.grownBy w' u.ownBlock):Wk c n v l w0 g w' L:=by
 have j:∀b,u.ownBlock=some b->w0.heap.size<=b/\¬c.mine g b/\b ∉ F:=fun b a=>⟨(k.own.lt b a).1,(k.off b a).1,(k.off b a).2⟩
 have z:=h.s.size
 have A:=h.p.low
 have B:=h.p.ok.p1
 have o:∀b,b<c.B1->w'.heap[b]? = w.heap[b]?:=fun b a=>d.block b (by omega) fun e=>by
  have y:=j b e.symm
  exact absurd a (by
   have:=h.low.size
   have:=h.start0
   omega)
 have q:PsAt c n v g w':=h.p.keep d.size (fun b a=>d.block b (h.p.lts a) fun e=>(j b e.symm).2.1 a) o
 have i:Stp c l w0 g w':=⟨d.os.trans h.s.os,d.tape.trans h.s.tape,d.output.trans h.s.output,aH h.s.size d.size,fun b a t=>(d.block b (by omega) fun e=>by have:=(j b e.symm).1;omega).trans (h.s.block b a t),h.s.own⟩
 refine ⟨q,i,⟨i.os,i.tape,i.output,i.size,fun b a=>(o b a).trans (h.low.block b a)⟩,⟨fun x f=>?_,h.b.ord⟩,h.off,h.start0⟩
 rcases dl.1 f with f | f
 ·have m:=h.b.bk x (List.mem_append_left _ f)
  exact m.keeps (d.block _ m.lt fun e=>(j _ e.symm).2.2 (r x f))
 ·rw [aJ] at f;subst f;exact q.bk
end Go.Proofs.YtgapnafkelokaaaGreatDoor
namespace Go.Proofs.YtgapnafkelokaaaGreatDoor
open Go.RowKit Hb
theorem mY {t:NextR} {s:List UInt8} (h:isP t s=true):¬t.r.kind=7:=by
 unfold isP at h;simp at h;omega
theorem jg {c:PC} {n:Nat} {v:VS} {i:aA} {w:aj} (p:PsAt c n v i w) (s:ByteArray) (h:isP (c.E.at n) s.data.toList=false):Calls ah 186 #[ax (some ⟨c.P,0,none⟩),aa s] w fun e w'=>e=av (.bool false)/\ay w.heap.size w w':=by
 have a:=zq (jB p 0 (by decide))
 have b:=zq fun W=>iH (c.E.at n) s W
 rw [h] at b
 rw [bq] at a
 clear h p
 go_enter Tryz.func186,Tryz.ntmps186
 go_wp2_with fail
 refine a.out.mono ?_;rintro e j ⟨rfl,d⟩
 go_wp2_with fail
 refine (b.out _).mono ?_;rintro e k ⟨rfl,g⟩
 have f:=d.trans (g.mono d.size)
 go_wp2_with fail
 go_ret
 exact ⟨rfl,f⟩
theorem iG {c:PC} {n:Nat} {v:VS} {a:aA} {w:aj} (p:PsAt c n v a w) (s:ByteArray) (h:isP (c.E.at n) s.data.toList=true):Calls ah 186 #[ax (some ⟨c.P,0,none⟩),aa s] w fun e w'=>e=av (.bool true)/\PsAt c (n+1) v a w'/\Stp c a w a w':=by
 have d:=zq (jB p 0 (by decide))
 have f:=zq fun W=>iH (c.E.at n) s W
 have m:=p.more (mY h)
 have q:=zq (mA (n:=n) (by have:=p.ok.len;omega))
 have r:=zq m
 rw [h] at f
 rw [bq] at d
 have g:=zq (Wk.start p)
 clear h p m
 go_enter Tryz.func186,Tryz.ntmps186
 go_wp2_with fail
 refine d.out.mono ?_;rintro e x ⟨rfl,k⟩
 have i:=zq (g.out.call k)
 clear k g
 go_wp2_with fail
 refine (f.out _).mono ?_;rintro e y ⟨rfl,l⟩
 have j:=zq (i.out.call l)
 clear l i
 have t:=j.out.b.all
 simp only [PC.cells,List.cons_append,List.nil_append,List.append_nil,aU,aW,Nat.zero_add,Nat.reduceAdd,and_true] at t
 have u:=q.out
 go_wp2_with fail
 go_ret
 have o:=j.out.inc r.out
 exact ⟨rfl,o.p,o.s⟩
theorem kK {c:PC} {n:Nat} {v:VS} {b:aA} {w:aj} (p:PsAt c n v b w) (s:ByteArray) (h:isP (c.E.at n) s.data.toList=false):Calls ah 185 #[ax (some ⟨c.P,0,none⟩),aa s] w fun e w'=>Is c b w n e w':=by
 have f:=zq (jg p s h)
 have d:=zq fun w' (i:ay w.heap.size w w')=>ri (p.call i)
 have g:=zq (Wk.start p)
 clear h p
 go_enter Tryz.func185,Tryz.ntmps185
 go_wp2_with fail
 refine f.out.mono ?_;rintro e k ⟨rfl,a⟩
 go_wp2_with fail
 refine (d.out _ a).mono ?_;rintro e l ⟨rfl,j⟩
 exact ⟨rfl,rfl,(g.out.call a).fall j⟩
theorem ka {c:PC} {n:Nat} {v:VS} {a:aA} {w:aj} (p:PsAt c n v a w) (s:ByteArray) (h:isP (c.E.at n) s.data.toList=true):Calls ah 185 #[ax (some ⟨c.P,0,none⟩),aa s] w fun e w'=>e=av (.tuple #[])/\PsAt c (n+1) v a w'/\Stp c a w a w':=by
 have i:=zq (iG p s h)
 clear h p
 go_enter Tryz.func185,Tryz.ntmps185
 go_wp2_with fail
 refine i.out.mono ?_;rintro e j ⟨rfl,b,d⟩
 have f:=zq b
 have g:=zq d
 clear b d
 go_wp2_with fail
 go_end0
 exact ⟨rfl,f.out,g.out⟩
end Go.Proofs.YtgapnafkelokaaaGreatDoor
