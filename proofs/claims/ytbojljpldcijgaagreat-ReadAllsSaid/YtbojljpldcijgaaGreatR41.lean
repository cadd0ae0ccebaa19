/- Parts of the proof. -/
import Derived.Test.YtbojljpldcijgaaGreatR01
import Derived.Test.YtbojljpldcijgaaGreatR09
open Array renaming getElem?_eq_getElem -> bp, getElem?_eq_some_iff -> aS, getElem_ofFn -> ie
open Bool renaming and_eq_true -> bN
open Go renaming Program -> dO, Value -> aC, World -> au
open Go.Region renaming binds -> ia, wanted -> ev
open Go.RowKit.Below renaming refl -> ap
open List renaming all_eq_true -> cx, mem_range -> dG, range -> aM
namespace Hb
open Go Go.RowKit
theorem yv {P:dO} {ops:Array Oper} {Q:Exit->Act->au->Prop} (sp:List ROp) (BP:List aC->Prop) (T:List aC->au->Prop) {w0:au} {a0:Act} {B:Nat} (h:gP ops sp a0.tmps.size=true) (H:Serves P ops sp BP B w0 a0 T) :
  ∀S j o a X,ops[j]? = some o->S j=false->(∀e∈o.after,ia .any e=true->S e.on=true)->(∃val,RInv ops sp BP B w0 a0 T S a X val)->if ev o (yielded ops a.tmps) then o.wp P a X (fun a X=>∃val,RInv ops sp BP B w0 a0 T (gC S j) a X val) Q else ∃val,RInv ops sp BP B w0 a0 T (gC S j) (a.put o.dst undef) X val:=by
 rintro S j o a X q r hp ⟨val,c⟩
 have V:=(aS.1 q).1
 have N:=fB h q
 have hr:∀d∈iC o,S d=true:=fun d hd=>by
  unfold iC at hd
  obtain ⟨e,z,rfl⟩:=List.mem_map.1 hd
  rw [List.mem_filter] at z
  exact hp e (by simpa using z.1) z.2
 have y:=qP h c.down q hr
 have a7:∀i∈(opAt sp j).A,(opAt sp i).vp (vals sp i val):=fun i g=>c.vps i (by have:=(N.anc i g).1;omega) (y i g)
 have W:∀i∈(opAt sp j).A,i<ops.size:=fun i g=>by have:=(N.anc i g).1;omega
 have O:=tI c.down q hr
 have c1:jF ops j=o.dst:=vY q
 have K:∀v,a.put o.dst v=fi ops (gC S j) (updV val j v) a0 ops.size:=fun v=>by
  rw [tH (pb h) v r _ V,<-c.act,c1]
 have a1:∀v,(opAt sp j).vp (vals sp j (updV val j v))->∀k,k<ops.size->gC S j k=true->(opAt sp k).vp (vals sp k (updV val j v)):=fun v n k l f=>by
  by_cases e:k=j
  ·subst e;exact n
  ·rw [cB S e] at f
   rw [il h c.down v r l f]
   exact c.vps k l f
 have a4:∀v Y,(opAt sp j).cl≠.last->(∀k,k<ops.size->(opAt sp k).cl=.last->S k=true->T (vals sp k val) Y)->∀k,k<ops.size->(opAt sp k).cl=.last->gC S j k=true->T (vals sp k (updV val j v)) Y:=fun v Y M hd k l s f=>by
  have e:k≠j:=fun e=>M (e ▸ s)
  rw [cB S e] at f
  rw [il h c.down v r l f]
  exact hd k l s f
 -- nothing that acts comes behind the last one
 have E:(opAt sp j).cl.isPure=false->∀k,k<ops.size->(opAt sp k).cl=.last->S k=false:=fun c2 k l s=>by
  by_cases e:k=j
  ·subst e;exact r
  ·cases f:S k with
   | false=>rfl
   | true=>
    have:=c.down.anc h k l f j (lx (fB h (bp l)).cls s j V (fun e'=>e e'.symm) c2)
    rw [r] at this;cases this
 have c7:(∀k,k<ops.size->(opAt sp k).cl=.last->gC S j k=false)->∀k,k<ops.size->(opAt sp k).cl=.last->S k=false:=fun G k l M=>by
  have:=G k l M
  unfold gC at this
  split at this
  ·cases this
  ·exact this
 have hw:ev o (yielded ops a.tmps)=wantB val o:=by rw [c.act];exact vt h q hr
 have U:execOp a.eval o=execOp (eOf ops val a0 o) o:=by rw [c.act];exact vV h c.down q r hr
 rw [hw]
 cases hcl:(opAt sp j).cl with
 | pure=>
  have C:=H.pure j o val q hcl a7
  have D:∀v,(opAt sp j).vp (vals sp j (updV val j v))->RInv ops sp BP B w0 a0 T (gC S j) (a.put o.dst v) X (updV val j v):=fun v n=>
   ⟨K v,O,a1 v n,fun G=>(c.full (c7 G)).grow h c.down v r (by rw [hcl];rfl) (fun i=>by rw [hcl];intro e;cases e) (ap _ _) (fun e=>by rw [hcl] at e;cases e),a4 v X (by rw [hcl];intro e;cases e) c.done⟩
  split
  ·rename_i a3
   obtain ⟨v,c4,c5⟩:=C.1 a3
   refine RunsTo.wp (R:=fun u X'=>u=v/\X'=X) (.inl ⟨v,X,by rw [U];exact c4 X,rfl,rfl⟩) ?_
   rintro _ _ ⟨rfl,rfl⟩
   exact ⟨_,D _ c5⟩
  ·rename_i a2
   exact ⟨_,D _ (C.2 (by simpa using a2))⟩
 | call=>
  have m:=c.full (E (by rw [hcl];rfl))
  have C:=H.call j o val X (Nb ops.size sp S val X) q hcl m.bel (Nb.old m) (fun b L=>L.1) (Nb.not m) a7 (fun i g w=>m.vcs i (W i g) (y i g) w)
  have D:∀v Y,Below X.heap.size X Y->(opAt sp j).vp (vals sp j (updV val j v))->(∀I:Nat->Prop,(∀b,Nb ops.size sp S val X b->I b)->(∀b,X.heap.size<=b->b<Y.heap.size->I b)->(opAt sp j).vc (vals sp j (updV val j v)) I Y)->RInv ops sp BP B w0 a0 T (gC S j) (a.put o.dst v) Y (updV val j v):=fun v Y hY n Z=>
   ⟨K v,O,a1 v n,fun _=>m.grow h c.down v r (by rw [hcl];rfl) (fun i=>by rw [hcl];intro e;cases e) hY (fun _=>Z _ (fun b L=>L.of v r (by rw [hcl];rfl) hY.size) (fun b c8 b9=>⟨b9,fun i a5 b1 a8 z=>by
     have e:i≠j:=fun e=>by subst e;rw [hcl] at a8;cases a8
     rw [cB S e] at b1
     rw [ei _ _ e] at z
     obtain ⟨x,t,M⟩:=lY a8
     obtain ⟨b',p,_,F,_⟩:=m.bxs i a5 b1 x t M
     rw [z] at p
     injection p with p;injection p with p;injection p with p
     have:=F.lt
     omega⟩)),a4 v Y (by rw [hcl];intro e;cases e) (fun k l s f=>by rw [E (by rw [hcl];rfl) k l s] at f;cases f)⟩
  split
  ·rename_i a3
   refine RunsTo.wp (by rw [U];exact C.1 a3) ?_
   rintro v Y ⟨hY,n,Z⟩
   exact ⟨_,D v Y hY n Z⟩
  ·rename_i a2
   obtain ⟨n,Z⟩:=C.2 (by simpa using a2)
   exact ⟨_,D undef X (ap _ _) n (fun I _ _=>Z I)⟩
 | last=>
  have m:=c.full (E (by rw [hcl];rfl))
  have C:=H.last j o val X (Nb ops.size sp S val X) q hcl m.bel (Nb.old m) (fun b L=>L.1) (Nb.not m) a7 (fun i g w=>m.vcs i (W i g) (y i g) w) (fun i g x t w=>by
   obtain ⟨b,p,h2,F,_⟩:=m.bxs i (W i g) (y i g) x t w
   refine ⟨b,p,h2,fun G=>G.2 i (W i g) (y i g) (by rw [w];rfl) p,?_⟩
   have a6:=(gd (fB h (bp (W i g))).cls w)
   have b0:t∈(opAt sp j).A:=lx N.cls hcl t a6.2.1 (fun e=>by subst e;rw [hcl] at a6;cases a6.2.2) (by rw [a6.2.2];rfl)
   rw [if_pos (by simpa using b0)]
   rw [if_pos (y t b0)] at F
   exact F)
  have D:∀v Y,(opAt sp j).vp (vals sp j (updV val j v))->T (vals sp j (updV val j v)) Y->RInv ops sp BP B w0 a0 T (gC S j) (a.put o.dst v) Y (updV val j v):=fun v Y n J=>
   ⟨K v,O,a1 v n,fun G=>absurd (G j V hcl) (by rw [jN];simp),fun k l s f=>by
    by_cases e:k=j
    ·subst e;exact J
    ·rw [cB S e,E (by rw [hcl];rfl) k l s] at f;cases f⟩
  split
  ·rename_i a3
   refine RunsTo.wp (by rw [U];exact C.1 a3) ?_
   rintro v Y ⟨n,J⟩
   exact ⟨_,D v Y n J⟩
  ·rename_i a2
   obtain ⟨n,J⟩:=C.2 (by simpa using a2)
   exact ⟨_,D undef X n J⟩
 | box x t=>
  have m:=c.full (E (by rw [hcl];rfl))
  obtain ⟨hg,b2,c3⟩:=gd N.cls hcl
  have a9:S t=false:=by
   cases a9:S t with
   | false=>rfl
   | true=>
    have:=c.down.anc h t b2 a9 j (kz (fB h (bp b2)).cls c3).2.2.1
    rw [r] at this;cases this
  rw [if_pos (show wantB val o=true by unfold wantB;rw [hg])]
  obtain ⟨c0,e,z⟩:=(H.box j o x t val q hcl).2
  refine RunsTo.wp (R:=fun v Y=>v=.pointer (some ⟨X.heap.size,0,none⟩)/\Y=X.alloc (.cells x.toArray e)) (.inl ⟨_,_,by rw [U];exact z X,rfl,rfl⟩) ?_
  rintro _ _ ⟨rfl,rfl⟩
  exact ⟨_,K _,O,a1 _ (H.box j o x t _ q hcl).1,fun _=>m.box h c.down V r hcl a9 c0 e,a4 _ _ (by rw [hcl];intro e;cases e) (fun k l s f=>by rw [E (by rw [hcl];rfl) k l s] at f;cases f)⟩
 | store i=>
  have m:=c.full (E (by rw [hcl];rfl))
  obtain ⟨hg,a5,g,⟨x,w⟩,b3⟩:=kz N.cls hcl
  rw [if_pos (show wantB val o=true by unfold wantB;rw [hg])]
  obtain ⟨b,p,h2,F,_⟩:=m.bxs i a5 (y i g) x j w
  rw [if_neg (by rw [r];simp)] at F
  obtain ⟨c6,X',hx,b4,b5,b6,b7,b8⟩:=H.store j o i x val X b q hcl w a7 p F
  refine RunsTo.wp (R:=fun v Y=>v=undef/\Y=X') (.inr (.inl ⟨X',by rw [U];exact hx,rfl,rfl⟩)) ?_
  rintro _ _ ⟨rfl,rfl⟩
  exact ⟨_,K _,O,a1 _ (c6 _),fun _=>m.put h c.down V r hcl w a5 (y i g) p h2 b4 b5 b6 b7 b8 b3,a4 _ _ (by rw [hcl];intro e;cases e) (fun k l s f=>by rw [E (by rw [hcl];rfl) k l s] at f;cases f)⟩
theorem wj {P:dO} {ops:Array Oper} {Q:Exit->Act->au->Prop} {md:Region.Mode} (I:(Nat->Bool)->Act->au->Prop) (m:Nat) (A:m<ops.size) (B:pD md ops=true)
  (F:∀S j o a w,m<=j->ops[j]? = some o->I S a w->(∀e∈o.after,ia md e=true->e.on<j->S e.on=true)->∀i,i<m->S i=true)
  (L:∀S j o a w,j<m->ops[j]? = some o->S j=false->(∀e∈o.after,ia md e=true->S e.on=true)->I S a w->if ev o (yielded ops a.tmps) then o.wp P a w (I (gC S j)) Q else I (gC S j) (a.put o.dst undef) w)
  (K:∀S a w,(∀j,j<m->S j=true)->I S a w->wpAny P md ops Q (lK ops.size fun j=>decide (j<m)) (gh ops.size fun j=>decide (j<m)) a w) :
  ∀(k:Nat) (S:Nat->Bool) (a:Act) (w:au),lK ops.size S=k->(∀j,m<=j->j<ops.size->S j=false)->I S a w->wpAny P md ops Q k (gh ops.size S) a w:=by
 intro k
 induction k with
 | zero=>
  intro S a w t q p
  have:=q m (Nat.le_refl _) A
  rw [oa ops.size S t m A] at this
  cases this
 | succ k ih=>
  intro S a w t q p
  by_cases r:∀j,j<m->S j=true
  ·have e:∀i,i<ops.size->S i=decide (i<m):=fun i b=>by
    by_cases h:i<m
    ·rw [r i h,decide_eq_true h]
    ·rw [q i (by omega) b,decide_eq_false h]
   have D:gh ops.size S=gh ops.size (fun j=>decide (j<m)):=by
    apply Array.ext
    ·simp [gh]
    ·intro i n E
     have b:i<ops.size:=by simpa [gh] using E
     rw [show (gh ops.size S)[i]=S i from ie ..,show (gh ops.size (fun j=>decide (j<m)))[i]=decide (i<m) from ie ..]
     exact e i b
   rw [D,<-t,qa _ _ _ e]
   exact K S a w r p
  ·have H:∀i,i∈Region.ready md ops (gh ops.size S)->i<m:=fun i b=>by
    obtain ⟨_,o,c,x⟩:=mem_ready.1 b
    rcases Nat.lt_or_ge i m with h | h
    ·exact h
    ·exfalso
     have v:=(aS.1 c).1
     exact r (F S i o a w h c p fun e f d u=>by
      have:=x e f d
      rw [io _ _ _ _ (by omega)] at this
      exact this)
   refine ⟨fun J=>?_,fun i b=>?_⟩
   ·exfalso
    refine r fun j=>?_
    induction j using Nat.strongRecOn with
    | ind j ihj=>
     intro z
     have g:j<ops.size:=by omega
     cases hs:S j with
     | true=>rfl
     | false=>
      have:j∈Region.ready md ops (gh ops.size S):=mem_ready.2 ⟨by rw [io _ _ _ _ g];exact hs,_,bp g,fun e f d=>by
       have u:=ni B (bp g) f d
       rw [io _ _ _ _ (by omega)]
       exact ihj e.on u (by omega)⟩
      rw [J] at this
      cases this
   ·have G:=H i b
    obtain ⟨n,o,c,x⟩:=mem_ready.1 b
    have v:=(aS.1 c).1
    rw [io _ _ _ _ v] at n
    have s:=L S i o a w G c n (fun e f d=>by
     have:=x e f d
     have u:=ni B c f d
     rw [io _ _ _ _ (by omega)] at this
     exact this) p
    have M:=pZ ops.size S i v n
    have C:∀l w',I (gC S i) l w'->wpAny P md ops Q k ((gh ops.size S).setIfInBounds i true) l w':=fun l w' h=>by
     rw [rq]
     exact ih (gC S i) l w' (by omega) (fun j z g=>by rw [cB S (by omega)];exact q j z g) h
    unfold wpOp
    rw [c]
    dsimp only
    split
    ·rename_i y
     rw [if_pos y] at s
     exact .inl (Oper.wp_mono C s)
    ·rename_i y
     rw [if_neg y] at s
     exact C _ _ s
theorem tO (n:Nat):lK n (fun _=>false)=n:=by
 induction n with
 | zero=>rfl
 | succ n ih=>unfold lK;simp [ih]
def AI (ops:Array Oper) (sp:List ROp) (m:Nat):Bool:=pD .any ops&&decide (m<ops.size)&&(ops.toList.all fun o=>o.guard.isNone)&&(aM ops.size).all fun j=>decide (j<m)||match ops[j]? with | some o=>(aM m).all fun i=>o.after.any fun e=>ia .any e&&decide (e.on<j)&&(e.on==i||(decide (e.on<m)&&(opAt sp e.on).A.contains i)) | none=>true
section
variable {P:dO} {sp:List ROp} {BP:List aC->Prop} {B:Nat} {w0:au}
abbrev ji (ops:Array Oper) (m:Nat):Array Oper:=(ops.toList.take m).toArray
theorem uu {id m:Nat} {ops:Array Oper} {Q:Exit->Act->au->Prop} {t:List aC} {d:List Deferred} (sp:List ROp) (s:List (Option Tmp)) (BP:List aC->Prop) (B:Nat) (r:AI ops sp m=true) (V:P.follows .mixedOrders=true) (D:B<=w0.heap.size)
  (hd:(ji ops m).toList.map (·.dst)=s) (h:gP (ji ops m) sp t.length=true) (T:yK sp m=true)
  (b:∀j o,(ji ops m)[j]? = some o->fz P (ji ops m) sp BP B w0 ⟨t.toArray,d⟩ (fun _ _=>True) j o)
  (J:∀val X N,(∀j,j<m->(opAt sp j).vp (vals sp j val))->Abs m sp B w0 val X N->wpAny P .any ops Q (lK ops.size fun j=>decide (j<m)) (gh ops.size fun j=>decide (j<m)) ⟨(gD s 0 val t).toArray,d⟩ X) :
  (Code.region id ops true).wp P Q ⟨t.toArray,d⟩ w0:=by
 unfold AI at r
 simp only [bN,decide_eq_true_eq] at r
 obtain ⟨⟨⟨Z,W⟩,M⟩,E⟩:=r
 have L:∀j o',ops[j]? = some o'->∀y,ev o' y=true:=fun j o' p y=>by
  have O:=cx.1 M o' (by simpa using Array.mem_of_getElem? p)
  unfold ev
  rw [Option.isNone_iff_eq_none.1 O]
 have a1:(ji ops m).size=m:=by simp [ji];omega
 have a0:∀j o',j<m->ops[j]? = some o'->(ji ops m)[j]? = some o':=fun j o' c p=>by
  simp only [ji,List.getElem?_toArray,List.getElem?_take,if_pos c,Array.getElem?_toList]
  exact p
 refine wp_region_any V ?_
 have A:=wj (P:=P) (Q:=Q) (md:=.any) (fun S a X=>∃val,RInv (ji ops m) sp BP B w0 ⟨t.toArray,d⟩ (fun _ _=>True) S a X val) m W Z ?all ?step ?rest (lK ops.size fun _=>false) (fun _=>false) ⟨t.toArray,d⟩ ({ w0 with drawn:=w0.drawn+1 }) rfl (fun _ _ _=>rfl) ?start
 ·rw [pW,tO] at A
  exact A
 case all=>
  rintro S j o' a X c g ⟨val,R⟩ a3 i f
  have u:=cx.1 E j (dG.2 (aS.1 g).1)
  rw [g,decide_eq_false (by omega),Bool.false_or] at u
  have v:=cx.1 u i (dG.2 f)
  rw [Array.any_eq_true'] at v
  obtain ⟨e,I,l⟩:=v
  simp only [bN,Bool.or_eq_true,beq_iff_eq,decide_eq_true_eq] at l
  obtain ⟨⟨F,U⟩,l⟩:=l
  have b:=a3 e I F U
  rcases l with rfl | ⟨h4,C⟩
  ·exact b
  ·exact R.down.anc h e.on (by omega) b i (by simpa using C)
 case step=>
  intro S j o' a X c g a2 H f
  have z:=yv (P:=P) (Q:=Q) sp BP (fun _ _=>True) (by simpa using h) (Serves.of b) S j o' a X (a0 j o' c g) a2 H f
  rw [if_pos (L j o' g _)] at z |-
  exact z
 case rest=>
  rintro S a X q ⟨val,f⟩
  have w:a=fi (ji ops m) (fun _=>true) val ⟨t.toArray,d⟩ (ji ops m).size:=f.act.trans (mU _ (fun i f=>q i (by omega)) (fun _ _ _=>rfl))
  rw [mT hd] at w
  subst w
  have Y:∀j,j<(ji ops m).size->(opAt sp j).cl≠.last:=fun j c e=>by
   have:=cx.1 T j (dG.2 (by omega))
   rw [e] at this;cases this
  have K:=(f.full fun j c G=>absurd G (Y j c)).all h (fun j c=>q j (by omega))
  have x:=K.abs
  rw [a1] at x
  exact J val X _ (fun j c=>f.vps j (by omega) (q j c)) x
 case start=>
  refine ⟨fun _=>undef,?_,?_,?_,?_,?_⟩
  ·have:∀n,fi (ji ops m) (fun _=>false) (fun _=>undef) (⟨t.toArray,d⟩:Act) n=⟨t.toArray,d⟩:=by
    intro n
    induction n with
    | zero=>rfl
    | succ n ih=>unfold fi;rw [if_neg (by simp)];exact ih
   exact (this _).symm
  ·intro k o _ b;cases b
  ·intro j _ b;cases b
  ·intro _
   exact ⟨(ap _ w0).drew,D,fun j _ b=>(by cases b),fun i _ b=>(by cases b),fun i k _ _ b=>(by cases b)⟩
  ·intro j _ _ b;cases b
end
section
variable {P:dO} {ops:Array Oper} {Q:Exit->Act->au->Prop} {md:Region.Mode} {k:Nat} {d:Array Bool} {a:Act} {w:au}
theorem nL {i:Nat} {o:Oper} (e:Region.ready md ops d=[i]) (l:ops[i]? = some o) (g:o.guard=none) (h:o.wp P a w (fun f w'=>wpAny P md ops Q k (d.setIfInBounds i true) f w') Q):wpAny P md ops Q (k+1) d a w :=
 ⟨fun b=>(by rw [e] at b;cases b),fun j c=>by
  rw [e,List.mem_singleton] at c
  subst c
  unfold wpOp
  rw [l]
  dsimp only
  rw [if_pos (by unfold ev;rw [g])]
  exact .inl h⟩
theorem wo (b:Region.ready md ops d=[]) (h:Q .normal a w):wpAny P md ops Q 0 d a w:=⟨b,h⟩
end
end Hb
