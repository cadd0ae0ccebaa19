/- Parts of the proof. -/
import Derived.Test.YtpokpgkjaifccaaGreatDoorRRH01
import Derived.Test.YtpokpgkjaifccaaGreatDoorRRH18
import Derived.Test.YtpokpgkjaifccaaGreatDoorRRH13
import Derived.Test.YtpokpgkjaifccaaGreatDoorRRH12
import Derived.OrdersIn
import Derived.OwnWalkIn
import Derived.RangeFuncCalls
namespace Hb
open Go Go.RowKit
theorem cell_cells {w:World} {p:Addr} {v:Value} (h:w.cell? p=some v):∃o,w.heap[p.block]? = some o∧o.isCells=true:=by
 unfold World.cell? at h
 split at h <;> first | (rename_i e;exact ⟨_,e,rfl⟩) | cases h
theorem TmsK.inCells {K:Nat→Prop} {w:World} {A:Option Addr} {l:List Tm} (h:TmsK K w A l):TmsK (fun b=>K b∧∃o,w.heap[b]? = some o∧o.isCells=true) w A l:=by
 induction h with
 | mk A l F C hl hc _ ih=>
  refine .mk A l F C hl (fun j hj=>?_) ih
  obtain ⟨b,off,e,hk,c0,c1,c2,c3⟩:=hc j hj
  exact ⟨b,off,e,⟨hk,cell_cells (p:=⟨b,off+j * 4,none⟩) c0⟩,c0,c1,c2,c3⟩
theorem OutR.grown {lo:Nat} {e:TypeId} {W W':World} {v:Value} {rs:List LR} {row:Option Nat} (h:OutR lo e W v rs) (hg:W.grownBy W' row) (hr:∀r,row=some r→∃o:Obj,W.heap[r]? = some o∧o.isCells=false):OutR lo e W' v rs where
 own:=h.own.kept hg (by
  rcases h.own.2 with ⟨rfl,_⟩ | ⟨g,cap,cur,rfl,_,hgb,_⟩
  ·exact .inl rfl
  ·refine .inr fun e'=>?_
   obtain ⟨o,ho,hc⟩:=hr g (by first | simpa [Value.ownBlock] using e' | simpa [Value.ownBlock] using e'.symm)
   rw [hgb] at ho;cases ho;cases hc)
 sub:=fun r hr'=>(h.sub r hr').inCells.keep (fun b hb=>hg.block b hb.1.2.1 (fun e'=>by
  obtain ⟨o,ho,hc⟩:=hb.2
  obtain ⟨o',ho',hc'⟩:=hr b e'.symm
  rw [ho] at ho';cases ho';rw [hc] at hc';cases hc')) (fun b hb=>⟨hb.1.1,Nat.lt_of_lt_of_le hb.1.2.1 hg.size,hb.1.2.2⟩)
theorem OutR.box {lo:Nat} {e:TypeId} {W:World} {v:Value} {rs:List LR} (h:OutR lo e W v rs) {B:Nat} (hB:B<lo) (u:Value):OutR lo e (W.setCell ⟨B,0,none⟩ u) v rs where
 own:=h.own.kept (grownBy_setCell' W B u) (by
  cases e':v.ownBlock with
  | none=>exact .inl rfl
  | some g=>exact .inr fun e2=>by have:=(h.own.lt g e').1;first | (injection e2 with e2;omega) | (rw [e'] at e2;injection e2 with e2;omega))
 sub:=fun r hr=>(h.sub r hr).keep (fun b hb=>(grownBy_setCell' W B u).block b hb.2.1 (fun e'=>by injection e' with e';have:=hb.1;omega)) (fun b hb=>⟨hb.1,Nat.lt_of_lt_of_le hb.2.1 (grownBy_setCell' W B u).size,hb.2.2⟩)
theorem ArgsAt.tail {w:World} {b off:Nat} {r:TR} {rs:List TR} (h:ArgsAt w b off (r::rs)):ArgsAt w b (off+4) rs :=
 ⟨h.lt,fun j u hu=>by rw [Nat.add_assoc];exact h.c (4+j) u (by rw [show rowsC (r::rs)=rowC r++rowsC rs from rfl,List.getElem?_append_right (show 4≤4+j by omega),show 4+j-(rowC r).length=j by rw [show (rowC r).length=4 from rfl];omega];exact hu),fun x hx=>h.s x (List.mem_cons_of_mem _ hx)⟩
theorem ArgsAt.front {w:World} {b off:Nat} {rs rs2:List TR} (h:ArgsAt w b off (rs++rs2)):ArgsAt w b off rs :=
 ⟨h.lt,fun j u hu=>h.c j u (by rw [rowsC_app,List.getElem?_append_left (List.getElem?_eq_some_iff.1 hu).1];exact hu),fun x hx=>h.s x (List.mem_append_left _ hx)⟩
def subRow (s:ByteArray) (x:Nat×Nat):List Tm:=[intT x.1,intT (x.2-x.1:Nat),intT (s.size-x.2:Nat),atomT (s.extract x.1 x.2)]
def ndOk (ops:Array Oper):Bool:=ops.toList.all fun o=>match o.op with | .defer _=>false | _=>true
theorem nd_at {ops:Array Oper} (h:ndOk ops=true) {j:Nat} {o:Oper} (ho:ops[j]? = some o):∀c,o.op≠.defer c:=fun c e=>by
 have:=List.all_eq_true.1 h o (by simpa using Array.mem_of_getElem? ho)
 rw [e] at this;cases this
theorem RunsTo.wpI {rl rn:Nat} {P:Program} {o:Oper} {a:Act} {X:World} {R:Value→World→Prop} {K:Act→World→Prop} {Q:Exit→Act→World→Prop} (hnd:∀c,o.op≠.defer c) (h:RunsTo P (execOp a.eval o) X R) (hK:∀v w',R v w'→K (a.put o.dst v) w'):o.wpIn (Fence.wide.inRound rl) rn P a X K Q:=by
 unfold Oper.wpIn
 refine ⟨fun _ _=>trivial,?_⟩
 rw [Oper.semAt_plain _ _ _ hnd]
 rcases h with ⟨v,X',e,h⟩ | ⟨X',e,h⟩ | ⟨f,args,X1,e,h⟩
 ·rw [e];exact hK _ _ h
 ·rw [e];exact hK _ _ h
 ·rw [e,Oper.uponIn_enter]
  exact ⟨(fun h=>by cases h),(CallsIn.inRound rl (callsIn_wide.2 h)).mono fun e w' ⟨v,he,hR⟩=>by subst he;exact hK v w' hR⟩
theorem wpAnyIn_inv {F:Fence} {n:Nat} {P:Program} {ops:Array Oper} {Q:Exit→Act→World→Prop} {md:Region.Mode} (hF:∀f,F.fn f) (I:(Nat→Bool)→Act→World→Prop) (hord:ordOk md ops=true)
  (hstep:∀S j o a w,ops[j]? = some o→S j=false→(∀e∈o.after,Region.binds md e=true→S e.on=true)→I S a w→if Region.wanted o (yielded ops a.tmps) then o.wpIn F n P a w (I (updF S j)) Q else I (updF S j) (a.put o.dst undef) w)
  (hend:∀S a w,(∀j,j<ops.size→S j=true)→I S a w→Q .normal a w):∀(m:Nat) (S:Nat→Bool) (a:Act) (w:World),cntF ops.size S≤m→I S a w→wpAnyIn F n P md ops Q m (doneA ops.size S) a w:=by
 have hnone:∀S,Region.ready md ops (doneA ops.size S)=[]→∀j,j<ops.size→S j=true:=fun S hr j=>by
  induction j using Nat.strongRecOn with
  | ind j ih=>
   intro hj
   cases hs:S j with
   | true=>rfl
   | false=>
    have:j∈Region.ready md ops (doneA ops.size S):=mem_ready.2 ⟨by rw [doneA_get _ _ _ _ hj];exact hs,_,Array.getElem?_eq_getElem hj,fun e he hb=>by
     have hl:=ordOk_at hord (Array.getElem?_eq_getElem hj) he hb
     rw [doneA_get _ _ _ _ (by omega)]
     exact ih e.on hl (by omega)⟩
    rw [hr] at this
    cases this
 intro m
 induction m with
 | zero=>
  intro S a w hc hI
  have hall:=cntF_zero ops.size S (by omega)
  refine ⟨?_,hend S a w hall hI⟩
  refine List.eq_nil_iff_forall_not_mem.2 fun i hi=>?_
  obtain ⟨h1,o,ho,_⟩:=mem_ready.1 hi
  have hlt:=(Array.getElem?_eq_some_iff.1 ho).1
  rw [doneA_get _ _ _ _ hlt,hall i hlt] at h1
  cases h1
 | succ m ih=>
  intro S a w hc hI
  refine ⟨fun hr=>hend S a w (hnone S hr) hI,fun i hi=>?_⟩
  obtain ⟨h1,o,ho,hp⟩:=mem_ready.1 hi
  have hlt:=(Array.getElem?_eq_some_iff.1 ho).1
  rw [doneA_get _ _ _ _ hlt] at h1
  have hstep':=hstep S i o a w ho h1 (fun e he hb=>by
   have:=hp e he hb
   have hl:=ordOk_at hord ho he hb
   rw [doneA_get _ _ _ _ (by omega)] at this
   exact this) hI
  have hcu:=cntF_upd ops.size S i hlt h1
  have next:∀a' w',I (updF S i) a' w'→wpAnyIn F n P md ops Q m ((doneA ops.size S).setIfInBounds i true) a' w':=fun a' w' h=>by
   rw [doneA_set]
   exact ih (updF S i) a' w' (by omega) h
  unfold wpOpIn
  rw [ho]
  dsimp only
  split
  ·rename_i hw
   rw [if_pos hw] at hstep'
   exact Oper.wpIn_mono next hstep'
  ·rename_i hw
   rw [if_neg hw] at hstep'
   exact ⟨fun f _=>hF f,next _ _ hstep'⟩
theorem wp_region_ownI {rl rn : Nat} {P : Program} {id : Nat} {ops : Array Oper} {Q : Exit → Act → World → Prop} (sp : List ROp) (BP : List Value → Prop) (T : List Value → World → Prop) {w0 : World} {a0 : Act} {B : Nat} (hnd : ndOk ops = true) (hm : P.follows .mixedOrders = true) (hB : B ≤ w0.heap.size) (h : regChk ops sp a0.tmps.size = true) (hs : Serves P ops sp BP B w0 a0 T)
  (hend : ∀ val X, (∀ j, j < ops.size → (opAt sp j).vp (vals sp j val)) → ((∀ j, j < ops.size → (opAt sp j).cl ≠ .last) → Full ops.size sp BP B w0 (fun _ => true) val X) → (∀ j, j < ops.size → (opAt sp j).cl = .last → T (vals sp j val) X) → Q .normal (fillN ops (fun _ => true) val a0 ops.size) X) :
  (Code.region id ops true).wpIn (Fence.wide.inRound rl) rn P Q a0 w0 := by
 refine wpIn_region_any hm ?_
 have hord : ordOk .any ops = true := by
  unfold regChk at h
  rw [Bool.and_eq_true] at h
  exact h.1
 have key := wpAnyIn_inv (F := Fence.wide.inRound rl) (n := rn) (P := P) (Q := Q) (fun _ => trivial) (fun S a X => ∃ val, RInv ops sp BP B w0 a0 T S a X val) hord ?step ?fin ops.size (fun _ => false) a0 ({ w0 with drawn := w0.drawn + 1 }) ?cnt ?start
 ·rw [doneA_zero] at key
  exact key
 case cnt =>
  have : ∀ n (S : Nat → Bool), cntF n S ≤ n := by
   intro n S
   induction n with
   | zero => exact Nat.le_refl _
   | succ n ih => unfold cntF; split <;> omega
  exact this _ _
 case start =>
  refine ⟨fun _ => undef, ?_, ?_, ?_, ?_, ?_⟩
  ·have : ∀ m, fillN ops (fun _ => false) (fun _ => undef) a0 m = a0 := by
    intro m
    induction m with
    | zero => rfl
    | succ m ih => unfold fillN; rw [if_neg (by simp)]; exact ih
   exact (this _).symm
  ·intro k o _ hs; cases hs
  ·intro j _ hs; cases hs
  ·intro _
   exact ⟨(Below.refl _ w0).drew, hB, fun j _ hs => (by cases hs), fun i _ hs => (by cases hs), fun i k _ _ hs => (by cases hs)⟩
  ·intro j _ _ hs; cases hs
 case fin =>
  rintro S a X hall ⟨val, hi⟩
  have ha : a = fillN ops (fun _ => true) val a0 ops.size := hi.act.trans (fill_congr _ (fun i hi => hall i hi) (fun _ _ _ => rfl))
  rw [ha]
  exact hend val X (fun j hj => hi.vps j hj (hall j hj)) (fun hn => (hi.full fun j hj hc => absurd hc (hn j hj)).all h hall) (fun j hj hc => hi.done j hj hc (hall j hj))
 case step =>
  rintro S j o a X ho hsj hp ⟨val, hi⟩
  have hj := (Array.getElem?_eq_some_iff.1 ho).1
  have hck := chk_of h ho
  have hr : ∀ d ∈ depsO o, S d = true := fun d hd => by
   unfold depsO at hd
   obtain ⟨e, he, rfl⟩ := List.mem_map.1 hd
   rw [List.mem_filter] at he
   exact hp e (by simpa using he.1) he.2
  have hA := ready_anc h hi.down ho hr
  have hvA : ∀ i ∈ (opAt sp j).A, (opAt sp i).vp (vals sp i val) := fun i hia => hi.vps i (by have := (hck.anc i hia).1; omega) (hA i hia)
  have hlt : ∀ i ∈ (opAt sp j).A, i < ops.size := fun i hia => by have := (hck.anc i hia).1; omega
  have hdn := down_upd hi.down ho hr
  have hdst : dstO ops j = o.dst := dstO_at ho
  have hact : ∀ v, a.put o.dst v = fillN ops (updF S j) (updV val j v) a0 ops.size := fun v => by
   rw [fill_upd (dist_of h) v hsj _ hj, ← hi.act, hdst]
  have hvps : ∀ v, (opAt sp j).vp (vals sp j (updV val j v)) → ∀ k, k < ops.size → updF S j k = true → (opAt sp k).vp (vals sp k (updV val j v)) := fun v hv k hk hsk => by
   by_cases e : k = j
   ·subst e; exact hv
   ·rw [updF_other S e] at hsk
    rw [vals_keep h hi.down v hsj hk hsk]
    exact hi.vps k hk hsk
  have hdone : ∀ v Y, (opAt sp j).cl ≠ .last → (∀ k, k < ops.size → (opAt sp k).cl = .last → S k = true → T (vals sp k val) Y) → ∀ k, k < ops.size → (opAt sp k).cl = .last → updF S j k = true → T (vals sp k (updV val j v)) Y := fun v Y hc hd k hk hck2 hsk => by
   have e : k ≠ j := fun e => hc (e ▸ hck2)
   rw [updF_other S e] at hsk
   rw [vals_keep h hi.down v hsj hk hsk]
   exact hd k hk hck2 hsk
  -- nothing that acts comes behind the last one
  have nolast : (opAt sp j).cl.isPure = false → ∀ k, k < ops.size → (opAt sp k).cl = .last → S k = false := fun hpj k hk hck2 => by
   by_cases e : k = j
   ·subst e; exact hsj
   ·cases hsk : S k with
    | false => rfl
    | true =>
     have := hi.down.anc h k hk hsk j (clsOk_last (chk_of h (Array.getElem?_eq_getElem hk)).cls hck2 j hj (fun e' => e e'.symm) hpj)
     rw [hsj] at this; cases this
  have updLast : (∀ k, k < ops.size → (opAt sp k).cl = .last → updF S j k = false) → ∀ k, k < ops.size → (opAt sp k).cl = .last → S k = false := fun hn k hk hc => by
   have := hn k hk hc
   unfold updF at this
   split at this
   ·cases this
   ·exact this
  have hw : Region.wanted o (yielded ops a.tmps) = wantB val o := by rw [hi.act]; exact want_eq h ho hr
  have hex : execOp a.eval o = execOp (eOf ops val a0 o) o := by rw [hi.act]; exact exec_eq h hi.down ho hsj hr
  rw [hw]
  cases hcl : (opAt sp j).cl with
  | pure =>
   have hsv := hs.pure j o val ho hcl hvA
   have next : ∀ v, (opAt sp j).vp (vals sp j (updV val j v)) → RInv ops sp BP B w0 a0 T (updF S j) (a.put o.dst v) X (updV val j v) := fun v hv =>
    ⟨hact v, hdn, hvps v hv, fun hn => (hi.full (updLast hn)).grow h hi.down v hsj (by rw [hcl]; rfl) (fun i => by rw [hcl]; intro e; cases e) (Below.refl _ _) (fun e => by rw [hcl] at e; cases e), hdone v X (by rw [hcl]; intro e; cases e) hi.done⟩
   split
   ·rename_i hwt
    obtain ⟨v, hv1, hv2⟩ := hsv.1 hwt
    refine RunsTo.wpI (nd_at hnd ho) (R := fun u X' => u = v ∧ X' = X) (.inl ⟨v, X, by rw [hex]; exact hv1 X, rfl, rfl⟩) ?_
    rintro _ _ ⟨rfl, rfl⟩
    exact ⟨_, next _ hv2⟩
   ·rename_i hwf
    exact ⟨_, next _ (hsv.2 (by simpa using hwf))⟩
  | call =>
   have hf := hi.full (nolast (by rw [hcl]; rfl))
   have hsv := hs.call j o val X (Nb ops.size sp S val X) ho hcl hf.bel (Nb.old hf) (fun b hb => hb.1) (Nb.not hf) hvA (fun i hia hci => hf.vcs i (hlt i hia) (hA i hia) hci)
   have next : ∀ v Y, Below X.heap.size X Y → (opAt sp j).vp (vals sp j (updV val j v)) → (∀ N' : Nat → Prop, (∀ b, Nb ops.size sp S val X b → N' b) → (∀ b, X.heap.size ≤ b → b < Y.heap.size → N' b) → (opAt sp j).vc (vals sp j (updV val j v)) N' Y) → RInv ops sp BP B w0 a0 T (updF S j) (a.put o.dst v) Y (updV val j v) := fun v Y hY hv hvc =>
    ⟨hact v, hdn, hvps v hv, fun _ => hf.grow h hi.down v hsj (by rw [hcl]; rfl) (fun i => by rw [hcl]; intro e; cases e) hY (fun _ => hvc _ (fun b hb => hb.of v hsj (by rw [hcl]; rfl) hY.size) (fun b hb1 hb2 => ⟨hb2, fun i hil hsi hbi he => by
      have e : i ≠ j := fun e => by subst e; rw [hcl] at hbi; cases hbi
      rw [updF_other S e] at hsi
      rw [updV_other _ _ e] at he
      obtain ⟨zs, st, hc⟩ := isBox_at hbi
      obtain ⟨b', h1, _, h3, _⟩ := hf.bxs i hil hsi zs st hc
      rw [he] at h1
      injection h1 with h1; injection h1 with h1; injection h1 with h1
      have := h3.lt
      omega⟩)), hdone v Y (by rw [hcl]; intro e; cases e) (fun k hk hck2 hsk => by rw [nolast (by rw [hcl]; rfl) k hk hck2] at hsk; cases hsk)⟩
   split
   ·rename_i hwt
    refine RunsTo.wpI (nd_at hnd ho) (by rw [hex]; exact hsv.1 hwt) ?_
    rintro v Y ⟨hY, hv, hvc⟩
    exact ⟨_, next v Y hY hv hvc⟩
   ·rename_i hwf
    obtain ⟨hv, hvc⟩ := hsv.2 (by simpa using hwf)
    exact ⟨_, next undef X (Below.refl _ _) hv (fun N' _ _ => hvc N')⟩
  | last =>
   have hf := hi.full (nolast (by rw [hcl]; rfl))
   have hsv := hs.last j o val X (Nb ops.size sp S val X) ho hcl hf.bel (Nb.old hf) (fun b hb => hb.1) (Nb.not hf) hvA (fun i hia hci => hf.vcs i (hlt i hia) (hA i hia) hci) (fun i hia zs st hci => by
    obtain ⟨b, h1, h2, h3, _⟩ := hf.bxs i (hlt i hia) (hA i hia) zs st hci
    refine ⟨b, h1, h2, fun hn => hn.2 i (hlt i hia) (hA i hia) (by rw [hci]; rfl) h1, ?_⟩
    have hst := (clsOk_box (chk_of h (Array.getElem?_eq_getElem (hlt i hia))).cls hci)
    have hmem : st ∈ (opAt sp j).A := clsOk_last hck.cls hcl st hst.2.1 (fun e => by subst e; rw [hcl] at hst; cases hst.2.2) (by rw [hst.2.2]; rfl)
    rw [if_pos (by simpa using hmem)]
    rw [if_pos (hA st hmem)] at h3
    exact h3)
   have next : ∀ v Y, (opAt sp j).vp (vals sp j (updV val j v)) → T (vals sp j (updV val j v)) Y → RInv ops sp BP B w0 a0 T (updF S j) (a.put o.dst v) Y (updV val j v) := fun v Y hv hT =>
    ⟨hact v, hdn, hvps v hv, fun hn => absurd (hn j hj hcl) (by rw [updF_same]; simp), fun k hk hck2 hsk => by
     by_cases e : k = j
     ·subst e; exact hT
     ·rw [updF_other S e, nolast (by rw [hcl]; rfl) k hk hck2] at hsk; cases hsk⟩
   split
   ·rename_i hwt
    refine RunsTo.wpI (nd_at hnd ho) (by rw [hex]; exact hsv.1 hwt) ?_
    rintro v Y ⟨hv, hT⟩
    exact ⟨_, next v Y hv hT⟩
   ·rename_i hwf
    obtain ⟨hv, hT⟩ := hsv.2 (by simpa using hwf)
    exact ⟨_, next undef X hv hT⟩
  | box zs st =>
   have hf := hi.full (nolast (by rw [hcl]; rfl))
   obtain ⟨hg, hstl, hstc⟩ := clsOk_box hck.cls hcl
   have hss : S st = false := by
    cases hss : S st with
    | false => rfl
    | true =>
     have := hi.down.anc h st hstl hss j (clsOk_store (chk_of h (Array.getElem?_eq_getElem hstl)).cls hstc).2.2.1
     rw [hsj] at this; cases this
   rw [if_pos (show wantB val o = true by unfold wantB; rw [hg])]
   obtain ⟨hbp, e, he⟩ := (hs.box j o zs st val ho hcl).2
   refine RunsTo.wpI (nd_at hnd ho) (R := fun v Y => v = .pointer (some ⟨X.heap.size, 0, none⟩) ∧ Y = X.alloc (.cells zs.toArray e)) (.inl ⟨_, _, by rw [hex]; exact he X, rfl, rfl⟩) ?_
   rintro _ _ ⟨rfl, rfl⟩
   exact ⟨_, hact _, hdn, hvps _ (hs.box j o zs st _ ho hcl).1, fun _ => hf.box h hi.down hj hsj hcl hss hbp e, hdone _ _ (by rw [hcl]; intro e; cases e) (fun k hk hck2 hsk => by rw [nolast (by rw [hcl]; rfl) k hk hck2] at hsk; cases hsk)⟩
  | store i =>
   have hf := hi.full (nolast (by rw [hcl]; rfl))
   obtain ⟨hg, hil, hia, ⟨zs, hci⟩, hDj⟩ := clsOk_store hck.cls hcl
   rw [if_pos (show wantB val o = true by unfold wantB; rw [hg])]
   obtain ⟨b, h1, h2, h3, _⟩ := hf.bxs i hil (hA i hia) zs j hci
   rw [if_neg (by rw [hsj]; simp)] at h3
   obtain ⟨hvp, X', hx, hX1, hX2, hX3, hX4, hX5⟩ := hs.store j o i zs val X b ho hcl hci hvA h1 h3
   refine RunsTo.wpI (nd_at hnd ho) (R := fun v Y => v = undef ∧ Y = X') (.inr (.inl ⟨X', by rw [hex]; exact hx, rfl, rfl⟩)) ?_
   rintro _ _ ⟨rfl, rfl⟩
   exact ⟨_, hact _, hdn, hvps _ (hvp _), fun _ => hf.put h hi.down hj hsj hcl hci hil (hA i hia) h1 h2 hX1 hX2 hX3 hX4 hX5 hDj, hdone _ _ (by rw [hcl]; intro e; cases e) (fun k hk hck2 hsk => by rw [nolast (by rw [hcl]; rfl) k hk hck2] at hsk; cases hsk)⟩
section
variable {P:Program} {ops:Array Oper} {sp:List ROp} {BP:List Value→Prop} {B:Nat} {w0:World} {a0:Act} {T:List Value→World→Prop}
theorem region_ownI {rl rn id:Nat} {Q:Exit→Act→World→Prop} {t:List Value} {df:List Deferred} (sp:List ROp) (ds:List (Option Tmp)) (BP:List Value→Prop) (B:Nat) (hnd:ndOk ops=true) (hm:P.follows .mixedOrders=true) (hB:B≤w0.heap.size) (hd:ops.toList.map (·.dst)=ds) (h:regChk ops sp t.length=true) (hl:noLast sp ops.size=true)
  (hs:∀j o,ops[j]? = some o→SrvAt P ops sp BP B w0 ⟨t.toArray,df⟩ (fun _ _=>True) j o)
  (hend:∀val X N,(∀j,j<ops.size→(opAt sp j).vp (vals sp j val))→Abs ops.size sp B w0 val X N→Q .normal ⟨(fillD ds 0 val t).toArray,df⟩ X) :
  (Code.region id ops true).wpIn (Fence.wide.inRound rl) rn P Q ⟨t.toArray,df⟩ w0 :=
 wp_region_ownI sp BP (fun _ _=>True) hnd hm hB (by simpa using h) (Serves.of hs) fun val X hv hf _=>by
  rw [fill_fillD hd]
  refine hend val X _ hv (hf fun j hj e=>?_).abs
  have:=List.all_eq_true.1 hl j (List.mem_range.2 hj)
  rw [e] at this;cases this
end
theorem own_stepI {rl rn : Nat} {P : Program} {ops : Array Oper} {Q : Exit → Act → World → Prop} (sp : List ROp) (BP : List Value → Prop) (T : List Value → World → Prop) {w0 : World} {a0 : Act} {B : Nat} (hnd : ndOk ops = true) (h : regChk ops sp a0.tmps.size = true) (hs : Serves P ops sp BP B w0 a0 T) :
  ∀ S j o a X, ops[j]? = some o → S j = false → (∀ e ∈ o.after, Region.binds .any e = true → S e.on = true) → (∃ val, RInv ops sp BP B w0 a0 T S a X val) → if Region.wanted o (yielded ops a.tmps) then o.wpIn (Fence.wide.inRound rl) rn P a X (fun a X => ∃ val, RInv ops sp BP B w0 a0 T (updF S j) a X val) Q else ∃ val, RInv ops sp BP B w0 a0 T (updF S j) (a.put o.dst undef) X val := by
 rintro S j o a X ho hsj hp ⟨val, hi⟩
 have hj := (Array.getElem?_eq_some_iff.1 ho).1
 have hck := chk_of h ho
 have hr : ∀ d ∈ depsO o, S d = true := fun d hd => by
  unfold depsO at hd
  obtain ⟨e, he, rfl⟩ := List.mem_map.1 hd
  rw [List.mem_filter] at he
  exact hp e (by simpa using he.1) he.2
 have hA := ready_anc h hi.down ho hr
 have hvA : ∀ i ∈ (opAt sp j).A, (opAt sp i).vp (vals sp i val) := fun i hia => hi.vps i (by have := (hck.anc i hia).1; omega) (hA i hia)
 have hlt : ∀ i ∈ (opAt sp j).A, i < ops.size := fun i hia => by have := (hck.anc i hia).1; omega
 have hdn := down_upd hi.down ho hr
 have hdst : dstO ops j = o.dst := dstO_at ho
 have hact : ∀ v, a.put o.dst v = fillN ops (updF S j) (updV val j v) a0 ops.size := fun v => by
  rw [fill_upd (dist_of h) v hsj _ hj, ← hi.act, hdst]
 have hvps : ∀ v, (opAt sp j).vp (vals sp j (updV val j v)) → ∀ k, k < ops.size → updF S j k = true → (opAt sp k).vp (vals sp k (updV val j v)) := fun v hv k hk hsk => by
  by_cases e : k = j
  ·subst e; exact hv
  ·rw [updF_other S e] at hsk
   rw [vals_keep h hi.down v hsj hk hsk]
   exact hi.vps k hk hsk
 have hdone : ∀ v Y, (opAt sp j).cl ≠ .last → (∀ k, k < ops.size → (opAt sp k).cl = .last → S k = true → T (vals sp k val) Y) → ∀ k, k < ops.size → (opAt sp k).cl = .last → updF S j k = true → T (vals sp k (updV val j v)) Y := fun v Y hc hd k hk hck2 hsk => by
  have e : k ≠ j := fun e => hc (e ▸ hck2)
  rw [updF_other S e] at hsk
  rw [vals_keep h hi.down v hsj hk hsk]
  exact hd k hk hck2 hsk
 -- nothing that acts comes behind the last one
 have nolast : (opAt sp j).cl.isPure = false → ∀ k, k < ops.size → (opAt sp k).cl = .last → S k = false := fun hpj k hk hck2 => by
  by_cases e : k = j
  ·subst e; exact hsj
  ·cases hsk : S k with
   | false => rfl
   | true =>
    have := hi.down.anc h k hk hsk j (clsOk_last (chk_of h (Array.getElem?_eq_getElem hk)).cls hck2 j hj (fun e' => e e'.symm) hpj)
    rw [hsj] at this; cases this
 have updLast : (∀ k, k < ops.size → (opAt sp k).cl = .last → updF S j k = false) → ∀ k, k < ops.size → (opAt sp k).cl = .last → S k = false := fun hn k hk hc => by
  have := hn k hk hc
  unfold updF at this
  split at this
  ·cases this
  ·exact this
 have hw : Region.wanted o (yielded ops a.tmps) = wantB val o := by rw [hi.act]; exact want_eq h ho hr
 have hex : execOp a.eval o = execOp (eOf ops val a0 o) o := by rw [hi.act]; exact exec_eq h hi.down ho hsj hr
 rw [hw]
 cases hcl : (opAt sp j).cl with
 | pure =>
  have hsv := hs.pure j o val ho hcl hvA
  have next : ∀ v, (opAt sp j).vp (vals sp j (updV val j v)) → RInv ops sp BP B w0 a0 T (updF S j) (a.put o.dst v) X (updV val j v) := fun v hv =>
   ⟨hact v, hdn, hvps v hv, fun hn => (hi.full (updLast hn)).grow h hi.down v hsj (by rw [hcl]; rfl) (fun i => by rw [hcl]; intro e; cases e) (Below.refl _ _) (fun e => by rw [hcl] at e; cases e), hdone v X (by rw [hcl]; intro e; cases e) hi.done⟩
  split
  ·rename_i hwt
   obtain ⟨v, hv1, hv2⟩ := hsv.1 hwt
   refine RunsTo.wpI (nd_at hnd ho) (R := fun u X' => u = v ∧ X' = X) (.inl ⟨v, X, by rw [hex]; exact hv1 X, rfl, rfl⟩) ?_
   rintro _ _ ⟨rfl, rfl⟩
   exact ⟨_, next _ hv2⟩
  ·rename_i hwf
   exact ⟨_, next _ (hsv.2 (by simpa using hwf))⟩
 | call =>
  have hf := hi.full (nolast (by rw [hcl]; rfl))
  have hsv := hs.call j o val X (Nb ops.size sp S val X) ho hcl hf.bel (Nb.old hf) (fun b hb => hb.1) (Nb.not hf) hvA (fun i hia hci => hf.vcs i (hlt i hia) (hA i hia) hci)
  have next : ∀ v Y, Below X.heap.size X Y → (opAt sp j).vp (vals sp j (updV val j v)) → (∀ N' : Nat → Prop, (∀ b, Nb ops.size sp S val X b → N' b) → (∀ b, X.heap.size ≤ b → b < Y.heap.size → N' b) → (opAt sp j).vc (vals sp j (updV val j v)) N' Y) → RInv ops sp BP B w0 a0 T (updF S j) (a.put o.dst v) Y (updV val j v) := fun v Y hY hv hvc =>
   ⟨hact v, hdn, hvps v hv, fun _ => hf.grow h hi.down v hsj (by rw [hcl]; rfl) (fun i => by rw [hcl]; intro e; cases e) hY (fun _ => hvc _ (fun b hb => hb.of v hsj (by rw [hcl]; rfl) hY.size) (fun b hb1 hb2 => ⟨hb2, fun i hil hsi hbi he => by
     have e : i ≠ j := fun e => by subst e; rw [hcl] at hbi; cases hbi
     rw [updF_other S e] at hsi
     rw [updV_other _ _ e] at he
     obtain ⟨zs, st, hc⟩ := isBox_at hbi
     obtain ⟨b', h1, _, h3, _⟩ := hf.bxs i hil hsi zs st hc
     rw [he] at h1
     injection h1 with h1; injection h1 with h1; injection h1 with h1
     have := h3.lt
     omega⟩)), hdone v Y (by rw [hcl]; intro e; cases e) (fun k hk hck2 hsk => by rw [nolast (by rw [hcl]; rfl) k hk hck2] at hsk; cases hsk)⟩
  split
  ·rename_i hwt
   refine RunsTo.wpI (nd_at hnd ho) (by rw [hex]; exact hsv.1 hwt) ?_
   rintro v Y ⟨hY, hv, hvc⟩
   exact ⟨_, next v Y hY hv hvc⟩
  ·rename_i hwf
   obtain ⟨hv, hvc⟩ := hsv.2 (by simpa using hwf)
   exact ⟨_, next undef X (Below.refl _ _) hv (fun N' _ _ => hvc N')⟩
 | last =>
  have hf := hi.full (nolast (by rw [hcl]; rfl))
  have hsv := hs.last j o val X (Nb ops.size sp S val X) ho hcl hf.bel (Nb.old hf) (fun b hb => hb.1) (Nb.not hf) hvA (fun i hia hci => hf.vcs i (hlt i hia) (hA i hia) hci) (fun i hia zs st hci => by
   obtain ⟨b, h1, h2, h3, _⟩ := hf.bxs i (hlt i hia) (hA i hia) zs st hci
   refine ⟨b, h1, h2, fun hn => hn.2 i (hlt i hia) (hA i hia) (by rw [hci]; rfl) h1, ?_⟩
   have hst := (clsOk_box (chk_of h (Array.getElem?_eq_getElem (hlt i hia))).cls hci)
   have hmem : st ∈ (opAt sp j).A := clsOk_last hck.cls hcl st hst.2.1 (fun e => by subst e; rw [hcl] at hst; cases hst.2.2) (by rw [hst.2.2]; rfl)
   rw [if_pos (by simpa using hmem)]
   rw [if_pos (hA st hmem)] at h3
   exact h3)
  have next : ∀ v Y, (opAt sp j).vp (vals sp j (updV val j v)) → T (vals sp j (updV val j v)) Y → RInv ops sp BP B w0 a0 T (updF S j) (a.put o.dst v) Y (updV val j v) := fun v Y hv hT =>
   ⟨hact v, hdn, hvps v hv, fun hn => absurd (hn j hj hcl) (by rw [updF_same]; simp), fun k hk hck2 hsk => by
    by_cases e : k = j
    ·subst e; exact hT
    ·rw [updF_other S e, nolast (by rw [hcl]; rfl) k hk hck2] at hsk; cases hsk⟩
  split
  ·rename_i hwt
   refine RunsTo.wpI (nd_at hnd ho) (by rw [hex]; exact hsv.1 hwt) ?_
   rintro v Y ⟨hv, hT⟩
   exact ⟨_, next v Y hv hT⟩
  ·rename_i hwf
   obtain ⟨hv, hT⟩ := hsv.2 (by simpa using hwf)
   exact ⟨_, next undef X hv hT⟩
 | box zs st =>
  have hf := hi.full (nolast (by rw [hcl]; rfl))
  obtain ⟨hg, hstl, hstc⟩ := clsOk_box hck.cls hcl
  have hss : S st = false := by
   cases hss : S st with
   | false => rfl
   | true =>
    have := hi.down.anc h st hstl hss j (clsOk_store (chk_of h (Array.getElem?_eq_getElem hstl)).cls hstc).2.2.1
    rw [hsj] at this; cases this
  rw [if_pos (show wantB val o = true by unfold wantB; rw [hg])]
  obtain ⟨hbp, e, he⟩ := (hs.box j o zs st val ho hcl).2
  refine RunsTo.wpI (nd_at hnd ho) (R := fun v Y => v = .pointer (some ⟨X.heap.size, 0, none⟩) ∧ Y = X.alloc (.cells zs.toArray e)) (.inl ⟨_, _, by rw [hex]; exact he X, rfl, rfl⟩) ?_
  rintro _ _ ⟨rfl, rfl⟩
  exact ⟨_, hact _, hdn, hvps _ (hs.box j o zs st _ ho hcl).1, fun _ => hf.box h hi.down hj hsj hcl hss hbp e, hdone _ _ (by rw [hcl]; intro e; cases e) (fun k hk hck2 hsk => by rw [nolast (by rw [hcl]; rfl) k hk hck2] at hsk; cases hsk)⟩
 | store i =>
  have hf := hi.full (nolast (by rw [hcl]; rfl))
  obtain ⟨hg, hil, hia, ⟨zs, hci⟩, hDj⟩ := clsOk_store hck.cls hcl
  rw [if_pos (show wantB val o = true by unfold wantB; rw [hg])]
  obtain ⟨b, h1, h2, h3, _⟩ := hf.bxs i hil (hA i hia) zs j hci
  rw [if_neg (by rw [hsj]; simp)] at h3
  obtain ⟨hvp, X', hx, hX1, hX2, hX3, hX4, hX5⟩ := hs.store j o i zs val X b ho hcl hci hvA h1 h3
  refine RunsTo.wpI (nd_at hnd ho) (R := fun v Y => v = undef ∧ Y = X') (.inr (.inl ⟨X', by rw [hex]; exact hx, rfl, rfl⟩)) ?_
  rintro _ _ ⟨rfl, rfl⟩
  exact ⟨_, hact _, hdn, hvps _ (hvp _), fun _ => hf.put h hi.down hj hsj hcl hci hil (hA i hia) h1 h2 hX1 hX2 hX3 hX4 hX5 hDj, hdone _ _ (by rw [hcl]; intro e; cases e) (fun k hk hck2 hsk => by rw [nolast (by rw [hcl]; rfl) k hk hck2] at hsk; cases hsk)⟩
theorem wpAnyIn_fin {F:Fence} {n:Nat} {P:Program} {ops:Array Oper} {Q:Exit→Act→World→Prop} {md:Region.Mode} (hF:∀f,F.fn f) (I:(Nat→Bool)→Act→World→Prop) (m:Nat) (o:Oper) (ho:ops[m]? = some o) (hm:ops.size=m+1) (hall:∀j,j<m→∃e∈o.after,e.on=j∧Region.binds md e=true) (hord:ordOk md ops=true) (hwt:∀y,Region.wanted o y=true)
  (hstep:∀S j o a w,j<m→ops[j]? = some o→S j=false→(∀e∈o.after,Region.binds md e=true→S e.on=true)→I S a w→if Region.wanted o (yielded ops a.tmps) then o.wpIn F n P a w (I (updF S j)) Q else I (updF S j) (a.put o.dst undef) w)
  (hfin:∀S a w,(∀j,j<m→S j=true)→I S a w→o.wpIn F n P a w (fun a' w'=>Q .normal a' w') Q):∀(k:Nat) (S:Nat→Bool) (a:Act) (w:World),cntF ops.size S≤k→(if S m=true then (∀j,j<m→S j=true)∧Q .normal a w else I S a w)→wpAnyIn F n P md ops Q k (doneA ops.size S) a w:=by
 refine wpAnyIn_inv hF (fun S a w=>if S m=true then (∀j,j<m→S j=true)∧Q .normal a w else I S a w) hord ?_ ?_
 ·intro S j o' a w ho' hs hd hi
  have hjl:=(Array.getElem?_eq_some_iff.1 ho').1
  by_cases e:j=m
  ·subst e
   rw [ho] at ho'
   cases ho'
   rw [if_neg (by rw [hs];simp)] at hi
   rw [if_pos (hwt _)]
   have hal:∀i,i<j→S i=true:=fun i hi'=>by
    obtain ⟨e,he,h1,h2⟩:=hall i hi'
    rw [←h1];exact hd e he h2
   refine Oper.wpIn_mono (fun a' w' h=>?_) (hfin S a w hal hi)
   rw [if_pos (updF_same S j)]
   exact ⟨fun i hi'=>by rw [updF_other S (by omega)];exact hal i hi',h⟩
  ·have hm':S m=false:=by
    cases hsm:S m with
    | false=>rfl
    | true=>
     rw [if_pos hsm] at hi
     have:=hi.1 j (by omega)
     rw [hs] at this;cases this
   rw [if_neg (by rw [hm'];simp)] at hi
   have h:=hstep S j o' a w (by omega) ho' hs hd hi
   have e2:updF S j m=false:=by rw [updF_other S (fun e'=>e e'.symm)];exact hm'
   simp only [e2]
   simpa using h
 ·intro S a w hall' hi
  rw [if_pos (hall' m (by omega))] at hi
  exact hi.2
def finOk (ops:Array Oper) (m:Nat):Bool:=ndOk ops&&ordOk .any ops&&decide (ops.size=m+1)&&(ops.toList.all fun o=>o.guard.isNone)&&match ops[m]? with | some o=>(List.range m).all fun j=>o.after.any fun e=>e.on==j&&Region.binds .any e | none=>false
section
variable {P:Program} {sp:List ROp} {BP:List Value→Prop} {B:Nat} {w0:World} {T:List Value→World→Prop}
theorem region_finI {rl rn id m:Nat} {ops:Array Oper} {Q:Exit→Act→World→Prop} {t:List Value} {df:List Deferred} (sp:List ROp) (ds:List (Option Tmp)) (BP:List Value→Prop) (B l:Nat) (T:List Value→World→Prop) (o:Oper) (ho:ops[m]? = some o) (hfo:finOk ops m=true) (hm:P.follows .mixedOrders=true) (hB:B≤w0.heap.size)
  (hd:ops.pop.toList.map (·.dst)=ds) (h:regChk ops.pop sp t.length=true) (hl:l<m∧(opAt sp l).cl=.last)
  (hs:∀j o,ops.pop[j]? = some o→SrvAt P ops.pop sp BP B w0 ⟨t.toArray,df⟩ T j o)
  (hend:∀val X,(∀j,j<m→(opAt sp j).vp (vals sp j val))→T (vals sp l val) X→RunsTo P (execOp (⟨(fillD ds 0 val t).toArray,df⟩:Act).eval o) X (fun v Y=>Q .normal ((⟨(fillD ds 0 val t).toArray,df⟩:Act).put o.dst v) Y)) :
  (Code.region id ops true).wpIn (Fence.wide.inRound rl) rn P Q ⟨t.toArray,df⟩ w0:=by
 unfold finOk at hfo
 simp only [Bool.and_eq_true,decide_eq_true_eq] at hfo
 obtain ⟨⟨⟨⟨hnd,hord⟩,hsz⟩,hgd⟩,hall⟩:=hfo
 rw [ho] at hall
 have hps:ops.pop.size=m:=by simp [hsz]
 have hpop:∀j o',j<m→ops[j]? = some o'→ops.pop[j]? = some o':=fun j o' hj h'=>by
  rw [Array.getElem?_pop]
  rw [if_pos (by omega)];exact h'
 have hg:∀j o',ops[j]? = some o'→∀y,Region.wanted o' y=true:=fun j o' h' y=>by
  have hgn:=List.all_eq_true.1 hgd o' (by simpa using Array.mem_of_getElem? h')
  unfold Region.wanted
  rw [Option.isNone_iff_eq_none.1 hgn]
 have hnd1:ndOk ops.pop=true:=by
  unfold ndOk at hnd ⊢
  rw [List.all_eq_true] at hnd ⊢
  intro x hx
  exact hnd x (by rw [Array.toList_pop] at hx;exact (List.dropLast_sublist _).subset hx)
 refine wpIn_region_any hm ?_
 have key:=wpAnyIn_fin (F:=Fence.wide.inRound rl) (n:=rn) (P:=P) (Q:=Q) (md:=.any) (fun _=>trivial) (fun S a X=>∃val,RInv ops.pop sp BP B w0 ⟨t.toArray,df⟩ T S a X val) m o ho hsz ?all hord (hg m o ho) ?step ?fin ops.size (fun _=>false) ⟨t.toArray,df⟩ ({ w0 with drawn:=w0.drawn+1 }) ?cnt ?start
 ·rw [doneA_zero] at key
  exact key
 case all=>
  intro j hj
  have:=List.all_eq_true.1 hall j (List.mem_range.2 hj)
  rw [Array.any_eq_true'] at this
  obtain ⟨e,he,h1⟩:=this
  rw [Bool.and_eq_true,beq_iff_eq] at h1
  exact ⟨e,he,h1.1,h1.2⟩
 case step=>
  intro S j o' a X hj ho' hs' hd' hi
  have hst:=own_stepI (rl:=rl) (rn:=rn) (P:=P) (Q:=Q) sp BP T hnd1 (by simpa using h) (Serves.of hs) S j o' a X (hpop j o' hj ho') hs' hd' hi
  rw [if_pos (hg j o' ho' _)] at hst ⊢
  exact hst
 case fin=>
  rintro S a X hal ⟨val,hi⟩
  have ha:a=fillN ops.pop (fun _=>true) val ⟨t.toArray,df⟩ ops.pop.size:=hi.act.trans (fill_congr _ (fun i hi=>hal i (by omega)) (fun _ _ _=>rfl))
  rw [fill_fillD hd] at ha
  subst ha
  exact RunsTo.wpI (nd_at hnd ho) (hend val X (fun j hj=>hi.vps j (by omega) (hal j hj)) (hi.done l (by omega) hl.2 (hal l hl.1))) (fun v w' hq=>hq)
 case cnt=>
  have:∀n (S:Nat→Bool),cntF n S≤n:=by
   intro n S
   induction n with
   | zero=>exact Nat.le_refl _
   | succ n ih=>unfold cntF;split <;> omega
  exact this _ _
 case start=>
  rw [if_neg (by simp)]
  refine ⟨fun _=>undef,?_,?_,?_,?_,?_⟩
  ·have:∀m,fillN ops.pop (fun _=>false) (fun _=>undef) (⟨t.toArray,df⟩:Act) m=⟨t.toArray,df⟩:=by
    intro m
    induction m with
    | zero=>rfl
    | succ m ih=>unfold fillN;rw [if_neg (by simp)];exact ih
   exact (this _).symm
  ·intro k o _ hs;cases hs
  ·intro j _ hs;cases hs
  ·intro _
   exact ⟨(Below.refl _ w0).drew,hB,fun j _ hs=>(by cases hs),fun i _ hs=>(by cases hs),fun i k _ _ hs=>(by cases hs)⟩
  ·intro j _ _ hs;cases hs
end
noncomputable def fitsK (l m:List Tm) (k:Nat):Bool:=((l.zip m).take k).all fun x=>x.1.kind==0||sameT x.1 x.2
noncomputable def fitsA (l m:List Tm):Bool:=(l.zip m).all fun x=>x.1.kind==0||sameT x.1 x.2
theorem fitsK_succ (l m:List Tm) (k:Nat) (h1:k<l.length) (h2:k<m.length):fitsK l m (k+1)=(fitsK l m k&&(l[k].kind==0||sameT l[k] m[k])):=by
 unfold fitsK
 have hz:k<(l.zip m).length:=by rw [List.length_zip];omega
 rw [List.take_succ_eq_append_getElem hz,List.all_append,List.getElem_zip]
 simp
theorem fitsK_all (l m:List Tm) (k:Nat) (h:l.length≤k):fitsK l m k=fitsA l m:=by
 unfold fitsK fitsA
 rw [List.take_of_length_le (by rw [List.length_zip];omega)]
noncomputable def subL (t:Tm) (al:List Tm) (l:List (Nat×Nat)):List (List Tm):=((l.map (subRow t.name)).filter (fitsA al)).map fun x=>t::x
theorem subL_snoc (t:Tm) (al:List Tm) (l:List (Nat×Nat)) (x:Nat×Nat):subL t al (l++[x])=subL t al l++(if fitsA al (subRow t.name x)=true then [t::subRow t.name x] else []):=by
 unfold subL
 rw [List.map_append,List.filter_append,List.map_append]
 congr 1
 simp only [List.map_cons,List.map_nil,List.filter_cons,List.filter_nil]
 cases fitsA al (subRow t.name x) <;> rfl
theorem subL_len (t:Tm) (al:List Tm) (l:List (Nat×Nat)):(subL t al l).length≤l.length:=by
 unfold subL
 rw [List.length_map]
 exact Nat.le_trans (List.length_filter_le _ _) (by rw [List.length_map];exact Nat.le_refl _)
noncomputable def subA (t p q r s:Tm):RA:=if t.kind=0 then .ball biT else orB (atomB t) (orB ([p,q,r].findSome? sizeB) (orB (atomB s) (.ok (subL t [p,q,r,s] (spansL t.name.size)))))
theorem spans_mem {n lo hi:Nat} (h:(lo,hi)∈spansL n):lo≤hi∧hi≤n:=by
 simp only [spansL,spRow,List.mem_flatMap,List.mem_map,List.mem_range,Prod.mk.injEq] at h
 obtain ⟨a,h1,d,h2,rfl,rfl⟩:=h
 omega
def vcRws (lo n:Nat) (l:List Tm):List Value→(Nat→Prop)→World→Prop
 | [v],N,X=>∃g A c,v=.slice (some ⟨g,0,none⟩) 1 1∧N g∧Bk X g [.slice A n c]∧TmsK (fun b=>N b∧lo≤b) X A l
 | _,_,_=>False
def rRws (A:List Nat) (j lo n:Nat) (l:List Tm):ROp:=rCall A [j] (vpRow 1) (vcRws lo n l) fun vs _ _ _ _ h hk hN _=>match vs,h with | [_],⟨g,a,c,e,hg,hb,ht⟩=>⟨g,a,c,e,hN g hg,hb.keeps (hk g hg),ht.keep (fun b hb=>hk b hb.1) (fun b hb=>⟨hN b hb.1,hb.2⟩)⟩
def tSub (lo:Nat) (e:TypeId) (rs:List LR) (row:List Tm) (P:World→Prop):List Value→World→Prop
 | [v],X=>(∃a c,OutR lo e X v (rs++[(row,a,c)]))∧P X
 | _,_=>False
theorem ltc5 {j:Nat} (h:j<5):j=0∨j=1∨j=2∨j=3∨j=4:=by omega
theorem ltc19 {j:Nat} (h:j<19):j=0∨j=1∨j=2∨j=3∨j=4∨j=5∨j=6∨j=7∨j=8∨j=9∨j=10∨j=11∨j=12∨j=13∨j=14∨j=15∨j=16∨j=17∨j=18:=by omega
theorem ltc24 {j:Nat} (h:j<24):j=0∨j=1∨j=2∨j=3∨j=4∨j=5∨j=6∨j=7∨j=8∨j=9∨j=10∨j=11∨j=12∨j=13∨j=14∨j=15∨j=16∨j=17∨j=18∨j=19∨j=20∨j=21∨j=22∨j=23:=by omega
theorem subS {lo hi n:Nat} (h1:lo≤hi) (h2:hi≤n) (hn:n≤100):IntKind.i64.wrap ((hi:Int)-(lo:Int))=((hi-lo:Nat):Int)∧IntKind.i64.wrap ((n:Int)-(hi:Int))=((n-hi:Nat):Int)∧(0:Int)≤(lo:Int)∧(lo:Int)≤(hi:Int)∧(hi:Int)≤(n:Int) :=
 ⟨(IntWalk.i64_in _ (by omega)).trans (by omega),(IntWalk.i64_in _ (by omega)).trans (by omega),by omega,by omega,by omega⟩
theorem subX {s:ByteArray} {lo hi:Nat} (_:lo≤hi) (h2:hi≤s.size) (hn:s.size≤100):(s.extract lo hi).size≤100:=by simp;omega
theorem subG {t:Tm} {al:List Tm} {k k1:Nat} (h1:k1=k+1) (h:k<al.length):k1<(t::al).length:=by rw [List.length_cons];omega
theorem preS {pre:List (Nat×Nat)} {x:Nat×Nat} {l:List (Nat×Nat)} (h:pre++[x] <+: l) (hl:l.length≤10201):pre.length≤100000:=by
 have h1:=h.length_le
 rw [List.length_append] at h1
 omega
theorem rowsFew {t:Tm} {al:List Tm} {pre:List (Nat×Nat)} {rs:List LR} (h:rs.map (fun r:LR=>r.1)=subL t al pre) (hp:pre.length≤100000):rs.length≤100000:=by
 have h1:=congrArg List.length h
 have h2:=subL_len t al pre
 rw [List.length_map] at h1
 omega
theorem subK {k k1:Nat} (h:k<4) (h1:k1=k+1):wrap64 ((k:Int)+1)=(k:Int)+1∧IntKind.i64.wrap ((k:Int)+1)=(k1:Int)∧(0:Int)≤(k1:Int)∧(k1:Int)<(5:Int)∧(0:Int)≤(k:Int)∧(k:Int)<(4:Int) :=
 ⟨IntWalk.wrap64_in _ (by omega),(IntWalk.i64_in _ (by omega)).trans (by omega),by omega,by omega,by omega,by omega⟩
theorem below_rows {a X Y:World} {B lo:Nat} (h:Below B a X) (hl:B≤lo) (h2:Below lo X Y):Below B a Y:=h.trans (h2.mono hl)
theorem RunsTo.mono {P:Program} {m:Sem Next} {X:World} {R R':Value→World→Prop} (h:RunsTo P m X R) (k:∀v w,R v w→R' v w):RunsTo P m X R':=by
 rcases h with ⟨v,X',e,h⟩ | ⟨X',e,h⟩ | ⟨f,args,X1,e,h⟩
 ·exact .inl ⟨v,X',e,k _ _ h⟩
 ·exact .inr (.inl ⟨X',e,k _ _ h⟩)
 ·exact .inr (.inr ⟨f,args,X1,e,h.mono fun e w' hh=>by
   obtain ⟨v,he,hr⟩:=hh
   exact ⟨v,he,k _ _ hr⟩⟩)
section
variable {P:Program} {ops:Array Oper} {sp:List ROp} {BP:List Value→Prop} {B:Nat} {w0:World} {a0:Act} {T:List Value→World→Prop} {j:Nat} {o:Oper}
theorem want_undef {val:Nat→Value} {g:Nat} {b:Bool} (hg:o.guard=some (g,b)) (hv:val g=undef):wantB val o=false:=by unfold wantB;rw [hg];dsimp only;rw [hv];rfl
theorem srv_pureU {g:Nat} {b:Bool} (hc:(opAt sp j).cl=.pure) (hg:o.guard=some (g,b)) (hv:∀val,VPs sp j val→val g=undef) (h2:∀val,VPs sp j val→(opAt sp j).vp (vals sp j (updV val j undef))):SrvAt P ops sp BP B w0 a0 T j o:=by
 unfold SrvAt;rw [hc]
 refine fun val hA=>⟨fun ht=>?_,fun _=>h2 val hA⟩
 rw [want_undef hg (hv val hA)] at ht;cases ht
theorem srv_valU {g:Nat} {b:Bool} (hc:(opAt sp j).cl=.call) (hg:o.guard=some (g,b)) (hvc:∀vs N X,(opAt sp j).vc vs N X) (hv:∀val,VPs sp j val→val g=undef) (h2:∀val,VPs sp j val→(opAt sp j).vp (vals sp j (updV val j undef))):SrvAt P ops sp BP B w0 a0 T j o:=by
 unfold SrvAt;rw [hc]
 refine fun val X N hB _ _ _ hA _=>⟨fun ht=>?_,fun _=>⟨h2 val hA,fun _=>hvc _ _ _⟩⟩
 rw [want_undef hg (hv val hA)] at ht;cases ht
end
theorem OutR.others {lo:Nat} {e:TypeId} {X Y:World} {v:Value} {rs:List LR} (h:OutR lo e X v rs) (hg:X.grownBy Y v.ownBlock):KeepsOthers X Y :=
 KeepsOthers.of_grownBy hg fun j o ej hj=>by
  rcases h.own.2 with ⟨hv,_⟩ | ⟨g,cap,cur,hv,_,hgb,_⟩
  ·rw [hv] at ej;simp [Value.ownBlock] at ej
  ·rw [hv] at ej
   obtain rfl:g=j:=by simpa [Value.ownBlock] using ej
   rw [hgb] at hj;cases hj;rfl
end Hb
namespace Go.Proofs.YtpokpgkjaifccaaGreatDoorRR
open Go.RowKit Hb Go.Shelf
set_option maxRecDepth 100000
theorem app_runsL {X:World} {o:Oper} {E:Operand→Value} (s x:Operand)
  (ho:o.op=.call { callee:=.builtin .append,args:=#[s,x],argTypes:=#[61,61] }) (lo:Nat) (v:Value) (rs:List LR) (r:LR) (g:Nat) (hs:E s=v) (hO:OutR lo 30 X v rs)
  (hx:E x=.slice (some ⟨g,0,none⟩) 1 1) (hg:Bk X g [lrC r]) (hr:TmsK (fun b=>lo≤b∧b<X.heap.size∧v.ownBlock≠some b) X r.2.1 r.1) (hn:rs.length≤100000) (hlo:lo≤X.heap.size) :
  RunsTo Tryz.prog (execOp E o) X fun v' w'=>OutR lo 30 w' v' (rs++[r])∧Below lo X w'∧KeepsOthers X w':=by
 obtain ⟨i,hi,hz0,hz1,hz2⟩:=info_parts infoRowA
 refine app_runs s x 61 ho lo 30 i _ 1 24 Tryz.underlying61 hi hz0 hz1 hz2 rfl (by decide) v rs.length (rs.map lrC) hs hO.own ⟨g,0,none⟩ 1 1 [lrC r] hx rfl ?_ (by intro u hu;rw [List.mem_singleton] at hu;subst hu;rfl) (by unfold maxLen;omega) (by omega) hlo fun v' w' h1 h2 h3=>?_
 ·intro j u hu
  rw [addr_add]
  match j,hu with
  | 0,hu=>exact hg.c 0 u hu
 ·exact ⟨hO.snoc r hr h1 h2 h3,below_grown (Below.refl lo X) hlo hO.own h2,hO.others h2⟩
end Go.Proofs.YtpokpgkjaifccaaGreatDoorRR
