/- Parts of the proof. -/
import Derived.Test.YtbojljpldcijgaaGreatR01
import Derived.Test.YtbojljpldcijgaaGreatR23
import Derived.Test.YtbojljpldcijgaaGreatR08
import Derived.Test.YtbojljpldcijgaaGreatR22
import Derived.Test.YtbojljpldcijgaaGreatR10
import Derived.Test.YtbojljpldcijgaaGreatR13
import Derived.Test.YtbojljpldcijgaaGreatR12
import Derived.BigRegion
set_option maxHeartbeats 12800000
set_option maxRecDepth 100000
set_option linter.unusedSimpArgs false
open Array renaming getElem?_eq_some_iff -> aS
open Go renaming Calls -> aU, TypeId -> cH, Value -> aC, World -> au, bodyPost_ret -> aw, heap_setCell_other -> aW, maxLen -> bF, wpList -> cq, wpList_append_own_at -> eP
open Go.Ending renaming returned -> aD
open Go.IntKind renaming i64 -> ab
open Go.Proofs.Tryz renaming prog -> am
open Go.RowKit renaming Below -> aB
open Go.RowKit.Below renaming refl -> ap
open Go.Value renaming agg -> aV, bool -> av, int -> aa, string -> ac
open Go.World renaming cell?_alloc_new -> aF
open List renaming append_nil -> aj, cons_append -> ag, eq_nil_of_length_eq_zero -> cU, getD_eq_getElem?_getD -> bt, getElem?_append_left -> dT, getElem?_eq_getElem -> bi, getElem?_eq_some_iff -> cO, getElem?_set -> dR, getElem_map -> bT, getElem_mem -> bW, length_append -> bC, length_map -> bZ, map_cons -> da, mem_append -> di, mem_append_left -> dt, mem_cons -> bh, mem_nil_iff -> be, mem_singleton -> aK, nil_append -> ai, take_of_length_le -> cC, take_succ_eq_append_getElem -> bl
open Nat renaming le_refl -> ae, le_succ -> bm, le_trans -> aQ, lt_of_lt_of_le -> aA, reduceAdd -> af, zero_add -> ah, zero_le -> bc
namespace Hb
open Go Go.RowKit
noncomputable def kB (r s:RdR):Bool:=jZ r.t s.t&&(decide (r.names=s.names)&&(decide (r.singles=s.singles)&&r.end_==s.end_))
def wP:List (Option Nat)->Option Nat
 | []=>some 0
 | none::_=>none
 | some a::l=>match wP l with | none=>none | some b=>some (a+b)
def tP:Nat->Tm->Option Nat
 | 0,_=>none
 | f+1,.mk k n s l=>if iL (.mk k n s l)=true then (match wP (l.map (tP f)) with | none=>none | some b=>some (b+1)) else none
theorem vz:∀(l:List Tm) (g:Tm->Option Nat) (b:Nat),(∀t n,g t=some n->n=t.nodes/\t.allOk=true)->wP (l.map g)=some b->b=(l.map Tm.nodes).sum/\l.all Tm.allOk=true
 | [],_,b,_,h=>by injection h with h;exact ⟨h.symm,rfl⟩
 | t::l,g,b,hg,h=>by
  rw [da] at h
  cases ht:g t with
  | none=>rw [ht] at h;cases h
  | some a=>
   rw [ht] at h
   simp only [wP] at h
   cases hs:wP (l.map g) with
   | none=>rw [hs] at h;cases h
   | some c=>
    rw [hs] at h
    injection h with h
    obtain ⟨d,e⟩:=vz l g c hg hs
    obtain ⟨f,i⟩:=hg t a ht
    exact ⟨by rw [da,List.sum_cons,<-f,<-d,<-h],by rw [List.all_cons,i,e];rfl⟩
theorem zi:∀(f:Nat) (t:Tm) (n:Nat),tP f t=some n->n=t.nodes/\t.allOk=true
 | 0,_,_,h=>by cases h
 | f+1,.mk k m s l,n,h=>by
  unfold tP at h
  split at h
  ·rename_i c
   cases hs:wP (l.map (tP f)) with
   | none=>rw [hs] at h;cases h
   | some b=>
    rw [hs] at h
    injection h with h
    obtain ⟨d,a⟩:=vz l (tP f) b (fun t n h=>zi f t n h) hs
    rw [Tm.nodes_eq,Tm.allOk_eq]
    exact ⟨by show n=1+(l.map Tm.nodes).sum;omega,by rw [c];show (true&&l.all Tm.allOk)=true;rw [a];rfl⟩
  ·cases h
theorem ms {t:Tm} {n:Nat} (h:tP 30 t=some n) (c:n<=2000):dZ t=true:=by
 obtain ⟨b,a⟩:=zi 30 t n h
 unfold dZ
 rw [a,decide_eq_true (by omega)];rfl
def syD:Sy:=⟨defL,1,1,false,false,[]⟩
theorem oo {L:List UInt8} {a:Int} {s:Sy} {t:Tm} {m n:Nat} {nm sg:List (List UInt8×Nat)} {b:Int}
  (h:(gA L a s,(cT L a s).err,kA ⟨(cT L a s).l,s.P,s.q⟩,tP 30 t,(bv (cT L a s).l m).m,qm (bv (cT L a s).l m),(lJ (cT L a s).l m).r.end_)=(false,(0:Int),(.ok (t,m):RR (Tm×Nat)),some n,nm,sg,b)) (k:n<=2000):eD L a s=⟨t,nm,sg,b,0,0⟩:=by
 simp only [Prod.mk.injEq] at h
 obtain ⟨c,d,e,f,g,i,j⟩:=h
 unfold eD
 rw [c,if_neg (by simp),d,if_neg (by simp)]
 unfold ka
 rw [e]
 simp only
 unfold kC
 rw [ms f k,if_pos rfl]
 simp only [RE.at,g,i,j]
theorem uy {L:List UInt8} {b:Int} {s:Sy} {k:Nat} {a:Int}
  (h:(gA L b s,(cT L b s).err,kA ⟨(cT L b s).l,s.P,s.q⟩,(lJ (cT L b s).l k).r.at_)=(false,(0:Int),(.error k:RR (Tm×Nat)),a)):eD L b s=gx a 7:=by
 simp only [Prod.mk.injEq] at h
 obtain ⟨c,d,e,f⟩:=h
 unfold eD
 rw [c,if_neg (by simp),d,if_neg (by simp)]
 unfold ka
 rw [e]
 simp only [RE.at,f]
noncomputable def iY (L:List UInt8) (t:Tm):Bool:=(eD L 0 syD).err==0&&((eD L 0 syD).where_==0&&(jZ (eD L 0 syD).t t&&(eD L 0 syD).end_==L.length))
noncomputable def lM (L:List UInt8) (k:Int):Bool:=(eD L 0 syD).err==7&&((eD L 0 syD).where_==k&&kB (eD L 0 syD) (gx 0 0))
theorem mh {t:Tm} (h:dZ t=true):jZ t t=true:=by unfold jZ;rw [h,vW rfl];rfl
theorem iq:dZ (.mk 0 0 ⟨#[]⟩ [])=true:=ms (n:=1) (by kernel_rfl) (by decide)
theorem iX {L:List UInt8} {t:Tm} {m n:Nat} {nm sg:List (List UInt8×Nat)}
  (h:(gA L 0 syD,(cT L 0 syD).err,kA ⟨(cT L 0 syD).l,syD.P,syD.q⟩,tP 30 t,(bv (cT L 0 syD).l m).m,qm (bv (cT L 0 syD).l m),(lJ (cT L 0 syD).l m).r.end_)=(false,(0:Int),(.ok (t,m):RR (Tm×Nat)),some n,nm,sg,(L.length:Int))) (a:n<=2000):iY L t=true:=by
 have b:=oo h a
 simp only [Prod.mk.injEq] at h
 unfold iY
 rw [b]
 simp only [mh (ms h.2.2.2.1 a)]
 simp
theorem mW {L:List UInt8} {k:Nat} {a:Int}
  (h:(gA L 0 syD,(cT L 0 syD).err,kA ⟨(cT L 0 syD).l,syD.P,syD.q⟩,(lJ (cT L 0 syD).l k).r.at_)=(false,(0:Int),(.error k:RR (Tm×Nat)),a)):lM L a=true:=by
 unfold lM
 rw [uy h]
 unfold kB gx
 simp only [mh iq]
 simp
end Hb
namespace Go.Proofs.YtbojljpldcijgaaGreat
open Go.RowKit Hb
theorem CO (n:Int) (w:au):aU am 24 #[aa ab n] w fun e w'=>e=aD (aV #[aa ab 0,aa ab n,ac ⟨#[]⟩,.slice none 0 0])/\aB w.heap.size w w':=by
 have a:=zq ((ap w.heap.size w).alloc (ae _) (.cells #[aa ab 0,aa ab n,ac ⟨#[]⟩,.slice none 0 0] 30))
 go_enter Tryz.func24,Tryz.ntmps24
 go_wp2_with fail
 exact aw (v:=aV #[aa ab 0,aa ab n,ac ⟨#[]⟩,.slice none 0 0]) (by simp [results,Tryz.results24,go_sem]) rfl ⟨rfl,a.out⟩
theorem CP (n:Int) (w:au):aU am 26 #[aa ab n] w fun e w'=>e=aD (aV #[aa ab 1,aa ab n,ac ⟨#[]⟩,.slice none 0 0])/\aB w.heap.size w w':=by
 have a:=zq ((ap w.heap.size w).alloc (ae _) (.cells #[aa ab 1,aa ab n,ac ⟨#[]⟩,.slice none 0 0] 30))
 go_enter Tryz.func26,Tryz.ntmps26
 go_wp2_with fail
 exact aw (v:=aV #[aa ab 1,aa ab n,ac ⟨#[]⟩,.slice none 0 0]) (by simp [results,Tryz.results26,go_sem]) rfl ⟨rfl,a.out⟩
theorem CR (s:ByteArray) (w:au):aU am 27 #[ac s] w fun e w'=>e=aD (aV #[aa ab 2,aa ab 0,ac s,.slice none 0 0])/\aB w.heap.size w w':=by
 have a:=zq ((ap w.heap.size w).alloc (ae _) (.cells #[aa ab 2,aa ab 0,ac s,.slice none 0 0] 30))
 go_enter Tryz.func27,Tryz.ntmps27
 go_wp2_with fail
 exact aw (v:=aV #[aa ab 2,aa ab 0,ac s,.slice none 0 0]) (by simp [results,Tryz.results27,go_sem]) rfl ⟨rfl,a.out⟩
theorem CQ (s:ByteArray) (A:Option Addr) (n c:Nat) (w:au):aU am 19 #[ac s,.slice A n c] w fun e w'=>e=aD (aV #[aa ab 3,aa ab 0,ac s,.slice A n c])/\aB w.heap.size w w':=by
 have a:=zq ((ap w.heap.size w).alloc (ae _) (.cells #[aa ab 3,aa ab 0,ac s,.slice A n c] 30))
 go_enter Tryz.func19,Tryz.ntmps19
 go_wp2_with fail
 exact aw (v:=aV #[aa ab 3,aa ab 0,ac s,.slice A n c]) (by simp [results,Tryz.results19,go_sem]) rfl ⟨rfl,a.out⟩
theorem qQ (K V:Nat->Prop) (f g:List (List UInt8×Nat)) (A B:Option Addr) (m z c d:Nat) (w:au) (u:m=f.length) (x:z=g.length) (L:NmAt K w A f) (M:NmAt V w B g) (N:∀b,K b->b<w.heap.size) (O:∀b,V b->b<w.heap.size) (hm:f.length<=20000) :
  aU am 41 #[.slice A m c,.slice B z d] w fun e w'=>e=aD (av (decide (f=g)))/\aB w.heap.size w w':=by
 obtain ⟨RB,t⟩:=lz (decide (f=g))
 rw [<-t.out]
 by_cases Z:m=z
 ·subst Z
  have E:=zq u
  have U:Hid (f.length=g.length):=zq (u.symm.trans x)
  have H1:=zq L
  have H2:=zq M
  have S:=zq N
  have T:=zq O
  have a3:=zq (show m<=20000 by omega)
  clear L M u x N O hm
  go_enter Tryz.func41,Tryz.ntmps41
  go_wp2_with fail
  go_loopw [5] (fun i wr=>∃j:Nat,i=aa ab j/\j<=m/\f.take j=g.take j/\aB w.heap.size w wr) (fun i _=>m-(intOf i).toNat)
  case atStart=>exact ⟨0,rfl,bc _,rfl,ap _ _⟩
  case round=>
   obtain ⟨j,rfl,X,y,l⟩:=hrel
   by_cases k:j<m
   ·have R:j<f.length:=by rw [<-E.out];exact k
    have Y:j<g.length:=by rw [<-U.out];exact R
    obtain ⟨b,a1,rfl,P,G,H⟩:=H1.out.2 j R
    obtain ⟨v,a2,rfl,Q,I,J⟩:=H2.out.2 j Y
    have G:=(l.cell (p:=⟨b,a1+j * 2,none⟩) (S.out b P)).trans G
    have H:=(l.cell (p:=⟨b,a1+j * 2+1,none⟩) (S.out b P)).trans H
    have I:=(l.cell (p:=⟨v,a2+j * 2,none⟩) (T.out v Q)).trans I
    have J:=(l.cell (p:=⟨v,a2+j * 2+1,none⟩) (T.out v Q)).trans J
    have a5:=zb k
    obtain ⟨k0,k1⟩:=qY k
    have q:=zq l
    have F:=zq y
    obtain ⟨C,r⟩:=lz (f[j])
    obtain ⟨D,s⟩:=lz (g[j])
    rw [<-r.out] at G H
    rw [<-s.out] at I J
    clear l y P Q
    have a0:=zq (qE k (by have:=a3.out;omega))
    by_cases o:C=D
    ·have a4:Hid (f.take (j+1)=g.take (j+1)):=zq (by rw [bl R,bl Y,<-r.out,<-s.out,o,F.out])
     clear r s F
     subst o
     go_wp2_with fail
     go_region
     all_goals
      go_wp2_with fail
      go_roundw
      case rel=>exact ⟨j+1,congrArg (Value.int IntKind.i64) a0.out,k,a4.out,q.out.drew⟩
      case measure=>exact oB a0.out k
    ·have n:Hid (decide (f=g)=false):=zq (decide_eq_false fun h=>o (by rw [r.out,s.out];subst h;rfl))
     clear r s F
     by_cases W:C.1=D.1
     ·have e3:¬(C.2:Int)=(D.2:Int):=fun h=>o (by obtain ⟨a,b⟩:=C;obtain ⟨a',b'⟩:=D;simp only at W h;have:=Int.ofNat.inj h;rw [W,this])
      clear o
      go_wp2_with fail
      go_region
      all_goals
       go_wp2_with fail
       go_ret
       exact ⟨by rw [t.out,n.out];rfl,q.out.drew⟩
     ·clear o
      go_wp2_with fail
      go_region
      all_goals
       go_wp2_with fail
       go_ret
       exact ⟨by rw [t.out,n.out];rfl,q.out.drew⟩
   ·have a5:=zc k
    have a6:=vJ k X
    subst a6
    have n:Hid (decide (f=g)=true):=zq (decide_eq_true (by rwa [cC (by rw [<-E.out];exact ae _),cC (by rw [<-U.out,<-E.out];exact ae _)] at y))
    have q:=zq l
    clear y l X k
    go_wp2_with fail
    go_ret
    exact ⟨by rw [t.out,n.out];rfl,q.out⟩
 ·have n:Hid (decide (f=g)=false):=zq (decide_eq_false fun h=>Z (by rw [u,x,h]))
  have hb:((m:Int) != (z:Int))=true:=by simp;omega
  clear L M u x N O hm
  go_enter Tryz.func41,Tryz.ntmps41
  go_wp2_with fail
  go_ret
  exact ⟨by rw [t.out,n.out];rfl,ap _ _⟩
structure RdAt (w:au) (r:RdR) (A N S:Option Addr):Prop where
 t:TmsAt w.heap.size w A r.t.args
 n:NmAt (fun b=>b<w.heap.size) w N r.names
 s:NmAt (fun b=>b<w.heap.size) w S r.singles
theorem RdAt.below {w w':au} {r:RdR} {A N S:Option Addr} (h:RdAt w r A N S) (c:aB w.heap.size w w'):RdAt w' r A N S :=
 ⟨(h.t.keep c).mono c.size,h.n.keep (fun b a=>c.block b a) fun _ a=>aA a c.size,h.s.keep (fun b a=>c.block b a) fun _ a=>aA a c.size⟩
theorem pB (r s:RdR) (c f k d i l:Option Addr) (q v y u x z:Nat) (w:au) (A:RdAt w r c f k) (B:RdAt w s d i l) (M:r.names.length<=20000) (N:r.singles.length<=20000) :
  aU am 13 #[aV #[aa ab r.t.kind,aa ab r.t.num,ac r.t.name,.slice c r.t.args.length q,.slice f r.names.length v,.slice k r.singles.length y,aa ab r.end_],aV #[aa ab s.t.kind,aa ab s.t.num,ac s.t.name,.slice d s.t.args.length u,.slice i s.names.length x,.slice l s.singles.length z,aa ab s.end_]] w fun e w'=>e=aD (av (kB r s))/\aB w.heap.size w w':=by
 have I:=zq (fun W (h:aB w.heap.size w W)=>rW r.t s.t c d q u W (A.below h).t (B.below h).t)
 have Q:=zq (fun W (h:aB w.heap.size w W)=>qQ _ _ r.names s.names f i _ _ v x W rfl rfl (A.below h).n (B.below h).n (fun _ h=>h) (fun _ h=>h) M)
 have O:=zq (fun W (h:aB w.heap.size w W)=>qQ _ _ r.singles s.singles k l _ _ y z W rfl rfl (A.below h).s (B.below h).s (fun _ h=>h) (fun _ h=>h) N)
 obtain ⟨j,G⟩:=lz (kB r s)
 have p:Hid (j=(jZ r.t s.t&&(decide (r.names=s.names)&&(decide (r.singles=s.singles)&&r.end_==s.end_)))):=zq G.out
 rw [<-G.out]
 have C:=zq ((((ap w.heap.size w).alloc (ae _) (.cells #[aa ab r.t.kind,aa ab r.t.num,ac r.t.name,.slice c r.t.args.length q,.slice f r.names.length v,.slice k r.singles.length y,aa ab r.end_] 33)).alloc (by simp) (.cells #[aa ab s.t.kind,aa ab s.t.num,ac s.t.name,.slice d s.t.args.length u,.slice i s.names.length x,.slice l s.singles.length z,aa ab s.end_] 33)))
 have D:=zq (((Bks.nil w).new [aa ab r.t.kind,aa ab r.t.num,ac r.t.name,.slice c r.t.args.length q,.slice f r.names.length v,.slice k r.singles.length y,aa ab r.end_] 33 rfl).new [aa ab s.t.kind,aa ab s.t.num,ac s.t.name,.slice d s.t.args.length u,.slice i s.names.length x,.slice l s.singles.length z,aa ab s.end_] 33 (g:=w.heap.size+1) (by simp))
 clear A B M N G
 unfold fI at I
 generalize jZ r.t s.t=R at *
 generalize decide (r.names=s.names)=S at *
 generalize decide (r.singles=s.singles)=T at *
 have J:=D.out.all
 simp only [aH,aP,ah,af,and_true] at J
 go_enter Tryz.func13,Tryz.ntmps13
 go_wp2_with fail
 refine (I.out _ C.out).mono ?_;rintro e V ⟨rfl,a⟩
 have m:=bz C a
 have E:=zq (D.out.call a)
 clear a C D J
 have K:=E.out.all
 simp only [aH,aP,ah,af,and_true] at K
 cases R
 ·have b:Hid (j=false):=p
  go_wp2_with fail
  go_ret
  exact ⟨by rw [b.out];rfl,m.out⟩
 go_wp2_with fail
 refine (Q.out _ m.out).mono ?_;rintro e X ⟨rfl,a⟩
 have o:=bz m a
 have F:=zq (E.out.call a)
 clear a m E K
 have L:=F.out.all
 simp only [aH,aP,ah,af,and_true] at L
 cases S
 ·have b:Hid (j=false):=p
  go_wp2_with fail
  go_ret
  exact ⟨by rw [b.out];rfl,o.out⟩
 go_wp2_with fail
 refine (O.out _ o.out).mono ?_;rintro e Y ⟨rfl,a⟩
 have H:=bz o a
 have P:=zq (F.out.call a)
 clear a o F L
 have U:=P.out.all
 simp only [aH,aP,ah,af,and_true] at U
 cases T
 ·have b:Hid (j=false):=p
  go_wp2_with fail
  go_ret
  exact ⟨by rw [b.out];rfl,H.out⟩
 have b:Hid (j=(r.end_==s.end_)):=p
 go_wp2_with fail
 go_ret
 exact ⟨by rw [b.out];rfl,H.out⟩
end Go.Proofs.YtbojljpldcijgaaGreat
namespace Hb
open Go Go.RowKit
def Co (b a:Nat) (t:NextR):Prop:=(b:Int)<=t.r.at_/\t.r.at_<t.r.end_/\t.r.end_<=a
theorem zv (m l : List UInt8) (k : m.length = l.length) (j : Nat) : ∀ (f a : Nat) (b : List NextR), j <= a -> a <= l.length -> (∀ t ∈ b, Co j l.length t) ->
    (∀ t ∈ (kZ f m l a b).l, Co j l.length t) /\ ((kZ f m l a b).err = 99 \/ ¬(kZ f m l a b).err = 0 -> 0 <= (kZ f m l a b).where_ /\ (kZ f m l a b).where_ <= l.length)
  | 0, _, _, _, _, _ => ⟨fun t h => (by cases h), fun _ => ⟨Int.le_refl _, by show (0 : Int) <= _; omega⟩⟩
  | f + 1, a, b, h1, h2, ha => by
    have o := uO m l k a h2
    have u := np m l k a h2
    rw [jT]
    split
    · rename_i c
      obtain ⟨p, d, n, g, _⟩ := o (by rw [c.1]; decide)
      exact ⟨fun t h => (by cases h), fun _ => by simp only [d]; omega⟩
    split
    · rename_i c
      obtain ⟨p, d, n, g, _⟩ := o c
      exact ⟨fun t h => (by cases h), fun _ => by simp only [d]; omega⟩
    rename_i c
    have c : (bD m l a).r.err = 0 := by simpa using c
    obtain ⟨p, e, d, n, g, v, s, _⟩ := u c
    have q : ∀ t ∈ b ++ [bD m l a], Co j l.length t := fun t i => by
      rcases di.1 i with i | i
      · exact ha t i
      · rw [aK.1 i]
        exact ⟨by rw [d]; omega, by rw [d, g]; omega, by rw [g]; omega⟩
    split
    · exact ⟨q, fun h => h.elim (fun h=>absurd h (by show ¬(0 : Int) = 99; decide)) (fun h=>absurd rfl h)⟩
    · rw [g, Int.toNat_natCast]
      exact zv m l k j f e _ (by omega) s q
theorem zH {T:List NextR} {c a:Nat} (h:∀t∈T,Co c a t) (e:0<T.length) (n:Nat):Co c a (lJ T n):=by
 have d:lJ T n∈T:=by
  unfold lJ
  have b:min n (T.length-1)<T.length:=by omega
  rw [bt,bi b];exact bW b
 exact h _ d
theorem zX (L:List UInt8) (a:Nat) (s:Sy) (i:a<=L.length) (z:L.length<=16384) :
  let r:=eD L a s
  (0<=r.where_/\r.where_<=L.length)/\(0<=r.end_/\r.end_<=L.length)/\(r.err=1->r.where_=0)/\dZ r.t=true/\(r.err=0->r.where_=0/\(a:Int)<r.end_)/\(¬r.err=0->r=gx r.where_ r.err):=by
 have d:=zv (ba (fj s.conv) L) L (bL _ _) a (L.length+1) a [] (ae _) i (fun _ h=>by cases h)
 have e:=tT (ba (fj s.conv) L) L (L.length+1) a []
 have q:(cT L a s).err=0->0<(cT L a s).l.length:=fun b=>(rx _ _ (bL _ _) _ i b).pos
 have c:kZ (L.length+1) (ba (fj s.conv) L) L a []=cT L a s:=rfl
 rw [c] at d e
 intro r
 obtain ⟨R,g⟩:∃R,eD L a s=R:=⟨_,rfl⟩
 have j:r=R:=g
 rw [j]
 clear j
 subst g
 unfold eD
 split
 ·exact ⟨⟨Int.le_refl _,by show (0:Int)<=_;omega⟩,⟨Int.le_refl _,by show (0:Int)<=_;omega⟩,fun _=>rfl,iq,fun h=>absurd h (by show ¬(1:Int)=0;decide),fun _=>rfl⟩
 split
 ·rename_i b
  exact ⟨d.2 (.inr b),⟨Int.le_refl _,by show (0:Int)<=_;omega⟩,fun h=>absurd h e,iq,fun h=>absurd h b,fun _=>rfl⟩
 rename_i b
 have b:(cT L a s).err=0:=by simpa using b
 have u:=q b
 have c:=fun n=>zH d.1 u n
 unfold ka
 split
 ·rename_i k _
  obtain ⟨o,p,f⟩:=c k
  exact ⟨⟨by show (0:Int)<=(lJ (cT L a s).l k).r.at_;omega,by show (lJ (cT L a s).l k).r.at_<=_;omega⟩,⟨Int.le_refl _,by show (0:Int)<=_;omega⟩,fun h=>absurd h (by show ¬(7:Int)=1;decide),iq,fun h=>absurd h (by show ¬(7:Int)=0;decide),fun _=>rfl⟩
 ·rename_i t m _
  obtain ⟨o,p,f⟩:=c m
  obtain ⟨w,x,y⟩:=c 0
  unfold kC
  split
  ·rename_i v
   exact ⟨⟨Int.le_refl _,by show (0:Int)<=_;omega⟩,⟨by show (0:Int)<=(lJ (cT L a s).l m).r.end_;omega,f⟩,fun _=>rfl,v,fun _=>⟨rfl,by show (a:Int)<(lJ (cT L a s).l m).r.end_;omega⟩,fun h=>absurd rfl h⟩
  ·exact ⟨⟨by show (0:Int)<=(lJ (cT L a s).l 0).r.at_;omega,by show (lJ (cT L a s).l 0).r.at_<=_;omega⟩,⟨Int.le_refl _,by show (0:Int)<=_;omega⟩,fun h=>absurd h (by show ¬(2:Int)=1;decide),iq,fun h=>absurd h (by show ¬(2:Int)=0;decide),fun _=>rfl⟩
end Hb
namespace Go.Proofs.YtbojljpldcijgaaGreat
open Go.RowKit Hb
theorem mF (a:ByteArray) (b:Int) (e:a.size<=bF) (g c:Nat) (W:au) (d:Tab W (some ⟨g,0,none⟩) 41 c defL):aU am 11 #[ac a,aa ab b,aV #[.slice (some ⟨g,0,none⟩) 41 c,aa ab 1,aa ab 1,av false,av false,.slice none 0 0]] W (ROk W (eD a.data.toList b syD)) :=
 rV a b (some ⟨g,0,none⟩) 41 c 1 1 false false none 0 0 defL [] W d rfl (bc _) (Pairs.nil _ _) e
theorem xP {L:List UInt8} {a:Int} {s:Sy} (h:gA L a s=false) (b:(cT L a s).err=0):(cT L a s).l.length<=16385:=by
 have c:=(rC h b).len
 have d:=(oh h).1
 omega
theorem Be (v:VS):(qm v).length<=v.m.length:=List.length_filter_le _ _
theorem px (L:List UInt8) (a:Int) (s:Sy):(eD L a s).names.length<=20000/\(eD L a s).singles.length<=20000:=by
 unfold eD
 split
 ·exact ⟨bc _,bc _⟩
 ·rename_i e
  split
  ·exact ⟨bc _,bc _⟩
  ·rename_i f
   have j:=xP (by simpa using e) (by simpa using f)
   unfold ka
   split
   ·exact ⟨bc _,bc _⟩
   ·rename_i t m _
    unfold kC
    split
    ·have c:=zA ((cT L a s).l.take m)
     have g:=xG ((cT L a s).l.take m)
     have h:=c.mo
     have d:=Be (bv (cT L a s).l m)
     have i:=List.length_take_le' m (cT L a s).l
     have b:(bv (cT L a s).l m).m.length<=20000:=by
      unfold bv;omega
     exact ⟨b,aQ d b⟩
    ·exact ⟨bc _,bc _⟩
theorem ROk.at {w0 w:au} {r:RdR} {A c SA:Option Addr} (_:aB w0.heap.size w0 w) (d:TmsK (fun b=>w0.heap.size<=b/\b<w.heap.size) w A r.t.args) (e:NmAt (fun b=>w0.heap.size<=b/\b<w.heap.size) w c r.names) (f:NmAt (fun b=>w0.heap.size<=b/\b<w.heap.size) w SA r.singles):RdAt w r A c SA :=
 ⟨d.keep (fun _ _=>rfl) fun _ a=>a.2,e.keep (fun _ _=>rfl) fun _ a=>a.2,f.keep (fun _ _=>rfl) fun _ a=>a.2⟩
theorem zz (w:au):RdAt w (gx 0 0) none none none:=⟨TmsK.nil,NmAt.nil,NmAt.nil⟩
theorem nx (b:ByteArray) (t:Tm) (B:Option Addr) (cb:Nat) (w:au) (hs:b.size<=bF) (Y:TmsAt w.heap.size w B t.args):aU am 25 #[ac b,aV #[aa ab t.kind,aa ab t.num,ac t.name,.slice B t.args.length cb]] w fun e w'=>e=aD (av (iY b.data.toList t))/\aB w.heap.size w w':=by
 obtain ⟨r,y⟩:=lz (eD b.data.toList 0 syD)
 obtain ⟨f,z⟩:=lz (iY b.data.toList t)
 have d:Hid (f=(r.err==0&&(r.where_==0&&(jZ r.t t&&r.end_==(b.size:Int))))):=zq (by rw [z.out,y.out,<-ci];rfl)
 rw [<-z.out]
 have S:=zq (fun W=>sx W)
 have C:=zq (fun g p W (h:Tab W (some ⟨g,0,none⟩) 41 p defL)=>mF b 0 hs g p W h)
 rw [<-y.out] at C
 have J:=zq ((ap w.heap.size w).alloc (ae _) (.cells #[aa ab t.kind,aa ab t.num,ac t.name,.slice B t.args.length cb] 30))
 have O:=zq ((Bks.nil w).new [aa ab t.kind,aa ab t.num,ac t.name,.slice B t.args.length cb] 30 rfl)
 have D:=zq (fun W A i (h:aB w.heap.size w W) (q:TmsAt W.heap.size W A r.t.args)=>rW r.t t A B i cb W q ((Y.keep h).mono h.size))
 unfold fI at D
 clear hs Y y z
 go_enter Tryz.func25,Tryz.ntmps25
 go_wp2_with fail
 refine (S.out _).mono ?_;rintro e w1 ⟨g,p,rfl,a,Z⟩
 have K:=bz J a
 have P:=zq (O.out.call a)
 have U:=zq Z
 clear a Z J O S
 go_wp2_with fail
 refine (C.out g p _ U.out).mono ?_;rintro e u ⟨A,i,E,H,F,I,rfl,a,V,q,X⟩
 have T:=zq (ROk.at a V q X).t
 have L:=bz K a
 have Q:=zq (P.out.call a)
 clear a V q X K P C U
 obtain ⟨w3,l⟩:=lz (u.alloc (.cells #[aa ab r.t.kind,aa ab r.t.num,ac r.t.name,.slice A r.t.args.length i,.slice E r.names.length H,.slice F r.singles.length I,aa ab r.end_] 33))
 obtain ⟨g3,v⟩:=lz (u.heap.size)
 have s:aB u.heap.size u w3:=by rw [l.out];exact (ap _ _).alloc (ae _) _
 have x:Hid (Bks w3 [(g3,[aa ab r.t.kind,aa ab r.t.num,ac r.t.name,.slice A r.t.args.length i,.slice E r.names.length H,.slice F r.singles.length I,aa ab r.end_]),(w.heap.size,[aa ab t.kind,aa ab t.num,ac t.name,.slice B t.args.length cb])]):=zq (by rw [l.out,v.out];exact Q.out.new [aa ab r.t.kind,aa ab r.t.num,ac r.t.name,.slice A r.t.args.length i,.slice E r.names.length H,.slice F r.singles.length I,aa ab r.end_] 33 rfl)
 have j:=bz L s
 have a1:=zq ((T.out.keep s).mono s.size)
 go_upto_region 2 with fail
 rw [<-l.out,<-v.out]
 clear s L Q T l v
 have n:=x.out.all
 simp only [aH,aP,ah,af,and_true] at n
 by_cases k:r.err=0
 rotate_left
 ·have m:(r.err==0)=false:=by simpa using k
  have c:Hid (f=false):=zq (by rw [d.out,m];rfl)
  clear k d
  go_wp2_with fail
  go_ret
  exact ⟨by rw [c.out];rfl,j.out⟩
 have m:(r.err==0)=true:=by simpa using k
 by_cases o:r.where_=0
 rotate_left
 ·have G:(r.where_==0)=false:=by simpa using o
  have c:Hid (f=false):=zq (by rw [d.out,m,G];rfl)
  clear k o d
  go_wp2_with fail
  go_ret
  exact ⟨by rw [c.out];rfl,j.out⟩
 have G:(r.where_==0)=true:=by simpa using o
 have N:Hid (f=(jZ r.t t&&r.end_==(b.size:Int))):=zq (by rw [d.out,m,G];rfl)
 have R:=zq (D.out w3 A i j.out a1.out)
 clear k o d D
 generalize jZ r.t t=bs at *
 go_wp2_with fail
 refine R.out.mono ?_;rintro e w4 ⟨rfl,a⟩
 have M:=bz j a
 have a0:=zq (x.out.call a)
 clear a j x n R
 have n:=a0.out.all
 simp only [aH,aP,ah,af,and_true] at n
 cases bs
 ·have c:Hid (f=false):=N
  go_wp2_with fail
  go_ret
  exact ⟨by rw [c.out];rfl,M.out⟩
 have c:Hid (f=(r.end_==(b.size:Int))):=N
 go_wp2_with fail
 go_ret
 exact ⟨by rw [c.out];rfl,M.out⟩
theorem vR (b:ByteArray) (k:Int) (w:au) (S:b.size<=bF):aU am 28 #[ac b,aa ab k] w fun e w'=>e=aD (av (lM b.data.toList k))/\aB w.heap.size w w':=by
 have y:=zq (px b.data.toList 0 syD)
 obtain ⟨r,B⟩:=lz (eD b.data.toList 0 syD)
 obtain ⟨n,C⟩:=lz (lM b.data.toList k)
 have c:Hid (n=(r.err==7&&(r.where_==k&&kB r (gx 0 0)))):=zq (by rw [C.out,B.out];rfl)
 rw [<-C.out]
 have K:=zq (fun W=>sx W)
 have D:=zq (fun g u W (h:Tab W (some ⟨g,0,none⟩) 41 u defL)=>mF b 0 S g u W h)
 rw [<-B.out] at D y
 clear S B C
 go_enter Tryz.func28,Tryz.ntmps28
 go_wp2_with fail
 refine (K.out _).mono ?_;rintro e X ⟨g,u,rfl,a,R⟩
 have G:=zq a
 have M:=zq R
 clear a R K
 go_wp2_with fail
 refine (D.out g u _ M.out).mono ?_;rintro e i ⟨A,q,m,v,o,x,rfl,a,O,P,Q⟩
 have L:=zq (ROk.at a O P Q)
 have H:=bz G a
 clear a O P Q G D M
 obtain ⟨w3,l⟩:=lz (i.alloc (.cells #[aa ab r.t.kind,aa ab r.t.num,ac r.t.name,.slice A r.t.args.length q,.slice m r.names.length v,.slice o r.singles.length x,aa ab r.end_] 33))
 obtain ⟨V,z⟩:=lz (i.heap.size)
 have F:aB i.heap.size i w3:=by rw [l.out];exact (ap _ _).alloc (ae _) _
 have I:Hid (Bks w3 [(V,[aa ab r.t.kind,aa ab r.t.num,ac r.t.name,.slice A r.t.args.length q,.slice m r.names.length v,.slice o r.singles.length x,aa ab r.end_])]):=zq (by rw [l.out,z.out];exact (Bks.nil i).new [aa ab r.t.kind,aa ab r.t.num,ac r.t.name,.slice A r.t.args.length q,.slice m r.names.length v,.slice o r.singles.length x,aa ab r.end_] 33 rfl)
 have j:=bz H F
 have J:=zq (pB r (gx 0 0) A m o none none none q v x 0 0 0 w3 (L.out.below F) (zz w3) y.out.1 y.out.2)
 go_upto_region 2 with fail
 rw [<-l.out,<-z.out]
 clear F H L l z
 have N:=I.out.all
 simp only [aH,aP,ah,af,and_true] at N
 by_cases f:r.err=7
 rotate_left
 ·have p:(r.err==7)=false:=by simpa using f
  have d:Hid (n=false):=zq (by rw [c.out,p];rfl)
  clear f c
  go_wp2_with fail
  go_ret
  exact ⟨by rw [d.out];rfl,j.out⟩
 have p:(r.err==7)=true:=by simpa using f
 by_cases s:r.where_=k
 rotate_left
 ·have E:(r.where_==k)=false:=by simpa using s
  have d:Hid (n=false):=zq (by rw [c.out,p,E];rfl)
  clear f s c
  go_wp2_with fail
  go_ret
  exact ⟨by rw [d.out];rfl,j.out⟩
 have E:(r.where_==k)=true:=by simpa using s
 have d:Hid (n=kB r (gx 0 0)):=zq (by rw [c.out,p,E];rfl)
 clear f s c
 generalize kB r (gx 0 0)=U at *
 go_wp2_with fail
 refine J.out.mono ?_;rintro e Y ⟨rfl,a⟩
 have T:=bz j a
 clear a j I N J
 cases U
 all_goals
  go_wp2_with fail
  go_ret
  exact ⟨by rw [d.out];rfl,T.out⟩
end Go.Proofs.YtbojljpldcijgaaGreat
namespace Hb
open Go Go.RowKit
def mw (L:List UInt8) (s:Sy):Nat->Int->List RdR->List RdR×Int×Int
 | 0,_,_=>([],0,99)
 | f+1,a,acc=>if (eD L a s).err=14 then (acc,0,0) else if ¬(eD L a s).err=0 then ([],(eD L a s).where_,(eD L a s).err) else mw L s f (eD L a s).end_ (acc++[eD L a s])
def qf (L:List UInt8) (s:Sy):List RdR×Int×Int:=mw L s (L.length+1) 0 []
theorem nS {L:List UInt8} {a:Nat} {s:Sy} (h:(eD L a s).err=0):∃e:Nat,(eD L a s).end_=e/\a<e/\e<=L.length/\L.length<=16384:=by
 have b:gA L a s=false:=by
  cases b:gA L a s
  ·rfl
  ·exfalso
   unfold eD at h
   rw [b,if_pos rfl] at h
   exact absurd h (by show ¬(1:Int)=0;decide)
 obtain ⟨c,f,g,_⟩:=oh b
 obtain ⟨_,i,_,_,d,_⟩:=zX L a s (by omega) c
 have j:=(d h).2
 exact ⟨(eD L a s).end_.toNat,by omega,by omega,by omega,c⟩
structure RW where
 r:RdR
 A:Option Addr
 cap:Nat
 NA:Option Addr
 nc:Nat
 SA:Option Addr
 sn:Nat
def tZ (x:RW):List aC:=[aa ab x.r.t.kind,aa ab x.r.t.num,ac x.r.t.name,.slice x.A x.r.t.args.length x.cap,.slice x.NA x.r.names.length x.nc,.slice x.SA x.r.singles.length x.sn,aa ab x.r.end_]
def py (l:List RW):List aC:=l.flatMap tZ
structure RdK (K:Nat->Prop) (w:au) (x:RW):Prop where
 t:TmsK K w x.A x.r.t.args
 n:NmAt K w x.NA x.r.names
 s:NmAt K w x.SA x.r.singles
theorem RdK.keep {K K':Nat->Prop} {w w':au} {x:RW} (h:RdK K w x) (a:∀b,K b->w'.heap[b]? = w.heap[b]?) (c:∀b,K b->K' b):RdK K' w' x:=⟨h.t.keep a c,h.n.keep a c,h.s.keep a c⟩
structure OwnRd (base:Nat) (ty:cH) (w:au) (v:aC) (rs:List RW):Prop where
 own:w.ownsRow base ty 7 v rs.length (py rs)
 sub:∀x∈rs,RdK (fun b=>base<=b/\b<w.heap.size/\v.ownBlock≠some b) w x
theorem OwnRd.nul (a c:Nat) (w:au):OwnRd a c w (.slice none 0 0) []:=⟨World.ownsRow_nil _ _ _ _,fun r b=>absurd b (by simp)⟩
theorem OwnRd.mono {a c:Nat} {f:cH} {w:au} {v:aC} {rs:List RW} (d:c<=a) (h:OwnRd a f w v rs):OwnRd c f w v rs where
 own:=by
  refine ⟨h.own.1,?_⟩
  rcases h.own.2 with l | ⟨g,i,j,m,k,o⟩
  ·exact .inl l
  ·exact .inr ⟨g,i,j,m,aQ d k,o⟩
 sub:=fun x n=>(h.sub x n).keep (fun _ _=>rfl) fun b e=>⟨aQ d e.1,e.2⟩
theorem OwnRd.call {d:Nat} {f:cH} {w w':au} {v:aC} {rs:List RW} (h:OwnRd d f w v rs) (c:aB w.heap.size w w'):OwnRd d f w' v rs where
 own:=by
  refine ⟨h.own.1,?_⟩
  rcases h.own.2 with l | ⟨g,i,j,m,k,e,o⟩
  ·exact .inl l
  ·exact .inr ⟨g,i,j,m,k,(c.block g (aS.1 e).1).trans e,o⟩
 sub:=fun x n=>(h.sub x n).keep (fun b a=>c.block b a.2.1) fun b a=>⟨a.1,aA a.2.1 c.size,a.2.2⟩
theorem OwnRd.snoc {c:Nat} {i:cH} {W j:au} {v f:aC} {rs:List RW} (h:OwnRd c i W v rs) (x:RW) (o:RdK (fun b=>c<=b/\b<W.heap.size/\v.ownBlock≠some b) W x)
  (n:j.ownsRow c i 7 f (rs.length+1) (py rs++tZ x)) (k:W.grownBy j v.ownBlock) (l:f.ownBlock=v.ownBlock\/f.ownBlock=some W.heap.size):OwnRd c i j f (rs++[x]) where
 own:=by
  have e:py (rs++[x])=py rs++tZ x:=by unfold py;simp
  rw [e,bC];exact n
 sub:=fun y d=>by
  have m:RdK (fun b=>c<=b/\b<W.heap.size/\v.ownBlock≠some b) W y:=by
   rcases di.1 d with d | d
   ·exact h.sub y d
   ·rw [aK.1 d];exact o
  refine m.keep (fun b a=>k.block b a.2.1 (fun e=>a.2.2 e.symm)) fun b a=>⟨a.1,aA a.2.1 k.size,fun e=>?_⟩
  rcases l with g | g
  ·exact a.2.2 (g ▸ e)
  ·rw [g] at e
   injection e with e
   have:=a.2.1
   omega
theorem sV:∀(l:List RW) (j:Nat) (h:j<l.length) (i:Nat) (v:aC),(tZ l[j])[i]? = some v->(py l)[j * 7+i]? = some v
 | x::l,0,_,i,v,a=>by
  have e:py (x::l)=tZ x++py l:=rfl
  have a:(tZ x)[i]? = some v:=a
  have b:=(cO.1 a).1
  rw [e,Nat.zero_mul,ah,dT b];exact a
 | x::l,j+1,h,i,v,a=>by
  have e:py (x::l)=tZ x++py l:=rfl
  have b:(tZ x).length=7:=rfl
  rw [e,List.getElem?_append_right (by omega),b,show (j+1) * 7+i-7=j * 7+i by omega]
  exact sV l j (by simpa using h) i v a
theorem OwnRd.val {c:Nat} {m:cH} {w:au} {v:aC} {rs:List RW} (h:OwnRd c m w v rs):∃A cap,v=.slice A rs.length cap/\rs.length<=bF/\∀j (a:j<rs.length),∃g,A=some ⟨g,0,none⟩/\c<=g/\g<w.heap.size/\∀i u,(tZ rs[j])[i]? = some u->w.cell? ⟨g,j * 7+i,none⟩=some u:=by
 rcases h.own.2 with ⟨b,e⟩ | ⟨g,d,n,b,f,k,p,o,q⟩
 ·have:rs=[]:=cU e
  subst this
  exact ⟨none,0,b,by decide,fun j a=>absurd a (by simp)⟩
 ·refine ⟨some ⟨g,0,none⟩,d,b,by omega,fun j a=>⟨g,rfl,f,(aS.1 k).1,fun i u l=>?_⟩⟩
  have:=h.own.cells (g:=g) (by rw [b];rfl) _ _ (sV rs j a i u l)
  rw [eO,ah] at this
  exact this
end Hb
namespace Go.Proofs.YtbojljpldcijgaaGreat
open Go.RowKit Hb
theorem yV:(Tryz.prog.info? 33).map (fun i=>(i.zero,i.size,i.bytes))=some (some (aV #[aa ab 0,aa ab 0,ac ⟨#[]⟩,.slice none 0 0,.slice none 0 0,.slice none 0 0,aa ab 0]),7,112):=by kernel_rfl
theorem my {w W:au} {n:Array Oper} {p:List Oper} {o:Oper} {a:Act} {Q:Exit->Act->au->Prop} (z:o.guard=none) (s x:Operand)
  (B:o.op=.call { callee:=.builtin .append,args:=#[s,x],argTypes:=#[49,49] }) (c:Nat) (v:aC) (rs:List RW) (E:a.eval s=v) (q:OwnRd c 33 W v rs) (K:c<=W.heap.size)
  (r:RW) (D:RdK (fun b=>c<=b/\b<W.heap.size/\v.ownBlock≠some b) W r) (k:Array aC) (u:k=(tZ r).toArray) (F:w=W.alloc (.cells k 33)) (G:a.eval x=.slice (some ⟨W.heap.size,0,none⟩) 1 1) (L:rs.length<=100000)
  (h:∀f w',Hid (OwnRd c 33 w' f (rs++[r]))->Hid (w.grownBy w' v.ownBlock)->cq am n Q p (a.put o.dst f) w'):cq am n Q (o::p) a w:=by
 obtain ⟨i,A,H,I,J⟩:=info_parts yV
 subst F u
 have g:aB W.heap.size W (W.alloc (.cells (tZ r).toArray 33)):=(ap _ _).alloc (ae _) _
 have l:=q.call g
 refine eP _ z s x 49 B c 33 i _ 7 112 Tryz.underlying49 A H I J rfl (by decide) v rs.length (py rs) E l.own ⟨W.heap.size,0,none⟩ 1 1 (tZ r) G rfl ?_ (by
   intro y e
   simp only [tZ,bh,be,or_false] at e
   rcases e with rfl|rfl|rfl|rfl|rfl|rfl|rfl <;> rfl) (by unfold bF;omega) (by omega) (by simp;omega) ?_
 ·intro j y e
  rw [eO]
  have:=aF W (tZ r).toArray 33 j
  rw [show 0+j=j by omega,this]
  simpa using e
 ·intro f w' C m _ t
  refine h f w' (zq (l.snoc r ?_ C m t)) (zq m)
  exact D.keep (fun b d=>g.block b d.2.1) fun b d=>⟨d.1,aA d.2.1 g.size,d.2.2⟩
end Go.Proofs.YtbojljpldcijgaaGreat
namespace Hb
open Go Go.RowKit
structure QC where
 B0:Nat
 B1:Nat
 lo:Nat
 P:Nat
 g:Nat
 tc:Nat
 OA:Option Addr
 on:Nat
 oc:Nat
 E:RE
abbrev VV:=Value×Value
def Ab (z:VV) (b:Nat):Prop:=z.1.ownBlock=some b\/z.2.ownBlock=some b
def ec (v:VS):List aC:=v.m.map fun p=>aa ab ((v.o.count p.2:Nat):Int)
def QC.cells (c:QC) (n:Nat) (wr:Bool) (v:VS) (z:VV):List aC:=[.slice (some ⟨c.g,0,none⟩) c.E.T.length c.tc,aa ab (n:Int),av wr,.slice c.OA c.on c.oc,aa ab c.E.q,aa ab (v.c:Int),z.1,z.2]
structure QC.Ok (c:QC):Prop where
 b01:c.B0<=c.B1
 p1:c.B1<=c.P/\c.P<c.lo
 gl:c.g<c.B1
 len:c.E.T.length<=20000
 pos:0<c.E.T.length
 tcap:c.E.T.length<=c.tc
 opl:c.on=c.E.P.length
 few:c.on<=100
 nil:c.on=0->(Value.slice c.OA c.on c.oc=.slice none 0 0\/∃ad,c.OA=some ad)
 ob:0<c.E.P.length->∀b off,c.OA=some ⟨b,off,none⟩->b<c.B1
 endk:(c.E.at (c.E.T.length-1)).r.kind=7
 txt:∀t∈c.E.T,t.r.text.length<=20000 /\ -9223372036854775808<=t.r.n/\t.r.n<=9223372036854775807
 nms:∀t∈c.E.T,fa t=true->t.r.text.length<=100
def QC.mine (c:QC) (a:VV) (b:Nat):Prop:=b=c.P\/Ab a b
end Hb
namespace Go.Proofs.YtbojljpldcijgaaGreat
open Go.RowKit Hb
structure PsQ (c:QC) (n:Nat) (wr:Bool) (v:VS) (nv:VV) (w:au):Prop where
 ok:c.Ok
 low:c.lo<=w.heap.size
 bk:Bk w c.P (c.cells n wr v nv)
 tk:oJ w c.g c.E.T
 ops:OpsAt w c.OA c.E.P
 nm:w.ownsRow c.lo 44 2 nv.1 v.m.length (eE v.m)
 om:w.ownsRow c.lo 3 1 nv.2 v.m.length (ec v)
 n1:n<c.E.T.length
 vn:v.o.length<=n
 vc:v.Ok
theorem PsQ.own {c:QC} {n:Nat} {wr:Bool} {v:VS} {a:VV} {w:au} (p:PsQ c n wr v a w) {b:Nat} (h:Ab a b):c.lo<=b/\b<w.heap.size:=by
 rcases h with h | h
 ·exact p.nm.lt b h
 ·exact p.om.lt b h
structure StQ (c:QC) (nv:VV) (w:au) (nv':VV) (w':au):Prop where
 os:w'.os=w.os
 tape:w'.tape=w.tape
 output:w'.output=w.output
 size:w.heap.size<=w'.heap.size
 block:∀b,b<w.heap.size->¬c.mine nv b->w'.heap[b]? = w.heap[b]?
 own:∀b,Ab nv' b->Ab nv b\/w.heap.size<=b
theorem StQ.trans {c:QC} {i j l:VV} {a b d:au} (h:StQ c i a j b) (k:StQ c j b l d):StQ c i a l d where
 os:=k.os.trans h.os
 tape:=k.tape.trans h.tape
 output:=k.output.trans h.output
 size:=aQ h.size k.size
 block:=fun x f g=>(k.block x (aA f h.size) (fun e=>g (by
  rcases e with e | e
  ·exact .inl e
  ·rcases h.own x e with e | e
   ·exact .inr e
   ·omega))).trans (h.block x f g)
 own:=fun x f=>by
  rcases k.own x f with e | e
  ·exact h.own x e
  ·exact .inr (aQ h.size e)
theorem StQ.of {c:QC} {d:VV} {a b:au} (h:aB a.heap.size a b):StQ c d a d b:=⟨h.os,h.tape,h.output,h.size,fun k e _=>h.block k e,fun _ h=>.inl h⟩
theorem StQ.refl (c:QC) (a:VV) (w:au):StQ c a w a w:=.of (ap _ _)
theorem StQ.low {c:QC} {n:Nat} {wr:Bool} {v:VS} {a b:VV} {w w':au} (h:StQ c a w b w') (p:PsQ c n wr v a w):aB c.B1 w w':=⟨h.os,h.tape,h.output,h.size,fun k f=>h.block k (by have:=p.low;have:=p.ok.p1;omega) (fun e=>by
 have d:=p.ok.p1
 rcases e with e | e
 ·omega
 ·have:=(p.own e).1;omega)⟩
theorem PsQ.lts {c:QC} {n:Nat} {wr:Bool} {v:VS} {a:VV} {w:au} (p:PsQ c n wr v a w) {b:Nat} (h:c.mine a b):b<w.heap.size:=by
 have d:=p.ok.p1;have:=p.low
 rcases h with e | e
 ·omega
 ·exact (p.own e).2
theorem PsQ.keep {c:QC} {n:Nat} {wr:Bool} {v:VS} {f:VV} {w w':au} (p:PsQ c n wr v f w) (h:w.heap.size<=w'.heap.size) (d:∀b,c.mine f b->w'.heap[b]? = w.heap[b]?) (g:∀b,b<c.B1->w'.heap[b]? = w.heap[b]?):PsQ c n wr v f w' :=
 ⟨p.ok,aQ p.low h,p.bk.keeps (d _ (.inl rfl)),fN p.tk (g _ p.ok.gl),ii p.ops h (fun i b j e=>g b (p.ok.ob i b j e)),dJ p.nm (fun b a=>d b (.inr (.inl a))),dJ p.om (fun b a=>d b (.inr (.inr a))),p.n1,p.vn,p.vc⟩
theorem PsQ.call {c:QC} {n:Nat} {wr:Bool} {v:VS} {d:VV} {w w':au} (p:PsQ c n wr v d w) (h:aB w.heap.size w w'):PsQ c n wr v d w' :=
 p.keep h.size (fun b a=>h.block b (p.lts a)) (fun b a=>h.block b (by have:=p.low;have:=p.ok.p1;omega))
theorem PsQ.box {c:QC} {n h:Nat} {wr l:Bool} {v a:VS} {k i:VV} {w w':au} (p:PsQ c n wr v k w) (j:w.heap.size<=w'.heap.size) (g:∀b,b≠c.P->w'.heap[b]? = w.heap[b]?) (d:Bk w' c.P (c.cells h l a i)) (f:a.m=v.m/\a.o=v.o) (u:i=k) (r:h<c.E.T.length) (t:v.o.length<=h) (s:a.Ok):PsQ c h l a i w':=by
 have y:=p.ok.p1
 subst u
 have e:ec a=ec v:=by unfold ec;rw [f.1,f.2]
 refine ⟨p.ok,aQ p.low j,d,fN p.tk (g _ (by have:=p.ok.gl;omega)),ii p.ops j (fun q b x e=>g b (by have:=p.ok.ob q b x e;omega)),?_,?_,r,by rw [f.2];exact t,s⟩
 ·rw [f.1];exact dJ p.nm (fun b d=>g b (by have:=(p.nm.lt b d).1;omega))
 ·rw [f.1,e];exact dJ p.om (fun b d=>g b (by have:=(p.om.lt b d).1;omega))
theorem PsQ.next {c:QC} {n:Nat} {wr:Bool} {v:VS} {a:VV} {w:au} (p:PsQ c n wr v a w) (k:Nat) (e:n<=k) (f:k<c.E.T.length):PsQ c k wr v a (w.setCell ⟨c.P,1,none⟩ (aa ab (k:Int))) :=
 p.box (by simp) (fun b d=>aW _ _ _ _ d) (p.bk.set 1 _) ⟨rfl,rfl⟩ rfl f (aQ p.vn e) p.vc
theorem PsQ.bad {c:QC} {n:Nat} {wr:Bool} {v:VS} {a:VV} {w:au} (p:PsQ c n wr v a w):PsQ c n true v a (w.setCell ⟨c.P,2,none⟩ (av true)) :=
 p.box (by simp) (fun b d=>aW _ _ _ _ d) (p.bk.set 2 _) ⟨rfl,rfl⟩ rfl p.n1 p.vn p.vc
theorem StQ.put {c:QC} {d f:VV} {w w':au} (h:StQ c d w f w') (i:Nat) (u:aC):StQ c d w f (w'.setCell ⟨c.P,i,none⟩ u) where
 os:=h.os
 tape:=h.tape
 output:=h.output
 size:=by simpa using h.size
 block:=fun b g a=>(aW _ _ _ _ (fun e=>a (.inl e))).trans (h.block b g a)
 own:=h.own
structure Wq (c:QC) (n:Nat) (wr:Bool) (v:VS) (nv0:VV) (w0:au) (nv:VV) (w:au) (L:List (Nat×List aC)):Prop where
 p:PsQ c n wr v nv w
 s:StQ c nv0 w0 nv w
 low:aB c.B1 w0 w
 b:Bks w (L++[(c.P,c.cells n wr v nv)])
 off:∀x∈L,¬c.mine nv x.1
 start0:c.B1<=w0.heap.size
theorem Wq.start {c:QC} {n:Nat} {wr:Bool} {v:VS} {b:VV} {w:au} (p:PsQ c n wr v b w):Wq c n wr v b w b w [] :=
 ⟨p,.refl _ _ _,.refl _ _,⟨fun x a=>by rw [ai,aK] at a;subst a;exact p.bk,List.pairwise_singleton _ _⟩,fun x a=>(by cases a),by have:=p.low;have:=p.ok.p1;omega⟩
theorem Wq.call {c:QC} {n:Nat} {wr:Bool} {v:VS} {e d:VV} {w0 w w':au} {L:List (Nat×List aC)} (h:Wq c n wr v e w0 d w L) (a:aB w.heap.size w w'):Wq c n wr v e w0 d w' L :=
 ⟨h.p.call a,h.s.trans (.of a),h.low.trans (a.mono (by have:=h.p.low;have:=h.p.ok.p1;omega)),h.b.call a,h.off,h.start0⟩
theorem Wq.new {c:QC} {n:Nat} {wr:Bool} {v:VS} {j i:VV} {w0 w:au} {L:List (Nat×List aC)} (h:Wq c n wr v j w0 i w L) (vs:List aC) (e:cH) {g:Nat} (f:w.heap.size=g):Wq c n wr v j w0 i (w.alloc (.cells vs.toArray e)) ((g,vs)::L):=by
 have a:=h.call ((ap w.heap.size w).alloc (ae _) (.cells vs.toArray e))
 refine ⟨a.p,a.s,a.low,h.b.new vs e f,fun x d=>?_,h.start0⟩
 rcases bh.1 d with rfl | d
 ·intro k
  have:=h.p.lts k
  have:w.heap.size=g:=f
  simp only at *
  omega
 ·exact h.off x d
theorem Wq.turn {c:QC} {n f:Nat} {wr j:Bool} {v i:VS} {d g:VV} {w w':au} {L:List (Nat×List aC)} (h:Bks w (L++[(c.P,c.cells n wr v d)])) (l:∀x∈L,¬c.mine d x.1) (p:PsQ c f j i g w') (k:∀b,b<w.heap.size->¬c.mine d b->w'.heap[b]? = w.heap[b]?):Bks w' (L++[(c.P,c.cells f j i g)]):=by
 refine ⟨fun x a=>?_,?_⟩
 ·rcases di.1 a with a | a
  ·have e:=h.bk x (dt _ a)
   exact e.keeps (k _ e.lt (l x a))
  ·rw [aK] at a;subst a;exact p.bk
 ·have:=h.ord
  rw [List.map_append] at this |-
  exact this
theorem Wq.step {c:QC} {n f:Nat} {wr k:Bool} {v j:VS} {i g a:VV} {w0 w w':au} {L:List (Nat×List aC)} (h:Wq c n wr v i w0 g w L) (p:PsQ c f k j a w') (s:StQ c g w a w'):Wq c f k j i w0 a w' L :=
 ⟨p,h.s.trans s,h.low.trans (s.low h.p),Wq.turn h.b h.off p s.block,fun x d l=>h.off x d (by
  rcases l with e | e
  ·exact .inl e
  ·rcases s.own x.1 e with e | e
   ·exact .inr e
   ·have:=(h.b.bk x (dt _ d)).lt;omega),h.start0⟩
theorem Wq.next {c:QC} {n:Nat} {wr:Bool} {v:VS} {b a:VV} {w0 w:au} {L:List (Nat×List aC)} (h:Wq c n wr v b w0 a w L) (k:Nat) (d:n<=k) (e:k<c.E.T.length):Wq c k wr v b w0 a (w.setCell ⟨c.P,1,none⟩ (aa ab (k:Int))) L :=
 h.step (h.p.next k d e) ((StQ.refl c a w).put 1 _)
theorem Wq.bad {c:QC} {n:Nat} {wr:Bool} {v:VS} {b a:VV} {w0 w:au} {L:List (Nat×List aC)} (h:Wq c n wr v b w0 a w L):Wq c n true v b w0 a (w.setCell ⟨c.P,2,none⟩ (av true)) L :=
 h.step h.p.bad ((StQ.refl c a w).put 2 _)
theorem Wq.put {c:QC} {n:Nat} {wr:Bool} {v:VS} {m a:VV} {w0 w:au} {L:List (Nat×List aC)} (h:Wq c n wr v m w0 a w L) (j i:Nat) {g:Nat} {vs:List aC} (d:L[j]? = some (g,vs)) (u:aC) (A:w0.heap.size<=g):Wq c n wr v m w0 a (w.setCell ⟨g,i,none⟩ u) (L.set j (g,vs.set i u)):=by
 have k:=List.mem_of_getElem? d
 have q:¬c.mine a g:=h.off _ k
 have t:∀b,c.mine a b->(w.setCell ⟨g,i,none⟩ u).heap[b]? = w.heap[b]?:=fun b f=>aW _ _ _ _ (fun e=>q (by have o:b=g:=e;rw [<-o];exact f))
 have r:c.B1<=g:=aQ h.start0 A
 have z:PsQ c n wr v a (w.setCell ⟨g,i,none⟩ u):=h.p.keep (by simp) t (fun b f=>aW _ _ _ _ (show b≠g by omega))
 refine ⟨z,⟨h.s.os,h.s.tape,h.s.output,by simpa using h.s.size,fun b f k=>(aW _ _ _ _ (show b≠g by omega)).trans (h.s.block b f k),h.s.own⟩,h.low.setCell (p:=⟨g,i,none⟩) r u,?_,fun x B=>?_,h.start0⟩
 ·have:=h.b.set (l:=L++[(c.P,c.cells n wr v a)]) j i (g:=g) (vs:=vs) (by rw [dT (cO.1 d).1];exact d) u
  rwa [List.set_append_left _ _ (cO.1 d).1] at this
 ·obtain ⟨y,C,e⟩:=oT (vs.set i u) d x B
  rw [<-e];exact h.off y C
theorem PsQ.more {c:QC} {n:Nat} {wr:Bool} {v:VS} {b:VV} {w:au} (p:PsQ c n wr v b w) (h:¬(c.E.at n).r.kind=7):n+1<c.E.T.length:=by
 have:=p.n1
 rcases Nat.lt_or_ge (n+1) c.E.T.length with a | a
 ·exact a
 ·exact absurd (by have:=p.ok.endk;rwa [show c.E.T.length-1=n by omega] at this) h
theorem Wq.inc {c:QC} {n:Nat} {wr:Bool} {v:VS} {b a:VV} {w0 w:au} {L:List (Nat×List aC)} (h:Wq c n wr v b w0 a w L) (d:n+1<c.E.T.length):Wq c (n+1) wr v b w0 a (w.setCell ⟨c.P,1,none⟩ (aa ab ((n:Int)+1))) L:=h.next (n+1) (bm n) d
theorem Wq.put4 {c:QC} {n:Nat} {wr:Bool} {v:VS} {m l:VV} {w0 w:au} {L:List (Nat×List aC)} (h:Wq c n wr v m w0 l w L) (j:Nat) {g:Nat} {u0 u1 u2 u3:aC} (k:L[j]? = some (g,[u0,u1,u2,u3])) (a b e i:aC) (d:w0.heap.size<=g) :
  Wq c n wr v m w0 l ((((w.setCell ⟨g,0,none⟩ a).setCell ⟨g,1,none⟩ b).setCell ⟨g,2,none⟩ e).setCell ⟨g,3,none⟩ i) (L.set j (g,[a,b,e,i])):=by
 have f:j<L.length:=(cO.1 k).1
 have o:=h.put j 0 k a d
 have p:=o.put j 1 (g:=g) (vs:=[a,u1,u2,u3]) (by rw [dR];simp [f]) b d
 have q:=p.put j 2 (g:=g) (vs:=[a,b,u2,u3]) (by rw [dR];simp [f]) e d
 have r:=q.put j 3 (g:=g) (vs:=[a,b,e,u3]) (by rw [dR];simp [f]) i d
 simpa using r
theorem Wq.tl {c:QC} {n:Nat} {wr:Bool} {v:VS} {d a:VV} {w0 w:au} {x:Nat×List aC} {L:List (Nat×List aC)} (h:Wq c n wr v d w0 a w (x::L)):Wq c n wr v d w0 a w L:=⟨h.p,h.s,h.low,h.b.tl,fun y e=>h.off y (List.mem_cons_of_mem _ e),h.start0⟩
def _root_.Hb.QC.new (c:QC) (a:VV) (w0 w:au) (b:Nat):Prop:=w0.heap.size<=b/\b<w.heap.size/\¬c.mine a b
theorem pH {c:QC} {a d:VV} {w0 w w':au} (s:StQ c a w d w') {b:Nat} (h:c.new a w0 w b):c.new d w0 w' b:=⟨h.1,aA h.2.1 s.size,fun e=>h.2.2 (by
 rcases e with e | e
 ·exact .inl e
 ·rcases s.own b e with e | e
  ·exact .inr e
  ·have:=h.2.1;omega)⟩
def Trq (c:QC) (a:VV) (w0 w:au) (F:List Nat) (A:Option Addr) (l:List Tm):Prop:=TmsK (fun b=>c.new a w0 w b/\b ∉ F) w A l
theorem Trq.step {c:QC} {d e:VV} {w0 w w':au} {F:List Nat} {A:Option Addr} {l:List Tm} (h:Trq c d w0 w F A l) (s:StQ c d w e w'):Trq c e w0 w' F A l:=h.keep (fun b a=>s.block b a.1.2.1 a.1.2.2) fun _ a=>⟨pH s a.1,a.2⟩
theorem Trq.call {c:QC} {a:VV} {w0 w w':au} {F:List Nat} {A:Option Addr} {l:List Tm} (h:Trq c a w0 w F A l) (b:aB w.heap.size w w'):Trq c a w0 w' F A l:=h.step (.of b)
end Go.Proofs.YtbojljpldcijgaaGreat
namespace Go.Proofs.YtbojljpldcijgaaGreat
open Go.RowKit Hb
theorem Trq.new {c:QC} {d:VV} {w0 w:au} {F:List Nat} {A:Option Addr} {l:List Tm} (h:Trq c d w0 w F A l) (o:Obj) {g:Nat} (f:w.heap.size=g):Trq c d w0 (w.alloc o) (g::F) A l :=
 TmsK.keep h (fun b a=>((ap w.heap.size w).alloc (ae _) o).block b a.1.2.1) fun b a=>⟨⟨a.1.1,aA a.1.2.1 (by simp),a.1.2.2⟩,fun e=>by
  rcases bh.1 e with e | e
  ·have:=a.1.2.1;omega
  ·exact a.2 e⟩
theorem Trq.put {c:QC} {d:VV} {w0 w w':au} {F:List Nat} {A:Option Addr} {l:List Tm} (h:Trq c d w0 w F A l) {g:Nat} (i:g∈F) (f:∀k,k≠g->w'.heap[k]? = w.heap[k]?) (j:w.heap.size<=w'.heap.size):Trq c d w0 w' F A l :=
 TmsK.keep h (fun b a=>f b (fun e=>a.2 (e ▸ i))) fun _ a=>⟨⟨a.1.1,aA a.1.2.1 j,a.1.2.2⟩,a.2⟩
theorem Trq.fewer {c:QC} {d:VV} {w0 w:au} {F F':List Nat} {A:Option Addr} {l:List Tm} (h:Trq c d w0 w F A l) (f:∀b∈F',b∈F):Trq c d w0 w F' A l:=TmsK.keep h (fun _ _=>rfl) fun b a=>⟨a.1,fun e=>a.2 (f b e)⟩
theorem Trq.sub {c:QC} {f:VV} {w0 d w:au} {F:List Nat} {A:Option Addr} {l:List Tm} (h:TmsK (c.new f d w) w A l) (i:w0.heap.size<=d.heap.size) (g:∀b∈F,b<d.heap.size):Trq c f w0 w F A l :=
 TmsK.keep h (fun _ _=>rfl) fun b a=>⟨⟨aQ i a.1,a.2⟩,fun e=>by have:=g b e;have:=a.1;omega⟩
theorem Trq.out {c:QC} {a:VV} {w0 w:au} {F:List Nat} {A:Option Addr} {l:List Tm} (h:Trq c a w0 w F A l):TmsK (c.new a w0 w) w A l:=TmsK.keep h (fun _ _=>rfl) fun _ b=>b.1
theorem Trq.row {c:QC} {n:Nat} {wr:Bool} {v:VS} {f:VV} {w0 w:au} {F:List Nat} (p:PsQ c n wr v f w) (i:w0.heap.size<=w.heap.size) (g:∀b∈F,b<w.heap.size) (e:cH) (rs:List TR) (d:rs.length<=bF) (h:∀r∈rs,Trq c f w0 w F r.2.1 r.1.args):Trq c f w0 (w.alloc (.cells (dM rs).toArray e)) F (some ⟨w.heap.size,0,none⟩) (rs.map (·.1)):=by
 refine mY (K':=fun b=>c.new f w0 w b/\b ∉ F) e rs d ⟨⟨i,by simp,fun d=>?_⟩,fun d=>?_⟩ (fun b a=>⟨⟨⟨a.1.1,aA a.1.2.1 (by simp),a.1.2.2⟩,a.2⟩,a.1.2.1⟩) h
 ·have:=p.lts d;omega
 ·have:=g _ d;omega
structure OwnQ (c:QC) (nv:VV) (w0 w:au) (F:List Nat) (v:aC) (rs:List TR):Prop where
 own:w.ownsRow w0.heap.size 30 4 v rs.length (dM rs)
 off:∀g,v.ownBlock=some g->¬c.mine nv g/\g ∉ F
 sub:∀r∈rs,TmsK (fun b=>(c.new nv w0 w b/\b ∉ F)/\v.ownBlock≠some b) w r.2.1 r.1.args
theorem OwnQ.step {c:QC} {f i:VV} {w0 w w':au} {F:List Nat} {v:aC} {rs:List TR} (h:OwnQ c f w0 w F v rs) (s:StQ c f w i w'):OwnQ c i w0 w' F v rs where
 own:=dJ h.own fun k e=>s.block k (h.own.lt k e).2 (h.off k e).1
 off:=fun g d=>⟨fun j=>(pH (w0:=w0) s ⟨(h.own.lt g d).1,(h.own.lt g d).2,(h.off g d).1⟩).2.2 j,(h.off g d).2⟩
 sub:=fun r l=>(h.sub r l).keep (fun b a=>s.block b a.1.1.2.1 a.1.1.2.2) fun _ a=>⟨⟨pH s a.1.1,a.1.2⟩,a.2⟩
theorem OwnQ.call {c:QC} {a:VV} {w0 w w':au} {F:List Nat} {v:aC} {rs:List TR} (h:OwnQ c a w0 w F v rs) (b:aB w.heap.size w w'):OwnQ c a w0 w' F v rs:=h.step (.of b)
theorem OwnQ.snoc {c:QC} {n:Nat} {wr:Bool} {u:VS} {i:VV} {w0 W m:au} {F:List Nat} {v k:aC} {rs:List TR} (h:OwnQ c i w0 W F v rs) (p:PsQ c n wr u i W) (y:∀b∈F,b<W.heap.size) (r:TR) (C:TmsK (fun b=>(c.new i w0 W b/\b ∉ F)/\v.ownBlock≠some b) W r.2.1 r.1.args)
  (B:m.ownsRow w0.heap.size 30 4 k (rs.length+1) (dM rs++fL r)) (s:W.grownBy m v.ownBlock) (q:k.ownBlock=v.ownBlock\/k.ownBlock=some W.heap.size):OwnQ c i w0 m F k (rs++[r]) where
 own:=by
  rw [nR,bC]
  have w:dM [r]=fL r:=by unfold dM;simp
  rw [w];exact B
 off:=fun g j=>by
  rcases q with d | d
  ·rw [d] at j;exact h.off g j
  ·rw [d] at j;injection j with j
   exact ⟨fun o=>by have:=p.lts o;omega,fun o=>by have:=y g o;omega⟩
 sub:=by
  have t:∀{A:Option Addr} {l:List Tm},TmsK (fun b=>(c.new i w0 W b/\b ∉ F)/\v.ownBlock≠some b) W A l->TmsK (fun b=>(c.new i w0 m b/\b ∉ F)/\k.ownBlock≠some b) m A l:=fun z=>by
   refine z.keep (fun b a=>s.block b a.1.1.2.1 (fun e=>a.2 e.symm)) (fun b a=>⟨⟨⟨a.1.1.1,aA a.1.1.2.1 s.size,a.1.1.2.2⟩,a.1.2⟩,fun e=>?_⟩)
   rcases q with d | d
   ·rw [d] at e;exact a.2 e
   ·rw [d] at e;injection e with e;have:=a.1.1.2.1;omega
  intro x f
  rcases di.1 f with f | f
  ·exact t (h.sub x f)
  ·rw [aK] at f;subst f;exact t C
theorem OwnQ.tms {c:QC} {l:VV} {w0 w:au} {F:List Nat} {v:aC} {rs:List TR} (h:OwnQ c l w0 w F v rs):∃A f,v=.slice A rs.length f/\Trq c l w0 w F A (rs.map (·.1)):=by
 have r:∀j (a:j<rs.length),TmsK (fun b=>c.new l w0 w b/\b ∉ F) w rs[j].2.1 rs[j].1.args:=fun j a=>(h.sub _ (bW a)).keep (fun _ _=>rfl) (fun b o=>o.1)
 rcases h.own.2 with ⟨d,n⟩ | ⟨g,f,B,d,p,q,D,C,E⟩
 ·have:rs=[]:=cU n
  subst this
  exact ⟨_,_,d,TmsK.nil⟩
 ·refine ⟨some ⟨g,0,none⟩,f,d,.mk _ _ (fun j=>(rs.getD j (sC,none,0)).2.1) (fun j=>(rs.getD j (sC,none,0)).2.2) (by rw [bZ];omega) (fun j a=>?_) (fun j a=>?_)⟩
  ·rw [bZ] at a
   obtain ⟨t,x,y,z⟩:=kM rs j a
   have e:∀k u,(dM rs)[k]? = some u->w.cell? ⟨g,0+k,none⟩=some u:=fun k u s=>by
    have:=h.own.cells (g:=g) (by rw [d];rfl) k u s
    rw [eO] at this
    exact this
   have i:rs.getD j (sC,none,0)=rs[j]:=by rw [bt,bi a];rfl
   have m:=h.off g (by rw [d];rfl)
   refine ⟨g,0,rfl,⟨⟨p,(aS.1 q).1,m.1⟩,m.2⟩,?_,?_,?_,?_⟩
   ·rw [bT];exact e _ _ t
   ·rw [bT];exact e _ _ x
   ·rw [bT];exact e _ _ y
   ·rw [bT];simp only [i];exact e _ _ z
  ·rw [bZ] at a
   have i:rs.getD j (sC,none,0)=rs[j]:=by rw [bt,bi a];rfl
   rw [bT];simp only [i]
   exact r j a
theorem nJ {w W:au} {t:Array Oper} {z:List Oper} {o:Oper} {a:Act} {Q:Exit->Act->au->Prop} (E:o.guard=none) (s x:Operand)
  (H:o.op=.call { callee:=.builtin .append,args:=#[s,x],argTypes:=#[28,28] }) (c:QC) (n:Nat) (wr:Bool) (u:VS) (g:VV) (w0:au) (F:List Nat) (v:aC) (rs:List TR) (K:a.eval s=v) (B:OwnQ c g w0 W F v rs) (p:PsQ c n wr u g W) (R:w0.heap.size<=W.heap.size) (A:∀b∈F,b<W.heap.size)
  (r:TR) (J:TmsK (fun b=>(c.new g w0 W b/\b ∉ F)/\v.ownBlock≠some b) W r.2.1 r.1.args) (l:Array aC) (D:l=(fL r).toArray) (L:w=W.alloc (.cells l 30)) (M:a.eval x=.slice (some ⟨W.heap.size,0,none⟩) 1 1) (S:rs.length<=100000)
  (h:∀k w',Hid (OwnQ c g w0 w' F k (rs++[r]))->Hid (w.grownBy w' v.ownBlock)->cq am t Q z (a.put o.dst k) w'):cq am t Q (o::z) a w:=by
 obtain ⟨i,G,N,O,P⟩:=info_parts nY
 subst L D
 have e:aB W.heap.size W (W.alloc (.cells (fL r).toArray 30)):=(ap _ _).alloc (ae _) _
 have m:=B.call e
 refine eP _ E s x 28 H w0.heap.size 30 i _ 4 56 Tryz.underlying28 G N O P rfl (by decide) v rs.length (dM rs) K m.own ⟨W.heap.size,0,none⟩ 1 1 (fL r) M rfl ?_ (by
   intro y f
   simp only [fL,bh,be,or_false] at f
   rcases f with rfl|rfl|rfl|rfl <;> rfl) (by unfold bF;omega) (by omega) (by simp;omega) ?_
 ·intro j y f
  rw [eO]
  have:=aF W (fL r).toArray 30 j
  rw [show 0+j=j by omega,this]
  simpa using f
 ·intro k w' I q _ C
  refine h k w' (zq (m.snoc (p.call e) (fun b d=>aA (A b d) e.size) r ?_ I q C)) (zq q)
  exact J.keep (fun b d=>e.block b d.1.1.2.1) fun b d=>⟨⟨⟨d.1.1.1,aA d.1.1.2.1 e.size,d.1.1.2.2⟩,d.1.2⟩,d.2⟩
theorem Wq.box {c:QC} {n:Nat} {wr:Bool} {v:VS} {i f:VV} {w0 w Y:au} {L:List (Nat×List aC)} (h:Wq c n wr v i w0 f w L) (j:aB w.heap.size w Y) {e:Nat} {vs:List aC} (k:w.heap.size<=e) (m:Bk Y e vs):Wq c n wr v i w0 f Y ((e,vs)::L):=by
 have d:=h.call j
 refine ⟨d.p,d.s,d.low,⟨fun x a=>?_,?_⟩,fun x a=>?_,h.start0⟩
 ·rcases bh.1 a with rfl | a
  ·exact m
  ·exact d.b.bk x a
 ·show (List.map (·.1) ((e,vs)::(L++[(c.P,c.cells n wr v f)]))).Pairwise (· > ·)
  rw [da,List.pairwise_cons]
  refine ⟨fun g l=>?_,h.b.ord⟩
  obtain ⟨x,a,rfl⟩:=List.mem_map.1 l
  have:=(h.b.bk x a).lt
  show x.1<e
  omega
 ·rcases bh.1 a with rfl | a
  ·intro o
   have:=h.p.lts o
   have q:w.heap.size<=e:=k
   exact absurd this (by show ¬e<w.heap.size;omega)
  ·exact h.off x a
theorem Wq.grown {c:QC} {n:Nat} {wr:Bool} {v:VS} {l g:VV} {w0 w w':au} {L:List (Nat×List aC)} {F:List Nat} {u:aC} {rs:List TR} (h:Wq c n wr v l w0 g w L) (k:OwnQ c g w0 w F u rs) (r:∀x∈L,x.1∈F) (d:w.grownBy w' u.ownBlock):Wq c n wr v l w0 g w' L:=by
 have j:∀b,u.ownBlock=some b->w0.heap.size<=b/\¬c.mine g b/\b ∉ F:=fun b a=>⟨(k.own.lt b a).1,(k.off b a).1,(k.off b a).2⟩
 have z:=h.s.size
 have A:=h.p.low
 have B:=h.p.ok.p1
 have o:∀b,b<c.B1->w'.heap[b]? = w.heap[b]?:=fun b a=>d.block b (by omega) fun e=>by
  have y:=j b e.symm
  exact absurd a (by
   have:=h.low.size
   have:=h.start0
   omega)
 have q:PsQ c n wr v g w':=h.p.keep d.size (fun b a=>d.block b (h.p.lts a) fun e=>(j b e.symm).2.1 a) o
 have i:StQ c l w0 g w':=⟨d.os.trans h.s.os,d.tape.trans h.s.tape,d.output.trans h.s.output,aQ h.s.size d.size,fun b a t=>(d.block b (by omega) fun e=>by have:=(j b e.symm).1;omega).trans (h.s.block b a t),h.s.own⟩
 refine ⟨q,i,⟨i.os,i.tape,i.output,i.size,fun b a=>(o b a).trans (h.low.block b a)⟩,⟨fun x f=>?_,h.b.ord⟩,h.off,h.start0⟩
 rcases di.1 f with f | f
 ·have m:=h.b.bk x (dt _ f)
  exact m.keeps (d.block _ m.lt fun e=>(j _ e.symm).2.2 (r x f))
 ·rw [aK] at f;subst f;exact q.bk
end Go.Proofs.YtbojljpldcijgaaGreat
namespace Go.Proofs.YtbojljpldcijgaaGreat
open Go.RowKit Hb
theorem gf (t:NextR) (s:ByteArray) (w:au):aU am 108 #[kk t,ac s] w fun e w'=>e=aD (av (dp t s.data.toList))/\aB w.heap.size w w':=by
 have c:=zq ((ap w.heap.size w).alloc (ae _) (.cells #[aa ab t.r.kind,ac t.txt,aa ab t.r.n,aa ab t.r.at_,aa ab t.r.end_,av t.lay] 76))
 have d:Hid (dp t s.data.toList=(t.r.kind==6&&t.txt.toList==s.toList)):=zq (yU t s)
 rw [d.out]
 unfold kk
 generalize t.txt=x at *
 by_cases a:t.r.kind=6
 ·have b:(t.r.kind==6)=true:=by simpa using a
  rw [b]
  clear a
  go_enter Tryz.func108,Tryz.ntmps108
  go_wp2_with fail
  go_ret
  exact ⟨by simp,c.out⟩
 ·have b:(t.r.kind==6)=false:=by simpa using a
  rw [b]
  clear a
  go_enter Tryz.func108,Tryz.ntmps108
  go_wp2_with fail
  go_ret
  exact ⟨rfl,c.out⟩
theorem rK (t:NextR) (w:au):aU am 114 #[kk t] w fun e w'=>e=aD (av (fa t))/\aB w.heap.size w w':=by
 have c:=zq ((ap w.heap.size w).alloc (ae _) (.cells #[aa ab t.r.kind,ac t.txt,aa ab t.r.n,aa ab t.r.at_,aa ab t.r.end_,av t.lay] 76))
 unfold kk fa
 by_cases a:t.r.kind=1
 ·have b:(t.r.kind==1)=true:=by simpa using a
  rw [b]
  clear a
  go_enter Tryz.func114,Tryz.ntmps114
  go_wp2_with fail
  go_ret
  exact ⟨rfl,c.out⟩
 ·have b:(t.r.kind==1)=false:=by simpa using a
  rw [b]
  clear a
  go_enter Tryz.func114,Tryz.ntmps114
  go_wp2_with fail
  go_ret
  exact ⟨rfl,c.out⟩
theorem pp (t:NextR) (w:au):aU am 153 #[kk t] w fun e w'=>e=aD (av (qW t))/\aB w.heap.size w w':=by
 have a:=zq ((ap w.heap.size w).alloc (ae _) (.cells #[aa ab t.r.kind,ac t.txt,aa ab t.r.n,aa ab t.r.at_,aa ab t.r.end_,av t.lay] 76))
 have c:=zq fun W=>gf t ⟨#[40]⟩ W
 have d:=zq ((Bks.nil w).new [aa ab t.r.kind,ac t.txt,aa ab t.r.n,aa ab t.r.at_,aa ab t.r.end_,av t.lay] 76 rfl)
 unfold kk qW at *
 have g:dp t (⟨#[40]⟩:ByteArray).data.toList=dp t [40]:=rfl
 rw [g] at c
 generalize dp t [40]=b at *
 clear g
 cases b
 all_goals
  have f:=d.out.all
  simp only [PC.cells,ag,ai,aj,aH,aP,ah,af,and_true] at f
  go_enter Tryz.func153,Tryz.ntmps153
  go_wp2_with fail
  refine (c.out _).mono ?_;rintro e k ⟨rfl,h⟩
  have i:=(d.out.call h).all
  simp only [PC.cells,ag,ai,aj,aH,aP,ah,af,and_true] at i
  clear f
  have j:=a.out.trans (h.mono a.out.size)
  go_wp2_with fail
  go_ret
  exact ⟨rfl,j⟩
theorem iU (s:ByteArray) (A:Option Addr) (n a:Nat) (w:au):aU am 69 #[ac s,.slice A n a] w fun e w'=>e=aD (aV #[aa ab 3,aa ab 0,ac s,.slice A n a])/\aB w.heap.size w w':=by
 have b:=zq ((ap w.heap.size w).alloc (ae _) (.cells #[aa ab 3,aa ab 0,ac s,.slice A n a] 30))
 go_enter Tryz.func69,Tryz.ntmps69
 go_wp2_with fail
 exact aw (v:=aV #[aa ab 3,aa ab 0,ac s,.slice A n a]) (by simp [results,Tryz.results69,go_sem]) rfl ⟨rfl,b.out⟩
theorem ne (s:ByteArray) (w:au):aU am 112 #[ac s] w fun e w'=>e=aD (aV #[aa ab 2,aa ab 0,ac s,.slice none 0 0])/\aB w.heap.size w w':=by
 have a:=zq ((ap w.heap.size w).alloc (ae _) (.cells #[aa ab 2,aa ab 0,ac s,.slice none 0 0] 30))
 go_enter Tryz.func112,Tryz.ntmps112
 go_wp2_with fail
 exact aw (v:=aV #[aa ab 2,aa ab 0,ac s,.slice none 0 0]) (by simp [results,Tryz.results112,go_sem]) rfl ⟨rfl,a.out⟩
theorem mj (n:Int) (w:au):aU am 105 #[aa ab n] w fun e w'=>e=aD (aV #[aa ab 1,aa ab n,ac ⟨#[]⟩,.slice none 0 0])/\aB w.heap.size w w':=by
 have a:=zq ((ap w.heap.size w).alloc (ae _) (.cells #[aa ab 1,aa ab n,ac ⟨#[]⟩,.slice none 0 0] 30))
 go_enter Tryz.func105,Tryz.ntmps105
 go_wp2_with fail
 exact aw (v:=aV #[aa ab 1,aa ab n,ac ⟨#[]⟩,.slice none 0 0]) (by simp [results,Tryz.results105,go_sem]) rfl ⟨rfl,a.out⟩
end Go.Proofs.YtbojljpldcijgaaGreat
namespace Hb
open Go Go.RowKit
structure LsQ (K:Nat->Prop) (w0 w:au) (t:Tm) (A:Option Addr) (cap:Nat):Prop where
 bel:aB w0.heap.size w0 w
 bs:Bks w [(w0.heap.size+2,[aa ab t.kind,aa ab t.num,ac t.name,.slice A t.args.length cap]),(w0.heap.size+1,[aa ab 0,aa ab 0,ac ⟨#[]⟩,.slice none 0 0])]
 tms:TmsK (fun b=>K b\/(w0.heap.size+2<b/\b<w.heap.size)) w A t.args
end Hb
namespace Go.Proofs.YtbojljpldcijgaaGreat
open Go.RowKit Hb
theorem LsQ.start {K:Nat->Prop} (w:au) (t:Tm) (A:Option Addr) (a:Nat) (h:TmsK K w A t.args) (d:∀b,K b->b<w.heap.size):LsQ K w (((w.alloc (.cells #[aa ab t.kind,aa ab t.num,ac t.name,.slice A t.args.length a] 30)).alloc (.cells #[aa ab 0,aa ab 0,ac ⟨#[]⟩,.slice none 0 0] 30)).alloc (.cells #[aa ab t.kind,aa ab t.num,ac t.name,.slice A t.args.length a] 30)) t A a where
 bel:=(((ap _ _).alloc (ae _) _).alloc (by simp) _).alloc (by simp;omega) _
 bs:=((Bks.nil (w.alloc (.cells #[aa ab t.kind,aa ab t.num,ac t.name,.slice A t.args.length a] 30))).new [aa ab 0,aa ab 0,ac ⟨#[]⟩,.slice none 0 0] 30 (g:=w.heap.size+1) (by simp)).new [aa ab t.kind,aa ab t.num,ac t.name,.slice A t.args.length a] 30 (g:=w.heap.size+2) (by simp)
 tms:=h.keep (fun b c=>(((((ap w.heap.size w).alloc (ae _) _).alloc (by simp) _).alloc (by simp;omega) _).block b (d b c))) fun b c=>.inl c
theorem LsQ.step {K:Nat->Prop} {w0 w wS:au} {t x:Tm} {A B:Option Addr} {c cb:Nat} (h:LsQ K w0 w t A c) (o:TmsK K w0 B x.args) (d:∀b,K b->b<w0.heap.size) (e:aB (w.heap.size+1) (w.alloc (.cells (dM [(x,B,cb),(t,A,c)]).toArray 30)) wS) :
  LsQ K w0 ((((wS.setCell ⟨w0.heap.size+2,0,none⟩ (aa ab 3)).setCell ⟨w0.heap.size+2,1,none⟩ (aa ab 0)).setCell ⟨w0.heap.size+2,2,none⟩ (ac ⟨#[46]⟩)).setCell ⟨w0.heap.size+2,3,none⟩ (.slice (some ⟨w.heap.size,0,none⟩) 2 2)) (ju ⟨#[46]⟩ [x,t]) (some ⟨w.heap.size,0,none⟩) 2:=by
 have k:=h.bs.lt 0 rfl
 have i:aB w.heap.size w (w.alloc (.cells (dM [(x,B,cb),(t,A,c)]).toArray 30)):=(ap _ _).alloc (ae _) _
 have f:aB w.heap.size w wS:=i.trans (e.mono (bm _))
 have m:=mY (K:=fun b=>K b\/(w0.heap.size+2<b/\b<w.heap.size+1)) (K':=fun b=>K b\/(w0.heap.size+2<b/\b<w.heap.size)) (w:=w) 30 [(x,B,cb),(t,A,c)] (by unfold bF;simp) (.inr ⟨k,Nat.lt_succ_self _⟩) (fun b a=>by
   rcases a with a | a
   ·exact ⟨.inl a,by have:=d b a;have:=h.bel.size;omega⟩
   ·exact ⟨.inr ⟨a.1,by omega⟩,a.2⟩) (fun r g=>by
   simp only [bh,be,or_false] at g
   rcases g with rfl|rfl
   ·exact o.keep (fun b a=>h.bel.block b (d b a)) fun b a=>.inl a
   ·exact h.tms)
 have n:(w.alloc (.cells (dM [(x,B,cb),(t,A,c)]).toArray 30)).heap.size=w.heap.size+1:=by simp
 refine ⟨gM (h.bel.trans (f.mono h.bel.size)) _ (by omega) _ _ _ _,(h.bs.call f).set4 0 rfl _ _ _ _,TmsK.keep m (fun b a=>?_) fun b a=>?_⟩
 ·have j:b<w.heap.size+1:=by
   rcases a with a | a
   ·have:=d b a;have:=h.bel.size;omega
   ·exact a.2
  have l:b≠w0.heap.size+2:=by
   rcases a with a | a
   ·have:=d b a;omega
   ·omega
  rw [bH _ _ _ _ _ _ _ l]
  exact e.block b j
 ·rcases a with a | a
  ·exact .inl a
  ·exact .inr ⟨a.1,by have:=e.size;rw [n] at this;simp;omega⟩
theorem oU (K:Nat->Prop) (l:List Tm) (A:Option Addr) (n a1:Nat) (t:Tm) (B:Option Addr) (cb:Nat) (w:au) (J:n=l.length) (E:∀b,K b->b<w.heap.size) (I:TmsK K w A l) (X:TmsK K w B t.args) :
  aU am 113 #[.slice A n a1,fI t B cb] w fun e w'=>∃f c',e=aD (fI (la l t) f c')/\aB w.heap.size w w'/\TmsK (fun b=>K b\/(w.heap.size<=b/\b<w'.heap.size)) w' f (la l t).args:=by
 have hm:n<=bF:=by rw [J];exact I.len
 unfold bF at hm
 have M:=zq J
 have L:=zq I
 have y:=zq E
 have a0:=zq (fun (s:ByteArray) A n c W=>iU s A n c W)
 have HS:=zq (LsQ.start w t B cb X E)
 clear I X J E
 obtain ⟨q,z⟩:=lz (la l t)
 rw [<-z.out]
 unfold fI
 go_enter Tryz.func113,Tryz.ntmps113
 go_wp2_with fail
 go_loopw [6] (fun i wr=>∃k:Nat,k<=n/\(k=0->i=aa ab (-1))/\(∀j:Nat,k=j+1->i=aa ab j)/\∃f r,Hid (LsQ K w wr (la (l.drop k) t) f r)) (fun i _=>(intOf i+1).toNat)
 case atStart=>exact ⟨n,ae _,fun h=>by subst h;rfl,fun j h=>by congr 1;omega,B,cb,by rw [M.out,vP l t];exact HS⟩
 case round=>
  obtain ⟨k,hk,G,H,f,r,d⟩:=hrel
  rcases Nat.eq_zero_or_pos k with rfl | a4
  ·have F:=G rfl
   subst F
   rw [List.drop_zero,<-z.out] at d
   have g:=d.out.bs.all
   simp only [aH,aP,ah,af,and_true] at g
   clear G H z
   go_wp2_with fail
   refine aw (v:=aV #[aa ab q.kind,aa ab q.num,ac q.name,.slice f q.args.length r]) (by simp [results,Tryz.results113,go_sem,g]) rfl ⟨f,r,rfl,gM d.out.bel _ (bm _) _ _ _ _,?_⟩
   refine d.out.tms.keep (fun b a=>bH _ _ _ _ _ _ _ ?_) fun b a=>?_
   ·rcases a with a | a
    ·have:=y.out b a;omega
    ·omega
   ·rcases a with a | a
    ·exact .inl a
    ·exact .inr ⟨by omega,by simpa using a.2⟩
  ·obtain ⟨j,rfl⟩:∃j,k=j+1:=⟨k-1,by omega⟩
   have F:=H j rfl
   subst F
   have U:j<l.length:=by have:=M.out;omega
   obtain ⟨b,a5,B',a2,rfl,a,P,Q,R,S,V⟩:=L.out.get j U
   have a3:=y.out b a
   have m:∀o,wr.cell? ⟨b,o,none⟩=w.cell? ⟨b,o,none⟩:=fun o=>d.out.bel.cell (p:=⟨b,o,none⟩) a3
   have d0:=(m _).trans P
   have d1:=(m _).trans Q
   have d2:=(m _).trans R
   have d3:=(m _).trans S
   have C:=zq (fun wS h=>LsQ.step (cb:=a2) (wS:=wS) d.out V y.out h)
   have Z:Hid (ju ⟨#[46]⟩ [l[j],la (l.drop (j+1)) t]=la (l.drop j) t):=zq (tu l t j U).symm
   have g:=d.out.bs.all
   simp only [aH,aP,ah,af,and_true] at g
   have Y:=zq d.out.bs
   have k0:(0:Int)<=(j:Int):=by omega
   have k1:(j:Int)<(n:Int):=by omega
   clear G H V m P Q R S d L
   generalize la (l.drop (j+1)) t=u at *
   generalize l[j]=x at *
   unfold dM fL at C
   simp only [List.flatMap_cons,List.flatMap_nil,ag,ai] at C
   go_wp2_with fail
   go_region_with (go_at_call 69;refine (a0.out _ _ _ _ _).mono ?_;rintro e wS ⟨rfl,D⟩;(have T:=((ap wr.heap.size wr).alloc (ae _) _).drew.trans (D.mono (by simp [World.drew])));have O:=(Y.out.call T).all;simp only [aH,aP,ah,af,and_true] at O)
   all_goals
    have N:=zq (C.out _ ((ap _ _).drew.trans (D.mono (by simp [World.drew]))))
    rw [Z.out] at N
    clear D T O g
    go_wp2_with fail
    go_roundw
    case rel=>exact ⟨j,by omega,fun h=>by subst h;rfl,fun i h=>by congr 1;omega,_,_,N⟩
    case measure=>simp [intOf] <;> omega
end Go.Proofs.YtbojljpldcijgaaGreat
