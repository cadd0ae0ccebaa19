/- Parts of the proof. -/
import Derived.Test.YtbojljpldcijgaaGreatR01
import Derived.Test.YtbojljpldcijgaaGreatR06
import Derived.Maps.OwnSet
set_option maxHeartbeats 12800000
set_option maxRecDepth 100000
open Bool renaming and_eq_true -> bN
open Go renaming Value -> aC, World -> au, bodyPost_ret -> aw, heap_setCell_other -> aW
open Go.Ending renaming returned -> aD
open Go.IntKind renaming i64 -> ab
open Go.Proofs.Tryz renaming prog -> am
open Go.RowKit renaming Below -> aB
open Go.RowKit.Below renaming refl -> ap
open Go.Value renaming agg -> aV, int -> aa, string -> ac
open Go.World renaming cell?_alloc_new -> aF
open List renaming getElem_mem -> bW, length_map -> bZ
open Nat renaming le_refl -> ae
namespace Hb
open Go Go.RowKit
structure R4 (w0 w:au) (g:Nat):Prop where
 bel:aB w0.heap.size w0 w
 le:w0.heap.size<=g
 lt:g<w.heap.size
 r0:∃v,w.cell? ⟨g,0,none⟩=some v
 r1:∃v,w.cell? ⟨g,1,none⟩=some v
 r2:∃v,w.cell? ⟨g,2,none⟩=some v
 r3:∃v,w.cell? ⟨g,3,none⟩=some v
 fr:∀o,w.frozen? ⟨g,o,none⟩=false
theorem R4.call {w0 w w':au} {g:Nat} (h:R4 w0 w g) (a:aB w.heap.size w w'):R4 w0 w' g where
 bel:=h.bel.trans (a.mono h.bel.size)
 le:=h.le
 lt:=Nat.lt_of_lt_of_le h.lt a.size
 r0:=h.r0.imp fun _ b=>(a.cell (p:=⟨_,_,none⟩) h.lt).trans b
 r1:=h.r1.imp fun _ b=>(a.cell (p:=⟨_,_,none⟩) h.lt).trans b
 r2:=h.r2.imp fun _ b=>(a.cell (p:=⟨_,_,none⟩) h.lt).trans b
 r3:=h.r3.imp fun _ b=>(a.cell (p:=⟨_,_,none⟩) h.lt).trans b
 fr:=fun o=>(a.frozen (p:=⟨_,o,none⟩) h.lt).trans (h.fr o)
theorem R4.start {w0 w:au} (a:aB w0.heap.size w0 w) (b c d f:aC) (e:TypeId):R4 w0 (w.alloc (.cells #[b,c,d,f] e)) w.heap.size where
 bel:=a.trans ((ap _ _).alloc a.size _)
 le:=a.size
 lt:=by simp
 r0:=⟨_,aF _ _ _ 0⟩
 r1:=⟨_,aF _ _ _ 1⟩
 r2:=⟨_,aF _ _ _ 2⟩
 r3:=⟨_,aF _ _ _ 3⟩
 fr:=fun o=>World.frozen?_alloc_new _ _ _ _
theorem R4.put {w0 w:au} {g:Nat} (h:R4 w0 w g) (x y z u:aC):aB w0.heap.size w0 ((((w.setCell ⟨g,0,none⟩ x).setCell ⟨g,1,none⟩ y).setCell ⟨g,2,none⟩ z).setCell ⟨g,3,none⟩ u) :=
 (((h.bel.setCell (p:=⟨_,_,none⟩) h.le _).setCell (p:=⟨_,_,none⟩) h.le _).setCell (p:=⟨_,_,none⟩) h.le _).setCell (p:=⟨_,_,none⟩) h.le _
theorem bH (w:au) (g:Nat) (x y z u:aC) (b:Nat) (a:b≠g):((((w.setCell ⟨g,0,none⟩ x).setCell ⟨g,1,none⟩ y).setCell ⟨g,2,none⟩ z).setCell ⟨g,3,none⟩ u).heap[b]? = w.heap[b]?:=by
 rw [aW _ _ _ _ a,aW _ _ _ _ a,aW _ _ _ _ a,aW _ _ _ _ a]
theorem xc (w:au) (g:Nat) (x y z u:aC):((((w.setCell ⟨g,0,none⟩ x).setCell ⟨g,1,none⟩ y).setCell ⟨g,2,none⟩ z).setCell ⟨g,3,none⟩ u).heap.size=w.heap.size:=by simp
end Hb
namespace Go.Proofs.YtbojljpldcijgaaGreat
open Go.RowKit Hb
theorem AA (t:Tm) (A:Option Addr) (a:Nat) (w:au):Calls am 202 #[fI t A a] w fun e w'=>e=aD (fI t A a)/\aB w.heap.size w w':=by
 unfold fI
 generalize t.kind=a0 at *
 generalize t.num=b at *
 generalize t.name=c at *
 generalize t.args.length=d at *
 have f:=R4.start (w0:=w) (w:=w.alloc (.cells #[aa ab a0,aa ab b,ac c,.slice A d a] 30)) ((ap _ _).alloc (ae _) _) (aa ab 0) (aa ab 0) (ac ⟨#[]⟩) (.slice none 0 0) 30
 have g:(w.alloc (.cells #[aa ab a0,aa ab b,ac c,.slice A d a] 30)).heap.size=w.heap.size+1:=by simp
 rw [g] at f
 have h:=f.put (aa ab a0) (aa ab b) (ac c) (.slice A d a)
 go_enter Tryz.func202,Tryz.ntmps202
 go_wp2_with fail
 refine aw (v:=aV #[aa ab a0,aa ab b,ac c,.slice A d a]) (by simp [results,Tryz.results202,go_sem]) rfl ⟨rfl,?_⟩
 exact ((ap _ _).alloc (ae _) _).alloc (by simp) _
def vl:Value:=.func (.func 202) #[] #[]
theorem zN:∀(t:Tm) (A:Option Addr) (g:Nat) (w:au),TmsAt w.heap.size w A t.args->t.allOk=true ->
    Calls am 201 #[fI t A g,vl] w fun e w'=>∃p r,e=aD (fI t p r)/\aB w.heap.size w w'/\AF w w' p t.args:=by
  refine Tm.ind fun t R=>?_
  intro A g w P s
  obtain ⟨i,hi,b1,b2,b4⟩:=info_parts Bu
  have HI:=zq hi
  have c5:=zq b1
  have c6:=zq b2
  have c7:=zq b4
  clear hi b1 b2 b4
  have HT:=zq P
  have hm:t.args.length<=8:=by
    rw [Tm.allOk_eq,bN] at s
    have:=s.1
    unfold iL at this
    grind
  have b8:Hid (∀a∈t.args,a.allOk=true):=zq (by
    rw [Tm.allOk_eq,bN,List.all_eq_true] at s
    exact s.2)
  have b6:=zq R
  obtain ⟨L,q⟩:=lz (t.args.length)
  have a4:=zq (CpH.start w t A g L 30 q.out)
  unfold fI vl at *
  rw [<-q.out] at hm |-
  by_cases C:t.kind=0
  · have a8:t.args.length=0:=by
      have N:=s
      rw [Tm.allOk_eq,bN] at N
      have F:=N.1
      unfold iL at F
      rw [if_pos C] at F
      simp at F
      exact List.length_eq_zero_iff.2 F.2
    have d1:t.args=[]:=List.eq_nil_of_length_eq_zero a8
    have K:=zq (fun W=>AA t A g W)
    unfold fI at K
    rw [<-q.out] at K
    have HK:=zq C
    have Q:=R4.start (w0:=w) (w:=w.alloc (.cells #[aa ab t.kind,aa ab t.num,ac t.name,.slice A L g] 30)) ((ap _ _).alloc (ae _) _) (aa ab 0) (aa ab 0) (ac ⟨#[]⟩) (.slice none 0 0) 30
    have D:(w.alloc (.cells #[aa ab t.kind,aa ab t.num,ac t.name,.slice A L g] 30)).heap.size=w.heap.size+1:=by simp
    rw [D] at Q
    have c4:=zq Q
    have d7:(t.kind==0)=true:=by simp [C]
    clear s C a8 Q D R P a4 q
    generalize t.kind=a0 at *
    generalize t.num=a1 at *
    generalize t.name=a2 at *
    go_enter Tryz.func201,Tryz.ntmps201
    go_wp2_with fail
    refine (K.out _).mono ?_;rintro e w1 ⟨rfl,c8⟩
    have n:=c4.out.call c8
    obtain ⟨v0,S⟩:=n.r0
    obtain ⟨v1,T⟩:=n.r1
    obtain ⟨v2,U⟩:=n.r2
    obtain ⟨v3,V⟩:=n.r3
    have f0:=n.fr 0
    have f1:=n.fr 1
    have f2:=n.fr 2
    have f3:=n.fr 3
    have d2:=n.put (aa ab a0) (aa ab a1) (ac a2) (.slice A L g)
    go_wp2_with fail
    exact aw (v:=aV #[aa ab a0,aa ab a1,ac a2,.slice A L g]) (by simp [results,Tryz.results201,go_sem,S,T,U,V]) rfl ⟨A,g,rfl,d2,by rw [d1];exact TmsK.nil⟩
  have d9:(t.kind==0)=false:=by simp [C]
  clear R P s
  go_enter Tryz.func201,Tryz.ntmps201
  go_wp2_with fail
  go_loopw [24] (fun i wr=>∃k:Nat,∃v:aC,∃rs:List TR,k<=L/\i=aa ab k/\Hid (CpH w wr 30 t A g v rs)/\Hid (rs.map (·.1)=t.args.take k)) (fun i _=>L-(intOf i).toNat)
  case atStart=>exact ⟨0,_,[],Nat.zero_le _,rfl,a4,zq (by simp)⟩
  case round=>
    obtain ⟨k,v,rs,hk,rfl,d,E⟩:=hrel
    have b3:=d.out.b3
    rw [<-q.out] at b3
    by_cases e1:k<L
    · have I:k<t.args.length:=by have:=q.out;omega
      obtain ⟨b,d5,p,r,rfl,f,c0,c1,h,c3,D⟩:=(HT.out.keep d.out.bel).get k I
      have y:=d.out.call ((ap _ _).alloc (ae _) (.cells #[aa ab t.args[k].kind,aa ab t.args[k].num,ac t.args[k].name,.slice p t.args[k].args.length r] 30))
      have z:=y.drew
      have X:=zq (b6.out t.args[k] (bW I) p r (wr.alloc (.cells #[aa ab t.args[k].kind,aa ab t.args[k].num,ac t.args[k].name,.slice p t.args[k].args.length r] 30)).drew ((D.keep ((ap _ wr).alloc d.out.bel.size _).drew).mono y.bel.size) (b8.out _ (bW I)))
      have Y:Hid (Calls am 201 #[aV #[aa ab t.args[k].kind,aa ab t.args[k].num,ac t.args[k].name,.slice p t.args[k].args.length r],.func (.func 202) #[] #[]] (wr.alloc (.cells #[aa ab t.args[k].kind,aa ab t.args[k].num,ac t.args[k].name,.slice p t.args[k].args.length r] 30)).drew fun e w'=>∃c h,e=aD (aV #[aa ab t.args[k].kind,aa ab t.args[k].num,ac t.args[k].name,.slice c t.args[k].args.length h])/\CpH w w' 30 t (some ⟨b,d5,none⟩) g v rs/\TmsK (fun b=>w.heap.size+3<=b/\b<w'.heap.size/\v.ownBlock≠some b) w' c t.args[k].args) :=
        zq (X.out.mono fun e w' hh=>by
          obtain ⟨c,h,B,hB,O⟩:=hh
          refine ⟨c,h,B,z.call hB,O.keep (fun _ _=>rfl) fun b f=>⟨Nat.le_trans z.lt f.1,f.2,fun ee=>?_⟩⟩
          have:=(z.own.own.lt b ee).2
          have N:=f.1
          omega)
      have J:rs.length=k:=by
        have:=congrArg List.length E.out
        rw [bZ,List.length_take] at this;omega
      have a3:Hid ((rs++[((t.args[k],none,0):TR)]).map (fun x:TR=>x.1)=t.args.take (k+1)):=zq (by
        rw [List.map_append,E.out,List.take_succ_eq_append_getElem I];simp)
      have a6:=y.c3
      have a7:=y.cf 3
      have e0:(0:Int)<=(k:Int):=by omega
      have d8:(k:Int)<(L:Int):=by omega
      clear D X
      obtain ⟨a,b5⟩:=lz (t.args[k])
      rw [<-b5.out] at Y a3 c0 c1 h c3 y z a6 a7
      go_wp2_with fail
      go_region_law (first
        | (go_simp;go_at_call 201;(with_reducible refine Y.out.mono ?_);rintro e o ⟨c,m,rfl,G,a5⟩;have k3:=G.c3;have kf:=G.cf 3;have l:=G.call ((ap _ _).alloc (ae _) (.cells #[aa ab a.kind,aa ab a.num,ac a.name,.slice c a.args.length m] 30));have k5:=l.c3;have d4:=l.cf 3)
        | go_must (have q1:rs.length+1<=maxLen:=by unfold maxLen;omega
                   have q2:(rs.length+1) * 56<=140737488355328:=by omega
                   have q3:w.heap.size+3<=(o.alloc (.cells #[aa ab a.kind,aa ab a.num,ac a.name,.slice c a.args.length m] 30)).heap.size:=l.lt
                   have q4:∀j u,(fL (a,c,m))[j]? = some u->(o.alloc (.cells #[aa ab a.kind,aa ab a.num,ac a.name,.slice c a.args.length m] 30)).cell? ((⟨o.heap.size,0,none⟩:Addr).add j)=some u:=World.news_of_block (heap_alloc_new o _)
                   have q5:(o.alloc (.cells #[aa ab a.kind,aa ab a.num,ac a.name,.slice c a.args.length m] 30)).heap.size=o.heap.size+1:=by simp
                   refine step_append_lies _ (by rfl) _ _ 28 (by rfl) (w.heap.size+3) 30 i _ 4 56 Tryz.underlying28 HI.out c5.out c6.out c7.out (by rfl) (by decide) v rs.length (dM rs) (by rfl) l.own.own ⟨o.heap.size,0,none⟩ 1 1 (fL (a,c,m)) (by rfl) (by rfl) q4 (ya _) (by decide) q1 q2 q3 (o.heap.size+1) q5 ?_;intro g2 d6 w3 a9 H c9 e2;clear q1 q2 q3 q4 q5;have k4:=(l.far H (w.heap.size+2) 3 (by omega)).1.trans l.c3;have d3:=(l.far H (w.heap.size+2) 3 (by omega)).2.trans (l.cf 3))
        | fail)
      all_goals
        have Z:=zq (l.app (a,c,m) (a5.keep (fun b f=>heap_alloc_old o _ f.2.1) fun b f=>⟨f.1,by simp;omega,f.2.2⟩) a9 H (by
          rcases c9 with M | M
          · exact .inl M.symm
          · exact .inr (by rw [M];simp [Value.ownBlock])))
        rw [J] at Z
        have b9:Hid ((rs++[((a,c,m):TR)]).map (fun x:TR=>x.1)=t.args.take (k+1)):=zq (by rw [<-a3.out];simp)
        clear k3 kf k4 d3 k5 d4 G a5 l a9 H z y a6 a7
        go_wp2_with fail
        go_roundw
        case rel=>exact ⟨k+1,_,rs++[(a,c,m)],by omega,by go_num,Z,b9⟩
        case measure=>simp [intOf] <;> omega
    · have d0:k=L:=by omega
      subst d0
      obtain ⟨c,h,rfl,O⟩:=d.out.own.tms
      have J:rs.length=k:=by
        have:=congrArg List.length E.out
        rw [bZ,List.length_take,<-q.out] at this;omega
      have b0:rs.map (fun x:TR=>x.1)=t.args:=by rw [E.out,q.out,List.take_length]
      rw [J] at d
      have k0:=d.out.c0
      have k1:=d.out.c1
      have k2:=d.out.c2
      have k3:=d.out.c3
      obtain ⟨v0,S⟩:=d.out.r0
      obtain ⟨v1,T⟩:=d.out.r1
      obtain ⟨v2,U⟩:=d.out.r2
      obtain ⟨v3,V⟩:=d.out.r3
      have f0:=d.out.rf 0
      have f1:=d.out.rf 1
      have f2:=d.out.rf 2
      have f3:=d.out.rf 3
      have HP:=zq (d.out.put (aa ab t.kind) (aa ab t.num) (ac t.name) (.slice c k h))
      have b7:Hid (AF w ((((wr.setCell ⟨w.heap.size+1,0,none⟩ (aa ab t.kind)).setCell ⟨w.heap.size+1,1,none⟩ (aa ab t.num)).setCell ⟨w.heap.size+1,2,none⟩ (ac t.name)).setCell ⟨w.heap.size+1,3,none⟩ (.slice c k h)) c t.args):=zq (by
        obtain ⟨A3,c3,B,h3⟩:=HP.out.2.tms
        rw [b0] at h3
        injection B with B _ _
        subst B
        exact h3.keep (fun _ _=>rfl) fun b f=>⟨by have:=f.1;omega,f.2⟩)
      clear O b0 J
      go_wp2_with fail
      exact aw (v:=aV #[aa ab t.kind,aa ab t.num,ac t.name,.slice c k h]) (by simp [results,Tryz.results201,go_sem,S,T,U,V]) rfl ⟨c,h,rfl,HP.out.1,b7.out⟩
end Go.Proofs.YtbojljpldcijgaaGreat
namespace Hb
open Go Go.RowKit
theorem pe (t:Tm):dZ t=true↔t.nodes<=2000/\t.allOk=true:=by unfold dZ;rw [bN,decide_eq_true_iff]
def lZ (t:Tm):Tm:=if dZ t=true then t else sC
end Hb
namespace Go.Proofs.YtbojljpldcijgaaGreat
open Go.RowKit Hb
theorem zM (t:Tm) (A:Option Addr) (c:Nat) (w:au) (q:TmsAt w.heap.size w A t.args) :
  Calls am 197 #[fI t A c] w fun e w'=>∃A' cap',e=aD (fI (lZ t) A' cap')/\aB w.heap.size w w'/\AF w w' A' (lZ t).args:=by
 have r:=R4.start (w0:=w) (w:=w.alloc (.cells #[aa ab t.kind,aa ab t.num,ac t.name,.slice A t.args.length c] 30)) ((ap _ _).alloc (ae _) _) (aa ab 0) (aa ab 0) (ac ⟨#[]⟩) (.slice none 0 0) 30
 have D:(w.alloc (.cells #[aa ab t.kind,aa ab t.num,ac t.name,.slice A t.args.length c] 30)).heap.size=w.heap.size+1:=by simp
 rw [D] at r
 have i:=zq r
 have G:Hid (TBoxT w ((w.alloc (.cells #[aa ab t.kind,aa ab t.num,ac t.name,.slice A t.args.length c] 30)).alloc (.cells #[aa ab 0,aa ab 0,ac ⟨#[]⟩,.slice none 0 0] 30)) t A c) :=
  zq ((TBoxT.start w t A c 30).call ((ap _ _).alloc (ae _) _))
 have H:=zq (fun (W:au) (h:TBoxT w W t A c)=>(⟨h.c0,h.c1,h.c2,h.c3⟩:_/\_/\_/\_))
 have g:=zq (fun (W:au) (h:R4 w W (w.heap.size+1))=>vy t A c W ((q.keep h.bel).mono h.bel.size))
 have z:=zq (fun (W:au) (h:R4 w W (w.heap.size+1)) (U:t.allOk=true)=>zN t A c W ((q.keep h.bel).mono h.bel.size) U)
 clear q r D
 unfold fI vl at *
 cases hv:dZ t
 ·have o:=zq (show lZ t=sC by unfold lZ;rw [hv];rfl)
  rw [hv] at g
  clear hv
  rw [o.out]
  generalize t.kind=a0 at *
  generalize t.num=j at *
  generalize t.name=k at *
  generalize t.args.length=l at *
  go_enter Tryz.func197,Tryz.ntmps197
  go_wp2_with fail
  refine (g.out _ i.out).mono ?_;rintro e w1 ⟨rfl,m⟩
  have a:=i.out.call m
  obtain ⟨X,s⟩:=a.r0
  obtain ⟨Y,u⟩:=a.r1
  obtain ⟨Z,x⟩:=a.r2
  obtain ⟨v3,y⟩:=a.r3
  have O:=a.fr 0
  have P:=a.fr 1
  have Q:=a.fr 2
  have R:=a.fr 3
  have V:=a.put (aa ab 0) (aa ab 0) (ac ⟨#[]⟩) (.slice none 0 0)
  go_wp2_with fail
  exact aw (v:=aV #[aa ab 0,aa ab 0,ac ⟨#[]⟩,.slice none 0 0]) (by simp [results,Tryz.results197,go_sem,s,u,x,y]) rfl ⟨none,0,rfl,V,TmsK.nil⟩
 ·have C:=((pe t).1 hv).2
  have o:=zq (show lZ t=t by unfold lZ;rw [hv];rfl)
  rw [hv] at g
  clear hv
  rw [o.out]
  have F:=zq (fun W h=>z.out W h C)
  clear z C
  generalize t.kind=a0 at *
  generalize t.num=j at *
  generalize t.name=k at *
  generalize t.args.length=l at *
  go_enter Tryz.func197,Tryz.ntmps197
  go_wp2_with fail
  refine (g.out _ i.out).mono ?_;rintro e w1 ⟨rfl,m⟩
  have a:=i.out.call m
  have T:=G.out.call m
  obtain ⟨K,L,M,N⟩:=H.out _ T
  go_wp2_with fail
  refine (F.out _ a).mono ?_;rintro e E ⟨f,n,rfl,S,p⟩
  have d:=a.call S
  have a4:=zq p
  obtain ⟨X,s⟩:=d.r0
  obtain ⟨Y,u⟩:=d.r1
  obtain ⟨Z,x⟩:=d.r2
  obtain ⟨v3,y⟩:=d.r3
  have O:=d.fr 0
  have P:=d.fr 1
  have Q:=d.fr 2
  have R:=d.fr 3
  have J:=zq (d.put (aa ab a0) (aa ab j) (ac k) (.slice f l n))
  have I:Hid (AF w ((((E.setCell ⟨w.heap.size+1,0,none⟩ (aa ab a0)).setCell ⟨w.heap.size+1,1,none⟩ (aa ab j)).setCell ⟨w.heap.size+1,2,none⟩ (ac k)).setCell ⟨w.heap.size+1,3,none⟩ (.slice f l n)) f t.args) :=
   zq (TmsK.keep p (fun b B=>bH E (w.heap.size+1) _ _ _ _ b (by have:=a.lt;omega)) (fun b B=>⟨by have:=a.lt;omega,by rw [xc];exact B.2⟩))
  clear p K L M N
  go_wp2_with fail
  exact aw (v:=aV #[aa ab a0,aa ab j,ac k,.slice f l n]) (by simp [results,Tryz.results197,go_sem,s,u,x,y]) rfl ⟨f,n,rfl,J.out,I.out⟩
end Go.Proofs.YtbojljpldcijgaaGreat
