/- Parts of the proof. -/
import Derived.Test.YtlikcjbjibhjgaaGreatDoorR01
import Derived.Test.YtlikcjbjibhjgaaGreatDoorR24
import Derived.Deep.DeepCutAuto
import Derived.Deep.RegionHeld3
import Derived.Test.YtlikcjbjibhjgaaGreatDoorR07
set_option maxHeartbeats 12800000
set_option maxRecDepth 100000
set_option linter.unusedSimpArgs false
open Go renaming Value -> az, World -> ai, bodyPost_ret -> ay, execOp -> aP
open Go.IntKind renaming i64 -> ae
open Go.Proofs.Tryz renaming prog -> ah
open Go.RowKit renaming Below -> ax
open Go.RowKit.Below renaming refl -> aj
open Go.Value renaming agg -> aN, bool -> am, int -> ab, pointer -> au, string -> aa, tuple -> aK
open List renaming append_nil -> aA, cons_append -> ak, mem_append -> dm, mem_cons -> bg, mem_nil_iff -> bQ, mem_singleton -> aG, nil_append -> an, range -> aY
open List.Sublist renaming cons_cons -> iR
open Nat renaming le_refl -> ag, le_succ -> cQ, reduceAdd -> ar, zero_add -> ap
namespace Go.Proofs.YtlikcjbjibhjgaaGreatDoor
open Go.RowKit Hb
attribute [local go_sem] Oper.semAt_some
theorem TOut.bad {c:PC} {n:Nat} {a:az} {w0 w:ai} {R:RR (Tm×Int×Nat)} {k:Nat} {e:Ending} (b:R=.error k) (h:Li c a w0 k e w):TOut c n a w0 R e w:=by rw [b];exact h
structure RgR (c:PC) (n:Nat) (v:VS) (nv0:az) (w0:ai) (nv:az) (L:List (Nat×List az)) (g:Nat) (w:ai):Prop where
 wk:Wk c n v nv0 w0 nv w L
 rb:∃u0 u1 u2 u3,Bk w g [u0,u1,u2,u3]
 gm:¬c.mine nv g
 gL:∀x∈L,x.1≠g
 gw:w0.heap.size<=g
theorem RgR.call {c:PC} {n:Nat} {v:VS} {d:az} {w0:ai} {b:az} {L:List (Nat×List az)} {g:Nat} {w w':ai} (h:RgR c n v d w0 b L g w) (a:ax w.heap.size w w'):RgR c n v d w0 b L g w':=by
 obtain ⟨u0,u1,u2,u3,e⟩:=h.rb
 exact ⟨h.wk.call a,⟨u0,u1,u2,u3,e.call a⟩,h.gm,h.gL,h.gw⟩
theorem sh {B:Nat} {w0 w:ai} (h:ax B w0 w) (g:Nat) (a:B<=g) (x y z u:az):ax B w0 ((((w.setCell ⟨g,0,none⟩ x).setCell ⟨g,1,none⟩ y).setCell ⟨g,2,none⟩ z).setCell ⟨g,3,none⟩ u) :=
 (((h.setCell (p:=⟨_,_,none⟩) a _).setCell (p:=⟨_,_,none⟩) a _).setCell (p:=⟨_,_,none⟩) a _).setCell (p:=⟨_,_,none⟩) a _
theorem RgR.put4 {c:PC} {n:Nat} {v:VS} {m:az} {w0:ai} {j:az} {L:List (Nat×List az)} {g:Nat} {w:ai} (h:RgR c n v m w0 j L g w) (x y z u:az):RgR c n v m w0 j L g ((((w.setCell ⟨g,0,none⟩ x).setCell ⟨g,1,none⟩ y).setCell ⟨g,2,none⟩ z).setCell ⟨g,3,none⟩ u):=by
 obtain ⟨u0,u1,u2,u3,i⟩:=h.rb
 have d:∀k,k≠g->((((w.setCell ⟨g,0,none⟩ x).setCell ⟨g,1,none⟩ y).setCell ⟨g,2,none⟩ z).setCell ⟨g,3,none⟩ u).heap[k]? = w.heap[k]?:=fun k d=>bR _ _ _ _ _ _ _ d
 have l:∀k,c.mine j k->k≠g:=fun k f e=>h.gm (e ▸ f)
 have q:∀k,k<c.B1->k≠g:=fun k f e=>by have:=h.gw;have:=h.wk.start0;omega
 have r:=h.wk.p.keep (w':=((((w.setCell ⟨g,0,none⟩ x).setCell ⟨g,1,none⟩ y).setCell ⟨g,2,none⟩ z).setCell ⟨g,3,none⟩ u)) (by simp) (fun b f=>d b (l b f)) (fun b i=>d b (q b i))
 refine ⟨⟨r,⟨h.wk.s.os,h.wk.s.tape,h.wk.s.output,by simpa using h.wk.s.size,fun b i f=>(d b (by have:=h.gw;omega)).trans (h.wk.s.block b i f),h.wk.s.own⟩,sh h.wk.low g (Nat.le_trans h.wk.start0 h.gw) _ _ _ _,⟨fun y a=>?_,h.wk.b.ord⟩,h.wk.off,h.wk.start0⟩,⟨x,y,z,u,(((i.set 0 x).set 1 y).set 2 z).set 3 u⟩,h.gm,h.gL,h.gw⟩
 have o:=h.wk.b.bk y a
 refine o.keeps (d _ ?_)
 rcases dm.1 a with a | a
 ·exact h.gL y a
 ·rw [aG] at a;subst a;exact l _ (.inl rfl)
theorem Wk.sub {c:PC} {n:Nat} {v:VS} {f:az} {w0:ai} {e:az} {w:ai} {L L':List (Nat×List az)} (h:Wk c n v f w0 e w L) (d:L'.Sublist L):Wk c n v f w0 e w L' :=
 ⟨h.p,h.s,h.low,⟨fun x a=>h.b.bk x (by
  rcases dm.1 a with a | a
  ·exact List.mem_append_left _ (d.subset a)
  ·exact List.mem_append_right _ a),(h.b.ord).sublist ((d.append_right _).map _)⟩,fun x a=>h.off x (d.subset a),h.start0⟩
theorem Nw {m:Int} (h:-9223372036854775808<=m/\m<=9223372036854775807):wrap64 (-m)=if m=-9223372036854775808 then m else -m:=by
 split
 ·rename_i e;subst e;decide +kernel
 ·exact IntWalk.wrap64_in _ (by omega)
theorem pH (P:List OpR) (s:ByteArray) (c:Int):-9223372036854775808<=((dt P s c).getD op0).prec/\((dt P s c).getD op0).prec<=9223372036854775807:=by
 cases hf:dt P s c with
 | none=>exact ⟨by show (-9223372036854775808:Int)<=0;omega,by show (0:Int)<=9223372036854775807;omega⟩
 | some q=>
  unfold dt at hf
  split at hf
  ·rename_i d
   have b:=List.mem_of_find?_eq_some hf
   have a:=oG d q b
   show _<=q.prec/\q.prec<=_
   unfold nK at a
   grind
  ·cases hf
theorem GR {c:PC} {S:PT} {k n i:Nat} {C:az} {w:ai} (hS:uK c S k) (O:k<=i) (j6:n<i) (p:PsAt c i (cM c.E.T i) C w) (t:NextR) (ht:t.r.text.length<=100) (most:Int) :
  Calls ah 131 #[au (some ⟨c.P,0,none⟩),qY t,ab ae most] w (TOut c n C w (tO c.E S t most i)):=by
 obtain ⟨R,HR⟩:=lz (tO c.E S t most i)
 rw [<-HR.out]
 obtain ⟨y,c3⟩:=lz ((dt c.E.P t.txt 1).getD op0)
 obtain ⟨bP,c7⟩:=lz (lJ c.E.P t.txt 1)
 have HP:Hid (∀X a2,PsAt c i (cM c.E.T i) a2 X->Calls ah 169 #[.slice c.OA c.on c.oc,aa t.txt] X fun e w'=>e=.returned (aK #[aN #[aa y.name,ab ae y.typ,ab ae y.prec],am bP])/\ax X.heap.size X w'):=zq fun X a2 h=>by
  rw [c3.out,c7.out];exact mX c.OA c.on c.oc c.E.P t.txt X h.ok.opl (by have:=h.ok.few;omega) h.ops
 have a8:Hid (∀X,Calls ah 91 #[aN #[aa y.name,ab ae y.typ,ab ae y.prec]] X fun e w'=>e=.returned (aK #[ab ae (gi y),ab ae (dB y)])/\ax X.heap.size X w'):=zq fun X=>mH y X (by rw [c3.out];exact pH _ _ _)
 have a3:=zq (((Wk.start p).new [ab ae t.r.kind,aa t.txt,ab ae t.r.n,ab ae t.r.at_,ab ae t.r.end_,am t.lay] 83 rfl).new [ab ae 0,ab ae 0,aa ⟨#[]⟩,.slice none 0 0] 25 (g:=w.heap.size+1) (by simp))
 have HS:=zq (fun (m:Int) a2 W (h:PsAt c i (cM c.E.T i) a2 W)=>hS m i a2 W O h)
 have d7:=zq (fun a2 W (h:PsAt c i (cM c.E.T i) a2 W)=>sd hS (by omega:k<=i+1) h t.txt)
 have b2:=zq (fun W=>kX t.txt ht W)
 have b7:=zq (fun (A:Option Addr) (m k5:Nat) (W:ai)=>kb t.txt A m k5 W)
 have d9:=zq (fun a2 W (h:PsAt c i (cM c.E.T i) a2 W)=>kc h 0 (by decide))
 have b8:=zq (fun a2 W (h:PsAt c i (cM c.E.T i) a2 W)=>GT h)
 have d2:=zq (FW t [45])
 have b5:=zq p.more
 have b6:=zq (show -9223372036854775808<=(c.E.at i).r.n/\(c.E.at i).r.n<=9223372036854775807 from (p.ok.txt _ (by rw [c.E.at_get p.n1];exact List.getElem_mem _)).2)
 have d8:=zq j6
 clear p hS O ht j6
 have HE:Hid (R=match mc c.E S t.txt i with
  | .error e=>.error e
  | .ok (some u,m)=>.ok (u,0,m)
  | .ok (none,_)=>
   if na c.E t i=true then .ok (Fc (if (c.E.at i).r.n=-9223372036854775808 then (c.E.at i).r.n else -(c.E.at i).r.n),0,i+1)
   else if (bP&&(decide (y.prec<=most) && !gE c.E i))=true then (match S (dB y) i with
    | .error e=>.error e
    | .ok (u,_,m)=>.ok (nC t.txt [u],y.prec,m))
   else .ok (AB t.txt,0,i)):=zq (by rw [HR.out,c3.out,c7.out];rfl)
 clear HR
 have J:=d7.out C _ a3.out.p
 unfold qY at *
 rcases K:mc c.E S t.txt i with e | ⟨ou,m⟩
 ·skip
  rw [K] at J
  have HV:Hid (R=.error e):=zq (by rw [HE.out,K])
  have HX:=zq J
  clear J K HE HP a8 HS d7 b2 b7 d9 b8 d2 b5 b6 c3 c7
  go_enter Tryz.func131,Tryz.ntmps131
  go_wp2_with fail
  refine (HX.out).mono ?_;rintro e w9 ⟨rfl,c6⟩
  exact ⟨rfl,TOut.bad HV.out ⟨rfl,a3.out.fall c6⟩⟩
 rcases ou with _ | u
 rotate_left
 ·skip
  rw [K] at J
  have HV:Hid (R=.ok (u,0,m)):=zq (by rw [HE.out,K])
  have HX:=zq J
  clear J K HE HP a8 HS d7 b2 b7 d9 b8 d2 b5 b6 c3 c7
  go_enter Tryz.func131,Tryz.ntmps131
  go_wp2_with fail
  refine (HX.out).mono ?_;rintro e w1 ⟨d5,z,B,Z,rfl,hp,hs,ht⟩
  have d0:=zq (Trm.sub (w0:=w) (F:=[w.heap.size+1,w.heap.size]) ht a3.out.s.size (by intro b M;simp only [bg,bQ,or_false] at M;rcases M with rfl|rfl;exact a3.out.b.lt 0 rfl;exact a3.out.b.lt 1 rfl))
  have e7:=zq d5
  clear ht d5
  have c9:=zq (a3.out.step hp hs)
  clear a3
  clear hp hs
  clear HX
  unfold er
  have a5:=zq (c9.out.new [ab ae u.kind,ab ae u.num,aa u.name,.slice z u.args.length B] 25 (g:=w1.heap.size) (by simp))
  have k1:=zq (d0.out.new (.cells #[ab ae u.kind,ab ae u.num,aa u.name,.slice z u.args.length B] 25) (g:=w1.heap.size) (by simp))
  clear c9 d0
  have d4:=a5.out.b.all
  simp only [PC.cells,ak,an,aA,aU,bd,ap,ar,and_true] at d4
  go_wp2_with fail
  have hz:=a5.out.put4 1 rfl (ab ae u.kind) (ab ae u.num) (aa u.name) (.slice z u.args.length B) (cQ _)
  have ht:=k1.out.put (g:=w.heap.size+1) (by simp) (fun b M=>bR _ _ (ab ae u.kind) (ab ae u.num) (aa u.name) (.slice z u.args.length B) b M) (by simp)
  refine ay (v:=aK #[aN #[ab ae u.kind,ab ae u.num,aa u.name,.slice z u.args.length B],ab ae 0]) (by simp [results,Tryz.results131,go_sem,d4]) rfl ?_
  rw [HV.out]
  exact ⟨by have:=e7.out;have:=d8.out;omega,z,B,Z,rfl,hz.p,hz.s,ht.out⟩
 ·skip
  rw [K] at J
  have a7:Hid (R=if na c.E t i=true then .ok (Fc (if (c.E.at i).r.n=-9223372036854775808 then (c.E.at i).r.n else -(c.E.at i).r.n),0,i+1)
     else if (bP&&(decide (y.prec<=most) && !gE c.E i))=true then (match S (dB y) i with
      | .error e=>.error e
      | .ok (u,_,m)=>.ok (nC t.txt [u],y.prec,m))
     else .ok (AB t.txt,0,i)):=zq (by rw [HE.out,K])
  have HX:=zq J
  clear J K HE d7 c3 c7
  go_enter Tryz.func131,Tryz.ntmps131
  go_wp2_with fail
  refine (HX.out).mono ?_;rintro e w1 ⟨l7,rfl,hp,hs⟩
  clear l7 HX
  have c9:=zq (a3.out.step hp hs)
  clear a3
  clear hp hs
  have a5:=zq (c9.out.new [ab ae 0,ab ae 0,aa ⟨#[]⟩,.slice none 0 0] 25 (g:=w1.heap.size) (by simp))
  clear c9
  have d4:=a5.out.b.all
  simp only [PC.cells,ak,an,aA,aU,bd,ap,ar,and_true] at d4
  go_upto_region 4 with fail
  obtain ⟨wa,i1⟩:=lz ((w1.alloc (.cells #[ab ae 0,ab ae 0,aa ⟨#[]⟩,.slice none 0 0] 25)))
  obtain ⟨U,g0⟩:=lz (w1.heap.size)
  clear d4
  rw [<-i1.out] at a5 |-
  rw [<-g0.out] at a5 |-
  go_wp2_with fail
  refine (d9.out C _ a5.out.p).mono ?_;rintro e w5 ⟨rfl,L⟩
  have i0:=zq (a5.out.call L)
  clear a5
  clear L d9 i1 g0
  obtain ⟨l,c1⟩:=lz ((c.E.at i))
  rw [Nat.add_zero,<-c1.out]
  rw [<-c1.out] at b5 b6 a7
  have a0:=zq (i0.out.new [ab ae l.r.kind,aa l.txt,ab ae l.r.n,ab ae l.r.at_,ab ae l.r.end_,am l.lay] 83 (g:=w5.heap.size) (by simp))
  clear i0
  have i8:=a0.out.b.all
  simp only [PC.cells,ak,an,aA,aU,bd,ap,ar,and_true] at i8
  go_upto_region 5 with fail
  obtain ⟨wb,i2⟩:=lz ((w5.alloc (.cells #[ab ae l.r.kind,aa l.txt,ab ae l.r.n,ab ae l.r.at_,ab ae l.r.end_,am l.lay] 83)))
  obtain ⟨V,g3⟩:=lz (w5.heap.size)
  clear i8
  rw [<-i2.out] at a0 |-
  rw [<-g3.out] at a0 |-
  clear i2 g3
  obtain ⟨mi,c0⟩:=lz ((t.r.kind==1&&(t.r.text==[45]&&(l.r.kind==4 && !l.lay))))
  have g6:Hid (na c.E t i=mi):=zq (by rw [c0.out,c1.out];rfl)
  rw [g6.out] at a7
  clear g6
  go_cut [45] from 28 to 45 (fun x wc=>x=am mi/\wc=wb)
  case first=>
   have e2:=a0.out.b.all
   simp only [PC.cells,ak,an,aA,aU,bd,ap,ar,and_true] at e2
   have K:=d2.out
   have Q:=c0.out
   rw [show (t.r.text==[45])=decide (t.r.text=[45]) from by by_cases h:t.r.text=[45] <;> simp [h]] at Q
   clear a7 HP a8 HS b2 b7 b8 b5 b6 d2 c0 c1
   generalize decide (t.r.text=[45])=q2 at *
   by_cases h1:t.r.kind=1
   ·have b1:(t.r.kind==1)=true:=by simpa using h1
    rw [b1] at Q
    clear h1
    cases q2
    ·have hm:mi=false:=Q
     clear Q
     subst hm
     go_wp2_with fail
     go_meet
     exact ⟨rfl,rfl⟩
    ·by_cases h4:l.r.kind=4
     ·have b4:(l.r.kind==4)=true:=by simpa using h4
      rw [b4] at Q
      clear h4
      have hm:mi=!l.lay:=Q
      clear Q
      subst hm
      go_wp2_with fail
      go_meet
      exact ⟨rfl,rfl⟩
     ·have b4:(l.r.kind==4)=false:=by simpa using h4
      rw [b4] at Q
      clear h4
      have hm:mi=false:=Q
      clear Q
      subst hm
      go_wp2_with fail
      go_meet
      exact ⟨rfl,rfl⟩
   ·have b1:(t.r.kind==1)=false:=by simpa using h1
    rw [b1] at Q
    clear h1
    have hm:mi=false:=Q
    clear Q
    subst hm
    go_wp2_with fail
    go_meet
    exact ⟨rfl,rfl⟩
  case rest=>
   obtain ⟨rfl,rfl⟩:=hcut
   clear d2
   cases mi
   rotate_left
   ·skip
    have Q:=c0.out
    have h4:l.r.kind=4:=by simp at Q;exact Q.2.2.1
    have j5:=Nw b6.out
    obtain ⟨vm,k4⟩:=lz (if l.r.n=-9223372036854775808 then l.r.n else -l.r.n)
    rw [<-k4.out] at j5 a7
    have HV:Hid (R=.ok (Fc vm,0,i+1)):=zq (by rw [a7.out,if_pos rfl])
    have j4:=b5.out (by rw [h4];decide)
    have j9:=zq j4
    have k3:Hid (qB (c.E.at i)=false):=zq (by rw [<-c1.out];exact qA h4 (by decide))
    have hi:wrap64 ((i:Int)+1)=(i:Int)+1:=nF (by have:=a0.out.p.n1;have:=a0.out.p.ok.len;omega)
    clear a7 HP a8 HS b2 b7 b8 b5 b6 h4 Q j4 c0
    have e2:=a0.out.b.all
    simp only [PC.cells,ak,an,aA,aU,bd,ap,ar,and_true] at e2
    go_upto_region 7 with fail
    have hq:=a0.out.inc j9.out
    obtain ⟨wn,i4⟩:=lz (wc.setCell ⟨c.P,1,none⟩ (ab ae ((i:Int)+1)))
    rw [<-i4.out] at hq |-
    have e9:=zq (hq.step (PsAt.skip k3.out a0.out.p.n1 hq.p) (Stp.refl c C wn))
    clear hq i4 a0 e2 hi
    have i5:=e9.out.b.all
    simp only [PC.cells,ak,an,aA,aU,bd,ap,ar,and_true] at i5
    go_wp2_with fail
    rw [j5]
    refine (Gq vm _).mono ?_;rintro e m0 ⟨rfl,L⟩
    have g8:=zq (e9.out.call L)
    clear e9 i5
    clear L 
    have i6:=g8.out.b.all
    simp only [PC.cells,ak,an,aA,aU,bd,ap,ar,and_true] at i6
    go_wp2_with fail
    have hz:=g8.out.put4 2 rfl (ab ae 1) (ab ae vm) (aa ⟨#[]⟩) (.slice none 0 0) (cQ _)
    refine ay (v:=aK #[aN #[ab ae 1,ab ae vm,aa ⟨#[]⟩,.slice none 0 0],ab ae 0]) (by simp [results,Tryz.results131,go_sem,i6]) rfl ?_
    rw [HV.out]
    exact ⟨Nat.lt_succ_of_lt d8.out,none,0,C,rfl,hz.p,hz.s,TmsK.nil⟩
   have b9:Hid (R=if (bP&&(decide (y.prec<=most) && !gE c.E i))=true then (match S (dB y) i with
       | .error e=>.error e
       | .ok (u,_,m)=>.ok (nC t.txt [u],y.prec,m))
      else .ok (AB t.txt,0,i)):=a7
   clear a7 b5 b6 c0 c1
   go_wp2_with fail
   rename_i K8 j0
   refine jN (w0:=wc) [cV [] [0] (fun|[v]=>v=au (some ⟨c.P,0,none⟩)|_=>False),
    cV [0] [1] (fun|[v]=>v=au (some ⟨c.P,0,none⟩)|_=>False),
    cV [0,1] [2] (fun|[v]=>v=au (some ⟨c.P,2,none⟩)|_=>False),
    jn (aY 3) [3] (fun|[v]=>v=.slice c.OA c.on c.oc|_=>False),
    cV [] [4] (fun|[v]=>v=au (some ⟨w.heap.size,1,none⟩)|_=>False),
    jn [4] [5] (fun|[v]=>v=aa t.txt|_=>False),
    jn (aY 6) [6] (fun|[v]=>v=aK #[aN #[aa y.name,ab ae y.typ,ab ae y.prec],am bP]|_=>False),
    cV (aY 7) [7] (fun|[v]=>v=aK #[aN #[aa y.name,ab ae y.typ,ab ae y.prec],am bP]|_=>False),
    cV (aY 8) [8] (fun|[v]=>v=aN #[aa y.name,ab ae y.typ,ab ae y.prec]|_=>False),
    cV (aY 8) [9] (fun|[v]=>v=am bP|_=>False),
    GZ [] [aa ⟨#[]⟩,ab ae 0,ab ae 0] 11,
    tB [0,1,2,3,4,5,6,7,8,10] [] 10 (fun _=>[aa y.name,ab ae y.typ,ab ae y.prec]),
    cV (aY 12) [12] (fun|[v]=>v=am bP|_=>False)]
    [some 58,some 59,some 60,some 61,some 62,some 63,some 64,some 57,some 65,some 66,some 11,none,some 12] (fun _=>True) (wc.heap.size) (by kernel_rfl) (ag _) (by kernel_rfl) (by kernel_rfl) (by kernel_rfl) (fun j o ho=>?srv8) (fun val Y N hv HF=>?fin8)
   case srv8=>
    have j3:j<13:=(Array.getElem?_eq_some_iff.1 ho).1
    rcases (show j=0\/j=1\/j=2\/j=3\/j=4\/j=5\/j=6\/j=7\/j=8\/j=9\/j=10\/j=11\/j=12 by omega) with rfl|rfl|rfl|rfl|rfl|rfl|rfl|rfl|rfl|rfl|rfl|rfl|rfl
    ·cases ho
     refine bq rfl rfl (fun val E G H=>?_)
     have e0:=G.t 0 (au (some ⟨c.P,0,none⟩)) rfl
     exact ⟨_,fun X=>by simp [aP,go_sem,e0],rfl⟩
    ·cases ho
     refine bq rfl rfl (fun val E G H=>?_)
     have k8:=G.t 58 (val 0) rfl
     have h0:val 0=_:=H 0 (oz rfl)
     exact ⟨_,fun X=>by simp [aP,go_sem,k8,h0],rfl⟩
    ·cases ho
     refine bq rfl rfl (fun val E G H=>?_)
     have k9:=G.t 59 (val 1) rfl
     have h1:val 1=_:=H 1 (oz rfl)
     exact ⟨_,fun X=>by simp [aP,go_sem,k9,h1],rfl⟩
    ·cases ho
     refine fI rfl rfl (fun _ _ _=>trivial) (fun val E X G L H=>?_)
     have l0:=G.t 60 (val 2) rfl
     have h2:val 2=_:=H 2 (oz rfl)
     have O:=(a0.out.call L).p.bk.c 2 _ rfl
     exact ⟨_,by simp [aP,go_sem,l0,h2,O],rfl⟩
    ·cases ho
     refine bq rfl rfl (fun val E G H=>?_)
     have e4:=G.t 4 (au (some ⟨w.heap.size,0,none⟩)) rfl
     exact ⟨_,fun X=>by simp [aP,go_sem,e4],rfl⟩
    ·cases ho
     refine fI rfl rfl (fun _ _ _=>trivial) (fun val E X G L H=>?_)
     have l2:=G.t 62 (val 4) rfl
     have h4:val 4=_:=H 4 (oz rfl)
     have O:=((a0.out.call L).b.at 3 _ _ rfl).c 1 _ rfl
     exact ⟨_,by simp [aP,go_sem,l2,h4,O],rfl⟩
    ·cases ho
     refine ka rfl rfl (fun _ _ _=>trivial) (fun val E X G L H=>?_)
     have l1:=G.t 61 (val 3) rfl
     have h3:val 3=_:=H 3 (oz rfl)
     have l3:=G.t 63 (val 5) rfl
     have h5:val 5=_:=H 5 (oz rfl)
     exact ⟨_,_,_,by simp [aP,go_sem,G.f,l1,h3,l3,h5] <;> rfl,HP.out X C (a0.out.call L).p,rfl⟩
    ·cases ho
     refine bq rfl rfl (fun val E G H=>?_)
     have l4:=G.t 64 (val 6) rfl
     have h6:val 6=_:=H 6 (oz rfl)
     exact ⟨aK #[aN #[aa y.name,ab ae y.typ,ab ae y.prec],am bP],fun X=>by simp [aP,go_sem,l4,h6],rfl⟩
    ·cases ho
     refine bq rfl rfl (fun val E G H=>?_)
     have f6:=G.t 57 (val 7) rfl
     have h7:val 7=_:=H 7 (oz rfl)
     exact ⟨_,fun X=>by simp [aP,go_sem,f6,h7],rfl⟩
    ·cases ho
     refine bq rfl rfl (fun val E G H=>?_)
     have f6:=G.t 57 (val 7) rfl
     have h7:val 7=_:=H 7 (oz rfl)
     exact ⟨_,fun X=>by simp [aP,go_sem,f6,h7],rfl⟩
    ·cases ho
     exact qe rfl (fun _=>trivial) (trivial) 39 fun E X=>by simp [aP,go_sem]
    ·cases ho
     refine mx rfl rfl (fun _=>trivial) fun val E X b G H M O=>?_
     have k7:=G.t 11 (val 10) rfl
     have l5:=G.t 65 (val 8) rfl
     have h8:val 8=_:=H 8 (oz rfl)
     have z0:=O.c 0 (aa ⟨#[]⟩) rfl
     have f0:=O.f 0
     have z1:=O.c 1 (ab ae 0) rfl
     have f1:=O.f 1
     have z2:=O.c 2 (ab ae 0) rfl
     have f2:=O.f 2
     exact ⟨(((X.setCell ⟨b,0,none⟩ (aa y.name)).setCell ⟨b,1,none⟩ (ab ae y.typ)).setCell ⟨b,2,none⟩ (ab ae y.prec)),[aa y.name,ab ae y.typ,ab ae y.prec],by simp [aP,go_sem,M,k7,l5,h8,z0,f0,z1,f1,z2,f2],((((PutTo.start O).more 0 (aa y.name)).more 1 (ab ae y.typ)).more 2 (ab ae y.prec)),rfl,trivial⟩
    ·cases ho
     refine bq rfl rfl (fun val E G H=>?_)
     have l6:=G.t 66 (val 9) rfl
     have h9:val 9=_:=H 9 (oz rfl)
     exact ⟨_,fun X=>by simp [aP,go_sem,l6,h9],rfl⟩
   case fin8=>
    have h0:val 0=_:=hv 0 (by decide)
    have h1:val 1=_:=hv 1 (by decide)
    have h2:val 2=_:=hv 2 (by decide)
    have h3:val 3=_:=hv 3 (by decide)
    have h4:val 4=_:=hv 4 (by decide)
    have h5:val 5=_:=hv 5 (by decide)
    have h6:val 6=_:=hv 6 (by decide)
    have h7:val 7=_:=hv 7 (by decide)
    have h8:val 8=_:=hv 8 (by decide)
    have h9:val 9=_:=hv 9 (by decide)
    have i9:val 12=_:=hv 12 (by decide)
    obtain ⟨I,M,hl,O,_⟩:=HF.at_box 10 (by decide) rfl
    have j2:Bk Y I [aa y.name,ab ae y.typ,ab ae y.prec]:=O
    have c5:Hid (Wk c i (cM c.E.T i) C w C Y [(I,[aa y.name,ab ae y.typ,ab ae y.prec]),(V,[ab ae l.r.kind,aa l.txt,ab ae l.r.n,ab ae l.r.at_,ab ae l.r.end_,am l.lay]),(U,[ab ae 0,ab ae 0,aa ⟨#[]⟩,.slice none 0 0]),(w.heap.size+1,[ab ae 0,ab ae 0,aa ⟨#[]⟩,.slice none 0 0]),(w.heap.size,[ab ae t.r.kind,aa t.txt,ab ae t.r.n,ab ae t.r.at_,ab ae t.r.end_,am t.lay])]):=zq (a0.out.box HF.bel hl j2)
    clear hv HF O j2 hl a0
    refine j0 _ _ ?_
    simp only [jD,List.set_cons_zero,List.set_cons_succ,ar,ap,M,h0,h1,h2,h3,h4,h5,h6,h7,h8,h9,i9]
    clear j0 M h0 h1 h2 h3 h4 h5 h6 h7 h8 h9 i9
    have f8:=zq (b8.out C Y c5.out.p)
    clear HP b8
    obtain ⟨pr,e1⟩:=lz ((bP&&(decide (y.prec<=most) && !gE c.E i)))
    rw [<-e1.out] at b9
    go_upto_region 9 with fail
    go_cut [78] from 67 to 78 (fun x wc=>x=am pr/\Hid (Wk c i (cM c.E.T i) C w C wc [(I,[aa y.name,ab ae y.typ,ab ae y.prec]),(V,[ab ae l.r.kind,aa l.txt,ab ae l.r.n,ab ae l.r.at_,ab ae l.r.end_,am l.lay]),(U,[ab ae 0,ab ae 0,aa ⟨#[]⟩,.slice none 0 0]),(w.heap.size+1,[ab ae 0,ab ae 0,aa ⟨#[]⟩,.slice none 0 0]),(w.heap.size,[ab ae t.r.kind,aa t.txt,ab ae t.r.n,ab ae t.r.at_,ab ae t.r.end_,am t.lay])]))
    case first=>
     have k6:=c5.out.b.all
     simp only [PC.cells,ak,an,aA,aU,bd,ap,ar,and_true] at k6
     have a9:=e1.out
     clear b9 a8 HS b2 b7 e1
     generalize gE c.E i=al at *
     cases bP
     ·have hm:pr=false:=a9
      clear a9
      subst hm
      go_wp2_with fail
      go_meet
      exact ⟨rfl,c5⟩
     ·by_cases e5:y.prec<=most
      ·have d1:decide (y.prec<=most)=true:=decide_eq_true e5
       rw [d1] at a9
       have hm:pr=!al:=a9
       clear a9 e5
       subst hm
       go_wp2_with fail
       refine f8.out.mono ?_;rintro e w9 ⟨rfl,c6⟩
       have k0:=zq (c5.out.call c6)
       clear c6
       go_wp2_with fail
       go_meet
       exact ⟨rfl,k0⟩
      ·have d1:decide (y.prec<=most)=false:=decide_eq_false e5
       rw [d1] at a9
       have hm:pr=false:=a9
       clear a9 e5
       subst hm
       go_wp2_with fail
       go_meet
       exact ⟨rfl,c5⟩
    case rest=>
     obtain ⟨rfl,c4⟩:=hcut
     clear c5 f8 e1
     cases pr
     ·skip
      have HV:Hid (R=.ok (AB t.txt,0,i)):=b9
      clear b9 a8 HS b7
      have d3:=c4.out.b.all
      simp only [PC.cells,ak,an,aA,aU,bd,ap,ar,and_true] at d3
      go_wp2_with fail
      refine (b2.out _).mono ?_;rintro e l9 ⟨Aa,ca,rfl,L⟩
      have a4:=zq (c4.out.call L)
      clear c4 d3
      clear L 
      have i7:=a4.out.b.all
      simp only [PC.cells,ak,an,aA,aU,bd,ap,ar,and_true] at i7
      go_wp2_with fail
      have hz:=a4.out.put4 3 rfl (ab ae 2) (ab ae 0) (aa t.txt) (.slice Aa 0 ca) (cQ _)
      refine ay (v:=aK #[aN #[ab ae 2,ab ae 0,aa t.txt,.slice Aa 0 ca],ab ae 0]) (by simp [results,Tryz.results131,go_sem,i7]) rfl ?_
      rw [HV.out]
      exact ⟨d8.out,Aa,ca,C,rfl,hz.p,hz.s,TmsK.nil⟩
     ·skip
      have c8:Hid (R=match S (dB y) i with | .error e=>.error e | .ok (u,_,m)=>.ok (nC t.txt [u],y.prec,m)):=b9
      clear b9 b2
      have d3:=c4.out.b.all
      simp only [PC.cells,ak,an,aA,aU,bd,ap,ar,and_true] at d3
      go_wp2_with fail
      refine (a8.out _).mono ?_;rintro e l9 ⟨rfl,L⟩
      have a4:=zq (c4.out.call L)
      clear c4 d3
      clear L a8
      have J:=HS.out (dB y) C _ a4.out.p
      clear HS
      rcases K:S (dB y) i with e | ⟨u,pu,m⟩
      ·skip
       rw [K] at J c8
       clear K
       have HV:Hid (R=.error e):=c8
       have HX:=zq J
       clear J
       go_wp2_with fail
       refine (HX.out).mono ?_;rintro e w9 ⟨rfl,c6⟩
       exact ⟨rfl,TOut.bad HV.out ⟨rfl,a4.out.fall c6⟩⟩
      ·skip
       rw [K] at J c8
       clear K
       have HV:Hid (R=.ok (nC t.txt [u],y.prec,m)):=c8
       have HX:=zq J
       clear J c8
       go_wp2_with fail
       refine (HX.out).mono ?_;rintro e d6 ⟨d5,z,B,Z,rfl,hp,hs,ht⟩
       have d0:=zq (Trm.sub (w0:=w) (F:=[w.heap.size+1]) ht a4.out.s.size (by intro b M;rw [aG] at M;subst M;exact a4.out.b.lt 3 rfl))
       have e7:=zq d5
       clear ht d5
       have g9:=zq (a4.out.step hp hs)
       clear a4
       clear hp hs
       clear HX
       unfold er
       have a1:=zq (g9.out.new [ab ae u.kind,ab ae u.num,aa u.name,.slice z u.args.length B] 25 (g:=d6.heap.size) rfl)
       have f5:=zq (d0.out.call ((aj d6.heap.size d6).alloc (ag _) (.cells #[ab ae u.kind,ab ae u.num,aa u.name,.slice z u.args.length B] 25)))
       obtain ⟨wd,i3⟩:=lz (d6.alloc (.cells #[ab ae u.kind,ab ae u.num,aa u.name,.slice z u.args.length B] 25))
       obtain ⟨D,g4⟩:=lz (d6.heap.size)
       go_upto_region 12 with fail
       rw [<-i3.out] at a1 f5 |-
       rw [<-g4.out] at a1 |-
       have cc:=a1.out.b.all
       simp only [PC.cells,ak,an,aA,aU,bd,ap,ar,and_true] at cc
       clear g9 d0 i3 g4
       have f4:Hid (RgR c m (cM c.E.T m) C w Z [(D,[ab ae u.kind,ab ae u.num,aa u.name,.slice z u.args.length B]),(I,[aa y.name,ab ae y.typ,ab ae y.prec]),(V,[ab ae l.r.kind,aa l.txt,ab ae l.r.n,ab ae l.r.at_,ab ae l.r.end_,am l.lay]),(U,[ab ae 0,ab ae 0,aa ⟨#[]⟩,.slice none 0 0]),(w.heap.size,[ab ae t.r.kind,aa t.txt,ab ae t.r.n,ab ae t.r.at_,ab ae t.r.end_,am t.lay])] (w.heap.size+1) wd):=zq ⟨a1.out.sub (by
         refine iR _ (iR _ (iR _ (iR _ (List.Sublist.cons _ (List.Sublist.refl _)))))),⟨_,_,_,_,a1.out.b.at 4 _ _ rfl⟩,a1.out.off (w.heap.size+1,[ab ae 0,ab ae 0,aa ⟨#[]⟩,.slice none 0 0]) (by simp),by
         have l8:=a1.out.b.ord
         have h4:D > w.heap.size+1/\I > w.heap.size+1/\V > w.heap.size+1/\U > w.heap.size+1:=by
          simp only [ak,an,List.map_cons,List.map_nil,List.pairwise_cons,bg,bQ,or_false,forall_eq_or_imp,forall_eq] at l8
          grind
         intro x K
         simp only [bg,bQ,or_false] at K
         rcases K with rfl|rfl|rfl|rfl|rfl <;> simp only <;> omega,cQ _⟩
       have b3:Hid (∀X,RgR c m (cM c.E.T m) C w Z [(D,[ab ae u.kind,ab ae u.num,aa u.name,.slice z u.args.length B]),(I,[aa y.name,ab ae y.typ,ab ae y.prec]),(V,[ab ae l.r.kind,aa l.txt,ab ae l.r.n,ab ae l.r.at_,ab ae l.r.end_,am l.lay]),(U,[ab ae 0,ab ae 0,aa ⟨#[]⟩,.slice none 0 0]),(w.heap.size,[ab ae t.r.kind,aa t.txt,ab ae t.r.n,ab ae t.r.at_,ab ae t.r.end_,am t.lay])] (w.heap.size+1) X->X.cell? ⟨w.heap.size,1,none⟩=some (aa t.txt)/\X.cell? ⟨D,0,none⟩=some (ab ae u.kind)/\X.cell? ⟨D,1,none⟩=some (ab ae u.num)/\X.cell? ⟨D,2,none⟩=some (aa u.name)/\X.cell? ⟨D,3,none⟩=some (.slice z u.args.length B)/\X.cell? ⟨I,2,none⟩=some (ab ae y.prec)/\RgR c m (cM c.E.T m) C w Z [(D,[ab ae u.kind,ab ae u.num,aa u.name,.slice z u.args.length B]),(I,[aa y.name,ab ae y.typ,ab ae y.prec]),(V,[ab ae l.r.kind,aa l.txt,ab ae l.r.n,ab ae l.r.at_,ab ae l.r.end_,am l.lay]),(U,[ab ae 0,ab ae 0,aa ⟨#[]⟩,.slice none 0 0]),(w.heap.size,[ab ae t.r.kind,aa t.txt,ab ae t.r.n,ab ae t.r.at_,ab ae t.r.end_,am t.lay])] (w.heap.size+1) X):=zq fun X h=>by
        have b0:=h.wk.b.at 0 _ _ rfl
        exact ⟨(h.wk.b.at 4 _ _ rfl).c 1 _ rfl,b0.c 0 _ rfl,b0.c 1 _ rfl,b0.c 2 _ rfl,b0.c 3 _ rfl,(h.wk.b.at 1 _ _ rfl).c 2 _ rfl,h⟩
       have c2:Hid (∀X,(X.cell? ⟨w.heap.size,1,none⟩=some (aa t.txt)/\X.cell? ⟨D,0,none⟩=some (ab ae u.kind)/\X.cell? ⟨D,1,none⟩=some (ab ae u.num)/\X.cell? ⟨D,2,none⟩=some (aa u.name)/\X.cell? ⟨D,3,none⟩=some (.slice z u.args.length B)/\X.cell? ⟨I,2,none⟩=some (ab ae y.prec)/\RgR c m (cM c.E.T m) C w Z [(D,[ab ae u.kind,ab ae u.num,aa u.name,.slice z u.args.length B]),(I,[aa y.name,ab ae y.typ,ab ae y.prec]),(V,[ab ae l.r.kind,aa l.txt,ab ae l.r.n,ab ae l.r.at_,ab ae l.r.end_,am l.lay]),(U,[ab ae 0,ab ae 0,aa ⟨#[]⟩,.slice none 0 0]),(w.heap.size,[ab ae t.r.kind,aa t.txt,ab ae t.r.n,ab ae t.r.at_,ab ae t.r.end_,am t.lay])] (w.heap.size+1) X)->RgR c m (cM c.E.T m) C w Z [(D,[ab ae u.kind,ab ae u.num,aa u.name,.slice z u.args.length B]),(I,[aa y.name,ab ae y.typ,ab ae y.prec]),(V,[ab ae l.r.kind,aa l.txt,ab ae l.r.n,ab ae l.r.at_,ab ae l.r.end_,am l.lay]),(U,[ab ae 0,ab ae 0,aa ⟨#[]⟩,.slice none 0 0]),(w.heap.size,[ab ae t.r.kind,aa t.txt,ab ae t.r.n,ab ae t.r.at_,ab ae t.r.end_,am t.lay])] (w.heap.size+1) X):=zq fun X h=>h.2.2.2.2.2.2
       have f9:Hid (RgR c m (cM c.E.T m) C w Z [(D,[ab ae u.kind,ab ae u.num,aa u.name,.slice z u.args.length B]),(I,[aa y.name,ab ae y.typ,ab ae y.prec]),(V,[ab ae l.r.kind,aa l.txt,ab ae l.r.n,ab ae l.r.at_,ab ae l.r.end_,am l.lay]),(U,[ab ae 0,ab ae 0,aa ⟨#[]⟩,.slice none 0 0]),(w.heap.size,[ab ae t.r.kind,aa t.txt,ab ae t.r.n,ab ae t.r.at_,ab ae t.r.end_,am t.lay])] (w.heap.size+1) wd.drew):=zq (f4.out.call (aj _ _).drew)
       have f7:Hid (∀X (o:Obj),RgR c m (cM c.E.T m) C w Z [(D,[ab ae u.kind,ab ae u.num,aa u.name,.slice z u.args.length B]),(I,[aa y.name,ab ae y.typ,ab ae y.prec]),(V,[ab ae l.r.kind,aa l.txt,ab ae l.r.n,ab ae l.r.at_,ab ae l.r.end_,am l.lay]),(U,[ab ae 0,ab ae 0,aa ⟨#[]⟩,.slice none 0 0]),(w.heap.size,[ab ae t.r.kind,aa t.txt,ab ae t.r.n,ab ae t.r.at_,ab ae t.r.end_,am t.lay])] (w.heap.size+1) X->RgR c m (cM c.E.T m) C w Z [(D,[ab ae u.kind,ab ae u.num,aa u.name,.slice z u.args.length B]),(I,[aa y.name,ab ae y.typ,ab ae y.prec]),(V,[ab ae l.r.kind,aa l.txt,ab ae l.r.n,ab ae l.r.at_,ab ae l.r.end_,am l.lay]),(U,[ab ae 0,ab ae 0,aa ⟨#[]⟩,.slice none 0 0]),(w.heap.size,[ab ae t.r.kind,aa t.txt,ab ae t.r.n,ab ae t.r.at_,ab ae t.r.end_,am t.lay])] (w.heap.size+1) (X.alloc o)):=zq fun X o h=>h.call ((aj _ _).alloc (ag _) o)
       have e6:Hid (∀X (o:Obj),RgR c m (cM c.E.T m) C w Z [(D,[ab ae u.kind,ab ae u.num,aa u.name,.slice z u.args.length B]),(I,[aa y.name,ab ae y.typ,ab ae y.prec]),(V,[ab ae l.r.kind,aa l.txt,ab ae l.r.n,ab ae l.r.at_,ab ae l.r.end_,am l.lay]),(U,[ab ae 0,ab ae 0,aa ⟨#[]⟩,.slice none 0 0]),(w.heap.size,[ab ae t.r.kind,aa t.txt,ab ae t.r.n,ab ae t.r.at_,ab ae t.r.end_,am t.lay])] (w.heap.size+1) X->RgR c m (cM c.E.T m) C w Z [(D,[ab ae u.kind,ab ae u.num,aa u.name,.slice z u.args.length B]),(I,[aa y.name,ab ae y.typ,ab ae y.prec]),(V,[ab ae l.r.kind,aa l.txt,ab ae l.r.n,ab ae l.r.at_,ab ae l.r.end_,am l.lay]),(U,[ab ae 0,ab ae 0,aa ⟨#[]⟩,.slice none 0 0]),(w.heap.size,[ab ae t.r.kind,aa t.txt,ab ae t.r.n,ab ae t.r.at_,ab ae t.r.end_,am t.lay])] (w.heap.size+1) (X.alloc o).drew):=zq fun X o h=>(h.call ((aj _ _).alloc (ag _) o)).call (aj _ _).drew
       have g7:Hid (∀X a b c' d,RgR c m (cM c.E.T m) C w Z [(D,[ab ae u.kind,ab ae u.num,aa u.name,.slice z u.args.length B]),(I,[aa y.name,ab ae y.typ,ab ae y.prec]),(V,[ab ae l.r.kind,aa l.txt,ab ae l.r.n,ab ae l.r.at_,ab ae l.r.end_,am l.lay]),(U,[ab ae 0,ab ae 0,aa ⟨#[]⟩,.slice none 0 0]),(w.heap.size,[ab ae t.r.kind,aa t.txt,ab ae t.r.n,ab ae t.r.at_,ab ae t.r.end_,am t.lay])] (w.heap.size+1) X->RgR c m (cM c.E.T m) C w Z [(D,[ab ae u.kind,ab ae u.num,aa u.name,.slice z u.args.length B]),(I,[aa y.name,ab ae y.typ,ab ae y.prec]),(V,[ab ae l.r.kind,aa l.txt,ab ae l.r.n,ab ae l.r.at_,ab ae l.r.end_,am l.lay]),(U,[ab ae 0,ab ae 0,aa ⟨#[]⟩,.slice none 0 0]),(w.heap.size,[ab ae t.r.kind,aa t.txt,ab ae t.r.n,ab ae t.r.at_,ab ae t.r.end_,am t.lay])] (w.heap.size+1) ((((X.setCell ⟨w.heap.size+1,0,none⟩ a).setCell ⟨w.heap.size+1,1,none⟩ b).setCell ⟨w.heap.size+1,2,none⟩ c').setCell ⟨w.heap.size+1,3,none⟩ d)):=zq fun X a b c' d h=>h.put4 a b c' d
       go_region_held3 (fun X=>X.cell? ⟨w.heap.size,1,none⟩=some (aa t.txt)/\X.cell? ⟨D,0,none⟩=some (ab ae u.kind)/\X.cell? ⟨D,1,none⟩=some (ab ae u.num)/\X.cell? ⟨D,2,none⟩=some (aa u.name)/\X.cell? ⟨D,3,none⟩=some (.slice z u.args.length B)/\X.cell? ⟨I,2,none⟩=some (ab ae y.prec)/\RgR c m (cM c.E.T m) C w Z [(D,[ab ae u.kind,ab ae u.num,aa u.name,.slice z u.args.length B]),(I,[aa y.name,ab ae y.typ,ab ae y.prec]),(V,[ab ae l.r.kind,aa l.txt,ab ae l.r.n,ab ae l.r.at_,ab ae l.r.end_,am l.lay]),(U,[ab ae 0,ab ae 0,aa ⟨#[]⟩,.slice none 0 0]),(w.heap.size,[ab ae t.r.kind,aa t.txt,ab ae t.r.n,ab ae t.r.at_,ab ae t.r.end_,am t.lay])] (w.heap.size+1) X)
        (first
         | with_reducible exact b3.out _ f9.out
         | with_reducible exact b3.out _ (RgR.call (c2.out _ (by with_reducible assumption)) (by with_reducible assumption))
         | with_reducible exact b3.out _ (f7.out _ _ (c2.out _ (by with_reducible assumption)))
         | with_reducible exact b3.out _ (e6.out _ _ f4.out)
         | with_reducible exact b3.out _ (e6.out _ _ (c2.out _ (by with_reducible assumption)))
         | with_reducible exact b3.out _ (g7.out _ _ _ _ _ (c2.out _ (by with_reducible assumption)))
         | fail)
        (first
         | (go_at_call 92;(with_reducible refine (b7.out _ _ _ _).mono ?_);rintro e wS ⟨rfl,e3⟩;(have j1:=RgR.call (c2.out _ (by with_reducible assumption)) e3);(obtain ⟨q0,q1,q2,q3,a6⟩:=j1.rb);have r0:=a6.c 0 _ rfl;have r1:=a6.c 1 _ rfl;have r2:=a6.c 2 _ rfl;have r3:=a6.c 3 _ rfl;have f0:=a6.f 0;have f1:=a6.f 1;have f2:=a6.f 2;have f3:=a6.f 3;have j3:=a6.lt)
         | fail)
       all_goals
        have J:=((aj wd.heap.size wd).alloc (ag _) (.cells #[ab ae u.kind,ab ae u.num,aa u.name,.slice z u.args.length B] 25)).drew.trans (e3.mono (by simp [World.drew]))
        have hz:=(a1.out.call J).put4 4 rfl (ab ae 3) (ab ae 0) (aa t.txt) (.slice (some ⟨wd.heap.size,0,none⟩) 1 1) (cQ _)
        have j7:=Trm.row a1.out.p a1.out.s.size (F:=[w.heap.size+1]) (by intro b M;rw [aG] at M;subst M;exact a1.out.b.lt 4 rfl) 25 [(u,z,B)] (by simp [maxLen]) (by intro q hq;rw [aG] at hq;subst hq;exact f5.out)
        have j8:=(j7.call (aj _ _).drew).call e3
        have k2:=zq (j8.put (g:=w.heap.size+1) (by simp) (fun b M=>bR _ _ (ab ae 3) (ab ae 0) (aa t.txt) (.slice (some ⟨wd.heap.size,0,none⟩) 1 1) b M) (by simp))
        have HZ:=zq hz
        clear J hz j7 j8 j1 e3 cc a1 f5 f4 b3 c2 f9 f7 e6 g7
        go_wp2_with fail
        refine ay (v:=aK #[aN #[ab ae 3,ab ae 0,aa t.txt,.slice (some ⟨wd.heap.size,0,none⟩) 1 1],ab ae y.prec]) (by simp [results,Tryz.results131,go_sem,r0,r1,r2,r3,j3]) rfl ?_
        rw [HV.out]
        exact ⟨by have:=e7.out;have:=d8.out;omega,_,_,Z,rfl,HZ.out.p,HZ.out.s,k2.out.out⟩
end Go.Proofs.YtlikcjbjibhjgaaGreatDoor
