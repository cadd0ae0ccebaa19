/- Parts of the proof. -/
import Derived.Test.YtbojljpldcijgaaGreatR01
import Derived.Test.YtbojljpldcijgaaGreatR13
import Derived.Deep.DeepCutAuto
import Derived.Deep.RegionHeld3
import Derived.Test.YtbojljpldcijgaaGreatR15
set_option maxHeartbeats 12800000
set_option maxRecDepth 100000
set_option linter.unusedSimpArgs false
open Go renaming Value -> aC, World -> au, bodyPost_ret -> aw, execOp -> aL
open Go.IntKind renaming i64 -> ab
open Go.Proofs.Tryz renaming prog -> am
open Go.RowKit renaming Below -> aB
open Go.RowKit.Below renaming refl -> ap
open Go.Value renaming agg -> aV, bool -> av, int -> aa, pointer -> ar, string -> ac, tuple -> aJ
open List renaming append_nil -> aj, cons_append -> ag, mem_append -> di, mem_cons -> bh, mem_nil_iff -> be, mem_singleton -> aK, nil_append -> ai, range -> aM
open List.Sublist renaming cons_cons -> eA
open Nat renaming le_refl -> ae, le_succ -> bm, reduceAdd -> af, zero_add -> ah
namespace Go.Proofs.YtbojljpldcijgaaGreat
open Go.RowKit Hb
attribute [local go_sem] Oper.semAt_some
theorem TOut.bad {c:PC} {n:Nat} {a:aC} {w0 w:au} {R:RR (Tm×Int×Nat)} {k:Nat} {e:Ending} (b:R=.error k) (h:AG c a w0 k e w):TOut c n a w0 R e w:=by rw [b];exact h
structure RgR (c:PC) (n:Nat) (v:VS) (nv0:aC) (w0:au) (nv:aC) (L:List (Nat×List aC)) (g:Nat) (w:au):Prop where
 wk:Wk c n v nv0 w0 nv w L
 rb:∃u0 u1 u2 u3,Bk w g [u0,u1,u2,u3]
 gm:¬c.mine nv g
 gL:∀x∈L,x.1≠g
 gw:w0.heap.size<=g
theorem RgR.call {c:PC} {n:Nat} {v:VS} {d:aC} {w0:au} {b:aC} {L:List (Nat×List aC)} {g:Nat} {w w':au} (h:RgR c n v d w0 b L g w) (a:aB w.heap.size w w'):RgR c n v d w0 b L g w':=by
 obtain ⟨u0,u1,u2,u3,e⟩:=h.rb
 exact ⟨h.wk.call a,⟨u0,u1,u2,u3,e.call a⟩,h.gm,h.gL,h.gw⟩
theorem ov {B:Nat} {w0 w:au} (h:aB B w0 w) (g:Nat) (a:B<=g) (x y z u:aC):aB B w0 ((((w.setCell ⟨g,0,none⟩ x).setCell ⟨g,1,none⟩ y).setCell ⟨g,2,none⟩ z).setCell ⟨g,3,none⟩ u) :=
 (((h.setCell (p:=⟨_,_,none⟩) a _).setCell (p:=⟨_,_,none⟩) a _).setCell (p:=⟨_,_,none⟩) a _).setCell (p:=⟨_,_,none⟩) a _
theorem RgR.put4 {c:PC} {n:Nat} {v:VS} {m:aC} {w0:au} {j:aC} {L:List (Nat×List aC)} {g:Nat} {w:au} (h:RgR c n v m w0 j L g w) (x y z u:aC):RgR c n v m w0 j L g ((((w.setCell ⟨g,0,none⟩ x).setCell ⟨g,1,none⟩ y).setCell ⟨g,2,none⟩ z).setCell ⟨g,3,none⟩ u):=by
 obtain ⟨u0,u1,u2,u3,i⟩:=h.rb
 have d:∀k,k≠g->((((w.setCell ⟨g,0,none⟩ x).setCell ⟨g,1,none⟩ y).setCell ⟨g,2,none⟩ z).setCell ⟨g,3,none⟩ u).heap[k]? = w.heap[k]?:=fun k d=>bH _ _ _ _ _ _ _ d
 have l:∀k,c.mine j k->k≠g:=fun k f e=>h.gm (e ▸ f)
 have q:∀k,k<c.B1->k≠g:=fun k f e=>by have:=h.gw;have:=h.wk.start0;omega
 have r:=h.wk.p.keep (w':=((((w.setCell ⟨g,0,none⟩ x).setCell ⟨g,1,none⟩ y).setCell ⟨g,2,none⟩ z).setCell ⟨g,3,none⟩ u)) (by simp) (fun b f=>d b (l b f)) (fun b i=>d b (q b i))
 refine ⟨⟨r,⟨h.wk.s.os,h.wk.s.tape,h.wk.s.output,by simpa using h.wk.s.size,fun b i f=>(d b (by have:=h.gw;omega)).trans (h.wk.s.block b i f),h.wk.s.own⟩,ov h.wk.low g (Nat.le_trans h.wk.start0 h.gw) _ _ _ _,⟨fun y a=>?_,h.wk.b.ord⟩,h.wk.off,h.wk.start0⟩,⟨x,y,z,u,(((i.set 0 x).set 1 y).set 2 z).set 3 u⟩,h.gm,h.gL,h.gw⟩
 have o:=h.wk.b.bk y a
 refine o.keeps (d _ ?_)
 rcases di.1 a with a | a
 ·exact h.gL y a
 ·rw [aK] at a;subst a;exact l _ (.inl rfl)
theorem Wk.sub {c:PC} {n:Nat} {v:VS} {f:aC} {w0:au} {e:aC} {w:au} {L L':List (Nat×List aC)} (h:Wk c n v f w0 e w L) (d:L'.Sublist L):Wk c n v f w0 e w L' :=
 ⟨h.p,h.s,h.low,⟨fun x a=>h.b.bk x (by
  rcases di.1 a with a | a
  ·exact List.mem_append_left _ (d.subset a)
  ·exact List.mem_append_right _ a),(h.b.ord).sublist ((d.append_right _).map _)⟩,fun x a=>h.off x (d.subset a),h.start0⟩
theorem AO {m:Int} (h:-9223372036854775808<=m/\m<=9223372036854775807):wrap64 (-m)=if m=-9223372036854775808 then m else -m:=by
 split
 ·rename_i e;subst e;decide +kernel
 ·exact IntWalk.wrap64_in _ (by omega)
theorem mO (P:List OpR) (s:ByteArray) (c:Int):-9223372036854775808<=((dK P s c).getD jL).prec/\((dK P s c).getD jL).prec<=9223372036854775807:=by
 cases hf:dK P s c with
 | none=>exact ⟨by show (-9223372036854775808:Int)<=0;omega,by show (0:Int)<=9223372036854775807;omega⟩
 | some q=>
  unfold dK at hf
  split at hf
  ·rename_i d
   have b:=List.mem_of_find?_eq_some hf
   have a:=wE d q b
   show _<=q.prec/\q.prec<=_
   unfold mu at a
   grind
  ·cases hf
theorem yi {c:PC} {S:PT} {k n i:Nat} {C:aC} {w:au} (hS:qi c S k) (O:k<=i) (j7:n<i) (p:PsAt c i (bv c.E.T i) C w) (t:NextR) (ht:t.r.text.length<=100) (a3:Int) :
  Calls am 144 #[ar (some ⟨c.P,0,none⟩),kk t,aa ab a3] w (TOut c n C w (tr c.E S t a3 i)):=by
 obtain ⟨R,HR⟩:=lz (tr c.E S t a3 i)
 rw [<-HR.out]
 obtain ⟨y,c4⟩:=lz ((dK c.E.P t.txt 1).getD jL)
 obtain ⟨bP,c8⟩:=lz (lv c.E.P t.txt 1)
 have HP:Hid (∀X a2,PsAt c i (bv c.E.T i) a2 X->Calls am 181 #[.slice c.OA c.on c.oc,ac t.txt] X fun e w'=>e=.returned (aJ #[aV #[ac y.name,aa ab y.typ,aa ab y.prec],av bP])/\aB X.heap.size X w'):=zq fun X a2 h=>by
  rw [c4.out,c8.out];exact pE c.OA c.on c.oc c.E.P t.txt X h.ok.opl (by have:=h.ok.few;omega) h.ops
 have a9:Hid (∀X,Calls am 96 #[aV #[ac y.name,aa ab y.typ,aa ab y.prec]] X fun e w'=>e=.returned (aJ #[aa ab (kL y),aa ab (ig y)])/\aB X.heap.size X w'):=zq fun X=>qU y X (by rw [c4.out];exact mO _ _ _)
 have a4:=zq (((Wk.start p).new [aa ab t.r.kind,ac t.txt,aa ab t.r.n,aa ab t.r.at_,aa ab t.r.end_,av t.lay] 76 rfl).new [aa ab 0,aa ab 0,ac ⟨#[]⟩,.slice none 0 0] 30 (g:=w.heap.size+1) (by simp))
 have HS:=zq (fun (m:Int) a2 W (h:PsAt c i (bv c.E.T i) a2 W)=>hS m i a2 W O h)
 have d8:=zq (fun a2 W (h:PsAt c i (bv c.E.T i) a2 W)=>oq hS (by omega:k<=i+1) h t.txt)
 have b3:=zq (fun W=>oX t.txt ht W)
 have b8:=zq (fun (A:Option Addr) (m k6:Nat) (W:au)=>iV t.txt A m k6 W)
 have e1:=zq (fun a2 W (h:PsAt c i (bv c.E.T i) a2 W)=>iW h 0 (by decide))
 have b9:=zq (fun a2 W (h:PsAt c i (bv c.E.T i) a2 W)=>yj h)
 have d3:=zq (xL t [45])
 have b6:=zq p.more
 have b7:=zq (show -9223372036854775808<=(c.E.at i).r.n/\(c.E.at i).r.n<=9223372036854775807 from (p.ok.txt _ (by rw [c.E.at_get p.n1];exact List.getElem_mem _)).2)
 have d9:=zq j7
 clear p hS O ht j7
 have HE:Hid (R=match ky c.E S t.txt i with
  | .error e=>.error e
  | .ok (some u,m)=>.ok (u,0,m)
  | .ok (none,_)=>
   if kF c.E t i=true then .ok (pQ (if (c.E.at i).r.n=-9223372036854775808 then (c.E.at i).r.n else -(c.E.at i).r.n),0,i+1)
   else if (bP&&(decide (y.prec<=a3) && !jo c.E i))=true then (match S (ig y) i with
    | .error e=>.error e
    | .ok (u,_,m)=>.ok (ju t.txt [u],y.prec,m))
   else .ok (qj t.txt,0,i)):=zq (by rw [HR.out,c4.out,c8.out];rfl)
 clear HR
 have J:=d8.out C _ a4.out.p
 unfold kk at *
 rcases K:ky c.E S t.txt i with e | ⟨ou,m⟩
 ·skip
  rw [K] at J
  have HV:Hid (R=.error e):=zq (by rw [HE.out,K])
  have HX:=zq J
  clear J K HE HP a9 HS d8 b3 b8 e1 b9 d3 b6 b7 c4 c8
  go_enter Tryz.func144,Tryz.ntmps144
  go_wp2_with fail
  refine (HX.out).mono ?_;rintro e w9 ⟨rfl,c7⟩
  exact ⟨rfl,TOut.bad HV.out ⟨rfl,a4.out.fall c7⟩⟩
 rcases ou with _ | u
 rotate_left
 ·skip
  rw [K] at J
  have HV:Hid (R=.ok (u,0,m)):=zq (by rw [HE.out,K])
  have HX:=zq J
  clear J K HE HP a9 HS d8 b3 b8 e1 b9 d3 b6 b7 c4 c8
  go_enter Tryz.func144,Tryz.ntmps144
  go_wp2_with fail
  refine (HX.out).mono ?_;rintro e w1 ⟨d6,z,B,Z,rfl,hp,hs,ht⟩
  have d2:=zq (Trm.sub (w0:=w) (F:=[w.heap.size+1,w.heap.size]) ht a4.out.s.size (by intro b M;simp only [bh,be,or_false] at M;rcases M with rfl|rfl;exact a4.out.b.lt 0 rfl;exact a4.out.b.lt 1 rfl))
  have e9:=zq d6
  clear ht d6
  have d0:=zq (a4.out.step hp hs)
  clear a4
  clear hp hs
  clear HX
  unfold fI
  have a6:=zq (d0.out.new [aa ab u.kind,aa ab u.num,ac u.name,.slice z u.args.length B] 30 (g:=w1.heap.size) (by simp))
  have k2:=zq (d2.out.new (.cells #[aa ab u.kind,aa ab u.num,ac u.name,.slice z u.args.length B] 30) (g:=w1.heap.size) (by simp))
  clear d0 d2
  have d5:=a6.out.b.all
  simp only [PC.cells,ag,ai,aj,aH,aP,ah,af,and_true] at d5
  go_wp2_with fail
  have hz:=a6.out.put4 1 rfl (aa ab u.kind) (aa ab u.num) (ac u.name) (.slice z u.args.length B) (bm _)
  have ht:=k2.out.put (g:=w.heap.size+1) (by simp) (fun b M=>bH _ _ (aa ab u.kind) (aa ab u.num) (ac u.name) (.slice z u.args.length B) b M) (by simp)
  refine aw (v:=aJ #[aV #[aa ab u.kind,aa ab u.num,ac u.name,.slice z u.args.length B],aa ab 0]) (by simp [results,Tryz.results144,go_sem,d5]) rfl ?_
  rw [HV.out]
  exact ⟨by have:=e9.out;have:=d9.out;omega,z,B,Z,rfl,hz.p,hz.s,ht.out⟩
 ·skip
  rw [K] at J
  have a8:Hid (R=if kF c.E t i=true then .ok (pQ (if (c.E.at i).r.n=-9223372036854775808 then (c.E.at i).r.n else -(c.E.at i).r.n),0,i+1)
     else if (bP&&(decide (y.prec<=a3) && !jo c.E i))=true then (match S (ig y) i with
      | .error e=>.error e
      | .ok (u,_,m)=>.ok (ju t.txt [u],y.prec,m))
     else .ok (qj t.txt,0,i)):=zq (by rw [HE.out,K])
  have HX:=zq J
  clear J K HE d8 c4 c8
  go_enter Tryz.func144,Tryz.ntmps144
  go_wp2_with fail
  refine (HX.out).mono ?_;rintro e w1 ⟨l8,rfl,hp,hs⟩
  clear l8 HX
  have d0:=zq (a4.out.step hp hs)
  clear a4
  clear hp hs
  have a6:=zq (d0.out.new [aa ab 0,aa ab 0,ac ⟨#[]⟩,.slice none 0 0] 30 (g:=w1.heap.size) (by simp))
  clear d0
  have d5:=a6.out.b.all
  simp only [PC.cells,ag,ai,aj,aH,aP,ah,af,and_true] at d5
  go_upto_region 4 with fail
  obtain ⟨wa,i2⟩:=lz ((w1.alloc (.cells #[aa ab 0,aa ab 0,ac ⟨#[]⟩,.slice none 0 0] 30)))
  obtain ⟨U,g3⟩:=lz (w1.heap.size)
  clear d5
  rw [<-i2.out] at a6 |-
  rw [<-g3.out] at a6 |-
  go_wp2_with fail
  refine (e1.out C _ a6.out.p).mono ?_;rintro e w5 ⟨rfl,L⟩
  have i1:=zq (a6.out.call L)
  clear a6
  clear L e1 i2 g3
  obtain ⟨l,c2⟩:=lz ((c.E.at i))
  rw [Nat.add_zero,<-c2.out]
  rw [<-c2.out] at b6 b7 a8
  have a0:=zq (i1.out.new [aa ab l.r.kind,ac l.txt,aa ab l.r.n,aa ab l.r.at_,aa ab l.r.end_,av l.lay] 76 (g:=w5.heap.size) (by simp))
  clear i1
  have i9:=a0.out.b.all
  simp only [PC.cells,ag,ai,aj,aH,aP,ah,af,and_true] at i9
  go_upto_region 5 with fail
  obtain ⟨wb,i3⟩:=lz ((w5.alloc (.cells #[aa ab l.r.kind,ac l.txt,aa ab l.r.n,aa ab l.r.at_,aa ab l.r.end_,av l.lay] 76)))
  obtain ⟨V,g4⟩:=lz (w5.heap.size)
  clear i9
  rw [<-i3.out] at a0 |-
  rw [<-g4.out] at a0 |-
  clear i3 g4
  obtain ⟨mi,c1⟩:=lz ((t.r.kind==1&&(t.r.text==[45]&&(l.r.kind==4 && !l.lay))))
  have g7:Hid (kF c.E t i=mi):=zq (by rw [c1.out,c2.out];rfl)
  rw [g7.out] at a8
  clear g7
  go_cut [45] from 28 to 45 (fun x wc=>x=av mi/\wc=wb)
  case first=>
   have e3:=a0.out.b.all
   simp only [PC.cells,ag,ai,aj,aH,aP,ah,af,and_true] at e3
   have K:=d3.out
   have Q:=c1.out
   rw [show (t.r.text==[45])=decide (t.r.text=[45]) from by by_cases h:t.r.text=[45] <;> simp [h]] at Q
   clear a8 HP a9 HS b3 b8 b9 b6 b7 d3 c1 c2
   generalize decide (t.r.text=[45])=q2 at *
   by_cases h1:t.r.kind=1
   ·have b1:(t.r.kind==1)=true:=by simpa using h1
    rw [b1] at Q
    clear h1
    cases q2
    ·have hm:mi=false:=Q
     clear Q
     subst hm
     go_wp2_with fail
     go_meet
     exact ⟨rfl,rfl⟩
    ·by_cases h4:l.r.kind=4
     ·have b4:(l.r.kind==4)=true:=by simpa using h4
      rw [b4] at Q
      clear h4
      have hm:mi=!l.lay:=Q
      clear Q
      subst hm
      go_wp2_with fail
      go_meet
      exact ⟨rfl,rfl⟩
     ·have b4:(l.r.kind==4)=false:=by simpa using h4
      rw [b4] at Q
      clear h4
      have hm:mi=false:=Q
      clear Q
      subst hm
      go_wp2_with fail
      go_meet
      exact ⟨rfl,rfl⟩
   ·have b1:(t.r.kind==1)=false:=by simpa using h1
    rw [b1] at Q
    clear h1
    have hm:mi=false:=Q
    clear Q
    subst hm
    go_wp2_with fail
    go_meet
    exact ⟨rfl,rfl⟩
  case rest=>
   obtain ⟨rfl,rfl⟩:=hcut
   clear d3
   cases mi
   rotate_left
   ·skip
    have Q:=c1.out
    have h4:l.r.kind=4:=by simp at Q;exact Q.2.2.1
    have j6:=AO b7.out
    obtain ⟨vm,k5⟩:=lz (if l.r.n=-9223372036854775808 then l.r.n else -l.r.n)
    rw [<-k5.out] at j6 a8
    have HV:Hid (R=.ok (pQ vm,0,i+1)):=zq (by rw [a8.out,if_pos rfl])
    have j5:=b6.out (by rw [h4];decide)
    have k0:=zq j5
    have k4:Hid (mB (c.E.at i)=false):=zq (by rw [<-c2.out];exact kd h4 (by decide))
    have hi:wrap64 ((i:Int)+1)=(i:Int)+1:=jd (by have:=a0.out.p.n1;have:=a0.out.p.ok.len;omega)
    clear a8 HP a9 HS b3 b8 b9 b6 b7 h4 Q j5 c1
    have e3:=a0.out.b.all
    simp only [PC.cells,ag,ai,aj,aH,aP,ah,af,and_true] at e3
    go_upto_region 7 with fail
    have hq:=a0.out.inc k0.out
    obtain ⟨wn,i5⟩:=lz (wc.setCell ⟨c.P,1,none⟩ (aa ab ((i:Int)+1)))
    rw [<-i5.out] at hq |-
    have f4:=zq (hq.step (PsAt.skip k4.out a0.out.p.n1 hq.p) (Stp.refl c C wn))
    clear hq i5 a0 e3 hi
    have i6:=f4.out.b.all
    simp only [PC.cells,ag,ai,aj,aH,aP,ah,af,and_true] at i6
    go_wp2_with fail
    rw [j6]
    refine (xW vm _).mono ?_;rintro e m1 ⟨rfl,L⟩
    have g9:=zq (f4.out.call L)
    clear f4 i6
    clear L 
    have i7:=g9.out.b.all
    simp only [PC.cells,ag,ai,aj,aH,aP,ah,af,and_true] at i7
    go_wp2_with fail
    have hz:=g9.out.put4 2 rfl (aa ab 1) (aa ab vm) (ac ⟨#[]⟩) (.slice none 0 0) (bm _)
    refine aw (v:=aJ #[aV #[aa ab 1,aa ab vm,ac ⟨#[]⟩,.slice none 0 0],aa ab 0]) (by simp [results,Tryz.results144,go_sem,i7]) rfl ?_
    rw [HV.out]
    exact ⟨Nat.lt_succ_of_lt d9.out,none,0,C,rfl,hz.p,hz.s,TmsK.nil⟩
   have c0:Hid (R=if (bP&&(decide (y.prec<=a3) && !jo c.E i))=true then (match S (ig y) i with
       | .error e=>.error e
       | .ok (u,_,m)=>.ok (ju t.txt [u],y.prec,m))
      else .ok (qj t.txt,0,i)):=a8
   clear a8 b6 b7 c1 c2
   go_wp2_with fail
   rename_i K8 j1
   refine fu (w0:=wc) [bB [] [0] (fun|[v]=>v=ar (some ⟨c.P,0,none⟩)|_=>False),
    bB [0] [1] (fun|[v]=>v=ar (some ⟨c.P,0,none⟩)|_=>False),
    bB [0,1] [2] (fun|[v]=>v=ar (some ⟨c.P,2,none⟩)|_=>False),
    eT (aM 3) [3] (fun|[v]=>v=.slice c.OA c.on c.oc|_=>False),
    bB [] [4] (fun|[v]=>v=ar (some ⟨w.heap.size,1,none⟩)|_=>False),
    eT [4] [5] (fun|[v]=>v=ac t.txt|_=>False),
    eT (aM 6) [6] (fun|[v]=>v=aJ #[aV #[ac y.name,aa ab y.typ,aa ab y.prec],av bP]|_=>False),
    bB (aM 7) [7] (fun|[v]=>v=aJ #[aV #[ac y.name,aa ab y.typ,aa ab y.prec],av bP]|_=>False),
    bB (aM 8) [8] (fun|[v]=>v=aV #[ac y.name,aa ab y.typ,aa ab y.prec]|_=>False),
    bB (aM 8) [9] (fun|[v]=>v=av bP|_=>False),
    qr [] [ac ⟨#[]⟩,aa ab 0,aa ab 0] 11,
    kD [0,1,2,3,4,5,6,7,8,10] [] 10 (fun _=>[ac y.name,aa ab y.typ,aa ab y.prec]),
    bB (aM 12) [12] (fun|[v]=>v=av bP|_=>False)]
    [some 58,some 59,some 60,some 61,some 62,some 63,some 64,some 57,some 65,some 66,some 11,none,some 12] (fun _=>True) (wc.heap.size) (by kernel_rfl) (ae _) (by kernel_rfl) (by kernel_rfl) (by kernel_rfl) (fun j o ho=>?srv8) (fun val Y N hv HF=>?fin8)
   case srv8=>
    have j4:j<13:=(Array.getElem?_eq_some_iff.1 ho).1
    rcases (show j=0\/j=1\/j=2\/j=3\/j=4\/j=5\/j=6\/j=7\/j=8\/j=9\/j=10\/j=11\/j=12 by omega) with rfl|rfl|rfl|rfl|rfl|rfl|rfl|rfl|rfl|rfl|rfl|rfl|rfl
    ·cases ho
     refine aY rfl rfl (fun val E G H=>?_)
     have e0:=G.t 0 (ar (some ⟨c.P,0,none⟩)) rfl
     exact ⟨_,fun X=>by simp [aL,go_sem,e0],rfl⟩
    ·cases ho
     refine aY rfl rfl (fun val E G H=>?_)
     have k9:=G.t 58 (val 0) rfl
     have h0:val 0=_:=H 0 (oz rfl)
     exact ⟨_,fun X=>by simp [aL,go_sem,k9,h0],rfl⟩
    ·cases ho
     refine aY rfl rfl (fun val E G H=>?_)
     have l0:=G.t 59 (val 1) rfl
     have h1:val 1=_:=H 1 (oz rfl)
     exact ⟨_,fun X=>by simp [aL,go_sem,l0,h1],rfl⟩
    ·cases ho
     refine dU rfl rfl (fun _ _ _=>trivial) (fun val E X G L H=>?_)
     have l1:=G.t 60 (val 2) rfl
     have h2:val 2=_:=H 2 (oz rfl)
     have O:=(a0.out.call L).p.bk.c 2 _ rfl
     exact ⟨_,by simp [aL,go_sem,l1,h2,O],rfl⟩
    ·cases ho
     refine aY rfl rfl (fun val E G H=>?_)
     have e4:=G.t 4 (ar (some ⟨w.heap.size,0,none⟩)) rfl
     exact ⟨_,fun X=>by simp [aL,go_sem,e4],rfl⟩
    ·cases ho
     refine dU rfl rfl (fun _ _ _=>trivial) (fun val E X G L H=>?_)
     have l3:=G.t 62 (val 4) rfl
     have h4:val 4=_:=H 4 (oz rfl)
     have O:=((a0.out.call L).b.at 3 _ _ rfl).c 1 _ rfl
     exact ⟨_,by simp [aL,go_sem,l3,h4,O],rfl⟩
    ·cases ho
     refine ge rfl rfl (fun _ _ _=>trivial) (fun val E X G L H=>?_)
     have l2:=G.t 61 (val 3) rfl
     have h3:val 3=_:=H 3 (oz rfl)
     have l4:=G.t 63 (val 5) rfl
     have h5:val 5=_:=H 5 (oz rfl)
     exact ⟨_,_,_,by simp [aL,go_sem,G.f,l2,h3,l4,h5] <;> rfl,HP.out X C (a0.out.call L).p,rfl⟩
    ·cases ho
     refine aY rfl rfl (fun val E G H=>?_)
     have l5:=G.t 64 (val 6) rfl
     have h6:val 6=_:=H 6 (oz rfl)
     exact ⟨aJ #[aV #[ac y.name,aa ab y.typ,aa ab y.prec],av bP],fun X=>by simp [aL,go_sem,l5,h6],rfl⟩
    ·cases ho
     refine aY rfl rfl (fun val E G H=>?_)
     have f7:=G.t 57 (val 7) rfl
     have h7:val 7=_:=H 7 (oz rfl)
     exact ⟨_,fun X=>by simp [aL,go_sem,f7,h7],rfl⟩
    ·cases ho
     refine aY rfl rfl (fun val E G H=>?_)
     have f7:=G.t 57 (val 7) rfl
     have h7:val 7=_:=H 7 (oz rfl)
     exact ⟨_,fun X=>by simp [aL,go_sem,f7,h7],rfl⟩
    ·cases ho
     exact jq rfl (fun _=>trivial) (trivial) 61 fun E X=>by simp [aL,go_sem]
    ·cases ho
     refine im rfl rfl (fun _=>trivial) fun val E X b G H M O=>?_
     have k8:=G.t 11 (val 10) rfl
     have l6:=G.t 65 (val 8) rfl
     have h8:val 8=_:=H 8 (oz rfl)
     have z0:=O.c 0 (ac ⟨#[]⟩) rfl
     have f0:=O.f 0
     have z1:=O.c 1 (aa ab 0) rfl
     have f1:=O.f 1
     have z2:=O.c 2 (aa ab 0) rfl
     have f2:=O.f 2
     exact ⟨(((X.setCell ⟨b,0,none⟩ (ac y.name)).setCell ⟨b,1,none⟩ (aa ab y.typ)).setCell ⟨b,2,none⟩ (aa ab y.prec)),[ac y.name,aa ab y.typ,aa ab y.prec],by simp [aL,go_sem,M,k8,l6,h8,z0,f0,z1,f1,z2,f2],((((PutTo.start O).more 0 (ac y.name)).more 1 (aa ab y.typ)).more 2 (aa ab y.prec)),rfl,trivial⟩
    ·cases ho
     refine aY rfl rfl (fun val E G H=>?_)
     have l7:=G.t 66 (val 9) rfl
     have h9:val 9=_:=H 9 (oz rfl)
     exact ⟨_,fun X=>by simp [aL,go_sem,l7,h9],rfl⟩
   case fin8=>
    have h0:val 0=_:=hv 0 (by decide)
    have h1:val 1=_:=hv 1 (by decide)
    have h2:val 2=_:=hv 2 (by decide)
    have h3:val 3=_:=hv 3 (by decide)
    have h4:val 4=_:=hv 4 (by decide)
    have h5:val 5=_:=hv 5 (by decide)
    have h6:val 6=_:=hv 6 (by decide)
    have h7:val 7=_:=hv 7 (by decide)
    have h8:val 8=_:=hv 8 (by decide)
    have h9:val 9=_:=hv 9 (by decide)
    have j0:val 12=_:=hv 12 (by decide)
    obtain ⟨I,M,hl,O,_⟩:=HF.at_box 10 (by decide) rfl
    have j3:Bk Y I [ac y.name,aa ab y.typ,aa ab y.prec]:=O
    have c6:Hid (Wk c i (bv c.E.T i) C w C Y [(I,[ac y.name,aa ab y.typ,aa ab y.prec]),(V,[aa ab l.r.kind,ac l.txt,aa ab l.r.n,aa ab l.r.at_,aa ab l.r.end_,av l.lay]),(U,[aa ab 0,aa ab 0,ac ⟨#[]⟩,.slice none 0 0]),(w.heap.size+1,[aa ab 0,aa ab 0,ac ⟨#[]⟩,.slice none 0 0]),(w.heap.size,[aa ab t.r.kind,ac t.txt,aa ab t.r.n,aa ab t.r.at_,aa ab t.r.end_,av t.lay])]):=zq (a0.out.box HF.bel hl j3)
    clear hv HF O j3 hl a0
    refine j1 _ _ ?_
    simp only [gD,List.set_cons_zero,List.set_cons_succ,af,ah,M,h0,h1,h2,h3,h4,h5,h6,h7,h8,h9,j0]
    clear j1 M h0 h1 h2 h3 h4 h5 h6 h7 h8 h9 j0
    have f9:=zq (b9.out C Y c6.out.p)
    clear HP b9
    obtain ⟨pr,e2⟩:=lz ((bP&&(decide (y.prec<=a3) && !jo c.E i)))
    rw [<-e2.out] at c0
    go_upto_region 9 with fail
    go_cut [78] from 67 to 78 (fun x wc=>x=av pr/\Hid (Wk c i (bv c.E.T i) C w C wc [(I,[ac y.name,aa ab y.typ,aa ab y.prec]),(V,[aa ab l.r.kind,ac l.txt,aa ab l.r.n,aa ab l.r.at_,aa ab l.r.end_,av l.lay]),(U,[aa ab 0,aa ab 0,ac ⟨#[]⟩,.slice none 0 0]),(w.heap.size+1,[aa ab 0,aa ab 0,ac ⟨#[]⟩,.slice none 0 0]),(w.heap.size,[aa ab t.r.kind,ac t.txt,aa ab t.r.n,aa ab t.r.at_,aa ab t.r.end_,av t.lay])]))
    case first=>
     have k7:=c6.out.b.all
     simp only [PC.cells,ag,ai,aj,aH,aP,ah,af,and_true] at k7
     have b2:=e2.out
     clear c0 a9 HS b3 b8 e2
     generalize jo c.E i=al at *
     cases bP
     ·have hm:pr=false:=b2
      clear b2
      subst hm
      go_wp2_with fail
      go_meet
      exact ⟨rfl,c6⟩
     ·by_cases e6:y.prec<=a3
      ·have d1:decide (y.prec<=a3)=true:=decide_eq_true e6
       rw [d1] at b2
       have hm:pr=!al:=b2
       clear b2 e6
       subst hm
       go_wp2_with fail
       refine f9.out.mono ?_;rintro e w9 ⟨rfl,c7⟩
       have k1:=zq (c6.out.call c7)
       clear c7
       go_wp2_with fail
       go_meet
       exact ⟨rfl,k1⟩
      ·have d1:decide (y.prec<=a3)=false:=decide_eq_false e6
       rw [d1] at b2
       have hm:pr=false:=b2
       clear b2 e6
       subst hm
       go_wp2_with fail
       go_meet
       exact ⟨rfl,c6⟩
    case rest=>
     obtain ⟨rfl,c5⟩:=hcut
     clear c6 f9 e2
     cases pr
     ·skip
      have HV:Hid (R=.ok (qj t.txt,0,i)):=c0
      clear c0 a9 HS b8
      have d4:=c5.out.b.all
      simp only [PC.cells,ag,ai,aj,aH,aP,ah,af,and_true] at d4
      go_wp2_with fail
      refine (b3.out _).mono ?_;rintro e m0 ⟨Aa,ca,rfl,L⟩
      have a5:=zq (c5.out.call L)
      clear c5 d4
      clear L 
      have i8:=a5.out.b.all
      simp only [PC.cells,ag,ai,aj,aH,aP,ah,af,and_true] at i8
      go_wp2_with fail
      have hz:=a5.out.put4 3 rfl (aa ab 2) (aa ab 0) (ac t.txt) (.slice Aa 0 ca) (bm _)
      refine aw (v:=aJ #[aV #[aa ab 2,aa ab 0,ac t.txt,.slice Aa 0 ca],aa ab 0]) (by simp [results,Tryz.results144,go_sem,i8]) rfl ?_
      rw [HV.out]
      exact ⟨d9.out,Aa,ca,C,rfl,hz.p,hz.s,TmsK.nil⟩
     ·skip
      have c9:Hid (R=match S (ig y) i with | .error e=>.error e | .ok (u,_,m)=>.ok (ju t.txt [u],y.prec,m)):=c0
      clear c0 b3
      have d4:=c5.out.b.all
      simp only [PC.cells,ag,ai,aj,aH,aP,ah,af,and_true] at d4
      go_wp2_with fail
      refine (a9.out _).mono ?_;rintro e m0 ⟨rfl,L⟩
      have a5:=zq (c5.out.call L)
      clear c5 d4
      clear L a9
      have J:=HS.out (ig y) C _ a5.out.p
      clear HS
      rcases K:S (ig y) i with e | ⟨u,pu,m⟩
      ·skip
       rw [K] at J c9
       clear K
       have HV:Hid (R=.error e):=c9
       have HX:=zq J
       clear J
       go_wp2_with fail
       refine (HX.out).mono ?_;rintro e w9 ⟨rfl,c7⟩
       exact ⟨rfl,TOut.bad HV.out ⟨rfl,a5.out.fall c7⟩⟩
      ·skip
       rw [K] at J c9
       clear K
       have HV:Hid (R=.ok (ju t.txt [u],y.prec,m)):=c9
       have HX:=zq J
       clear J c9
       go_wp2_with fail
       refine (HX.out).mono ?_;rintro e d7 ⟨d6,z,B,Z,rfl,hp,hs,ht⟩
       have d2:=zq (Trm.sub (w0:=w) (F:=[w.heap.size+1]) ht a5.out.s.size (by intro b M;rw [aK] at M;subst M;exact a5.out.b.lt 3 rfl))
       have e9:=zq d6
       clear ht d6
       have i0:=zq (a5.out.step hp hs)
       clear a5
       clear hp hs
       clear HX
       unfold fI
       have a1:=zq (i0.out.new [aa ab u.kind,aa ab u.num,ac u.name,.slice z u.args.length B] 30 (g:=d7.heap.size) rfl)
       have f6:=zq (d2.out.call ((ap d7.heap.size d7).alloc (ae _) (.cells #[aa ab u.kind,aa ab u.num,ac u.name,.slice z u.args.length B] 30)))
       obtain ⟨wd,i4⟩:=lz (d7.alloc (.cells #[aa ab u.kind,aa ab u.num,ac u.name,.slice z u.args.length B] 30))
       obtain ⟨D,g6⟩:=lz (d7.heap.size)
       go_upto_region 12 with fail
       rw [<-i4.out] at a1 f6 |-
       rw [<-g6.out] at a1 |-
       have cc:=a1.out.b.all
       simp only [PC.cells,ag,ai,aj,aH,aP,ah,af,and_true] at cc
       clear i0 d2 i4 g6
       have f5:Hid (RgR c m (bv c.E.T m) C w Z [(D,[aa ab u.kind,aa ab u.num,ac u.name,.slice z u.args.length B]),(I,[ac y.name,aa ab y.typ,aa ab y.prec]),(V,[aa ab l.r.kind,ac l.txt,aa ab l.r.n,aa ab l.r.at_,aa ab l.r.end_,av l.lay]),(U,[aa ab 0,aa ab 0,ac ⟨#[]⟩,.slice none 0 0]),(w.heap.size,[aa ab t.r.kind,ac t.txt,aa ab t.r.n,aa ab t.r.at_,aa ab t.r.end_,av t.lay])] (w.heap.size+1) wd):=zq ⟨a1.out.sub (by
         refine eA _ (eA _ (eA _ (eA _ (List.Sublist.cons _ (List.Sublist.refl _)))))),⟨_,_,_,_,a1.out.b.at 4 _ _ rfl⟩,a1.out.off (w.heap.size+1,[aa ab 0,aa ab 0,ac ⟨#[]⟩,.slice none 0 0]) (by simp),by
         have l9:=a1.out.b.ord
         have h4:D > w.heap.size+1/\I > w.heap.size+1/\V > w.heap.size+1/\U > w.heap.size+1:=by
          simp only [ag,ai,List.map_cons,List.map_nil,List.pairwise_cons,bh,be,or_false,forall_eq_or_imp,forall_eq] at l9
          grind
         intro x K
         simp only [bh,be,or_false] at K
         rcases K with rfl|rfl|rfl|rfl|rfl <;> simp only <;> omega,bm _⟩
       have b5:Hid (∀X,RgR c m (bv c.E.T m) C w Z [(D,[aa ab u.kind,aa ab u.num,ac u.name,.slice z u.args.length B]),(I,[ac y.name,aa ab y.typ,aa ab y.prec]),(V,[aa ab l.r.kind,ac l.txt,aa ab l.r.n,aa ab l.r.at_,aa ab l.r.end_,av l.lay]),(U,[aa ab 0,aa ab 0,ac ⟨#[]⟩,.slice none 0 0]),(w.heap.size,[aa ab t.r.kind,ac t.txt,aa ab t.r.n,aa ab t.r.at_,aa ab t.r.end_,av t.lay])] (w.heap.size+1) X->X.cell? ⟨w.heap.size,1,none⟩=some (ac t.txt)/\X.cell? ⟨D,0,none⟩=some (aa ab u.kind)/\X.cell? ⟨D,1,none⟩=some (aa ab u.num)/\X.cell? ⟨D,2,none⟩=some (ac u.name)/\X.cell? ⟨D,3,none⟩=some (.slice z u.args.length B)/\X.cell? ⟨I,2,none⟩=some (aa ab y.prec)/\RgR c m (bv c.E.T m) C w Z [(D,[aa ab u.kind,aa ab u.num,ac u.name,.slice z u.args.length B]),(I,[ac y.name,aa ab y.typ,aa ab y.prec]),(V,[aa ab l.r.kind,ac l.txt,aa ab l.r.n,aa ab l.r.at_,aa ab l.r.end_,av l.lay]),(U,[aa ab 0,aa ab 0,ac ⟨#[]⟩,.slice none 0 0]),(w.heap.size,[aa ab t.r.kind,ac t.txt,aa ab t.r.n,aa ab t.r.at_,aa ab t.r.end_,av t.lay])] (w.heap.size+1) X):=zq fun X h=>by
        have b0:=h.wk.b.at 0 _ _ rfl
        exact ⟨(h.wk.b.at 4 _ _ rfl).c 1 _ rfl,b0.c 0 _ rfl,b0.c 1 _ rfl,b0.c 2 _ rfl,b0.c 3 _ rfl,(h.wk.b.at 1 _ _ rfl).c 2 _ rfl,h⟩
       have c3:Hid (∀X,(X.cell? ⟨w.heap.size,1,none⟩=some (ac t.txt)/\X.cell? ⟨D,0,none⟩=some (aa ab u.kind)/\X.cell? ⟨D,1,none⟩=some (aa ab u.num)/\X.cell? ⟨D,2,none⟩=some (ac u.name)/\X.cell? ⟨D,3,none⟩=some (.slice z u.args.length B)/\X.cell? ⟨I,2,none⟩=some (aa ab y.prec)/\RgR c m (bv c.E.T m) C w Z [(D,[aa ab u.kind,aa ab u.num,ac u.name,.slice z u.args.length B]),(I,[ac y.name,aa ab y.typ,aa ab y.prec]),(V,[aa ab l.r.kind,ac l.txt,aa ab l.r.n,aa ab l.r.at_,aa ab l.r.end_,av l.lay]),(U,[aa ab 0,aa ab 0,ac ⟨#[]⟩,.slice none 0 0]),(w.heap.size,[aa ab t.r.kind,ac t.txt,aa ab t.r.n,aa ab t.r.at_,aa ab t.r.end_,av t.lay])] (w.heap.size+1) X)->RgR c m (bv c.E.T m) C w Z [(D,[aa ab u.kind,aa ab u.num,ac u.name,.slice z u.args.length B]),(I,[ac y.name,aa ab y.typ,aa ab y.prec]),(V,[aa ab l.r.kind,ac l.txt,aa ab l.r.n,aa ab l.r.at_,aa ab l.r.end_,av l.lay]),(U,[aa ab 0,aa ab 0,ac ⟨#[]⟩,.slice none 0 0]),(w.heap.size,[aa ab t.r.kind,ac t.txt,aa ab t.r.n,aa ab t.r.at_,aa ab t.r.end_,av t.lay])] (w.heap.size+1) X):=zq fun X h=>h.2.2.2.2.2.2
       have g0:Hid (RgR c m (bv c.E.T m) C w Z [(D,[aa ab u.kind,aa ab u.num,ac u.name,.slice z u.args.length B]),(I,[ac y.name,aa ab y.typ,aa ab y.prec]),(V,[aa ab l.r.kind,ac l.txt,aa ab l.r.n,aa ab l.r.at_,aa ab l.r.end_,av l.lay]),(U,[aa ab 0,aa ab 0,ac ⟨#[]⟩,.slice none 0 0]),(w.heap.size,[aa ab t.r.kind,ac t.txt,aa ab t.r.n,aa ab t.r.at_,aa ab t.r.end_,av t.lay])] (w.heap.size+1) wd.drew):=zq (f5.out.call (ap _ _).drew)
       have f8:Hid (∀X (o:Obj),RgR c m (bv c.E.T m) C w Z [(D,[aa ab u.kind,aa ab u.num,ac u.name,.slice z u.args.length B]),(I,[ac y.name,aa ab y.typ,aa ab y.prec]),(V,[aa ab l.r.kind,ac l.txt,aa ab l.r.n,aa ab l.r.at_,aa ab l.r.end_,av l.lay]),(U,[aa ab 0,aa ab 0,ac ⟨#[]⟩,.slice none 0 0]),(w.heap.size,[aa ab t.r.kind,ac t.txt,aa ab t.r.n,aa ab t.r.at_,aa ab t.r.end_,av t.lay])] (w.heap.size+1) X->RgR c m (bv c.E.T m) C w Z [(D,[aa ab u.kind,aa ab u.num,ac u.name,.slice z u.args.length B]),(I,[ac y.name,aa ab y.typ,aa ab y.prec]),(V,[aa ab l.r.kind,ac l.txt,aa ab l.r.n,aa ab l.r.at_,aa ab l.r.end_,av l.lay]),(U,[aa ab 0,aa ab 0,ac ⟨#[]⟩,.slice none 0 0]),(w.heap.size,[aa ab t.r.kind,ac t.txt,aa ab t.r.n,aa ab t.r.at_,aa ab t.r.end_,av t.lay])] (w.heap.size+1) (X.alloc o)):=zq fun X o h=>h.call ((ap _ _).alloc (ae _) o)
       have e7:Hid (∀X (o:Obj),RgR c m (bv c.E.T m) C w Z [(D,[aa ab u.kind,aa ab u.num,ac u.name,.slice z u.args.length B]),(I,[ac y.name,aa ab y.typ,aa ab y.prec]),(V,[aa ab l.r.kind,ac l.txt,aa ab l.r.n,aa ab l.r.at_,aa ab l.r.end_,av l.lay]),(U,[aa ab 0,aa ab 0,ac ⟨#[]⟩,.slice none 0 0]),(w.heap.size,[aa ab t.r.kind,ac t.txt,aa ab t.r.n,aa ab t.r.at_,aa ab t.r.end_,av t.lay])] (w.heap.size+1) X->RgR c m (bv c.E.T m) C w Z [(D,[aa ab u.kind,aa ab u.num,ac u.name,.slice z u.args.length B]),(I,[ac y.name,aa ab y.typ,aa ab y.prec]),(V,[aa ab l.r.kind,ac l.txt,aa ab l.r.n,aa ab l.r.at_,aa ab l.r.end_,av l.lay]),(U,[aa ab 0,aa ab 0,ac ⟨#[]⟩,.slice none 0 0]),(w.heap.size,[aa ab t.r.kind,ac t.txt,aa ab t.r.n,aa ab t.r.at_,aa ab t.r.end_,av t.lay])] (w.heap.size+1) (X.alloc o).drew):=zq fun X o h=>(h.call ((ap _ _).alloc (ae _) o)).call (ap _ _).drew
       have g8:Hid (∀X a b c' d,RgR c m (bv c.E.T m) C w Z [(D,[aa ab u.kind,aa ab u.num,ac u.name,.slice z u.args.length B]),(I,[ac y.name,aa ab y.typ,aa ab y.prec]),(V,[aa ab l.r.kind,ac l.txt,aa ab l.r.n,aa ab l.r.at_,aa ab l.r.end_,av l.lay]),(U,[aa ab 0,aa ab 0,ac ⟨#[]⟩,.slice none 0 0]),(w.heap.size,[aa ab t.r.kind,ac t.txt,aa ab t.r.n,aa ab t.r.at_,aa ab t.r.end_,av t.lay])] (w.heap.size+1) X->RgR c m (bv c.E.T m) C w Z [(D,[aa ab u.kind,aa ab u.num,ac u.name,.slice z u.args.length B]),(I,[ac y.name,aa ab y.typ,aa ab y.prec]),(V,[aa ab l.r.kind,ac l.txt,aa ab l.r.n,aa ab l.r.at_,aa ab l.r.end_,av l.lay]),(U,[aa ab 0,aa ab 0,ac ⟨#[]⟩,.slice none 0 0]),(w.heap.size,[aa ab t.r.kind,ac t.txt,aa ab t.r.n,aa ab t.r.at_,aa ab t.r.end_,av t.lay])] (w.heap.size+1) ((((X.setCell ⟨w.heap.size+1,0,none⟩ a).setCell ⟨w.heap.size+1,1,none⟩ b).setCell ⟨w.heap.size+1,2,none⟩ c').setCell ⟨w.heap.size+1,3,none⟩ d)):=zq fun X a b c' d h=>h.put4 a b c' d
       go_region_held3 (fun X=>X.cell? ⟨w.heap.size,1,none⟩=some (ac t.txt)/\X.cell? ⟨D,0,none⟩=some (aa ab u.kind)/\X.cell? ⟨D,1,none⟩=some (aa ab u.num)/\X.cell? ⟨D,2,none⟩=some (ac u.name)/\X.cell? ⟨D,3,none⟩=some (.slice z u.args.length B)/\X.cell? ⟨I,2,none⟩=some (aa ab y.prec)/\RgR c m (bv c.E.T m) C w Z [(D,[aa ab u.kind,aa ab u.num,ac u.name,.slice z u.args.length B]),(I,[ac y.name,aa ab y.typ,aa ab y.prec]),(V,[aa ab l.r.kind,ac l.txt,aa ab l.r.n,aa ab l.r.at_,aa ab l.r.end_,av l.lay]),(U,[aa ab 0,aa ab 0,ac ⟨#[]⟩,.slice none 0 0]),(w.heap.size,[aa ab t.r.kind,ac t.txt,aa ab t.r.n,aa ab t.r.at_,aa ab t.r.end_,av t.lay])] (w.heap.size+1) X)
        (first
         | with_reducible exact b5.out _ g0.out
         | with_reducible exact b5.out _ (RgR.call (c3.out _ (by with_reducible assumption)) (by with_reducible assumption))
         | with_reducible exact b5.out _ (f8.out _ _ (c3.out _ (by with_reducible assumption)))
         | with_reducible exact b5.out _ (e7.out _ _ f5.out)
         | with_reducible exact b5.out _ (e7.out _ _ (c3.out _ (by with_reducible assumption)))
         | with_reducible exact b5.out _ (g8.out _ _ _ _ _ (c3.out _ (by with_reducible assumption)))
         | fail)
        (first
         | (go_at_call 97;(with_reducible refine (b8.out _ _ _ _).mono ?_);rintro e wS ⟨rfl,e5⟩;(have j2:=RgR.call (c3.out _ (by with_reducible assumption)) e5);(obtain ⟨q0,q1,q2,q3,a7⟩:=j2.rb);have r0:=a7.c 0 _ rfl;have r1:=a7.c 1 _ rfl;have r2:=a7.c 2 _ rfl;have r3:=a7.c 3 _ rfl;have f0:=a7.f 0;have f1:=a7.f 1;have f2:=a7.f 2;have f3:=a7.f 3;have j4:=a7.lt)
         | fail)
       all_goals
        have J:=((ap wd.heap.size wd).alloc (ae _) (.cells #[aa ab u.kind,aa ab u.num,ac u.name,.slice z u.args.length B] 30)).drew.trans (e5.mono (by simp [World.drew]))
        have hz:=(a1.out.call J).put4 4 rfl (aa ab 3) (aa ab 0) (ac t.txt) (.slice (some ⟨wd.heap.size,0,none⟩) 1 1) (bm _)
        have j8:=Trm.row a1.out.p a1.out.s.size (F:=[w.heap.size+1]) (by intro b M;rw [aK] at M;subst M;exact a1.out.b.lt 4 rfl) 30 [(u,z,B)] (by simp [maxLen]) (by intro q hq;rw [aK] at hq;subst hq;exact f6.out)
        have j9:=(j8.call (ap _ _).drew).call e5
        have k3:=zq (j9.put (g:=w.heap.size+1) (by simp) (fun b M=>bH _ _ (aa ab 3) (aa ab 0) (ac t.txt) (.slice (some ⟨wd.heap.size,0,none⟩) 1 1) b M) (by simp))
        have HZ:=zq hz
        clear J hz j8 j9 j2 e5 cc a1 f6 f5 b5 c3 g0 f8 e7 g8
        go_wp2_with fail
        refine aw (v:=aJ #[aV #[aa ab 3,aa ab 0,ac t.txt,.slice (some ⟨wd.heap.size,0,none⟩) 1 1],aa ab y.prec]) (by simp [results,Tryz.results144,go_sem,r0,r1,r2,r3,j4]) rfl ?_
        rw [HV.out]
        exact ⟨by have:=e9.out;have:=d9.out;omega,_,_,Z,rfl,HZ.out.p,HZ.out.s,k3.out.out⟩
end Go.Proofs.YtbojljpldcijgaaGreat
