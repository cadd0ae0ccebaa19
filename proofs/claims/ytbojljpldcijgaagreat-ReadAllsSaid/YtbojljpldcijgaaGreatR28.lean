/- Parts of the proof. -/
import Derived.Test.YtbojljpldcijgaaGreatR01
import Derived.Test.YtbojljpldcijgaaGreatR24
import Derived.Test.YtbojljpldcijgaaGreatR27
import Derived.Test.YtbojljpldcijgaaGreatR18
set_option maxHeartbeats 12800000
set_option maxRecDepth 100000
set_option linter.unusedSimpArgs false
open Go renaming Calls -> aU, World -> au, execOp -> aL, maxLen -> bF
open Go.Ending renaming returned -> aD
open Go.IntKind renaming i64 -> ab
open Go.Proofs.Tryz renaming prog -> am
open Go.RowKit renaming Below -> aB
open Go.RowKit.Below renaming refl -> ap
open Go.Value renaming agg -> aV, bool -> av, int -> aa, pointer -> ar, string -> ac
open Go.World renaming cell?_of_block -> bd
open List renaming mem_cons -> bh, mem_nil_iff -> be, range -> aM
open Nat renaming add_zero -> bj, le_refl -> ae, lt_of_lt_of_le -> aA
namespace Hb
open Go Go.RowKit
def gK (n:Int):Tm:=.mk 0 n ⟨#[]⟩ []
def fP (s:ByteArray) (l:List Tm):Tm:=.mk 3 0 s l
theorem jJ (W:au) (rs:List TR) (e:TypeId) (a:rs.length<=bF) (h:∀r∈rs,TmsAt W.heap.size W r.2.1 r.1.args):TmsAt (W.alloc (.cells (dM rs).toArray e)).heap.size (W.alloc (.cells (dM rs).toArray e)) (some ⟨W.heap.size,0,none⟩) (rs.map (fun r:TR=>r.1)) :=
 TmsK.rows (by simp) a fun x b=>((h x b).keep ((ap _ _).alloc (ae _) _)).mono (by simp)
theorem zP {P:Program} {i:Array Oper} {a:List ROp} {d:List Value->Prop} {B:Nat} {w0:au} {a0:Act} {T:List Value->au->Prop} {j:Nat} {o:Oper} {g:Nat} {b:Bool} (s:(opAt a j).cl=.call) (t:o.guard=some (g,b)) (u:∀val,sB a j val->val g=av b) (h:∀val E X N,EOf i val a0 o E->AtC d B w0 X N->sB a j val->Cr a j val N X->∃v c,(aL E o).run P X=.ok (.value v) c/\aB X.heap.size X c/\(opAt a j).vp (vals a j (updV val j v))/\∀N':Nat->Prop,(∀b,N b->N' b)->(∀b,X.heap.size<=b->b<c.heap.size->N' b)->(opAt a j).vc (vals a j (updV val j v)) N' c):fz P i a d B w0 a0 T j o:=by
 unfold fz;rw [s]
 refine fun val X N k l m n e r=>⟨fun _=>?_,fun f=>by rw [iO t (u val e)] at f;simp at f⟩
 obtain ⟨v,c,p,q⟩:=h val _ X N (EOf.at _ _ _ _) ⟨k,l,m,n⟩ e r
 exact .inl ⟨v,c,p,q⟩
end Hb
namespace Go.Proofs.YtbojljpldcijgaaGreat
open Go.RowKit Hb
attribute [local go_sem] Oper.semAt_some
theorem Bt (t u:Tm) (A B:Option Addr) (c d:Nat) (w:au) (a:TmsAt w.heap.size w A t.args) (b:TmsAt w.heap.size w B u.args):aU am 18 #[fI t A c,fI u B d] w fun e w'=>e=aD (av (jZ t u))/\aB w.heap.size w w':=rW t u A B c d w a b
theorem AD:eD [97,46,32,102,40,88,44,32,89,44,32,88,41,46,32,98,46] 2 syD=⟨fP ⟨#[102]⟩ [gK 0,gK 1,gK 0],[([88],0),([89],1)],[([89],1)],14,0,0⟩:=oo (m:=8) (n:=4) (by kernel_rfl) (by decide)
theorem AC:jZ (fP ⟨#[102]⟩ [gK 0,gK 1,gK 0]) (fP ⟨#[102]⟩ [gK 0,gK 1,gK 0])=true:=mh (ms (n:=4) (by kernel_rfl) (by decide))
theorem Cn:iY [49,32,45,32,45,49,46] (fP ⟨#[45]⟩ [(mS (1)),(mS (-1))])=true:=iX (m:=4) (n:=3) (nm:=[]) (sg:=[]) (by kernel_rfl) (by decide)
theorem Cm:iY [45,32,49,46] (fP ⟨#[45]⟩ [(mS (1))])=true:=iX (m:=2) (n:=2) (nm:=[]) (sg:=[]) (by kernel_rfl) (by decide)
theorem Cl:iY [97,32,58,45,32,98,44,32,92,43,32,99,32,59,32,100,46] (fP ⟨#[58,45]⟩ [(dB (⟨#[97]⟩)),(fP ⟨#[59]⟩ [(fP ⟨#[44]⟩ [(dB (⟨#[98]⟩)),(fP ⟨#[92,43]⟩ [(dB (⟨#[99]⟩))])]),(dB (⟨#[100]⟩))])])=true:=iX (m:=8) (n:=8) (nm:=[]) (sg:=[]) (by kernel_rfl) (by decide)
theorem Ck:iY [45,32,61,32,45,32,46] (fP ⟨#[61]⟩ [(dB (⟨#[45]⟩)),(dB (⟨#[45]⟩))])=true:=iX (m:=3) (n:=3) (nm:=[]) (sg:=[]) (by kernel_rfl) (by decide)
theorem Cj:iY [91,97,44,32,98,32,124,32,88,93,46] (fP ⟨#[46]⟩ [(dB (⟨#[97]⟩)),(fP ⟨#[46]⟩ [(dB (⟨#[98]⟩)),(gK (0))])])=true:=iX (m:=7) (n:=5) (nm:=[([88],0)]) (sg:=[([88],0)]) (by kernel_rfl) (by decide)
theorem Ci:lM [97,32,61,32,98,32,61,32,99,46] 6=true:=mW (k:=3) (a:=6) (by kernel_rfl)
theorem Ch:lM [58,45,32,97,44,32,58,45,32,98,46] 9=true:=mW (k:=4) (a:=9) (by kernel_rfl)
theorem vS (w:au):aU am 14 #[] w fun e w'=>e=aD (av true)/\aB w.heap.size w w':=by
 obtain ⟨q,i8⟩:=lz (fP ⟨#[102]⟩ [gK 0,gK 1,gK 0])
 have T:=zq (fun s W=>CR s W)
 have a9:=zq (fun n W=>CO n W)
 have i7:=zq (fun n W=>CP n W)
 have L:=zq (fun s A n c W=>CQ s A n c W)
 have q3:=zq (fun W=>sx W)
 have p1:Hid (∀g gc W,Tab W (some ⟨g,0,none⟩) 41 gc defL->aU am 11 #[ac ⟨#[97,46,32,102,40,88,44,32,89,44,32,88,41,46,32,98,46]⟩,aa ab 2,aV #[.slice (some ⟨g,0,none⟩) 41 gc,aa ab 1,aa ab 1,av false,av false,.slice none 0 0]] W fun e w'=>∃A P NA O SA R,e=aD (.tuple #[aV #[aa ab q.kind,aa ab q.num,ac q.name,.slice A q.args.length P,.slice NA 2 O,.slice SA 1 R,aa ab 14],aa ab 0,aa ab 0])/\aB W.heap.size W w'/\TmsAt w'.heap.size w' A q.args/\NmAt (fun b=>b<w'.heap.size) w' NA [([88],0),([89],1)]/\NmAt (fun b=>b<w'.heap.size) w' SA [([89],1)]):=zq fun g gc W h=>by
  have m:=mF ⟨#[97,46,32,102,40,88,44,32,89,44,32,88,41,46,32,98,46]⟩ 2 (by decide) g gc W h
  rw [show eD (⟨#[97,46,32,102,40,88,44,32,89,44,32,88,41,46,32,98,46]⟩:ByteArray).data.toList 2 syD=_ from AD,<-i8.out] at m
  exact m.mono fun e w' h=>by
   obtain ⟨A,P,NA,O,SA,R,he,d,F,I,Q⟩:=h
   exact ⟨A,P,NA,O,SA,R,he,d,F.keep (fun _ _=>rfl) fun _ U=>U.2,I.keep (fun _ _=>rfl) fun _ U=>U.2,Q.keep (fun _ _=>rfl) fun _ U=>U.2⟩
 have j2:=zq (ap w.heap.size w)
 go_enter Tryz.func14,Tryz.ntmps14
 go_wp2_with fail
 refine (q3.out _).mono ?_;rintro e w1 ⟨g,gc,rfl,d,q9⟩
 have j3:=bz j2 d
 have q6:=zq q9
 clear d q9 j2 q3
 go_wp2_with fail
 refine (p1.out g gc _ q6.out).mono ?_;rintro e S ⟨A,P,NA,O,SA,R,rfl,d,F,I,Q⟩
 obtain ⟨u,y,rfl,r2,r0,r1⟩:=I.2 1 (by decide)
 obtain ⟨B,G,rfl,r3,j0,j1⟩:=Q.2 0 (by decide)
 have b0:=zq r2
 have b1:=zq r3
 have n9:Hid (S.cell? ⟨u,y+2,none⟩=some (ac ⟨#[89]⟩)):=zq r0
 have o0:Hid (S.cell? ⟨u,y+2+1,none⟩=some (aa ab 1)):=zq r1
 have q1:Hid (S.cell? ⟨B,G,none⟩=some (ac ⟨#[89]⟩)):=zq (by rw [Nat.zero_mul,bj] at j0;exact j0)
 have q2:Hid (S.cell? ⟨B,G+1,none⟩=some (aa ab 1)):=zq (by rw [Nat.zero_mul,bj] at j1;exact j1)
 have q4:=zq F
 have j4:=bz j3 d
 clear d F I Q j3 p1 q6 r2 r3 r0 r1 j0 j1
 obtain ⟨w3,b2⟩:=lz (S.alloc (.cells #[aa ab q.kind,aa ab q.num,ac q.name,.slice A q.args.length P,.slice (some ⟨u,y,none⟩) 2 O,.slice (some ⟨B,G,none⟩) 1 R,aa ab 14] 33))
 obtain ⟨z,i6⟩:=lz (S.heap.size)
 have M:aB S.heap.size S w3:=by rw [b2.out];exact (ap _ _).alloc (ae _) _
 have H:Hid (Bk w3 z [aa ab q.kind,aa ab q.num,ac q.name,.slice A q.args.length P,.slice (some ⟨u,y,none⟩) 2 O,.slice (some ⟨B,G,none⟩) 1 R,aa ab 14]):=zq (by rw [b2.out,i6.out];exact Bk.new S [aa ab q.kind,aa ab q.num,ac q.name,.slice A q.args.length P,.slice (some ⟨u,y,none⟩) 2 O,.slice (some ⟨B,G,none⟩) 1 R,aa ab 14] 33)
 have i5:=bz j4 M
 have q5:=zq ((q4.out.keep M).mono M.size)
 have C:Hid ((w3.cell? ⟨u,y+2,none⟩=some (ac ⟨#[89]⟩)/\w3.cell? ⟨u,y+2+1,none⟩=some (aa ab 1))/\(w3.cell? ⟨B,G,none⟩=some (ac ⟨#[89]⟩)/\w3.cell? ⟨B,G+1,none⟩=some (aa ab 1))/\u<w3.heap.size/\B<w3.heap.size):=zq
  ⟨⟨(bd (M.block u b0.out)).trans n9.out,(bd (M.block u b0.out)).trans o0.out⟩,⟨(bd (M.block B b1.out)).trans q1.out,(bd (M.block B b1.out)).trans q2.out⟩,aA b0.out M.size,aA b1.out M.size⟩
 go_upto_region 2 with fail
 rw [<-b2.out,<-i6.out]
 clear M j4 q4 b2 i6 b0 b1 n9 o0 q1 q2
 rename_i K9 q8
 refine fu (w0:=w3) [bB [] [0] (fun|[v]=>v=aa ab 0|_=>False),
  bB [0] [1] (fun|[v]=>v=av true|_=>False),
  bB [0,1] [2] (fun|[v]=>v=av true|_=>False),
  bB (aM 3) [3] (fun|[v]=>v=aa ab 0|_=>False),
  bB (aM 4) [4] (fun|[v]=>v=av true|_=>False),
  bB (aM 5) [5] (fun|[v]=>v=av true|_=>False),
  bB (aM 6) [6] (fun|[v]=>v=av true|_=>False),
  bB (aM 7) [7] (fun|[v]=>v=ar (some ⟨z,0,none⟩)|_=>False),
  eT (aM 8) [8] (fun|[v]=>v=aV #[aa ab q.kind,aa ab q.num,ac q.name,.slice A q.args.length P]|_=>False),
  eT (aM 7) [9] (fun|[v]=>v=aV #[aa ab 0,aa ab 0,ac ⟨#[]⟩,.slice none 0 0]|_=>False),
  eT [0,1,2,3,4,5,6,9] [10] (fun|[v]=>v=aV #[aa ab 0,aa ab 1,ac ⟨#[]⟩,.slice none 0 0]|_=>False),
  eT [0,1,2,3,4,5,6,9,10] [11] (fun|[v]=>v=aV #[aa ab 0,aa ab 0,ac ⟨#[]⟩,.slice none 0 0]|_=>False),
  Cv [0,1,2,3,4,5,6,9,10,11] 12 3 [gK 0,gK 1,gK 0],
  Ca [0,1,2,3,4,5,6,9,10,11,12] 13 ⟨#[102]⟩ 3 [gK 0,gK 1,gK 0],
  eT (aM 14) [14] (fun|[v]=>v=av true|_=>False),
  bB (aM 15) [15] (fun|[v]=>v=av true|_=>False),
  bB (aM 16) [16] (fun|[v]=>v=av true|_=>False),
  bB (aM 17) [17] (fun|[v]=>v=ar (some ⟨z,4,none⟩)|_=>False),
  eT (aM 18) [18] (fun|[v]=>v=.slice (some ⟨u,y,none⟩) 2 O|_=>False),
  bB (aM 19) [19] (fun|[v]=>v=aa ab 2|_=>False),
  bB (aM 20) [20] (fun|[v]=>v=av true|_=>False),
  bB (aM 21) [21] (fun|[v]=>v=av true|_=>False),
  bB (aM 22) [22] (fun|[v]=>v=av true|_=>False),
  bB (aM 23) [23] (fun|[v]=>v=ar (some ⟨z,4,none⟩)|_=>False),
  eT (aM 24) [24] (fun|[v]=>v=.slice (some ⟨u,y,none⟩) 2 O|_=>False),
  bB (aM 25) [25] (fun|[v]=>v=ar (some ⟨u,y+2,none⟩)|_=>False),
  eT (aM 26) [26] (fun|[v]=>v=aV #[ac ⟨#[89]⟩,aa ab 1]|_=>False),
  bB (aM 23) [27] (fun|[v]=>v=aV #[ac ⟨#[89]⟩,aa ab 1]|_=>False),
  bB (aM 28) [28] (fun|[v]=>v=av true|_=>False),
  bB (aM 29) [29] (fun|[v]=>v=av true|_=>False),
  bB (aM 30) [30] (fun|[v]=>v=av true|_=>False),
  bB (aM 31) [31] (fun|[v]=>v=ar (some ⟨z,5,none⟩)|_=>False),
  eT (aM 32) [32] (fun|[v]=>v=.slice (some ⟨B,G,none⟩) 1 R|_=>False),
  bB (aM 33) [33] (fun|[v]=>v=aa ab 1|_=>False),
  bB (aM 34) [34] (fun|[v]=>v=av true|_=>False),
  bB (aM 35) [35] (fun|[v]=>v=av true|_=>False),
  bB (aM 36) [36] (fun|[v]=>v=av true|_=>False),
  bB (aM 37) [37] (fun|[v]=>v=ar (some ⟨z,5,none⟩)|_=>False),
  eT (aM 38) [38] (fun|[v]=>v=.slice (some ⟨B,G,none⟩) 1 R|_=>False),
  bB (aM 39) [39] (fun|[v]=>v=ar (some ⟨B,G,none⟩)|_=>False),
  eT (aM 40) [40] (fun|[v]=>v=aV #[ac ⟨#[89]⟩,aa ab 1]|_=>False),
  bB (aM 37) [41] (fun|[v]=>v=ar (some ⟨z,4,none⟩)|_=>False),
  eT [0,1,2,3,4,5,6,7,8,9,10,11,12,13,14,15,16,17,18,19,20,21,22,23,24,25,26,27,28,29,30,31,32,33,34,35,36,41] [42] (fun|[v]=>v=.slice (some ⟨u,y,none⟩) 2 O|_=>False),
  bB [0,1,2,3,4,5,6,7,8,9,10,11,12,13,14,15,16,17,18,19,20,21,22,23,24,25,26,27,28,29,30,31,32,33,34,35,36,41,42] [43] (fun|[v]=>v=ar (some ⟨u,y+2,none⟩)|_=>False),
  eT [0,1,2,3,4,5,6,7,8,9,10,11,12,13,14,15,16,17,18,19,20,21,22,23,24,25,26,27,28,29,30,31,32,33,34,35,36,41,42,43] [44] (fun|[v]=>v=aV #[ac ⟨#[89]⟩,aa ab 1]|_=>False),
  bB (aM 45) [45] (fun|[v]=>v=av true|_=>False),
  bB (aM 46) [46] (fun|[v]=>v=av true|_=>False),
  bB (aM 47) [47] (fun|[v]=>v=av true|_=>False),
  bB (aM 48) [48] (fun|[v]=>v=ar (some ⟨z,6,none⟩)|_=>False),
  eT (aM 49) [49] (fun|[v]=>v=aa ab 14|_=>False),
  bB (aM 50) [50] (fun|[v]=>v=av true|_=>False),
  bB (aM 51) [51] (fun|[v]=>v=av true|_=>False),
  bB (aM 52) [52] (fun|[v]=>v=av true|_=>False)]
  [some 11,some 12,some 13,some 14,some 15,some 16,some 17,some 18,some 19,some 20,some 21,some 22,some 23,some 24,some 25,some 26,some 27,some 28,some 29,some 30,some 31,some 32,some 33,some 34,some 35,some 36,some 37,some 38,some 39,some 40,some 41,some 42,some 43,some 44,some 45,some 46,some 47,some 48,some 49,some 50,some 51,some 52,some 53,some 54,some 55,some 56,some 57,some 58,some 59,some 60,some 61,some 62,some 4] (fun _=>True) (w3.heap.size) (by kernel_rfl) (ae _) (by kernel_rfl) (by kernel_rfl) (by kernel_rfl) (fun j o k=>?srv) (fun val Y N l HF=>?fin)
 case srv=>
  have y0:j<53:=(Array.getElem?_eq_some_iff.1 k).1
  rcases (show j=0\/j=1\/j=2\/j=3\/j=4\/j=5\/j=6\/j=7\/j=8\/j=9\/j=10\/j=11\/j=12\/j=13\/j=14\/j=15\/j=16\/j=17\/j=18\/j=19\/j=20\/j=21\/j=22\/j=23\/j=24\/j=25\/j=26\/j=27\/j=28\/j=29\/j=30\/j=31\/j=32\/j=33\/j=34\/j=35\/j=36\/j=37\/j=38\/j=39\/j=40\/j=41\/j=42\/j=43\/j=44\/j=45\/j=46\/j=47\/j=48\/j=49\/j=50\/j=51\/j=52 by omega) with rfl|rfl|rfl|rfl|rfl|rfl|rfl|rfl|rfl|rfl|rfl|rfl|rfl|rfl|rfl|rfl|rfl|rfl|rfl|rfl|rfl|rfl|rfl|rfl|rfl|rfl|rfl|rfl|rfl|rfl|rfl|rfl|rfl|rfl|rfl|rfl|rfl|rfl|rfl|rfl|rfl|rfl|rfl|rfl|rfl|rfl|rfl|rfl|rfl|rfl|rfl|rfl|rfl
  ·cases k
   refine aY rfl rfl (fun val E i a=>?_)
   have e3:=i.t 3 (aa ab 0) rfl
   exact ⟨_,fun X=>by simp [aL,go_sem,e3],rfl⟩
  ·cases k
   refine aY rfl rfl (fun val E i a=>?_)
   have r5:=i.t 11 (val 0) rfl
   have h0:val 0=_:=a 0 (oz rfl)
   exact ⟨_,fun X=>by simp [aL,go_sem,i.c,r5,h0],rfl⟩
  ·cases k
   refine aY rfl rfl (fun val E i a=>?_)
   have r6:=i.t 12 (val 1) rfl
   have F:val 1=_:=a 1 (oz rfl)
   exact ⟨_,fun X=>by simp [aL,go_sem,r6,F],rfl⟩
  ·cases k
   refine ed (true) rfl rfl (fun val a=>a 2 (oz rfl)) (fun _ val E i a=>?_) (fun h=>absurd rfl h)
   have e2:=i.t 2 (aa ab 0) rfl
   exact ⟨_,fun X=>by simp [aL,go_sem,e2],rfl⟩
  ·cases k
   refine ed (true) rfl rfl (fun val a=>a 2 (oz rfl)) (fun _ val E i a=>?_) (fun h=>absurd rfl h)
   have r8:=i.t 14 (val 3) rfl
   have Q:val 3=_:=a 3 (oz rfl)
   exact ⟨_,fun X=>by simp [aL,go_sem,i.c,r8,Q],rfl⟩
  ·cases k
   refine aY rfl rfl (fun val E i a=>?_)
   have r7:=i.t 13 (val 2) rfl
   have I:val 2=_:=a 2 (oz rfl)
   have r9:=i.t 15 (val 4) rfl
   have h4:val 4=_:=a 4 (oz rfl)
   exact ⟨_,fun X=>by simp [aL,go_sem,i.c,r7,I,r9,h4],rfl⟩
  ·cases k
   refine aY rfl rfl (fun val E i a=>?_)
   have s0:=i.t 16 (val 5) rfl
   have h5:val 5=_:=a 5 (oz rfl)
   exact ⟨_,fun X=>by simp [aL,go_sem,s0,h5],rfl⟩
  ·cases k
   refine ed (true) rfl rfl (fun val a=>a 6 (oz rfl)) (fun _ val E i a=>?_) (fun h=>absurd rfl h)
   have D:=i.t 1 (ar (some ⟨z,0,none⟩)) rfl
   exact ⟨_,fun X=>by simp [aL,go_sem,D],rfl⟩
  ·cases k
   refine iE (true) rfl rfl (fun _ _ _=>trivial) (fun val a=>a 6 (oz rfl)) (fun _ val E X i d a=>?_) (fun h=>absurd rfl h)
   have s2:=i.t 18 (val 7) rfl
   have h7:val 7=_:=a 7 (oz rfl)
   have x3:=(H.out.call d).c 0 _ rfl
   have x4:=(H.out.call d).c 1 _ rfl
   have x5:=(H.out.call d).c 2 _ rfl
   have x6:=(H.out.call d).c 3 _ rfl
   exact ⟨_,by simp [aL,go_sem,s2,h7,x3,x4,x5,x6],rfl⟩
  ·cases k
   refine nQ (true) rfl rfl (fun _ _ _=>trivial) (fun val a=>a 6 (oz rfl)) (fun _ val E X i d a=>?_) (fun h=>absurd rfl h)
   exact ⟨_,_,_,by simp [aL,go_sem,i.c,i.f] <;> rfl,a9.out 0 X,rfl⟩
  ·cases k
   refine nQ (true) rfl rfl (fun _ _ _=>trivial) (fun val a=>a 6 (oz rfl)) (fun _ val E X i d a=>?_) (fun h=>absurd rfl h)
   exact ⟨_,_,_,by simp [aL,go_sem,i.c,i.f] <;> rfl,a9.out 1 X,rfl⟩
  ·cases k
   refine nQ (true) rfl rfl (fun _ _ _=>trivial) (fun val a=>a 6 (oz rfl)) (fun _ val E X i d a=>?_) (fun h=>absurd rfl h)
   exact ⟨_,_,_,by simp [aL,go_sem,i.c,i.f] <;> rfl,a9.out 0 X,rfl⟩
  ·cases k
   refine zP rfl rfl (fun val a=>a 6 (oz rfl)) fun val E X N i hC a hc=>?_
   have s4:=i.t 20 (val 9) rfl
   have h9:val 9=_:=a 9 (oz rfl)
   have s5:=i.t 21 (val 10) rfl
   have c2:val 10=_:=a 10 (oz rfl)
   have s6:=i.t 22 (val 11) rfl
   have c3:val 11=_:=a 11 (oz rfl)
   exact ⟨.slice (some ⟨X.heap.size,0,none⟩) 3 3,X.alloc (.cells #[aa ab 0,aa ab 0,ac ⟨#[]⟩,.slice none 0 0,aa ab 0,aa ab 1,ac ⟨#[]⟩,.slice none 0 0,aa ab 0,aa ab 0,ac ⟨#[]⟩,.slice none 0 0] 30),by simp [aL,go_sem,s4,h9,s5,c2,s6,c3],(ap _ _).alloc (ae _) _,⟨_,rfl⟩,fun N' F I=>⟨_,rfl,TmsK.rows (K:=N') (w:=X) (rs:=[(gK 0,none,0),(gK 1,none,0),(gK 0,none,0)]) (e:=30) (I _ (ae _) (by simp)) (by simp [bF]) (fun x hx=>by
    simp only [bh,be,or_false] at hx
    rcases hx with rfl|rfl|rfl
    ·exact TmsK.nil
    ·exact TmsK.nil
    ·exact TmsK.nil)⟩⟩
  ·cases k
   refine sL rfl rfl (fun val a=>a 6 (oz rfl)) fun val E X N i hC a hc=>?_
   obtain ⟨i9,c4,x7⟩:∃g,val 12=.slice (some ⟨g,0,none⟩) 3 3/\TmsK N X (some ⟨g,0,none⟩) [gK 0,gK 1,gK 0]:=hc 12 (oz rfl) rfl
   have s7:=i.t 23 (val 12) rfl
   exact ⟨_,_,by simp [aL,go_sem,i.c,i.f,s7,c4] <;> rfl,(L.out ⟨#[102]⟩ _ _ _ X).mono fun e w' h=>⟨_,h.1,h.2,⟨i9,rfl⟩,fun N' F _=>⟨i9,rfl,pq x7 (fun b U=>h.2.block b (hC.lt b U)) F⟩⟩⟩
  ·cases k
   refine sL rfl rfl (fun val a=>a 6 (oz rfl)) fun val E X N i hC a hc=>?_
   have h8:val 8=_:=a 8 (oz rfl)
   obtain ⟨x2,c5,x8⟩:∃g,val 13=aV #[aa ab 3,aa ab 0,ac ⟨#[102]⟩,.slice (some ⟨g,0,none⟩) 3 3]/\TmsK N X (some ⟨g,0,none⟩) [gK 0,gK 1,gK 0]:=hc 13 (oz rfl) rfl
   have s3:=i.t 19 (val 8) rfl
   have s8:=i.t 24 (val 13) rfl
   have h:=Bt q (fP ⟨#[102]⟩ [gK 0,gK 1,gK 0]) A (some ⟨x2,0,none⟩) P 3 X ((q5.out.keep hC.bel).mono hC.bel.size) (TmsK.at' x8)
   rw [show jZ q (fP ⟨#[102]⟩ [gK 0,gK 1,gK 0])=true from by rw [i8.out];exact AC] at h
   exact ⟨_,_,by simp [aL,go_sem,i.f,s3,h8,s8,c5] <;> first | rfl | exact ⟨rfl,rfl⟩,h.mono fun e w' h=>⟨_,h.1,h.2,rfl,fun _ _ _=>trivial⟩⟩
  ·cases k
   refine aY rfl rfl (fun val E i a=>?_)
   have s1:=i.t 17 (val 6) rfl
   have h6:val 6=_:=a 6 (oz rfl)
   have s9:=i.t 25 (val 14) rfl
   have c6:val 14=_:=a 14 (oz rfl)
   exact ⟨_,fun X=>by simp [aL,go_sem,i.c,s1,h6,s9,c6],rfl⟩
  ·cases k
   refine aY rfl rfl (fun val E i a=>?_)
   have t1:=i.t 26 (val 15) rfl
   have c7:val 15=_:=a 15 (oz rfl)
   exact ⟨_,fun X=>by simp [aL,go_sem,t1,c7],rfl⟩
  ·cases k
   refine ed (true) rfl rfl (fun val a=>a 16 (oz rfl)) (fun _ val E i a=>?_) (fun h=>absurd rfl h)
   have D:=i.t 1 (ar (some ⟨z,0,none⟩)) rfl
   exact ⟨_,fun X=>by simp [aL,go_sem,D],rfl⟩
  ·cases k
   refine iE (true) rfl rfl (fun _ _ _=>trivial) (fun val a=>a 16 (oz rfl)) (fun _ val E X i d a=>?_) (fun h=>absurd rfl h)
   have t3:=i.t 28 (val 17) rfl
   have c9:val 17=_:=a 17 (oz rfl)
   have J:=(H.out.call d).c 4 _ rfl
   exact ⟨_,by simp [aL,go_sem,t3,c9,J],rfl⟩
  ·cases k
   refine ed (true) rfl rfl (fun val a=>a 16 (oz rfl)) (fun _ val E i a=>?_) (fun h=>absurd rfl h)
   have t4:=i.t 29 (val 18) rfl
   have d0:val 18=_:=a 18 (oz rfl)
   exact ⟨_,fun X=>by simp [aL,go_sem,t4,d0],rfl⟩
  ·cases k
   refine ed (true) rfl rfl (fun val a=>a 16 (oz rfl)) (fun _ val E i a=>?_) (fun h=>absurd rfl h)
   have t5:=i.t 30 (val 19) rfl
   have d1:val 19=_:=a 19 (oz rfl)
   exact ⟨_,fun X=>by simp [aL,go_sem,i.c,t5,d1],rfl⟩
  ·cases k
   refine aY rfl rfl (fun val E i a=>?_)
   have t2:=i.t 27 (val 16) rfl
   have c8:val 16=_:=a 16 (oz rfl)
   have t6:=i.t 31 (val 20) rfl
   have d2:val 20=_:=a 20 (oz rfl)
   exact ⟨_,fun X=>by simp [aL,go_sem,i.c,t2,c8,t6,d2],rfl⟩
  ·cases k
   refine aY rfl rfl (fun val E i a=>?_)
   have t7:=i.t 32 (val 21) rfl
   have d3:val 21=_:=a 21 (oz rfl)
   exact ⟨_,fun X=>by simp [aL,go_sem,t7,d3],rfl⟩
  ·cases k
   refine ed (true) rfl rfl (fun val a=>a 22 (oz rfl)) (fun _ val E i a=>?_) (fun h=>absurd rfl h)
   have D:=i.t 1 (ar (some ⟨z,0,none⟩)) rfl
   exact ⟨_,fun X=>by simp [aL,go_sem,D],rfl⟩
  ·cases k
   refine iE (true) rfl rfl (fun _ _ _=>trivial) (fun val a=>a 22 (oz rfl)) (fun _ val E X i d a=>?_) (fun h=>absurd rfl h)
   have t9:=i.t 34 (val 23) rfl
   have d5:val 23=_:=a 23 (oz rfl)
   have J:=(H.out.call d).c 4 _ rfl
   exact ⟨_,by simp [aL,go_sem,t9,d5,J],rfl⟩
  ·cases k
   refine ed (true) rfl rfl (fun val a=>a 22 (oz rfl)) (fun _ val E i a=>?_) (fun h=>absurd rfl h)
   have u0:=i.t 35 (val 24) rfl
   have d6:val 24=_:=a 24 (oz rfl)
   exact ⟨_,fun X=>by simp [aL,go_sem,i.c,u0,d6],rfl⟩
  ·cases k
   refine iE (true) rfl rfl (fun _ _ _=>trivial) (fun val a=>a 22 (oz rfl)) (fun _ val E X i d a=>?_) (fun h=>absurd rfl h)
   have u1:=i.t 36 (val 25) rfl
   have d7:val 25=_:=a 25 (oz rfl)
   have a7:=(d.cell (p:=⟨u,y+2,none⟩) C.out.2.2.1).trans C.out.1.1
   have a8:=(d.cell (p:=⟨u,y+2+1,none⟩) C.out.2.2.1).trans C.out.1.2
   exact ⟨_,by simp [aL,go_sem,u1,d7,a7,a8],rfl⟩
  ·cases k
   refine ed (true) rfl rfl (fun val a=>a 22 (oz rfl)) (fun _ val E i a=>?_) (fun h=>absurd rfl h)
   exact ⟨_,fun X=>by simp [aL,go_sem,i.c],rfl⟩
  ·cases k
   refine ed (true) rfl rfl (fun val a=>a 22 (oz rfl)) (fun _ val E i a=>?_) (fun h=>absurd rfl h)
   have u2:=i.t 37 (val 26) rfl
   have d8:val 26=_:=a 26 (oz rfl)
   have u3:=i.t 38 (val 27) rfl
   have d9:val 27=_:=a 27 (oz rfl)
   exact ⟨_,fun X=>by simp [aL,go_sem,u2,d8,u3,d9],rfl⟩
  ·cases k
   refine aY rfl rfl (fun val E i a=>?_)
   have t8:=i.t 33 (val 22) rfl
   have d4:val 22=_:=a 22 (oz rfl)
   have u4:=i.t 39 (val 28) rfl
   have e0:val 28=_:=a 28 (oz rfl)
   exact ⟨_,fun X=>by simp [aL,go_sem,i.c,t8,d4,u4,e0],rfl⟩
  ·cases k
   refine aY rfl rfl (fun val E i a=>?_)
   have u5:=i.t 40 (val 29) rfl
   have e4:val 29=_:=a 29 (oz rfl)
   exact ⟨_,fun X=>by simp [aL,go_sem,u5,e4],rfl⟩
  ·cases k
   refine ed (true) rfl rfl (fun val a=>a 30 (oz rfl)) (fun _ val E i a=>?_) (fun h=>absurd rfl h)
   have D:=i.t 1 (ar (some ⟨z,0,none⟩)) rfl
   exact ⟨_,fun X=>by simp [aL,go_sem,D],rfl⟩
  ·cases k
   refine iE (true) rfl rfl (fun _ _ _=>trivial) (fun val a=>a 30 (oz rfl)) (fun _ val E X i d a=>?_) (fun h=>absurd rfl h)
   have u7:=i.t 42 (val 31) rfl
   have e6:val 31=_:=a 31 (oz rfl)
   have J:=(H.out.call d).c 5 _ rfl
   exact ⟨_,by simp [aL,go_sem,u7,e6,J],rfl⟩
  ·cases k
   refine ed (true) rfl rfl (fun val a=>a 30 (oz rfl)) (fun _ val E i a=>?_) (fun h=>absurd rfl h)
   have u8:=i.t 43 (val 32) rfl
   have e7:val 32=_:=a 32 (oz rfl)
   exact ⟨_,fun X=>by simp [aL,go_sem,u8,e7],rfl⟩
  ·cases k
   refine ed (true) rfl rfl (fun val a=>a 30 (oz rfl)) (fun _ val E i a=>?_) (fun h=>absurd rfl h)
   have u9:=i.t 44 (val 33) rfl
   have e8:val 33=_:=a 33 (oz rfl)
   exact ⟨_,fun X=>by simp [aL,go_sem,i.c,u9,e8],rfl⟩
  ·cases k
   refine aY rfl rfl (fun val E i a=>?_)
   have u6:=i.t 41 (val 30) rfl
   have e5:val 30=_:=a 30 (oz rfl)
   have v0:=i.t 45 (val 34) rfl
   have e9:val 34=_:=a 34 (oz rfl)
   exact ⟨_,fun X=>by simp [aL,go_sem,i.c,u6,e5,v0,e9],rfl⟩
  ·cases k
   refine aY rfl rfl (fun val E i a=>?_)
   have v1:=i.t 46 (val 35) rfl
   have f0:val 35=_:=a 35 (oz rfl)
   exact ⟨_,fun X=>by simp [aL,go_sem,v1,f0],rfl⟩
  ·cases k
   refine ed (true) rfl rfl (fun val a=>a 36 (oz rfl)) (fun _ val E i a=>?_) (fun h=>absurd rfl h)
   have D:=i.t 1 (ar (some ⟨z,0,none⟩)) rfl
   exact ⟨_,fun X=>by simp [aL,go_sem,D],rfl⟩
  ·cases k
   refine iE (true) rfl rfl (fun _ _ _=>trivial) (fun val a=>a 36 (oz rfl)) (fun _ val E X i d a=>?_) (fun h=>absurd rfl h)
   have v3:=i.t 48 (val 37) rfl
   have f2:val 37=_:=a 37 (oz rfl)
   have J:=(H.out.call d).c 5 _ rfl
   exact ⟨_,by simp [aL,go_sem,v3,f2,J],rfl⟩
  ·cases k
   refine ed (true) rfl rfl (fun val a=>a 36 (oz rfl)) (fun _ val E i a=>?_) (fun h=>absurd rfl h)
   have v4:=i.t 49 (val 38) rfl
   have f3:val 38=_:=a 38 (oz rfl)
   exact ⟨_,fun X=>by simp [aL,go_sem,i.c,v4,f3],rfl⟩
  ·cases k
   refine iE (true) rfl rfl (fun _ _ _=>trivial) (fun val a=>a 36 (oz rfl)) (fun _ val E X i d a=>?_) (fun h=>absurd rfl h)
   have v5:=i.t 50 (val 39) rfl
   have f4:val 39=_:=a 39 (oz rfl)
   have a7:=(d.cell (p:=⟨B,G,none⟩) C.out.2.2.2).trans C.out.2.1.1
   have a8:=(d.cell (p:=⟨B,G+1,none⟩) C.out.2.2.2).trans C.out.2.1.2
   exact ⟨_,by simp [aL,go_sem,v5,f4,a7,a8],rfl⟩
  ·cases k
   refine ed (true) rfl rfl (fun val a=>a 36 (oz rfl)) (fun _ val E i a=>?_) (fun h=>absurd rfl h)
   have D:=i.t 1 (ar (some ⟨z,0,none⟩)) rfl
   exact ⟨_,fun X=>by simp [aL,go_sem,D],rfl⟩
  ·cases k
   refine iE (true) rfl rfl (fun _ _ _=>trivial) (fun val a=>a 36 (oz rfl)) (fun _ val E X i d a=>?_) (fun h=>absurd rfl h)
   have v7:=i.t 52 (val 41) rfl
   have f6:val 41=_:=a 41 (oz rfl)
   have J:=(H.out.call d).c 4 _ rfl
   exact ⟨_,by simp [aL,go_sem,v7,f6,J],rfl⟩
  ·cases k
   refine ed (true) rfl rfl (fun val a=>a 36 (oz rfl)) (fun _ val E i a=>?_) (fun h=>absurd rfl h)
   have v8:=i.t 53 (val 42) rfl
   have f7:val 42=_:=a 42 (oz rfl)
   exact ⟨_,fun X=>by simp [aL,go_sem,i.c,v8,f7],rfl⟩
  ·cases k
   refine iE (true) rfl rfl (fun _ _ _=>trivial) (fun val a=>a 36 (oz rfl)) (fun _ val E X i d a=>?_) (fun h=>absurd rfl h)
   have v9:=i.t 54 (val 43) rfl
   have f8:val 43=_:=a 43 (oz rfl)
   have a7:=(d.cell (p:=⟨u,y+2,none⟩) C.out.2.2.1).trans C.out.1.1
   have a8:=(d.cell (p:=⟨u,y+2+1,none⟩) C.out.2.2.1).trans C.out.1.2
   exact ⟨_,by simp [aL,go_sem,v9,f8,a7,a8],rfl⟩
  ·cases k
   refine ed (true) rfl rfl (fun val a=>a 36 (oz rfl)) (fun _ val E i a=>?_) (fun h=>absurd rfl h)
   have v6:=i.t 51 (val 40) rfl
   have f5:val 40=_:=a 40 (oz rfl)
   have w4:=i.t 55 (val 44) rfl
   have f9:val 44=_:=a 44 (oz rfl)
   exact ⟨_,fun X=>by simp [aL,go_sem,v6,f5,w4,f9],rfl⟩
  ·cases k
   refine aY rfl rfl (fun val E i a=>?_)
   have v2:=i.t 47 (val 36) rfl
   have f1:val 36=_:=a 36 (oz rfl)
   have w5:=i.t 56 (val 45) rfl
   have g0:val 45=_:=a 45 (oz rfl)
   exact ⟨_,fun X=>by simp [aL,go_sem,i.c,v2,f1,w5,g0],rfl⟩
  ·cases k
   refine aY rfl rfl (fun val E i a=>?_)
   have w6:=i.t 57 (val 46) rfl
   have g1:val 46=_:=a 46 (oz rfl)
   exact ⟨_,fun X=>by simp [aL,go_sem,w6,g1],rfl⟩
  ·cases k
   refine ed (true) rfl rfl (fun val a=>a 47 (oz rfl)) (fun _ val E i a=>?_) (fun h=>absurd rfl h)
   have D:=i.t 1 (ar (some ⟨z,0,none⟩)) rfl
   exact ⟨_,fun X=>by simp [aL,go_sem,D],rfl⟩
  ·cases k
   refine iE (true) rfl rfl (fun _ _ _=>trivial) (fun val a=>a 47 (oz rfl)) (fun _ val E X i d a=>?_) (fun h=>absurd rfl h)
   have w8:=i.t 59 (val 48) rfl
   have g4:val 48=_:=a 48 (oz rfl)
   have J:=(H.out.call d).c 6 _ rfl
   exact ⟨_,by simp [aL,go_sem,w8,g4,J],rfl⟩
  ·cases k
   refine ed (true) rfl rfl (fun val a=>a 47 (oz rfl)) (fun _ val E i a=>?_) (fun h=>absurd rfl h)
   have w9:=i.t 60 (val 49) rfl
   have g5:val 49=_:=a 49 (oz rfl)
   exact ⟨_,fun X=>by simp [aL,go_sem,i.c,w9,g5],rfl⟩
  ·cases k
   refine aY rfl rfl (fun val E i a=>?_)
   have w7:=i.t 58 (val 47) rfl
   have g2:val 47=_:=a 47 (oz rfl)
   have x0:=i.t 61 (val 50) rfl
   have g6:val 50=_:=a 50 (oz rfl)
   exact ⟨_,fun X=>by simp [aL,go_sem,i.c,w7,g2,x0,g6],rfl⟩
  ·cases k
   refine aY rfl rfl (fun val E i a=>?_)
   have x1:=i.t 62 (val 51) rfl
   have g7:val 51=_:=a 51 (oz rfl)
   exact ⟨_,fun X=>by simp [aL,go_sem,x1,g7],rfl⟩
 case fin=>
  have h0:val 0=_:=l 0 (by decide)
  have F:val 1=_:=l 1 (by decide)
  have I:val 2=_:=l 2 (by decide)
  have Q:val 3=_:=l 3 (by decide)
  have h4:val 4=_:=l 4 (by decide)
  have h5:val 5=_:=l 5 (by decide)
  have h6:val 6=_:=l 6 (by decide)
  have h7:val 7=_:=l 7 (by decide)
  have h8:val 8=_:=l 8 (by decide)
  have h9:val 9=_:=l 9 (by decide)
  have c2:val 10=_:=l 10 (by decide)
  have c3:val 11=_:=l 11 (by decide)
  obtain ⟨i9,c4⟩:∃g,val 12=.slice (some ⟨g,0,none⟩) 3 3:=l 12 (by decide)
  obtain ⟨x9,c5⟩:∃g,val 13=aV #[aa ab 3,aa ab 0,ac ⟨#[102]⟩,.slice (some ⟨g,0,none⟩) 3 3]:=l 13 (by decide)
  have c6:val 14=_:=l 14 (by decide)
  have c7:val 15=_:=l 15 (by decide)
  have c8:val 16=_:=l 16 (by decide)
  have c9:val 17=_:=l 17 (by decide)
  have d0:val 18=_:=l 18 (by decide)
  have d1:val 19=_:=l 19 (by decide)
  have d2:val 20=_:=l 20 (by decide)
  have d3:val 21=_:=l 21 (by decide)
  have d4:val 22=_:=l 22 (by decide)
  have d5:val 23=_:=l 23 (by decide)
  have d6:val 24=_:=l 24 (by decide)
  have d7:val 25=_:=l 25 (by decide)
  have d8:val 26=_:=l 26 (by decide)
  have d9:val 27=_:=l 27 (by decide)
  have e0:val 28=_:=l 28 (by decide)
  have e4:val 29=_:=l 29 (by decide)
  have e5:val 30=_:=l 30 (by decide)
  have e6:val 31=_:=l 31 (by decide)
  have e7:val 32=_:=l 32 (by decide)
  have e8:val 33=_:=l 33 (by decide)
  have e9:val 34=_:=l 34 (by decide)
  have f0:val 35=_:=l 35 (by decide)
  have f1:val 36=_:=l 36 (by decide)
  have f2:val 37=_:=l 37 (by decide)
  have f3:val 38=_:=l 38 (by decide)
  have f4:val 39=_:=l 39 (by decide)
  have f5:val 40=_:=l 40 (by decide)
  have f6:val 41=_:=l 41 (by decide)
  have f7:val 42=_:=l 42 (by decide)
  have f8:val 43=_:=l 43 (by decide)
  have f9:val 44=_:=l 44 (by decide)
  have g0:val 45=_:=l 45 (by decide)
  have g1:val 46=_:=l 46 (by decide)
  have g2:val 47=_:=l 47 (by decide)
  have g4:val 48=_:=l 48 (by decide)
  have g5:val 49=_:=l 49 (by decide)
  have g6:val 50=_:=l 50 (by decide)
  have g7:val 51=_:=l 51 (by decide)
  have q7:val 52=_:=l 52 (by decide)
  refine q8 _ _ ?_
  simp only [gD,List.set_cons_zero,List.set_cons_succ,Nat.reduceAdd,Nat.zero_add,h0,F,I,Q,h4,h5,h6,h7,h8,h9,c2,c3,c4,c5,c6,c7,c8,c9,d0,d1,d2,d3,d4,d5,d6,d7,d8,d9,e0,e4,e5,e6,e7,e8,e9,f0,f1,f2,f3,f4,f5,f6,f7,f8,f9,g0,g1,g2,g4,g5,g6,g7,q7]
  have j5:=zq (i5.out.trans (HF.bel.mono i5.out.size))
  clear l HF q8 h0 F I Q h4 h5 h6 h7 h8 h9 c2 c3 c4 c5 c6 c7 c8 c9 d0 d1 d2 d3 d4 d5 d6 d7 d8 d9 e0 e4 e5 e6 e7 e8 e9 f0 f1 f2 f3 f4 f5 f6 f7 f8 f9 g0 g1 g2 g4 g5 g6 g7 q7 i5 q5 H C i8
  go_wp2_with fail
  refine (i7.out (1) _).mono ?_;rintro e y1 ⟨rfl,d⟩
  have j6:=bz j5 d
  clear d j5
  go_wp2_with fail
  refine (i7.out ((-1)) _).mono ?_;rintro e V ⟨rfl,d⟩
  have j7:=bz j6 d
  clear d j6
  obtain ⟨y25,b3⟩:=lz (V.alloc (.cells #[aa ab 1,aa ab 1,ac ⟨#[]⟩,.slice none 0 0,aa ab 1,aa ab ((-1)),ac ⟨#[]⟩,.slice none 0 0] 30))
  have d:aB V.heap.size V y25:=by rw [b3.out];exact (ap _ _).alloc (ae _) _
  have p4:Hid (TmsAt y25.heap.size y25 (some ⟨V.heap.size,0,none⟩) [(mS (1)),(mS ((-1)))]):=zq (by
   rw [b3.out]
   exact jJ V [((mS (1)),none,0),((mS ((-1))),none,0)] 30 (by simp [bF]) (fun r m=>by
    simp only [bh,be,or_false] at m
    rcases m with rfl|rfl
    ·exact TmsK.nil
    ·exact TmsK.nil))
  have j8:=bz j7 d
  clear d j7
  go_wp2_with fail
  rw [<-b3.out]
  clear b3
  refine (L.out ⟨#[45]⟩ _ _ _ _).mono ?_;rintro e g8 ⟨rfl,d⟩
  have j9:=bz j8 d
  have o3:=zq ((p4.out.keep d).mono d.size)
  clear d j8 p4
  go_wp2_with fail
  have n2:Hid (aU am 25 #[ac ⟨#[49,32,45,32,45,49,46]⟩,aV #[aa ab 3,aa ab 0,ac ⟨#[45]⟩,.slice (some ⟨V.heap.size,0,none⟩) 2 2]] g8 fun e w'=>e=aD (av true)/\aB g8.heap.size g8 w'):=zq (by
   have h:=nx ⟨#[49,32,45,32,45,49,46]⟩ (fP ⟨#[45]⟩ [(mS (1)),(mS ((-1)))]) (some ⟨V.heap.size,0,none⟩) 2 g8 (by decide) o3.out
   rw [show iY (⟨#[49,32,45,32,45,49,46]⟩:ByteArray).data.toList (fP ⟨#[45]⟩ [(mS (1)),(mS ((-1)))])=true from Cn] at h
   exact h)
  refine n2.out.mono ?_;rintro e y2 ⟨rfl,d⟩
  clear n2
  have k0:=bz j9 d
  clear d j9 o3
  go_wp2_with fail
  refine (i7.out (1) _).mono ?_;rintro e Z ⟨rfl,d⟩
  have k1:=bz k0 d
  clear d k0
  obtain ⟨y33,b4⟩:=lz (Z.alloc (.cells #[aa ab 1,aa ab 1,ac ⟨#[]⟩,.slice none 0 0] 30))
  have d:aB Z.heap.size Z y33:=by rw [b4.out];exact (ap _ _).alloc (ae _) _
  have p5:Hid (TmsAt y33.heap.size y33 (some ⟨Z.heap.size,0,none⟩) [(mS (1))]):=zq (by
   rw [b4.out]
   exact jJ Z [((mS (1)),none,0)] 30 (by simp [bF]) (fun r m=>by
    simp only [bh,be,or_false] at m
    rcases m with rfl
    ·exact TmsK.nil))
  have k2:=bz k1 d
  clear d k1
  go_wp2_with fail
  rw [<-b4.out]
  clear b4
  refine (L.out ⟨#[45]⟩ _ _ _ _).mono ?_;rintro e g9 ⟨rfl,d⟩
  have k3:=bz k2 d
  have o4:=zq ((p5.out.keep d).mono d.size)
  clear d k2 p5
  go_wp2_with fail
  have n3:Hid (aU am 25 #[ac ⟨#[45,32,49,46]⟩,aV #[aa ab 3,aa ab 0,ac ⟨#[45]⟩,.slice (some ⟨Z.heap.size,0,none⟩) 1 1]] g9 fun e w'=>e=aD (av true)/\aB g9.heap.size g9 w'):=zq (by
   have h:=nx ⟨#[45,32,49,46]⟩ (fP ⟨#[45]⟩ [(mS (1))]) (some ⟨Z.heap.size,0,none⟩) 1 g9 (by decide) o4.out
   rw [show iY (⟨#[45,32,49,46]⟩:ByteArray).data.toList (fP ⟨#[45]⟩ [(mS (1))])=true from Cm] at h
   exact h)
  refine n3.out.mono ?_;rintro e y3 ⟨rfl,d⟩
  clear n3
  have k4:=bz k3 d
  clear d k3 o4
  go_wp2_with fail
  refine (T.out (⟨#[97]⟩) _).mono ?_;rintro e y4 ⟨rfl,d⟩
  have k5:=bz k4 d
  clear d k4
  go_wp2_with fail
  refine (T.out (⟨#[98]⟩) _).mono ?_;rintro e y5 ⟨rfl,d⟩
  have k6:=bz k5 d
  clear d k5
  go_wp2_with fail
  refine (T.out (⟨#[99]⟩) _).mono ?_;rintro e a0 ⟨rfl,d⟩
  have k7:=bz k6 d
  clear d k6
  obtain ⟨y45,b5⟩:=lz (a0.alloc (.cells #[aa ab 2,aa ab 0,ac ⟨#[99]⟩,.slice none 0 0] 30))
  have d:aB a0.heap.size a0 y45:=by rw [b5.out];exact (ap _ _).alloc (ae _) _
  have p6:Hid (TmsAt y45.heap.size y45 (some ⟨a0.heap.size,0,none⟩) [(dB (⟨#[99]⟩))]):=zq (by
   rw [b5.out]
   exact jJ a0 [((dB (⟨#[99]⟩)),none,0)] 30 (by simp [bF]) (fun r m=>by
    simp only [bh,be,or_false] at m
    rcases m with rfl
    ·exact TmsK.nil))
  have k8:=bz k7 d
  clear d k7
  go_wp2_with fail
  rw [<-b5.out]
  clear b5
  refine (L.out ⟨#[92,43]⟩ _ _ _ _).mono ?_;rintro e a1 ⟨rfl,d⟩
  have k9:=bz k8 d
  have o5:=zq ((p6.out.keep d).mono d.size)
  clear d k8 p6
  obtain ⟨y49,b6⟩:=lz (a1.alloc (.cells #[aa ab 2,aa ab 0,ac ⟨#[98]⟩,.slice none 0 0,aa ab 3,aa ab 0,ac ⟨#[92,43]⟩,.slice (some ⟨a0.heap.size,0,none⟩) 1 1] 30))
  have d:aB a1.heap.size a1 y49:=by rw [b6.out];exact (ap _ _).alloc (ae _) _
  have p7:Hid (TmsAt y49.heap.size y49 (some ⟨a1.heap.size,0,none⟩) [(dB (⟨#[98]⟩)),(fP ⟨#[92,43]⟩ [(dB (⟨#[99]⟩))])]):=zq (by
   rw [b6.out]
   exact jJ a1 [((dB (⟨#[98]⟩)),none,0),((fP ⟨#[92,43]⟩ [(dB (⟨#[99]⟩))]),(some ⟨a0.heap.size,0,none⟩),1)] 30 (by simp [bF]) (fun r m=>by
    simp only [bh,be,or_false] at m
    rcases m with rfl|rfl
    ·exact TmsK.nil
    ·exact o5.out))
  have l0:=bz k9 d
  clear d k9 o5
  go_wp2_with fail
  rw [<-b6.out]
  clear b6
  refine (L.out ⟨#[44]⟩ _ _ _ _).mono ?_;rintro e y6 ⟨rfl,d⟩
  have l1:=bz l0 d
  have o6:=zq ((p7.out.keep d).mono d.size)
  clear d l0 p7
  go_wp2_with fail
  refine (T.out (⟨#[100]⟩) _).mono ?_;rintro e a2 ⟨rfl,d⟩
  have l2:=bz l1 d
  have o7:=zq ((o6.out.keep d).mono d.size)
  clear d l1 o6
  obtain ⟨y55,b7⟩:=lz (a2.alloc (.cells #[aa ab 3,aa ab 0,ac ⟨#[44]⟩,.slice (some ⟨a1.heap.size,0,none⟩) 2 2,aa ab 2,aa ab 0,ac ⟨#[100]⟩,.slice none 0 0] 30))
  have d:aB a2.heap.size a2 y55:=by rw [b7.out];exact (ap _ _).alloc (ae _) _
  have p8:Hid (TmsAt y55.heap.size y55 (some ⟨a2.heap.size,0,none⟩) [(fP ⟨#[44]⟩ [(dB (⟨#[98]⟩)),(fP ⟨#[92,43]⟩ [(dB (⟨#[99]⟩))])]),(dB (⟨#[100]⟩))]):=zq (by
   rw [b7.out]
   exact jJ a2 [((fP ⟨#[44]⟩ [(dB (⟨#[98]⟩)),(fP ⟨#[92,43]⟩ [(dB (⟨#[99]⟩))])]),(some ⟨a1.heap.size,0,none⟩),2),((dB (⟨#[100]⟩)),none,0)] 30 (by simp [bF]) (fun r m=>by
    simp only [bh,be,or_false] at m
    rcases m with rfl|rfl
    ·exact o7.out
    ·exact TmsK.nil))
  have l3:=bz l2 d
  clear d l2 o7
  go_wp2_with fail
  rw [<-b7.out]
  clear b7
  refine (L.out ⟨#[59]⟩ _ _ _ _).mono ?_;rintro e a3 ⟨rfl,d⟩
  have l4:=bz l3 d
  have o8:=zq ((p8.out.keep d).mono d.size)
  clear d l3 p8
  obtain ⟨y59,b8⟩:=lz (a3.alloc (.cells #[aa ab 2,aa ab 0,ac ⟨#[97]⟩,.slice none 0 0,aa ab 3,aa ab 0,ac ⟨#[59]⟩,.slice (some ⟨a2.heap.size,0,none⟩) 2 2] 30))
  have d:aB a3.heap.size a3 y59:=by rw [b8.out];exact (ap _ _).alloc (ae _) _
  have p9:Hid (TmsAt y59.heap.size y59 (some ⟨a3.heap.size,0,none⟩) [(dB (⟨#[97]⟩)),(fP ⟨#[59]⟩ [(fP ⟨#[44]⟩ [(dB (⟨#[98]⟩)),(fP ⟨#[92,43]⟩ [(dB (⟨#[99]⟩))])]),(dB (⟨#[100]⟩))])]):=zq (by
   rw [b8.out]
   exact jJ a3 [((dB (⟨#[97]⟩)),none,0),((fP ⟨#[59]⟩ [(fP ⟨#[44]⟩ [(dB (⟨#[98]⟩)),(fP ⟨#[92,43]⟩ [(dB (⟨#[99]⟩))])]),(dB (⟨#[100]⟩))]),(some ⟨a2.heap.size,0,none⟩),2)] 30 (by simp [bF]) (fun r m=>by
    simp only [bh,be,or_false] at m
    rcases m with rfl|rfl
    ·exact TmsK.nil
    ·exact o8.out))
  have l5:=bz l4 d
  clear d l4 o8
  go_wp2_with fail
  rw [<-b8.out]
  clear b8
  refine (L.out ⟨#[58,45]⟩ _ _ _ _).mono ?_;rintro e i0 ⟨rfl,d⟩
  have l6:=bz l5 d
  have o9:=zq ((p9.out.keep d).mono d.size)
  clear d l5 p9
  go_wp2_with fail
  have n4:Hid (aU am 25 #[ac ⟨#[97,32,58,45,32,98,44,32,92,43,32,99,32,59,32,100,46]⟩,aV #[aa ab 3,aa ab 0,ac ⟨#[58,45]⟩,.slice (some ⟨a3.heap.size,0,none⟩) 2 2]] i0 fun e w'=>e=aD (av true)/\aB i0.heap.size i0 w'):=zq (by
   have h:=nx ⟨#[97,32,58,45,32,98,44,32,92,43,32,99,32,59,32,100,46]⟩ (fP ⟨#[58,45]⟩ [(dB (⟨#[97]⟩)),(fP ⟨#[59]⟩ [(fP ⟨#[44]⟩ [(dB (⟨#[98]⟩)),(fP ⟨#[92,43]⟩ [(dB (⟨#[99]⟩))])]),(dB (⟨#[100]⟩))])]) (some ⟨a3.heap.size,0,none⟩) 2 i0 (by decide) o9.out
   rw [show iY (⟨#[97,32,58,45,32,98,44,32,92,43,32,99,32,59,32,100,46]⟩:ByteArray).data.toList (fP ⟨#[58,45]⟩ [(dB (⟨#[97]⟩)),(fP ⟨#[59]⟩ [(fP ⟨#[44]⟩ [(dB (⟨#[98]⟩)),(fP ⟨#[92,43]⟩ [(dB (⟨#[99]⟩))])]),(dB (⟨#[100]⟩))])])=true from Cl] at h
   exact h)
  refine n4.out.mono ?_;rintro e y7 ⟨rfl,d⟩
  clear n4
  have l7:=bz l6 d
  clear d l6 o9
  go_wp2_with fail
  refine (T.out (⟨#[45]⟩) _).mono ?_;rintro e y8 ⟨rfl,d⟩
  have l8:=bz l7 d
  clear d l7
  go_wp2_with fail
  refine (T.out (⟨#[45]⟩) _).mono ?_;rintro e a4 ⟨rfl,d⟩
  have l9:=bz l8 d
  clear d l8
  obtain ⟨y69,b9⟩:=lz (a4.alloc (.cells #[aa ab 2,aa ab 0,ac ⟨#[45]⟩,.slice none 0 0,aa ab 2,aa ab 0,ac ⟨#[45]⟩,.slice none 0 0] 30))
  have d:aB a4.heap.size a4 y69:=by rw [b9.out];exact (ap _ _).alloc (ae _) _
  have q0:Hid (TmsAt y69.heap.size y69 (some ⟨a4.heap.size,0,none⟩) [(dB (⟨#[45]⟩)),(dB (⟨#[45]⟩))]):=zq (by
   rw [b9.out]
   exact jJ a4 [((dB (⟨#[45]⟩)),none,0),((dB (⟨#[45]⟩)),none,0)] 30 (by simp [bF]) (fun r m=>by
    simp only [bh,be,or_false] at m
    rcases m with rfl|rfl
    ·exact TmsK.nil
    ·exact TmsK.nil))
  have m0:=bz l9 d
  clear d l9
  go_wp2_with fail
  rw [<-b9.out]
  clear b9
  refine (L.out ⟨#[61]⟩ _ _ _ _).mono ?_;rintro e i1 ⟨rfl,d⟩
  have m1:=bz m0 d
  have p0:=zq ((q0.out.keep d).mono d.size)
  clear d m0 q0
  go_wp2_with fail
  have n5:Hid (aU am 25 #[ac ⟨#[45,32,61,32,45,32,46]⟩,aV #[aa ab 3,aa ab 0,ac ⟨#[61]⟩,.slice (some ⟨a4.heap.size,0,none⟩) 2 2]] i1 fun e w'=>e=aD (av true)/\aB i1.heap.size i1 w'):=zq (by
   have h:=nx ⟨#[45,32,61,32,45,32,46]⟩ (fP ⟨#[61]⟩ [(dB (⟨#[45]⟩)),(dB (⟨#[45]⟩))]) (some ⟨a4.heap.size,0,none⟩) 2 i1 (by decide) p0.out
   rw [show iY (⟨#[45,32,61,32,45,32,46]⟩:ByteArray).data.toList (fP ⟨#[61]⟩ [(dB (⟨#[45]⟩)),(dB (⟨#[45]⟩))])=true from Ck] at h
   exact h)
  refine n5.out.mono ?_;rintro e y9 ⟨rfl,d⟩
  clear n5
  have m2:=bz m1 d
  clear d m1 p0
  go_wp2_with fail
  refine (T.out (⟨#[97]⟩) _).mono ?_;rintro e z0 ⟨rfl,d⟩
  have m3:=bz m2 d
  clear d m2
  go_wp2_with fail
  refine (T.out (⟨#[98]⟩) _).mono ?_;rintro e z1 ⟨rfl,d⟩
  have m4:=bz m3 d
  clear d m3
  go_wp2_with fail
  refine (a9.out (0) _).mono ?_;rintro e a5 ⟨rfl,d⟩
  have m5:=bz m4 d
  clear d m4
  obtain ⟨y81,c0⟩:=lz (a5.alloc (.cells #[aa ab 2,aa ab 0,ac ⟨#[98]⟩,.slice none 0 0,aa ab 0,aa ab 0,ac ⟨#[]⟩,.slice none 0 0] 30))
  have d:aB a5.heap.size a5 y81:=by rw [c0.out];exact (ap _ _).alloc (ae _) _
  have p2:Hid (TmsAt y81.heap.size y81 (some ⟨a5.heap.size,0,none⟩) [(dB (⟨#[98]⟩)),(gK (0))]):=zq (by
   rw [c0.out]
   exact jJ a5 [((dB (⟨#[98]⟩)),none,0),((gK (0)),none,0)] 30 (by simp [bF]) (fun r m=>by
    simp only [bh,be,or_false] at m
    rcases m with rfl|rfl
    ·exact TmsK.nil
    ·exact TmsK.nil))
  have m6:=bz m5 d
  clear d m5
  go_wp2_with fail
  rw [<-c0.out]
  clear c0
  refine (L.out ⟨#[46]⟩ _ _ _ _).mono ?_;rintro e a6 ⟨rfl,d⟩
  have m7:=bz m6 d
  have o1:=zq ((p2.out.keep d).mono d.size)
  clear d m6 p2
  obtain ⟨y85,c1⟩:=lz (a6.alloc (.cells #[aa ab 2,aa ab 0,ac ⟨#[97]⟩,.slice none 0 0,aa ab 3,aa ab 0,ac ⟨#[46]⟩,.slice (some ⟨a5.heap.size,0,none⟩) 2 2] 30))
  have d:aB a6.heap.size a6 y85:=by rw [c1.out];exact (ap _ _).alloc (ae _) _
  have p3:Hid (TmsAt y85.heap.size y85 (some ⟨a6.heap.size,0,none⟩) [(dB (⟨#[97]⟩)),(fP ⟨#[46]⟩ [(dB (⟨#[98]⟩)),(gK (0))])]):=zq (by
   rw [c1.out]
   exact jJ a6 [((dB (⟨#[97]⟩)),none,0),((fP ⟨#[46]⟩ [(dB (⟨#[98]⟩)),(gK (0))]),(some ⟨a5.heap.size,0,none⟩),2)] 30 (by simp [bF]) (fun r m=>by
    simp only [bh,be,or_false] at m
    rcases m with rfl|rfl
    ·exact TmsK.nil
    ·exact o1.out))
  have m8:=bz m7 d
  clear d m7 o1
  go_wp2_with fail
  rw [<-c1.out]
  clear c1
  refine (L.out ⟨#[46]⟩ _ _ _ _).mono ?_;rintro e i2 ⟨rfl,d⟩
  have m9:=bz m8 d
  have o2:=zq ((p3.out.keep d).mono d.size)
  clear d m8 p3
  go_wp2_with fail
  have n6:Hid (aU am 25 #[ac ⟨#[91,97,44,32,98,32,124,32,88,93,46]⟩,aV #[aa ab 3,aa ab 0,ac ⟨#[46]⟩,.slice (some ⟨a6.heap.size,0,none⟩) 2 2]] i2 fun e w'=>e=aD (av true)/\aB i2.heap.size i2 w'):=zq (by
   have h:=nx ⟨#[91,97,44,32,98,32,124,32,88,93,46]⟩ (fP ⟨#[46]⟩ [(dB (⟨#[97]⟩)),(fP ⟨#[46]⟩ [(dB (⟨#[98]⟩)),(gK (0))])]) (some ⟨a6.heap.size,0,none⟩) 2 i2 (by decide) o2.out
   rw [show iY (⟨#[91,97,44,32,98,32,124,32,88,93,46]⟩:ByteArray).data.toList (fP ⟨#[46]⟩ [(dB (⟨#[97]⟩)),(fP ⟨#[46]⟩ [(dB (⟨#[98]⟩)),(gK (0))])])=true from Cj] at h
   exact h)
  refine n6.out.mono ?_;rintro e i3 ⟨rfl,d⟩
  clear n6
  have n0:=bz m9 d
  clear d m9 o2
  go_wp2_with fail
  have n7:Hid (aU am 28 #[ac ⟨#[97,32,61,32,98,32,61,32,99,46]⟩,aa ab 6] i3 fun e w'=>e=aD (av true)/\aB i3.heap.size i3 w'):=zq (by
   have h:=vR ⟨#[97,32,61,32,98,32,61,32,99,46]⟩ 6 i3 (by decide)
   rw [show lM (⟨#[97,32,61,32,98,32,61,32,99,46]⟩:ByteArray).data.toList 6=true from Ci] at h
   exact h)
  refine n7.out.mono ?_;rintro e i4 ⟨rfl,d⟩
  clear n7
  have n1:=bz n0 d
  clear d n0
  go_wp2_with fail
  have n8:Hid (aU am 28 #[ac ⟨#[58,45,32,97,44,32,58,45,32,98,46]⟩,aa ab 9] i4 fun e w'=>e=aD (av true)/\aB i4.heap.size i4 w'):=zq (by
   have h:=vR ⟨#[58,45,32,97,44,32,58,45,32,98,46]⟩ 9 i4 (by decide)
   rw [show lM (⟨#[58,45,32,97,44,32,58,45,32,98,46]⟩:ByteArray).data.toList 9=true from Ch] at h
   exact h)
  refine n8.out.mono ?_;rintro e z2 ⟨rfl,d⟩
  clear n8
  have r4:=bz n1 d
  clear d n1
  go_wp2_with fail
  go_ret
  exact ⟨rfl,r4.out⟩
end Go.Proofs.YtbojljpldcijgaaGreat
