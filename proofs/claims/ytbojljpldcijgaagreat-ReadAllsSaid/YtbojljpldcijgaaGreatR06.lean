/- Parts of the proof. -/
import Derived.Test.YtbojljpldcijgaaGreatR05
import Derived.Test.YtbojljpldcijgaaGreatR02
import Derived.Test.YtbojljpldcijgaaGreatR01
import Derived.Test.YtbojljpldcijgaaGreatProg
import Derived.RegionTactic
import Derived.Deep.RegionWith
import Derived.Laws.EntriesVeiled
import Derived.Deep.CutBlock
import Derived.Lib.ItoaNum
import Derived.Lib.Builder
import Derived.Lib.AppendStr
import Derived.Lib.UnsafeStr
import Derived.Laws.Externs
import Derived.Laws.AppendOwnNone
import Derived.SliceStrings
import Derived.Deep.Slices
import Derived.ProofKit
import Derived.Laws.OwnMore
import Derived.Maps.AppendAt
import Derived.Deep.AppendLies
import Derived.Deep.RegionLaw
import Derived.Deep.DeepMust
set_option maxHeartbeats 12800000
set_option maxRecDepth 100000
open Array renaming getElem?_eq_some_iff -> aS
open ByteArray.toList renaming loop -> fe
open Go renaming Calls -> aU, TypeId -> cH, Value -> aC, World -> au, bodyPost_ret -> aw, heap_setCell_other -> aW, maxLen -> bF
open Go.Ending renaming returned -> aD
open Go.IntKind renaming i64 -> ab
open Go.Proofs.Tryz renaming prog -> am
open Go.RowKit renaming Below -> aB
open Go.RowKit.Below renaming refl -> ap
open Go.Value renaming bool -> av, int -> aa, oneCell' -> fl, pointer -> ar, slice -> dc, string -> ac, tuple -> aJ
open Go.World renaming cell?_alloc_new -> aF, cell?_setCell_same -> eI
open Int renaming toNat_natCast -> aI
open List renaming getD_eq_getElem?_getD -> bt, getElem?_eq_getElem -> bi, getElem_map -> bT, getElem_mem -> bW, length_append -> bC, length_map -> bZ, take_of_length_le -> cC, take_succ_eq_append_getElem -> bl
open Nat renaming le_refl -> ae, le_trans -> aQ, lt_of_lt_of_le -> aA, lt_or_ge -> dn, zero_le -> bc
namespace Hb
open Go Go.RowKit
theorem fp {w:au} {a e size:Nat} {v:aC} {n:Nat} {b:List aC} (h:w.ownsRow a e size v n b):∃A cap,v=.slice A n cap:=by
 rcases h.2 with ⟨rfl,rfl⟩ | ⟨g,cap,c,rfl,_⟩
 ·exact ⟨_,_,rfl⟩
 ·exact ⟨_,_,rfl⟩
theorem nh {w:au} {a b e size:Nat} {v:aC} {n:Nat} {xs:List aC} (h:w.ownsRow a e size v n xs) (j:b<=a):w.ownsRow b e size v n xs:=by
 refine ⟨h.1,?_⟩
 rcases h.2 with d | ⟨g,cap,c,f,k,i⟩
 ·exact .inl d
 ·exact .inr ⟨g,cap,c,f,by omega,i⟩
theorem iz (w:au) (a e size:Nat):w.ownsRow a e size (.slice none 0 0) 0 []:=⟨by simp,.inl ⟨rfl,rfl⟩⟩
theorem tm {w w':au} {a e size b:Nat} {v:aC} {n:Nat} {xs:List aC} (h:w.ownsRow a e size v n xs) (o:b<a) (j:∀k,k<w.heap.size->k≠b->w'.heap[k]? = w.heap[k]?):w'.ownsRow a e size v n xs:=by
 refine ⟨h.1,?_⟩
 rcases h.2 with i | ⟨g,cap,d,l,f,c,m⟩
 ·exact .inl i
 ·exact .inr ⟨g,cap,d,l,f,(j g (by rw [aS] at c;exact c.1) (by omega)).trans c,m⟩
def jz (r:NextR):List aC:=[aa ab r.r.kind,ac ⟨r.r.text.toArray⟩,aa ab r.r.n,aa ab r.r.at_,aa ab r.r.end_,av r.lay]
def ff (l:List NextR):List aC:=l.flatMap jz
theorem iS (l:List NextR) (r:NextR):ff (l++[r])=ff l++jz r:=by simp [ff]
theorem jC (w:au) (a:Array aC) (e:cH) (o:Obj) (j:Nat) (v:aC) (h:a[j]? = some v):((w.alloc (.cells a e)).alloc o).cell? ⟨w.heap.size,j,none⟩=some v :=
 (World.grownBy_alloc _ o none).cell ((aF w a e j).trans h) (by simp)
theorem lg (w:au) (o:Obj):dc (some ⟨w.heap.size+1,0,none⟩) 1 1=dc (some ⟨(w.alloc o).heap.size,0,none⟩) 1 1:=by simp
theorem lT {w:au} {a e size:Nat} {v:aC} {n:Nat} {c:List aC} (h:w.ownsRow a e size v n c) {k:Nat} (d:w.heap.size<=k):some k≠v.ownBlock:=fun b=>by
 have:=h.lt k b.symm
 omega
end Hb
namespace Go.Proofs.YtbojljpldcijgaaGreat
open Go.RowKit Hb
theorem pa:(Tryz.prog.info? 76).map (fun i=>(i.zero,i.size,i.bytes))=some (some (.agg #[aa ab 0,ac ⟨#[]⟩,aa ab 0,aa ab 0,aa ab 0,av false]),6,56):=by kernel_rfl
def jG (L:List UInt8) (a:Int) (b:List (Int×Int)):AllR:=if ll L a b=true then lL (ba (fj b) L) L a.toNat else ⟨[],0,1⟩
def zx (r:AllR) (w:au) (e:Ending) (w':au):Prop:=∃v,e=aD (aJ #[v,aa ab r.where_,aa ab r.err])/\aB w.heap.size w w'/\w'.ownsRow w.heap.size 76 6 v r.l.length (ff r.l)
theorem wJ (s:ByteArray) (t:Int) (A:Option Addr) (n cap:Nat) (l:List (Int×Int)) (w:au) (V:n=l.length) (hm:n<=bF) (hs:s.size<=bF) (W:Pairs w A l) :
  aU am 32 #[ac s,aa ab t,.slice A n cap] w (zx (jG s.data.toList t l) w):=by
 by_cases y:mN s t l
 ·have J:=zq (show jG s.data.toList t l=lL (ba (fj l) s.data.toList) s.data.toList t.toNat by unfold jG;rw [if_pos ((mP s t l).2 y)])
  obtain ⟨k,hk⟩:=Int.eq_ofNat_of_zero_le y.2.1
  subst hk
  have a4:k<=s.size:=by have:=y.2.2.1;omega
  have a7:=y.1
  have X:=zq (sj s k A n cap l w V hm W y)
  clear V W y
  rw [aI] at J
  have Y:Hid (s.data.toList.length=s.size):=ci s
  have a3:Hid ((ba (fj l) s.data.toList).length=s.data.toList.length):=bL _ _
  rw [J.out]
  clear J
  go_enter Tryz.func32,Tryz.ntmps32
  go_wp2_with fail
  refine X.out.mono ?_;rintro e H ⟨b,rfl,P,G,L⟩
  have Z:=L.lt
  go_wp2_with fail
  go_loopw [1,6] (fun i v wr=>∃a f:Nat,∃q:Int,∃B:List NextR,i=aa ab a/\a<=s.size/\s.size-a<f/\B.length<=a/\aB w.heap.size w wr/\H.heap.size<=wr.heap.size/\Lex wr b s (fj l) q/\wr.ownsRow H.heap.size 76 6 v B.length (ff B)/\Hid (kZ f (ba (fj l) s.data.toList) s.data.toList a B=lL (ba (fj l) s.data.toList) s.data.toList k)) (fun i _ _=>s.size-(intOf i).toNat)
  case atStart=>exact ⟨k,s.size+1,_,[],rfl,a4,by omega,bc _,G,ae _,L,iz _ _ _ _,by show _=_;unfold lL;rw [Y.out]⟩
  case round=>
   obtain ⟨a,f,q,B,rfl,ha,hf,a6,F,a2,Lr,D,o⟩:=hrel
   obtain ⟨U,rfl⟩:∃U,f=U+1:=⟨f-1,by omega⟩
   obtain ⟨A',a5,rfl⟩:=fp D
   have Q:=F.size
   have C:=np (ba (fj l) s.data.toList) s.data.toList a3.out a (by rw [Y.out];exact ha)
   rw [Y.out] at C
   have I:=zq (jT U (ba (fj l) s.data.toList) s.data.toList a B)
   have M:=zq (yQ b s _ a _ wr Lr ha)
   generalize hr:bD (ba (fj l) s.data.toList) s.data.toList a=r at *
   clear hr Lr
   by_cases m:r.r.err=14
   ·have b1:(r.r.err==14)=true:=by simp [m]
    cases B with
    | nil=>
     have b2:(r.r.err != 0)=true:=by simp [m]
     have j:=zq (I.out.trans (by rw [if_neg (by simp),if_pos (by omega)]))
     clear C m
     go_wp2_with fail
     refine M.out.mono ?_;rintro e z ⟨g,c,S,N⟩
     unfold fC cK at g;subst g
     have d:=F.trans (c.toBelow' P Q)
     go_wp2_with fail
     refine aw (v:=aJ #[.slice none 0 0,aa ab r.where_,aa ab r.r.err]) (by simp [results,Tryz.results32,go_sem]) rfl ⟨_,by rw [<-o.out,j.out],d.alloc d.size _,by rw [<-o.out,j.out];exact iz _ _ _ _⟩
    | cons x xs=>
     have j:=zq (I.out.trans (by rw [if_pos ⟨m,by simp⟩]))
     clear C m
     go_wp2_with fail
     refine M.out.mono ?_;rintro e z ⟨g,c,S,N⟩
     unfold fC cK at g;subst g
     have d:=F.trans (c.toBelow' P Q)
     go_wp2_with fail
     refine aw (v:=aJ #[.slice none 0 0,aa ab r.where_,aa ab 7]) (by simp [results,Tryz.results32,go_sem]) rfl ⟨_,by rw [<-o.out,j.out],d.alloc d.size _,by rw [<-o.out,j.out];exact iz _ _ _ _⟩
   have b1:(r.r.err==14)=false:=by simp [m]
   by_cases u:r.r.err=0
   ·have b2:(r.r.err != 0)=false:=by simp [u]
    obtain ⟨p,en,e1,e2,T,e4,e5,e6,e7⟩:=C u
    by_cases E:r.r.kind=7
    ·have b3:(r.r.kind==7)=true:=by simp [E]
     have j:=zq (I.out.trans (by rw [if_neg (by simp [m]),if_neg (by simpa using u),if_pos E]))
     clear C m u E e1 T e6 e7
     go_wp2_with fail
     refine M.out.mono ?_;rintro e z ⟨g,c,S,N⟩
     unfold fC cK at g;subst g
     have d:=F.trans (c.toBelow' P Q)
     have K:=zq ((tm D Z c.block).alloc (.cells #[aa ab r.r.kind,ac ⟨r.r.text.toArray⟩,aa ab r.r.n,aa ab r.r.at_,aa ab r.r.end_,av r.lay] 76))
     go_wp2_with (at_builtin;go_must (refine eS rfl _ _ 65 76 rfl Tryz.underlying65 _ 6 56 pa rfl (by decide) H.heap.size _ _ _ rfl _ K.out #[aa ab r.r.kind,ac ⟨r.r.text.toArray⟩,aa ab r.r.n,aa ab r.r.at_,aa ab r.r.end_,av r.lay] rfl (by simp [fl]) rfl (lg _ _) (by omega) (by omega) (by simp;have:=c.size;omega) ?_;intro v1 w3 a0 O R;have t0:=R.cell (jC z _ _ _ 0 _ rfl) (lT D c.size);have t4:=R.cell (jC z _ _ _ 4 _ rfl) (lT D c.size);clear K))
     refine aw (v:=aJ #[v1,aa ab 0,aa ab 0]) (by simp [results,Tryz.results32,go_sem]) rfl ⟨v1,by rw [<-o.out,j.out],(d.alloc d.size _).trans (O.mono G.size),by rw [<-o.out,j.out,iS,bC];exact nh a0 G.size⟩
    ·have b3:(r.r.kind==7)=false:=by simp [E]
     have j:=zq (I.out.trans (by rw [if_neg (by simp [m]),if_neg (by simpa using u),if_neg E,T,aI]))
     have a1:=zq T
     clear C m u E e1 T e6 e7
     go_wp2_with fail
     refine M.out.mono ?_;rintro e z ⟨g,c,S,N⟩
     unfold fC cK at g;subst g
     have d:=F.trans (c.toBelow' P Q)
     have K:=zq ((tm D Z c.block).alloc (.cells #[aa ab r.r.kind,ac ⟨r.r.text.toArray⟩,aa ab r.r.n,aa ab r.r.at_,aa ab r.r.end_,av r.lay] 76))
     go_wp2_with (at_builtin;go_must (refine eS rfl _ _ 65 76 rfl Tryz.underlying65 _ 6 56 pa rfl (by decide) H.heap.size _ _ _ rfl _ K.out #[aa ab r.r.kind,ac ⟨r.r.text.toArray⟩,aa ab r.r.n,aa ab r.r.at_,aa ab r.r.end_,av r.lay] rfl (by simp [fl]) rfl (lg _ _) (by omega) (by omega) (by simp;have:=c.size;omega) ?_;intro v1 w3 a0 O R;have t0:=R.cell (jC z _ _ _ 0 _ rfl) (lT D c.size);have t4:=R.cell (jC z _ _ _ 4 _ rfl) (lT D c.size);clear K))
     go_roundw
     case rel=>exact ⟨en,U,S,B++[r],congrArg (Value.int IntKind.i64) a1.out,by omega,by omega,by simp;omega,(d.alloc d.size _).trans (O.mono G.size),aQ a2 (aQ c.size (aQ (by simp) O.size)),N.below (((ap H.heap.size z).alloc (aQ a2 c.size) _).trans O) Z,by rw [iS,bC];exact a0,j.out.symm.trans o.out⟩
     case measure=>rw [a1.out];simp [intOf];omega
   ·have b2:(r.r.err != 0)=true:=by simp [u]
    have j:=zq (I.out.trans (by rw [if_neg (by simp [m]),if_pos u]))
    clear C m u
    go_wp2_with fail
    refine M.out.mono ?_;rintro e z ⟨g,c,S,N⟩
    unfold fC cK at g;subst g
    have d:=F.trans (c.toBelow' P Q)
    go_wp2_with fail
    refine aw (v:=aJ #[.slice none 0 0,aa ab r.where_,aa ab r.r.err]) (by simp [results,Tryz.results32,go_sem]) rfl ⟨_,by rw [<-o.out,j.out],d.alloc d.size _,by rw [<-o.out,j.out];exact iz _ _ _ _⟩
 ·have J:=zq (show jG s.data.toList t l=⟨[],0,1⟩ by unfold jG;rw [if_neg (fun h=>y ((mP s t l).1 h))])
  have X:=zq (tw s t A n cap l w V hm hs W y)
  clear V W y
  rw [J.out]
  go_enter Tryz.func32,Tryz.ntmps32
  go_wp2_with fail
  refine X.out.mono ?_;rintro e H ⟨rfl,G⟩
  go_wp2_with fail
  refine aw (v:=aJ #[.slice none 0 0,aa ab 0,aa ab 1]) (by simp [results,Tryz.results32,go_sem]) rfl ⟨_,rfl,G,iz _ _ _ _⟩
end Go.Proofs.YtbojljpldcijgaaGreat
namespace Hb
open Go Go.RowKit
def nP (l:List Tm) (k:Nat):Nat:=((l.take k).map Tm.nodes).sum
theorem qG (l:List Tm):nP l 0=0:=rfl
theorem nO (l:List Tm) (k:Nat) (a:k<l.length):nP l (k+1)=nP l k+l[k].nodes:=by
 unfold nP
 rw [bl a,List.map_append,List.sum_append]
 simp
theorem vA (l:List Tm):∀d k,nP l k<=nP l (k+d):=by
 intro d
 induction d with
 | zero=>intro k;exact ae _
 | succ d ih=>
  intro k
  refine aQ (ih k) ?_
  rcases dn (k+d) l.length with h | h
  ·rw [show k+(d+1)=(k+d)+1 by omega,nO l (k+d) h];omega
  ·unfold nP
   rw [cC h,cC (by omega)]
   exact ae _
theorem sK (t:Tm):t.nodes=1+nP t.args t.args.length:=by
 rw [Tm.nodes_eq];unfold nP;rw [List.take_length]
structure TBoxT (w0 w:au) (t:Tm) (A:Option Addr) (cap:Nat):Prop where
 bel:aB w0.heap.size w0 w
 lt:w0.heap.size<w.heap.size
 c0:w.cell? ⟨w0.heap.size,0,none⟩=some (aa ab t.kind)
 c1:w.cell? ⟨w0.heap.size,1,none⟩=some (aa ab t.num)
 c2:w.cell? ⟨w0.heap.size,2,none⟩=some (ac t.name)
 c3:w.cell? ⟨w0.heap.size,3,none⟩=some (.slice A t.args.length cap)
theorem TBoxT.call {w0 w w':au} {t:Tm} {A:Option Addr} {cap:Nat} (h:TBoxT w0 w t A cap) (a:aB w.heap.size w w'):TBoxT w0 w' t A cap where
 bel:=h.bel.trans (a.mono (Nat.le_of_lt h.lt))
 lt:=aA h.lt a.size
 c0:=(a.cell (p:=⟨_,_,none⟩) h.lt).trans h.c0
 c1:=(a.cell (p:=⟨_,_,none⟩) h.lt).trans h.c1
 c2:=(a.cell (p:=⟨_,_,none⟩) h.lt).trans h.c2
 c3:=(a.cell (p:=⟨_,_,none⟩) h.lt).trans h.c3
theorem TBoxT.start (w:au) (t:Tm) (A:Option Addr) (cap:Nat) (e:cH):TBoxT w (w.alloc (.cells #[aa ab t.kind,aa ab t.num,ac t.name,.slice A t.args.length cap] e)) t A cap where
 bel:=(ap _ _).alloc (ae _) _
 lt:=by simp
 c0:=aF _ _ _ 0
 c1:=aF _ _ _ 1
 c2:=aF _ _ _ 2
 c3:=aF _ _ _ 3
end Hb
namespace Go.Proofs.YtbojljpldcijgaaGreat
open Go.RowKit Hb
theorem xb:∀(t:Tm) (A:Option Addr) (cap most:Nat) (w:au),TmsAt w.heap.size w A t.args->1<=most->most<=2001 ->
  aU am 72 #[fI t A cap,aa ab most] w fun e w'=>e=aD (aa ab (min t.nodes most:Nat))/\aB w.heap.size w w':=by
 refine Tm.ind fun t E=>?_
 intro A cap most w l U V
 have J:=zq (TBoxT.start w t A cap 30)
 have I:=zq l
 have x:=l.len
 unfold bF at x
 have p:=zq (sK t)
 have H:=zq E
 clear l E
 obtain ⟨L,d⟩:=lz (t.args.length)
 unfold fI
 rw [<-d.out] at x |-
 go_enter Tryz.func72,Tryz.ntmps72
 go_wp2_with fail
 go_loopw [5,6] (fun c i wr=>∃k n:Nat,k<=L/\c=aa ab n/\i=aa ab k/\n=min (1+nP t.args k) most/\Hid (TBoxT w wr t A cap)) (fun _ i _=>L-(intOf i).toNat)
 case atStart=>exact ⟨0,1,bc _,rfl,rfl,by rw [qG];omega,by rw [d.out];exact J⟩
 case round=>
  obtain ⟨k,n,X,rfl,rfl,g,a⟩:=hrel
  have s:=a.out.c3
  rw [<-d.out] at s
  by_cases Y:k<L
  ·by_cases a4:n<most
   ·have o:k<t.args.length:=by have:=d.out;omega
    obtain ⟨b,a7,F,P,rfl,W,K,M,N,O,B⟩:=(I.out.keep a.out.bel).get k o
    have C:=B.mono a.out.bel.size
    have j:=zq (H.out t.args[k] (bW o) F P (most-n) wr C (by omega) (by omega))
    have D:=nO t.args k o
    unfold fI at j
    have Z:((most:Int)-(n:Int))=((most-n:Nat):Int):=by omega
    obtain ⟨q,y⟩:∃q,q=min t.args[k].nodes (most-n):=⟨_,rfl⟩
    rw [<-y] at j
    have z:n+q=min (1+nP t.args (k+1)) most:=by rw [D];omega
    clear B C y D g
    generalize t.args[k].kind=a0 at *
    generalize t.args[k].num=R at *
    generalize t.args[k].name=S at *
    generalize t.args[k].args.length=T at *
    have r:=zq z
    clear z
    go_wp2_with fail
    refine j.out.mono ?_;rintro e w1 ⟨rfl,v⟩
    have G:=zq (a.out.call v)
    have a6:n+q<=2001:=by have:=r.out;omega
    clear s K M N O v
    go_wp2_with fail
    go_roundw
    case rel=>exact ⟨k+1,n+q,by omega,by go_num,by go_num,r.out,G⟩
    case measure=>simp [intOf] <;> omega
   ·have f:n=min t.nodes most:=by
     have Q:=vA t.args (t.args.length-k) k
     have u:=d.out
     rw [show k+(t.args.length-k)=t.args.length by omega] at Q
     rw [p.out];omega
    have h:=zq f
    have m:=a.out.bel
    have a5:¬(n:Int)<(most:Int):=by omega
    clear f g
    go_wp2_with fail
    go_ret
    exact ⟨dl (by rw [h.out]),m⟩
  ·have f:n=min t.nodes most:=by
    have u:=d.out
    rw [p.out,<-u,g,show k=L by omega]
   have h:=zq f
   have m:=a.out.bel
   clear f g
   go_wp2_with fail
   go_ret
   exact ⟨dl (by rw [h.out]),m⟩
theorem yc (t:Tm) (A:Option Addr) (cap:Nat) (w:au) (c:TmsAt w.heap.size w A t.args):aU am 45 #[fI t A cap] w fun e w'=>e=aD (aa ab (min t.nodes 2001:Nat))/\aB w.heap.size w w':=by
 have b:=zq (TBoxT.start w t A cap 30)
 have d:=zq (fun (a:au) (h:TBoxT w a t A cap)=>xb t A cap 2001 a ((c.keep h.bel).mono h.bel.size) (by decide) (by decide))
 unfold fI at *
 clear c
 generalize min t.nodes 2001=m at *
 generalize t.kind=a0 at *
 generalize t.num=i at *
 generalize t.name=j at *
 generalize t.args.length=k at *
 go_enter Tryz.func45,Tryz.ntmps45
 go_wp2_with fail
 refine (d.out _ b.out).mono ?_;rintro e a ⟨rfl,f⟩
 have g:=(b.out.call f).bel
 go_wp2_with fail
 go_ret
 exact ⟨rfl,g⟩
theorem yd (t:Tm) (A:Option Addr) (cap:Nat) (w:au) (_hm:t.args.length<=bF):aU am 73 #[fI t A cap] w fun e w'=>e=aD (av (iL t))/\aB w.heap.size w w':=by
 unfold fI
 go_enter Tryz.func73,Tryz.ntmps73
 go_wp2_with fail
 all_goals go_ret
 all_goals refine ⟨bY ?_,(ap _ _).alloc (ae _) _⟩
 all_goals unfold iL
 all_goals grind
theorem xa:∀(t:Tm) (A:Option Addr) (cap:Nat) (w:au),TmsAt w.heap.size w A t.args ->
  aU am 46 #[fI t A cap] w fun e w'=>e=aD (av t.allOk)/\aB w.heap.size w w':=by
 refine Tm.ind fun t D=>?_
 intro A cap w s
 have n:=zq (TBoxT.start w t A cap 30)
 have J:=zq s
 have v:=s.len
 have l:=zq (fun p (h:TBoxT w p t A cap)=>(yd t A cap p v).mono fun _ _ B=>(⟨B.1,h.call B.2⟩:_/\TBoxT w _ t A cap))
 unfold bF at v
 have H:=zq D
 have g:=zq (Tm.allOk_eq t)
 clear s D
 obtain ⟨L,f⟩:=lz (t.args.length)
 unfold fI at *
 rw [<-f.out] at v l |-
 cases hno:iL t
 ·rw [hno] at l g
  clear hno
  go_enter Tryz.func46,Tryz.ntmps46
  go_wp2_with fail
  rw [<-f.out] at n
  refine (l.out _ n.out).mono ?_;rintro e p ⟨rfl,o⟩
  have m:=o.bel
  go_wp2_with fail
  go_ret
  exact ⟨bY (by rw [g.out];rfl),m⟩
 ·rw [hno] at l g
  clear hno
  rw [<-f.out] at n
  go_enter Tryz.func46,Tryz.ntmps46
  go_wp2_with fail
  refine (l.out _ n.out).mono ?_;rintro e p ⟨rfl,o⟩
  have K:=zq o
  clear o
  go_wp2_with fail
  go_loopw [3] (fun i wr=>∃k:Nat,k<=L/\i=aa ab k/\Hid (TBoxT w wr t A cap)/\Hid (∀j (c:j<t.args.length),j<k->t.args[j].allOk=true)) (fun i _=>L-(intOf i).toNat)
  case atStart=>exact ⟨0,bc _,rfl,K,zq fun j _ c=>absurd c (by omega)⟩
  case round=>
   obtain ⟨k,hk,rfl,d,x⟩:=hrel
   have N:=d.out.c3
   rw [<-f.out] at N
   by_cases a4:k<L
   ·have u:k<t.args.length:=by have:=f.out;omega
    obtain ⟨b,a5,E,O,rfl,Y,U,V,W,X,C⟩:=(J.out.keep d.out.bel).get k u
    have z:=zq (H.out t.args[k] (bW u) E O wr (C.mono d.out.bel.size))
    have I:Hid (t.args[k].allOk=false->t.allOk=false):=zq fun h=>by
     rw [g.out,Bool.true_and,List.all_eq_false]
     exact ⟨_,bW u,by rw [h];simp⟩
    have M:Hid (t.args[k].allOk=true->∀j (c:j<t.args.length),j<k+1->t.args[j].allOk=true):=zq fun h j c Z=>by
     rcases dn j k with y | y
     ·exact x.out j c y
     ·have:j=k:=by omega
      subst this;exact h
    clear C
    generalize t.args[k].kind=a0 at *
    generalize t.args[k].num=R at *
    generalize t.args[k].name=S at *
    generalize t.args[k].args.length=T at *
    generalize t.args[k].allOk=q at *
    cases q
    ·go_wp2_with fail
     refine z.out.mono ?_;rintro e Q ⟨rfl,r⟩
     have m:=(d.out.call r).bel
     go_wp2_with fail
     go_ret
     exact ⟨bY (I.out (by first | rfl | trivial)).symm,m⟩
    ·go_wp2_with fail
     refine z.out.mono ?_;rintro e Q ⟨rfl,r⟩
     have F:=zq (d.out.call r)
     go_wp2_with fail
     go_roundw
     case rel=>exact ⟨k+1,by omega,by go_num,F,zq (M.out (by first | rfl | trivial))⟩
     case measure=>simp [intOf] <;> omega
   ·have G:Hid (t.allOk=true):=zq (by
     rw [g.out,Bool.true_and,List.all_eq_true]
     intro a P
     obtain ⟨j,c,rfl⟩:=List.getElem_of_mem P
     exact x.out j c (by have:=f.out;omega))
    have m:=d.out.bel
    go_wp2_with fail
    go_ret
    exact ⟨bY G.out.symm,m⟩
theorem mJ (t:Tm) (A:Option Addr) (cap:Nat) (w:au) (g:TmsAt w.heap.size w A t.args):aU am 20 #[fI t A cap] w fun e w'=>e=aD (av (dZ t))/\aB w.heap.size w w':=by
 have k:=zq (TBoxT.start w t A cap 30)
 have d:=zq (fun (b:au) (h:TBoxT w b t A cap)=>(yc t A cap b ((g.keep h.bel).mono h.bel.size)).mono fun _ _ c=>(⟨c.1,h.call c.2⟩:_/\TBoxT w _ t A cap))
 have m:=zq (fun (b:au) (h:TBoxT w b t A cap)=>(xa t A cap b ((g.keep h.bel).mono h.bel.size)).mono fun _ _ c=>(⟨c.1,h.call c.2⟩:_/\TBoxT w _ t A cap))
 unfold fI at *
 clear g
 by_cases l:t.nodes<=2000
 ·have f:Hid (dZ t=t.allOk):=zq (by unfold dZ;simp [l])
  have j:min t.nodes 2001=t.nodes:=by omega
  rw [j] at d
  have o:decide ((t.nodes:Int)<=2000)=true:=by simp;omega
  go_enter Tryz.func20,Tryz.ntmps20
  go_wp2_with fail
  refine (d.out _ k.out).mono ?_;rintro e b ⟨rfl,a⟩
  have p:=a.c0
  have q:=a.c1
  have r:=a.c2
  have s:=a.c3
  go_wp2_with fail
  refine (m.out _ a).mono ?_;rintro e u ⟨rfl,n⟩
  have i:=n.bel
  go_wp2_with fail
  go_ret
  exact ⟨bY f.out.symm,i⟩
 ·have f:Hid (dZ t=false):=zq (by unfold dZ;simp [l])
  have j:min t.nodes 2001=2001:=by omega
  rw [j] at d
  go_enter Tryz.func20,Tryz.ntmps20
  go_wp2_with fail
  refine (d.out _ k.out).mono ?_;rintro e b ⟨rfl,a⟩
  have i:=a.bel
  go_wp2_with fail
  go_ret
  exact ⟨bY f.out.symm,i⟩
end Go.Proofs.YtbojljpldcijgaaGreat
namespace Hb
open Go Go.RowKit
structure WalkH (w0 w:au) (t:Tm) (A:Option Addr) (cap gl M:Nat):Prop where
 only:Hb.Only gl w0 w
 lt:w0.heap.size<w.heap.size
 b3:w.cell? ⟨w0.heap.size,3,none⟩=some (.slice A t.args.length cap)
 cell:w.cell? ⟨gl,0,none⟩=some (aa ab M)
 fr:∀o,w.frozen? ⟨gl,o,none⟩=false
structure LeftN (w0 w:au) (gl:Nat) (M:Nat):Prop where
 only:Hb.Only gl w0 w
 cell:w.cell? ⟨gl,0,none⟩=some (aa ab M)
 fr:∀o,w.frozen? ⟨gl,o,none⟩=false
theorem WalkH.left {w0 w:au} {t:Tm} {A:Option Addr} {cap a M:Nat} (h:WalkH w0 w t A cap a M):LeftN w0 w a M:=⟨h.only,h.cell,h.fr⟩
theorem WalkH.call {w0 w w':au} {t:Tm} {A:Option Addr} {cap a M c:Nat} (h:WalkH w0 w t A cap a M) (d:a<w0.heap.size) (b:LeftN w w' a c):WalkH w0 w' t A cap a c where
 only:=h.only.trans b.only
 lt:=aA h.lt b.only.size
 b3:=(b.only.cell (p:=⟨w0.heap.size,3,none⟩) h.lt (by show w0.heap.size≠a;omega)).trans h.b3
 cell:=b.cell
 fr:=b.fr
theorem WalkH.start (w:au) (t:Tm) (A:Option Addr) (cap a M b:Nat) (e:cH) (f:b=t.args.length) (d:a<w.heap.size) {u:aC} (g:w.cell? ⟨a,0,none⟩=some u) (i:∀o,w.frozen? ⟨a,o,none⟩=false) :
  WalkH w ((w.setCell ⟨a,0,none⟩ (aa ab M)).alloc (.cells #[aa ab t.kind,aa ab t.num,ac t.name,.slice A b cap] e)) t A cap a M where
 only:=(Hb.Only.set a 0 w _).trans (Hb.Only.alloc a _ _)
 lt:=by simp
 b3:=by
  have h:=aF (w.setCell ⟨a,0,none⟩ (aa ab M)) #[aa ab t.kind,aa ab t.num,ac t.name,.slice A b cap] e 3
  have j:(w.setCell ⟨a,0,none⟩ (aa ab M)).heap.size=w.heap.size:=by simp
  rw [j] at h
  rw [h,f];rfl
 cell:=by
  have c:=(ap (w.setCell ⟨a,0,none⟩ (aa ab M)).heap.size (w.setCell ⟨a,0,none⟩ (aa ab M))).alloc (ae _) (.cells #[aa ab t.kind,aa ab t.num,ac t.name,.slice A b cap] e)
  rw [c.cell (p:=⟨a,0,none⟩) (by simpa using d)]
  exact eI _ _ _ g
 fr:=fun o=>by
  have c:=(ap (w.setCell ⟨a,0,none⟩ (aa ab M)).heap.size (w.setCell ⟨a,0,none⟩ (aa ab M))).alloc (ae _) (.cells #[aa ab t.kind,aa ab t.num,ac t.name,.slice A b cap] e)
  rw [c.frozen (p:=⟨a,o,none⟩) (by simpa using d),World.frozen?_setCell]
  exact i o
structure SizeH (w W:au) (F:aC):Prop where
 bel:aB w.heap.size w W
 lt1:w.heap.size+1<W.heap.size
 lt2:w.heap.size+1+1<W.heap.size
 left:LeftN W W (w.heap.size+1) 2001
 fn:W.cell? ⟨w.heap.size+1+1,0,none⟩=some F
theorem up (w:au) (o:Obj) (a d:cH) (F:aC):SizeH w (((w.alloc o).alloc (.cells #[aa ab 2001] a)).alloc (.cells #[F] d)) F where
 bel:=(((ap _ _).alloc (ae _) _).alloc (by simp) _).alloc (by simp;omega) _
 lt1:=by simp
 lt2:=by simp
 left:=by
  have b:=aF (w.alloc o) #[aa ab 2001] a 0
  have c:(w.alloc o).heap.size=w.heap.size+1:=by simp
  rw [c] at b
  have e:=(ap ((w.alloc o).alloc (.cells #[aa ab 2001] a)).heap.size ((w.alloc o).alloc (.cells #[aa ab 2001] a))).alloc (ae _) (.cells #[F] d)
  refine ⟨Hb.Only.refl _ _,(e.cell (p:=⟨w.heap.size+1,0,none⟩) (by simp)).trans b,fun k=>?_⟩
  rw [e.frozen (p:=⟨w.heap.size+1,k,none⟩) (by simp)]
  exact World.frozen?_alloc_at (w:=w.alloc o) #[aa ab 2001] a (w.heap.size+1) k c.symm
 fn:=by
  have b:=aF ((w.alloc o).alloc (.cells #[aa ab 2001] a)) #[F] d 0
  have c:((w.alloc o).alloc (.cells #[aa ab 2001] a)).heap.size=w.heap.size+1+1:=by simp
  rw [c] at b
  exact b
end Hb
namespace Go.Proofs.YtbojljpldcijgaaGreat
open Go.RowKit Hb
def sF (a b:Nat):aC:=.func (.func 98) #[] #[ar (some ⟨a,0,none⟩),ar (some ⟨b,0,none⟩)]
theorem wR:∀(t:Tm) (A:Option Addr) (cap B a c L:Nat) (w:au),TmsAt B w A t.args->B<=a->B<=c->a≠c->a<w.heap.size->c<w.heap.size->1<=L->L<=2001->LeftN w w a L->w.cell? ⟨c,0,none⟩=some (sF a c) ->
  aU am 98 #[fI t A cap,ar (some ⟨a,0,none⟩),ar (some ⟨c,0,none⟩)] w fun e w'=>e=aD (aJ #[])/\LeftN w w' a (L-t.nodes):=by
 refine Tm.ind fun t R=>?_
 intro A cap B a c L w y I a6 O K a9 h1 h2 x J
 have N:=y.len
 unfold bF at N
 have X:=zq y
 have D:=zq (sK t)
 have V:=zq R
 have j:=x.cell
 have r:=x.fr
 have a5:=r 0
 have b0:(L:Int)-1=((L-1:Nat):Int):=by omega
 obtain ⟨g,f⟩:=lz (t.args.length)
 clear y R
 unfold fI
 rw [<-f.out] at N |-
 have F:=zq (WalkH.start w t A cap a (L-1) g 30 f.out K j r)
 have U:=zq J
 go_enter Tryz.func98,Tryz.ntmps98
 go_wp2_with fail
 clear x J j r a5 b0
 go_loopw [4] (fun i wr=>∃k M:Nat,k<=g/\i=aa ab k/\M=L-(1+nP t.args k)/\Hid (WalkH w wr t A cap a M)) (fun i _=>g-(intOf i).toNat)
 case atStart=>exact ⟨0,L-1,bc _,rfl,by rw [qG],F⟩
 case round=>
  clear F
  obtain ⟨k,M,hk,rfl,n,d⟩:=hrel
  have G:=d.out.b3
  rw [<-f.out] at G
  have j:=d.out.cell
  by_cases b5:k<g
  ·by_cases b1:0<M
   ·have z:k<t.args.length:=by have:=f.out;omega
    have a7:aB B w wr:=d.out.only.below I (by omega)
    obtain ⟨b,b7,S,a4,rfl,hb,Y,Z,c2,c3,P⟩:=(X.out.keep a7).get k z
    have s:wr.cell? ⟨c,0,none⟩=some (sF a c):=(d.out.only.cell (p:=⟨c,0,none⟩) a9 (fun h=>O h.symm)).trans U.out
    have b6:=d.out.only.size
    have E:=zq (V.out t.args[k] (bW z) S a4 B a c M wr.drew (P.keep (ap B wr).drew) I a6 O (by show a<wr.heap.size;omega) (by show c<wr.heap.size;omega) b1 (by omega) ⟨Hb.Only.refl _ _,j,d.out.fr⟩ s)
    have Q:=nO t.args k z
    have W:Hid (M-t.args[k].nodes=L-(1+nP t.args (k+1))):=zq (by rw [Q];omega)
    unfold fI at E
    unfold sF at s
    clear P Q n
    have b2:(0:Int)<=(k:Int):=by omega
    have b4:(k:Int)<(g:Int):=by omega
    generalize t.args[k].kind=a0 at *
    generalize t.args[k].num=a1 at *
    generalize t.args[k].name=a2 at *
    generalize t.args[k].args.length=a3 at *
    generalize t.args[k].nodes=q at *
    go_wp2_with fail
    go_region_with (first | (go_at_call 98;(with_reducible refine E.out.mono ?_);rintro e w2 ⟨rfl,m⟩))
    all_goals
     have T:=zq (d.out.call K (⟨(Hb.Only.of (ap wr.heap.size wr).drew).trans m.only,m.cell,m.fr⟩:LeftN wr w2 a (M-q)))
     clear G j Y Z c2 c3 s m
     go_wp2_with fail
     go_roundw
     case rel=>exact ⟨k+1,M-q,by omega,by go_num,W.out,T⟩
     case measure=>simp [intOf] <;> omega
   ·have a8:M=0:=by omega
    subst a8
    have H:=vA t.args (t.args.length-k) k
    have u:=f.out
    rw [show k+(t.args.length-k)=t.args.length by omega] at H
    have l:L-t.nodes=0:=by rw [D.out];omega
    have o:=zq l
    have C:=d.out.left
    clear l H u n
    go_wp2_with fail
    refine bodyPost_end (v:=aJ #[]) (by simp [results,Tryz.results98,go_sem]) rfl ⟨rfl,by rw [o.out];exact C⟩
  ·have l:M=L-t.nodes:=by
    have u:=f.out
    rw [D.out,<-u,n,show k=g by omega]
   have o:=zq l
   have C:=d.out.left
   clear l n
   go_wp2_with fail
   refine bodyPost_end (v:=aJ #[]) (by simp [results,Tryz.results98,go_sem]) rfl ⟨rfl,by rw [<-o.out];exact C⟩
theorem wT (t:Tm) (A:Option Addr) (cap:Nat) (w:au) (g:TmsAt w.heap.size w A t.args):aU am 58 #[fI t A cap] w fun e w'=>e=aD (aa ab (min t.nodes 2001:Nat))/\aB w.heap.size w w':=by
 have a:=zq (fun (o:Obj)=>up w o 3 140 (sF (w.heap.size+1) (w.heap.size+1+1)))
 have j:=zq (fun (o:Obj)=>wR t A cap w.heap.size (w.heap.size+1) (w.heap.size+1+1) 2001 _ (g.keep (a.out o).bel) (by omega) (by omega) (by omega) (a.out o).lt1 (a.out o).lt2 (by decide) (by decide) (a.out o).left (a.out o).fn)
 clear g
 have h:(2001:Int)-((2001-t.nodes:Nat):Int)=((min t.nodes 2001:Nat):Int):=by omega
 have i:=zq h
 clear h
 unfold fI sF at *
 generalize t.kind=a0 at *
 generalize t.num=b at *
 generalize t.name=c at *
 generalize t.args.length=d at *
 go_enter Tryz.func58,Tryz.ntmps58
 go_wp2_with fail
 refine (j.out _).mono ?_;rintro e p ⟨rfl,f⟩
 have l:=f.cell
 have k:=(a.out (.cells #[aa ab a0,aa ab b,ac c,.slice A d cap] 30)).bel.trans (f.only.below (by omega) (a.out (.cells #[aa ab a0,aa ab b,ac c,.slice A d cap] 30)).bel.size)
 have m:(0:Int)<=((2001-t.nodes:Nat):Int):=by omega
 have n:((2001-t.nodes:Nat):Int)<=2001:=by omega
 go_wp2_with fail
 go_ret
 exact ⟨dl (by rw [<-i.out]),k⟩
end Go.Proofs.YtbojljpldcijgaaGreat
namespace Hb
open Go Go.RowKit
def qs (t:Tm) (k:Nat):Bool:=iL t&&(t.args.take k).all Tm.allOk
theorem xh (t:Tm):qs t 0=iL t:=by unfold qs;simp
theorem xi (t:Tm) (k:Nat) (h:k<t.args.length):qs t (k+1)=(qs t k&&t.args[k].allOk):=by
 unfold qs;rw [bl h,List.all_append,Bool.and_assoc];simp
theorem yC (t:Tm) (k:Nat) (h:t.args.length<=k):qs t k=t.allOk:=by
 rw [Tm.allOk_eq];unfold qs;rw [cC h]
theorem Ak (t:Tm) (k:Nat) (h:qs t k=false):t.allOk=false:=by
 rw [Tm.allOk_eq]
 unfold qs at h
 cases h1:iL t
 ·rfl
 ·rw [h1,Bool.true_and] at h
  rw [Bool.true_and,List.all_eq_false] at *
  obtain ⟨x,a,b⟩:=h
  exact ⟨x,List.mem_of_mem_take a,b⟩
end Hb
namespace Go.Proofs.YtbojljpldcijgaaGreat
open Go.RowKit Hb
theorem za:∀(t:Tm) (A:Option Addr) (cap:Nat) (w:au),TmsAt w.heap.size w A t.args ->
  aU am 59 #[fI t A cap] w fun e w'=>e=aD (av t.allOk)/\aB w.heap.size w w':=by
 refine Tm.ind fun t s=>?_
 intro A cap w j
 have n:=zq (TBoxT.start w t A cap 30)
 have y:=zq j
 have o:=j.len
 unfold bF at o
 have x:=zq s
 have v:=zq (xh t)
 clear j s
 obtain ⟨L,c⟩:=lz (t.args.length)
 unfold fI at *
 rw [<-c.out] at o |- n
 go_enter Tryz.func59,Tryz.ntmps59
 go_upto_block 0 with fail
 go_cut [0,3] from 4 (fun p q wc=>p=.agg #[aa ab t.kind,aa ab t.num,ac t.name,.slice A L cap]/\q=av (iL t)/\wc=w.alloc (.cells #[aa ab t.kind,aa ab t.num,ac t.name,.slice A L cap] 30))
 case first=>
  go_wp2_with fail
  all_goals
   go_meet
   case rel=>
    refine ⟨?_,?_,?_⟩
    ·first | rfl | simp only [*]
    ·unfold iL
     rw [<-c.out]
     congr 1
     grind
    ·first | rfl | simp only [*]
 case rest=>
  obtain ⟨rfl,rfl,rfl⟩:=hcut
  go_wp2_with fail
  go_loopw [3,4] (fun b i wr=>∃k:Nat,∃q:Bool,k<=L/\b=av q/\i=aa ab k/\Hid (TBoxT w wr t A cap)/\Hid (q=qs t k)) (fun b i _=>L-(intOf i).toNat)
  case atStart=>exact ⟨0,_,bc _,rfl,rfl,n,zq v.out.symm⟩
  case round=>
   obtain ⟨k,q,O,rfl,rfl,a,h⟩:=hrel
   have z:=a.out.c3
   rw [<-c.out] at z
   cases q
   ·have d:=zq (Ak t k h.out.symm)
    have l:=a.out.bel
    by_cases E:k<L
    all_goals
     go_wp2_with fail
     go_ret
     exact ⟨bY d.out.symm,l⟩
   ·by_cases E:k<L
    ·have m:k<t.args.length:=by have:=c.out;omega
     obtain ⟨b,P,u,B,rfl,N,I,J,K,M,r⟩:=(y.out.keep a.out.bel).get k m
     have D:=zq (x.out t.args[k] (bW m) u B wr (r.mono a.out.bel.size))
     have f:=zq (xi t k m)
     rw [<-h.out,Bool.true_and] at f
     clear r
     generalize t.args[k].kind=a0 at *
     generalize t.args[k].num=F at *
     generalize t.args[k].name=G at *
     generalize t.args[k].args.length=H at *
     generalize t.args[k].allOk=q at *
     go_wp2_with fail
     refine D.out.mono ?_;rintro e Q ⟨rfl,C⟩
     have g:=zq (a.out.call C)
     go_wp2_with fail
     go_roundw
     case rel=>first | exact ⟨k+1,by omega,q,rfl,by go_num,g,zq f.out.symm⟩ | exact ⟨k+1,q,by omega,rfl,by go_num,g,zq f.out.symm⟩ | exact ⟨k+1,by omega,by go_num,g,zq f.out.symm⟩ 
     case measure=>simp [intOf] <;> omega
    ·have d:=zq (yC t k (by have:=c.out;omega))
     rw [<-h.out] at d
     have l:=a.out.bel
     go_wp2_with fail
     go_ret
     exact ⟨bY d.out,l⟩
theorem vy (t:Tm) (A:Option Addr) (cap:Nat) (w:au) (g:TmsAt w.heap.size w A t.args):aU am 34 #[fI t A cap] w fun e w'=>e=aD (av (dZ t))/\aB w.heap.size w w':=by
 have k:=zq (TBoxT.start w t A cap 30)
 have d:=zq (fun (b:au) (h:TBoxT w b t A cap)=>(wT t A cap b ((g.keep h.bel).mono h.bel.size)).mono fun _ _ c=>(⟨c.1,h.call c.2⟩:_/\TBoxT w _ t A cap))
 have m:=zq (fun (b:au) (h:TBoxT w b t A cap)=>(za t A cap b ((g.keep h.bel).mono h.bel.size)).mono fun _ _ c=>(⟨c.1,h.call c.2⟩:_/\TBoxT w _ t A cap))
 unfold fI at *
 clear g
 by_cases l:t.nodes<=2000
 ·have f:Hid (dZ t=t.allOk):=zq (by unfold dZ;simp [l])
  have j:min t.nodes 2001=t.nodes:=by omega
  rw [j] at d
  have o:decide ((t.nodes:Int)<=2000)=true:=by simp;omega
  go_enter Tryz.func34,Tryz.ntmps34
  go_wp2_with fail
  refine (d.out _ k.out).mono ?_;rintro e b ⟨rfl,a⟩
  have p:=a.c0
  have q:=a.c1
  have r:=a.c2
  have s:=a.c3
  go_wp2_with fail
  refine (m.out _ a).mono ?_;rintro e u ⟨rfl,n⟩
  have i:=n.bel
  go_wp2_with fail
  go_ret
  exact ⟨bY f.out.symm,i⟩
 ·have f:Hid (dZ t=false):=zq (by unfold dZ;simp [l])
  have j:min t.nodes 2001=2001:=by omega
  rw [j] at d
  go_enter Tryz.func34,Tryz.ntmps34
  go_wp2_with fail
  refine (d.out _ k.out).mono ?_;rintro e b ⟨rfl,a⟩
  have i:=a.bel
  go_wp2_with fail
  go_ret
  exact ⟨bY f.out.symm,i⟩
end Go.Proofs.YtbojljpldcijgaaGreat
namespace Hb
theorem vw (s:ByteArray):∀(d i:Nat) (r:List UInt8),s.size-i=d->fe s i r=r.reverse++s.data.toList.drop i
 | 0,i,r,h=>by
  unfold fe
  rw [if_neg (by omega),List.drop_of_length_le (by simp;omega)];simp
 | d+1,i,r,h=>by
  have a:i<s.size:=by omega
  have b:i<s.data.toList.length:=by simpa using a
  unfold fe
  rw [if_pos a,vw s d (i+1) _ (by omega),List.drop_eq_getElem_cons b]
  simp [ByteArray.get!,a]
  first | rfl | (have:s.data[i]! = s.data[i]:=getElem!_pos s.data i a;simp [this]) | skip
theorem vx (s:ByteArray):s.toList=s.data.toList:=by
 unfold ByteArray.toList
 rw [vw s _ 0 [] rfl];simp
end Hb
namespace Hb
open Go Go.RowKit
def sC:Tm:=.mk 0 0 ⟨#[]⟩ []
def s1 (c:UInt8):ByteArray:=⟨#[c]⟩
def has (T:List OpR) (s:ByteArray) (c:Int):Bool:=(dK T s c).isSome
def hd (l:List ByteArray):ByteArray:=l.headD ⟨#[]⟩
theorem eO (b a j:Nat):(⟨b,a,none⟩:Addr).add j=⟨b,a+j,none⟩:=by unfold Addr.add;split <;> simp_all
abbrev TR:=Tm×Option Addr×Nat
def fL (r:TR):List aC:=[aa ab r.1.kind,aa ab r.1.num,ac r.1.name,.slice r.2.1 r.1.args.length r.2.2]
def dM (rs:List TR):List aC:=rs.flatMap fL
theorem nR (a b:List TR):dM (a++b)=dM a++dM b:=by unfold dM;rw [List.flatMap_append]
theorem kM:∀(rs:List TR) (i:Nat) (h:i<rs.length),(dM rs)[i * 4]? = some (aa ab rs[i].1.kind)/\(dM rs)[i * 4+1]? = some (aa ab rs[i].1.num)/\(dM rs)[i * 4+2]? = some (ac rs[i].1.name)/\(dM rs)[i * 4+3]? = some (.slice rs[i].2.1 rs[i].1.args.length rs[i].2.2)
 | p::l,0,_=>⟨rfl,rfl,rfl,rfl⟩
 | p::l,i+1,h=>by
  have:=kM l i (by simpa using h)
  have e:dM (p::l)=aa ab p.1.kind::aa ab p.1.num::ac p.1.name::.slice p.2.1 p.1.args.length p.2.2::dM l:=rfl
  rw [e,show (i+1) * 4=i * 4+4 by omega]
  exact ⟨by simpa using this.1,by simpa using this.2.1,by simpa using this.2.2.1,by simpa using this.2.2.2⟩
theorem ya (r:TR):∀u∈fL r,u.oneCell'=true:=by
 intro u a
 simp [fL] at a
 rcases a with rfl|rfl|rfl|rfl <;> rfl
structure OwnR (lo:Nat) (e:cH) (w:au) (v:aC) (rs:List TR):Prop where
 own:w.ownsRow lo e 4 v rs.length (dM rs)
 sub:∀r∈rs,TmsK (fun b=>lo<=b/\b<w.heap.size/\v.ownBlock≠some b) w r.2.1 r.1.args
theorem OwnR.nul (b:Nat) (e:cH) (w:au):OwnR b e w (.slice none 0 0) []:=⟨World.ownsRow_nil _ _ _ _,fun r a=>absurd a (by simp)⟩
theorem OwnR.keep {c:Nat} {e:cH} {w w':au} {v:aC} {rs:List TR} (h:OwnR c e w v rs) (m:w.heap.size<=w'.heap.size) (d:∀b,c<=b->b<w.heap.size->w'.heap[b]? = w.heap[b]?):OwnR c e w' v rs where
 own:=by
  refine ⟨h.own.1,?_⟩
  rcases h.own.2 with k | ⟨g,cap,j,n,f,i,o⟩
  ·exact .inl k
  ·exact .inr ⟨g,cap,j,n,f,by rw [d g f (aS.1 i).1];exact i,o⟩
 sub:=fun r l=>(h.sub r l).keep (fun b a=>d b a.1 a.2.1) (fun b a=>⟨a.1,aA a.2.1 m,a.2.2⟩)
theorem OwnR.below {c:Nat} {e:cH} {w w':au} {v:aC} {rs:List TR} (h:OwnR c e w v rs) (a:aB w.heap.size w w'):OwnR c e w' v rs:=h.keep a.size fun b _ d=>a.block b d
theorem OwnR.snoc {d:Nat} {e:cH} {W g:au} {v f:aC} {rs:List TR} (h:OwnR d e W v rs) (r:TR) (q:TmsK (fun b=>d<=b/\b<W.heap.size/\v.ownBlock≠some b) W r.2.1 r.1.args)
  (p:g.ownsRow d e 4 f (rs.length+1) (dM rs++fL r)) (j:W.grownBy g v.ownBlock) (n:f.ownBlock=v.ownBlock\/f.ownBlock=some W.heap.size):OwnR d e g f (rs++[r]) where
 own:=by
  rw [nR,bC]
  have m:dM [r]=fL r:=by unfold dM;simp
  rw [m];exact p
 sub:=by
  have k:∀{A:Option Addr} {l:List Tm},TmsK (fun b=>d<=b/\b<W.heap.size/\v.ownBlock≠some b) W A l->TmsK (fun b=>d<=b/\b<g.heap.size/\f.ownBlock≠some b) g A l:=fun o=>by
   refine o.keep (fun b a=>j.block b a.2.1 (fun e=>a.2.2 e.symm)) (fun b a=>⟨a.1,aA a.2.1 j.size,fun e=>?_⟩)
   rcases n with i | i
   ·rw [i] at e;exact a.2.2 e
   ·rw [i] at e;injection e with e;have:=a.2.1;omega
  intro x c
  rcases List.mem_append.1 c with c | c
  ·exact k (h.sub x c)
  ·rw [List.mem_singleton] at c;subst c;exact k q
theorem OwnR.tms {i:Nat} {e:cH} {w:au} {v:aC} {rs:List TR} (h:OwnR i e w v rs):∃A cap,v=.slice A rs.length cap/\TmsK (fun b=>i<=b/\b<w.heap.size) w A (rs.map (·.1)):=by
 have p:∀j (a:j<rs.length),TmsK (fun b=>i<=b/\b<w.heap.size) w rs[j].2.1 rs[j].1.args:=fun j a=>(h.sub _ (bW a)).keep (fun _ _=>rfl) (fun b l=>⟨l.1,l.2.1⟩)
 rcases h.own.2 with ⟨d,m⟩ | ⟨g,cap,y,d,n,o,B,z,C⟩
 ·have:rs=[]:=List.eq_nil_of_length_eq_zero m
  subst this
  exact ⟨_,_,d,TmsK.nil⟩
 ·refine ⟨some ⟨g,0,none⟩,cap,d,.mk _ _ (fun j=>(rs.getD j (sC,none,0)).2.1) (fun j=>(rs.getD j (sC,none,0)).2.2) (by rw [bZ];omega) (fun j a=>?_) (fun j a=>?_)⟩
  ·rw [bZ] at a
   obtain ⟨r,s,t,x⟩:=kM rs j a
   have c:∀k u,(dM rs)[k]? = some u->w.cell? ⟨g,0+k,none⟩=some u:=fun k u q=>by
    have:=h.own.cells (g:=g) (by rw [d];rfl) k u q
    rw [eO] at this
    exact this
   have f:rs.getD j (sC,none,0)=rs[j]:=by rw [bt,bi a];rfl
   refine ⟨g,0,rfl,⟨n,(aS.1 o).1⟩,?_,?_,?_,?_⟩
   ·rw [bT];exact c _ _ r
   ·rw [bT];exact c _ _ s
   ·rw [bT];exact c _ _ t
   ·rw [bT];simp only [f];exact c _ _ x
  ·rw [bZ] at a
   have f:rs.getD j (sC,none,0)=rs[j]:=by rw [bt,bi a];rfl
   rw [bT];simp only [f]
   exact p j a
structure CpH (w0 w:au) (e:cH) (t:Tm) (A:Option Addr) (cap:Nat) (v:aC) (rs:List TR):Prop where
 bel:aB w0.heap.size w0 w
 lt:w0.heap.size+3<=w.heap.size
 b3:w.cell? ⟨w0.heap.size,3,none⟩=some (.slice A t.args.length cap)
 r0:∃u,w.cell? ⟨w0.heap.size+1,0,none⟩=some u
 r1:∃u,w.cell? ⟨w0.heap.size+1,1,none⟩=some u
 r2:∃u,w.cell? ⟨w0.heap.size+1,2,none⟩=some u
 r3:∃u,w.cell? ⟨w0.heap.size+1,3,none⟩=some u
 rf:∀o,w.frozen? ⟨w0.heap.size+1,o,none⟩=false
 c0:w.cell? ⟨w0.heap.size+2,0,none⟩=some (aa ab t.kind)
 c1:w.cell? ⟨w0.heap.size+2,1,none⟩=some (aa ab t.num)
 c2:w.cell? ⟨w0.heap.size+2,2,none⟩=some (ac t.name)
 c3:w.cell? ⟨w0.heap.size+2,3,none⟩=some v
 cf:∀o,w.frozen? ⟨w0.heap.size+2,o,none⟩=false
 own:OwnR (w0.heap.size+3) e w v rs
section
variable {w0 w w':au} {e:cH} {t:Tm} {A:Option Addr} {cap:Nat} {v:aC} {rs:List TR}
theorem CpH.call (h:CpH w0 w e t A cap v rs) (c:aB w.heap.size w w'):CpH w0 w' e t A cap v rs:=by
 have g:=h.lt
 have a:∀b o,b<w0.heap.size+3->w'.cell? ⟨b,o,none⟩=w.cell? ⟨b,o,none⟩:=fun b o f=>c.cell (p:=⟨b,o,none⟩) (by show b<_;omega)
 have d:∀b o,b<w0.heap.size+3->w'.frozen? ⟨b,o,none⟩=w.frozen? ⟨b,o,none⟩:=fun b o f=>c.frozen (p:=⟨b,o,none⟩) (by show b<_;omega)
 exact ⟨h.bel.trans (c.mono (by omega)),aQ g c.size,(a _ _ (by omega)).trans h.b3,h.r0.imp fun _ k=>(a _ _ (by omega)).trans k,h.r1.imp fun _ k=>(a _ _ (by omega)).trans k,h.r2.imp fun _ k=>(a _ _ (by omega)).trans k,h.r3.imp fun _ k=>(a _ _ (by omega)).trans k,
  fun o=>(d _ _ (by omega)).trans (h.rf o),(a _ _ (by omega)).trans h.c0,(a _ _ (by omega)).trans h.c1,(a _ _ (by omega)).trans h.c2,(a _ _ (by omega)).trans h.c3,fun o=>(d _ _ (by omega)).trans (h.cf o),h.own.below c⟩
theorem CpH.drew (h:CpH w0 w e t A cap v rs):CpH w0 w.drew e t A cap v rs:=h.call (ap w.heap.size w).drew
theorem CpH.far (h:CpH w0 w e t A cap v rs) (a:w.grownBy w' v.ownBlock) (b o:Nat) (d:b<w0.heap.size+3):w'.cell? ⟨b,o,none⟩=w.cell? ⟨b,o,none⟩/\w'.frozen? ⟨b,o,none⟩=w.frozen? ⟨b,o,none⟩:=by
 have f:=h.lt
 have c:some b≠v.ownBlock:=fun e=>by have:=(h.own.own.lt b e.symm).1;omega
 exact ⟨a.cell_far ⟨b,o,none⟩ (by show b<_;omega) c,a.frozen_far ⟨b,o,none⟩ (by show b<_;omega) c⟩
theorem CpH.app (h:CpH w0 w e t A cap v rs) (r:TR) (s:TmsK (fun b=>w0.heap.size+3<=b/\b<w.heap.size/\v.ownBlock≠some b) w r.2.1 r.1.args) {c:aC} {w2:au}
  (q:w2.ownsRow (w0.heap.size+3) e 4 c (rs.length+1) (dM rs++fL r)) (d:w.grownBy w2 v.ownBlock) (l:c.ownBlock=v.ownBlock\/c.ownBlock=some w.heap.size):CpH w0 (w2.setCell ⟨w0.heap.size+2,3,none⟩ c) e t A cap c (rs++[r]):=by
 have u:=h.lt
 have j:=h.own.snoc r s q d l
 have m:aB w0.heap.size w0 w2:=h.bel.grown d (by omega) (fun k n=>by have:=(h.own.own.lt k n).1;omega)
 have a:∀b o,b<w0.heap.size+3->(b≠w0.heap.size+2\/o≠3)->(w2.setCell ⟨w0.heap.size+2,3,none⟩ c).cell? ⟨b,o,none⟩=w.cell? ⟨b,o,none⟩:=fun b o f g=>by
  rw [World.cell?_setCell_other _ _ _ _ (by intro e;injection e with e1 e2 _;rcases g with g | g <;> omega)]
  exact (h.far d b o f).1
 have i:∀b o,b<w0.heap.size+3->(w2.setCell ⟨w0.heap.size+2,3,none⟩ c).frozen? ⟨b,o,none⟩=w.frozen? ⟨b,o,none⟩:=fun b o f=>by
  rw [World.frozen?_setCell];exact (h.far d b o f).2
 refine ⟨m.setCell (p:=⟨_,_,none⟩) (by show w0.heap.size<=w0.heap.size+2;omega) _,by have:=d.size;simp;omega,(a _ _ (by omega) (.inl (by omega))).trans h.b3,h.r0.imp fun _ k=>(a _ _ (by omega) (.inl (by omega))).trans k,h.r1.imp fun _ k=>(a _ _ (by omega) (.inl (by omega))).trans k,h.r2.imp fun _ k=>(a _ _ (by omega) (.inl (by omega))).trans k,h.r3.imp fun _ k=>(a _ _ (by omega) (.inl (by omega))).trans k,
  fun o=>(i _ _ (by omega)).trans (h.rf o),(a _ _ (by omega) (.inr (by omega))).trans h.c0,(a _ _ (by omega) (.inr (by omega))).trans h.c1,(a _ _ (by omega) (.inr (by omega))).trans h.c2,eI _ _ _ ((h.far d _ _ (by omega)).1.trans h.c3),fun o=>(i _ _ (by omega)).trans (h.cf o),j.keep (by simp) fun b f _=>aW w2 ⟨w0.heap.size+2,3,none⟩ b c (fun e=>by simp at e;omega)⟩
end
theorem CpH.start (w:au) (t:Tm) (A:Option Addr) (cap g:Nat) (e:cH) (m:g=t.args.length) :
  CpH w ((((w.alloc (.cells #[aa ab t.kind,aa ab t.num,ac t.name,.slice A g cap] e)).alloc (.cells #[aa ab 0,aa ab 0,ac ⟨#[]⟩,.slice none 0 0] e)).alloc (.cells #[aa ab t.kind,aa ab t.num,ac t.name,.slice none 0 0] e))) e t A cap (.slice none 0 0) []:=by
 obtain ⟨W1,d⟩:∃W1,W1=w.alloc (.cells #[aa ab t.kind,aa ab t.num,ac t.name,.slice A g cap] e):=⟨_,rfl⟩
 obtain ⟨W2,a⟩:∃W2,W2=W1.alloc (.cells #[aa ab 0,aa ab 0,ac ⟨#[]⟩,.slice none 0 0] e):=⟨_,rfl⟩
 rw [<-d,<-a]
 have s1:W1.heap.size=w.heap.size+1:=by rw [d];simp
 have i:W2.heap.size=w.heap.size+2:=by rw [a];simp;omega
 have h:aB W1.heap.size W1 W2:=by rw [a];exact (ap _ _).alloc (ae _) _
 have b:aB W2.heap.size W2 (W2.alloc (.cells #[aa ab t.kind,aa ab t.num,ac t.name,.slice none 0 0] e)):=(ap _ _).alloc (ae _) _
 have l:aB w.heap.size w W1:=by rw [d];exact (ap _ _).alloc (ae _) _
 have k:W1.cell? ⟨w.heap.size,3,none⟩=some (.slice A t.args.length cap):=by rw [d,<-m];exact aF _ _ _ 3
 have r:∀j u,(#[aa ab 0,aa ab 0,ac ⟨#[]⟩,.slice none 0 0]:Array aC)[j]? = some u->W2.cell? ⟨w.heap.size+1,j,none⟩=some u:=fun j u n=>by
  have:=aF W1 #[aa ab 0,aa ab 0,ac ⟨#[]⟩,.slice none 0 0] e j
  rw [s1,<-a] at this;rw [this];exact n
 have q:∀o,W2.frozen? ⟨w.heap.size+1,o,none⟩=false:=fun o=>by
  have:=World.frozen?_alloc_at (w:=W1) #[aa ab 0,aa ab 0,ac ⟨#[]⟩,.slice none 0 0] e (w.heap.size+1) o s1.symm
  rw [<-a] at this;exact this
 have c:∀j,(W2.alloc (.cells #[aa ab t.kind,aa ab t.num,ac t.name,.slice none 0 0] e)).cell? ⟨w.heap.size+2,j,none⟩=(#[aa ab t.kind,aa ab t.num,ac t.name,.slice none 0 0]:Array aC)[j]?:=fun j=>by
  have:=aF W2 #[aa ab t.kind,aa ab t.num,ac t.name,.slice none 0 0] e j
  rw [i] at this;exact this
 have f:∀o,(W2.alloc (.cells #[aa ab t.kind,aa ab t.num,ac t.name,.slice none 0 0] e)).cell? ⟨w.heap.size+1,o,none⟩=W2.cell? ⟨w.heap.size+1,o,none⟩:=fun o=>b.cell (p:=⟨w.heap.size+1,o,none⟩) (show w.heap.size+1<W2.heap.size by omega)
 refine ⟨(l.trans (h.mono (by omega))).trans (b.mono (by omega)),by simp;omega,?_,⟨_,(f 0).trans (r 0 _ rfl)⟩,⟨_,(f 1).trans (r 1 _ rfl)⟩,⟨_,(f 2).trans (r 2 _ rfl)⟩,⟨_,(f 3).trans (r 3 _ rfl)⟩,fun o=>?_,c 0,c 1,c 2,c 3,fun o=>?_,OwnR.nul _ _ _⟩
 ·rw [b.cell (p:=⟨w.heap.size,3,none⟩) (show w.heap.size<W2.heap.size by omega),h.cell (p:=⟨w.heap.size,3,none⟩) (show w.heap.size<W1.heap.size by omega)];exact k
 ·rw [b.frozen (p:=⟨w.heap.size+1,o,none⟩) (show w.heap.size+1<W2.heap.size by omega)];exact q o
 ·exact World.frozen?_alloc_at (w:=W2) _ _ (w.heap.size+2) o i.symm
theorem CpH.put {w0 w:au} {e:cH} {t:Tm} {A:Option Addr} {cap:Nat} {v:aC} {rs:List TR} (h:CpH w0 w e t A cap v rs) (d f g i:aC) :
  aB w0.heap.size w0 ((((w.setCell ⟨w0.heap.size+1,0,none⟩ d).setCell ⟨w0.heap.size+1,1,none⟩ f).setCell ⟨w0.heap.size+1,2,none⟩ g).setCell ⟨w0.heap.size+1,3,none⟩ i) /\
  OwnR (w0.heap.size+3) e ((((w.setCell ⟨w0.heap.size+1,0,none⟩ d).setCell ⟨w0.heap.size+1,1,none⟩ f).setCell ⟨w0.heap.size+1,2,none⟩ g).setCell ⟨w0.heap.size+1,3,none⟩ i) v rs:=by
 have a:w0.heap.size<=w0.heap.size+1:=by omega
 refine ⟨((((h.bel.setCell (p:=⟨_,_,none⟩) a _).setCell (p:=⟨_,_,none⟩) a _).setCell (p:=⟨_,_,none⟩) a _).setCell (p:=⟨_,_,none⟩) a _),h.own.keep (by simp) fun b j _=>?_⟩
 have c:∀o,b≠(⟨w0.heap.size+1,o,none⟩:Addr).block:=fun o e=>by simp at e;omega
 rw [aW _ _ _ _ (c _),aW _ _ _ _ (c _),aW _ _ _ _ (c _),aW _ _ _ _ (c _)]
def AF (w w':au) (A:Option Addr) (l:List Tm):Prop:=TmsK (fun b=>w.heap.size<=b/\b<w'.heap.size) w' A l
end Hb
namespace Go.Proofs.YtbojljpldcijgaaGreat
open Go.RowKit Hb
theorem Bu:(Tryz.prog.info? 30).map (fun i=>(i.zero,i.size,i.bytes))=some (some (.agg #[aa ab 0,aa ab 0,ac ⟨#[]⟩,.slice none 0 0]),4,56):=by kernel_rfl
end Go.Proofs.YtbojljpldcijgaaGreat
