/- Parts of the proof. -/
import Derived.Test.YtbojljpldcijgaaGreatR01
import Derived.Test.YtbojljpldcijgaaGreatR22
import Derived.Test.YtbojljpldcijgaaGreatR12
import Derived.Test.YtbojljpldcijgaaGreatR25
import Derived.Test.YtbojljpldcijgaaGreatR05
import Derived.Test.YtbojljpldcijgaaGreatR33
import Derived.Test.YtbojljpldcijgaaGreatR02
import Derived.Test.YtbojljpldcijgaaGreatR35
import Derived.Test.YtbojljpldcijgaaGreatR23
import Derived.Laws.Rows
import Derived.Test.YtbojljpldcijgaaGreatR03
import Derived.Test.YtbojljpldcijgaaGreatR06
set_option maxHeartbeats 12800000
set_option maxRecDepth 100000
open Go renaming Calls -> aU, World -> au, bodyPost_ret -> aw, wpList -> cq
open Go.Ending renaming returned -> aD
open Go.IntKind renaming i64 -> ab
open Go.Proofs.Tryz renaming prog -> am, underlying168 -> aZ, underlying5 -> bA, underlying9 -> bo
open Go.RowKit renaming Below -> aB
open Go.RowKit.Below renaming refl -> ap
open Go.Value renaming bool -> av, int -> aa, pointer -> ar, string -> ac, tuple -> aJ
open Go.World renaming ownsRow_nil -> eF
open List renaming drop_drop -> cV, length_drop -> aN
open Nat renaming add_zero -> bj, le_refl -> ae, le_trans -> aQ, lt_of_lt_of_le -> aA
open UInt8 renaming ofNat -> fJ
namespace Go.Proofs.YtbojljpldcijgaaGreat
open Go.RowKit Hb
theorem ym (f:FlR) (w:au):aU am 61 #[.agg #[aa ab f.q,aa ab f.u,av f.c,av f.d]] w fun e w'=>e=aD (av (pS f))/\aB w.heap.size w w':=by
 have h:=(ap w.heap.size w).alloc (ae _) (.cells #[aa ab f.q,aa ab f.u,av f.c,av f.d] 24)
 have g:Hid (pS f=(decide (1<=f.q)&&(decide (f.q<=3)&&(f.u==1||f.u==2)))):=zq rfl
 generalize pS f=r at *
 generalize f.q=q at *
 generalize f.u=u at *
 generalize f.c=c at *
 generalize f.d=d at *
 have a:q<1\/3<q\/(1<=q/\q<=3):=by omega
 have b:u<1\/2<u\/(1<=u/\u<=2):=by omega
 rcases a with a | a | ⟨a,i⟩ <;> rcases b with b | b | ⟨b,j⟩
 all_goals
  go_enter Tryz.func61,Tryz.ntmps61
  go_wp2_with fail
  go_ret
  refine ⟨bY ?_,h⟩
  rw [g.out,Bool.eq_iff_iff]
  simp
  omega
theorem uv (A:Option Addr) (n a:Nat) (l:List OpR) (w:au) (b:n=l.length) (c:OpsAt w A l) :
  aU am 60 #[.slice A n a] w fun e w'=>e=aD (av (ea l))/\aB w.heap.size w w':=by
 by_cases f:100<n
 ·have g:decide ((100:Int)<n)=true:=by simp;omega
  have d:=zq (jr l (by omega))
  clear b c f
  go_enter Tryz.func60,Tryz.ntmps60
  go_wp2_with fail
  go_ret
  exact ⟨bY d.out.symm,ap _ _⟩
 ·exact qL A n a l w b (by omega) c
theorem pA (f:Option Addr) (on g:Nat) (q u:Int) (c d:Bool) (b:Option Addr) (a h:Nat) (l:List OpR) (n:List (Int×Int)) (w:au) (F:Tab w f on g l) (G:a=n.length) (H:a<=maxLen) (E:Pairs w b n) :
  aU am 36 #[.agg #[.slice f on g,aa ab q,aa ab u,av c,av d,.slice b a h]] w fun e w'=>e=aD (av (ea l&&(pS ⟨q,u,c,d⟩&&gq n)))/\aB w.heap.size w w':=by
 have C:=zq F
 have Q:=zq G
 have R:=zq H
 have P:=zq E
 have o:Hid (aB w.heap.size w (w.alloc (.cells #[.slice f on g,aa ab q,aa ab u,av c,av d,.slice b a h] 27))):=zq ((ap _ _).alloc (ae _) _)
 have B:Hid (Bk (w.alloc (.cells #[.slice f on g,aa ab q,aa ab u,av c,av d,.slice b a h] 27)) w.heap.size [.slice f on g,aa ab q,aa ab u,av c,av d,.slice b a h]):=zq (Bk.new w [.slice f on g,aa ab q,aa ab u,av c,av d,.slice b a h] 27)
 have x:=zq (fun W=>ym ⟨q,u,c,d⟩ W)
 obtain ⟨D,p⟩:=lz (ea l)
 obtain ⟨U,s⟩:=lz (pS ⟨q,u,c,d⟩)
 obtain ⟨V,v⟩:=lz (gq n)
 rw [<-p.out,<-s.out,<-v.out]
 rw [<-s.out] at x
 dsimp only at x
 have T:Hid (∀W,aB w.heap.size w W->aU am 60 #[.slice f on g] W fun e w'=>e=aD (av D)/\aB W.heap.size W w'):=zq fun W A=>by
  have:=uv f on g l W C.out.len (C.out.ops.below A)
  rwa [<-p.out] at this
 have S:Hid (∀W,aB w.heap.size w W->aU am 62 #[.slice b a h] W fun e w'=>e=aD (av V)/\aB W.heap.size W w'):=zq fun W A=>by
  have:=pt b a h n W Q.out R.out (P.out.below A)
  rwa [<-v.out] at this
 clear F G H E p s v
 go_enter Tryz.func36,Tryz.ntmps36
 go_wp2_with fail
 refine (T.out _ o.out).mono ?_;rintro e k ⟨rfl,y⟩
 have r:=bz o y
 have i:=zq (B.out.call y)
 clear y o B
 have I:k.cell? ⟨w.heap.size,0,none⟩=some (.slice f on g):=i.out.c 0 _ rfl
 have J:k.cell? ⟨w.heap.size,1,none⟩=some (aa ab q):=i.out.c 1 _ rfl
 have K:k.cell? ⟨w.heap.size,2,none⟩=some (aa ab u):=i.out.c 2 _ rfl
 have L:k.cell? ⟨w.heap.size,3,none⟩=some (av c):=i.out.c 3 _ rfl
 have M:k.cell? ⟨w.heap.size,4,none⟩=some (av d):=i.out.c 4 _ rfl
 have N:k.cell? ⟨w.heap.size,5,none⟩=some (.slice b a h):=i.out.c 5 _ rfl
 cases D
 ·go_wp2_with fail
  go_ret
  exact ⟨rfl,r.out⟩
 go_wp2_with fail
 refine (x.out _).mono ?_;rintro e m ⟨rfl,z⟩
 have t:=bz r z
 have j:=zq (i.out.call z)
 clear z r i I J K L M N
 have I:m.cell? ⟨w.heap.size,0,none⟩=some (.slice f on g):=j.out.c 0 _ rfl
 have J:m.cell? ⟨w.heap.size,1,none⟩=some (aa ab q):=j.out.c 1 _ rfl
 have K:m.cell? ⟨w.heap.size,2,none⟩=some (aa ab u):=j.out.c 2 _ rfl
 have L:m.cell? ⟨w.heap.size,3,none⟩=some (av c):=j.out.c 3 _ rfl
 have M:m.cell? ⟨w.heap.size,4,none⟩=some (av d):=j.out.c 4 _ rfl
 have N:m.cell? ⟨w.heap.size,5,none⟩=some (.slice b a h):=j.out.c 5 _ rfl
 cases U
 ·go_wp2_with fail
  go_ret
  exact ⟨rfl,t.out⟩
 go_wp2_with fail
 refine (S.out _ t.out).mono ?_;rintro e Y ⟨rfl,X⟩
 have O:=bz t X
 go_wp2_with fail
 go_ret
 exact ⟨rfl,O.out⟩
theorem zS (g:Option Addr) (on h:Nat) (q u:Int) (c d:Bool) (a:Option Addr) (f b:Nat) (w:au) :
  aU am 38 #[.agg #[.slice g on h,aa ab q,aa ab u,av c,av d,.slice a f b]] w fun e w'=>e=aD (if c then .slice a f b else .slice none 0 0)/\aB w.heap.size w w':=by
 have i:Hid (aB w.heap.size w (w.alloc (.cells #[.slice g on h,aa ab q,aa ab u,av c,av d,.slice a f b] 27))):=zq ((ap _ _).alloc (ae _) _)
 cases c
 all_goals
  go_enter Tryz.func38,Tryz.ntmps38
  go_wp2_with fail
  go_ret
  exact ⟨rfl,i.out⟩
end Go.Proofs.YtbojljpldcijgaaGreat
namespace Hb
open Go Go.RowKit
theorem mg:∀(n:Nat) (l:List UInt8),l.length<=n->¬ak l (cd l)=37
 | n,l,hn=>by
  rw [sR]
  by_cases c:l.isEmpty=true
  ·rw [if_pos c]
   have:l=[]:=by simpa using c
   subst this
   decide
  rw [if_neg c]
  have h:0<l.length:=by
   cases l with
   | nil=>exact absurd rfl c
   | cons a t=>simp
  by_cases d:cls (ak l 0)=1
  ·rw [if_pos d,<-bQ]
   cases n with
   | zero=>omega
   | succ n=>exact mg n (l.drop 1) (by rw [aN];omega)
  rw [if_neg d]
  by_cases b:ak l 0=37
  ·rw [if_pos b,<-bQ]
   cases n with
   | zero=>omega
   | succ n=>
    refine mg n (l.drop (br eh l)) ?_
    have:1<=br eh l:=by
     cases l with
     | nil=>simp at h
     | cons a t=>
      have f:(a.toNat:Int)=37:=by simpa [ak,jn] using b
      have g:eh (a.toNat:Int)=true:=by rw [f];decide
      unfold br
      simp [g]
    rw [aN];omega
  rw [if_neg b]
  by_cases e:ak l 0=47/\ak l 1=42
  ·rw [if_pos e]
   cases hc:dW (l.drop 2) with
   | none=>simp only;exact b
   | some k=>
    simp only
    rw [<-bQ]
    cases n with
    | zero=>omega
    | succ n=>exact mg n (l.drop (k+4)) (by rw [aN];omega)
  ·rw [if_neg e];exact b
structure TkOne (r:LexR):Prop where
 int:r.kind=4->0<=r.n\/r.n=-9223372036854775808
 six:r.kind=6->r.text=[40]\/r.text=[41]\/r.text=[91]\/r.text=[93]\/r.text=[123]\/r.text=[125]\/r.text=[44]\/r.text=[124]
theorem yB {r:LexR} {k:Int} (h:r.kind=k) (a:¬k=4) (b:¬k=6):TkOne r:=⟨fun e=>absurd (h.symm.trans e) a,fun e=>absurd (h.symm.trans e) b⟩
theorem vI (a:Int) (t:List UInt8) (p e:Int) (h:(fM a t p e).err=0):TkOne (fM a t p e):=by
 unfold fM at *
 by_cases b:bg a t<=9223372036854775808
 ·rw [if_pos b] at *
  refine ⟨fun _=>?_,fun e=>absurd e (by show ¬(4:Int)=6;decide)⟩
  simp only
  split
  ·exact .inr rfl
  ·exact .inl (by omega)
 ·rw [if_neg b] at h;exact absurd h (by decide)
theorem mp (k:Int) (t:List UInt8) (p e:Int) (h:(dI k t p e).err=0) (c:¬k=4) (b:k=6->t=[40]\/t=[41]\/t=[91]\/t=[93]\/t=[123]\/t=[125]\/t=[44]\/t=[124]):TkOne (dI k t p e):=by
 unfold dI at *
 by_cases a:100<t.length
 ·rw [if_pos a] at h;exact absurd h (by decide)
 ·rw [if_neg a];exact ⟨fun e=>absurd e c,fun e=>b e⟩
theorem xX:∀b:UInt8,ir (b.toNat:Int)=6->¬(b.toNat:Int)=37->cls (b.toNat:Int)=6->[b]=[40]\/[b]=[41]\/[b]=[91]\/[b]=[93]\/[b]=[123]\/[b]=[125]\/[b]=[44]\/[b]=[124]:=by
 have h:∀n:Fin 256,ir ((fJ n.val).toNat:Int)=6->¬((fJ n.val).toNat:Int)=37->cls ((fJ n.val).toNat:Int)=6->[fJ n.val]=[40]\/[fJ n.val]=[41]\/[fJ n.val]=[91]\/[fJ n.val]=[93]\/[fJ n.val]=[123]\/[fJ n.val]=[125]\/[fJ n.val]=[44]\/[fJ n.val]=[124]:=by
  unfold ir
  decide +kernel
 intro b
 have:=h ⟨b.toNat,b.toNat_lt⟩
 simpa using this
theorem zD (m l:List UInt8) (p:Nat) (q:¬ak m p=37) (h:(dg m l p).err=0):TkOne (dg m l p):=by
 unfold dg at *
 by_cases a0:ak m p=47/\ak m (p+1)=42
 ·rw [if_pos a0] at h;exact absurd h (by decide)
 rw [if_neg a0] at *
 by_cases i:cls (ak m p)=2\/cls (ak m p)=3
 ·rw [if_pos i] at *
  refine mp _ _ _ _ h ?_ ?_
  ·unfold jU;split <;> decide
  ·unfold jU;split <;> intro e <;> exact absurd e (by decide)
 rw [if_neg i] at *
 by_cases j:cls (ak m p)=4
 ·rw [if_pos j] at *
  unfold ew at *
  by_cases a:ak m p=48/\ak m (p+1)=39
  ·rw [if_pos a] at *
   cases hq:cD (l.drop (p+2)) 39 with
   | none=>rw [hq] at h;exact absurd h (by show ¬(7:Int)=0;decide)
   | some ck=>
    obtain ⟨c,k⟩:=ck
    have r:=eU _ _ _ _ (by decide) hq
    exact ⟨fun _=>.inl r.2.2.1,fun e=>absurd e (by show ¬(4:Int)=6;decide)⟩
  rw [if_neg a] at *
  by_cases d:0<cS m p/\0<br (bJ (cS m p)) (m.drop (p+2))
  ·rw [if_pos d] at *;exact vI _ _ _ _ h
  ·rw [if_neg d] at *;exact vI _ _ _ _ h
 rw [if_neg j] at *
 by_cases n:cls (ak m p)=5
 ·rw [if_pos n] at *
  unfold km at *
  by_cases a:ak m p=46/\iI (ak m (p+1))=true
  ·rw [if_pos a];exact yB (k:=7) rfl (by decide) (by decide)
  ·rw [if_neg a] at *;exact mp _ _ _ _ h (by decide) (fun e=>absurd e (by decide))
 rw [if_neg n] at *
 by_cases b:cls (ak m p)=6
 ·rw [if_pos b] at *
  unfold pl at *
  refine mp _ _ _ _ h ?_ fun e=>?_
  ·unfold ir;split <;> decide
  ·have g:p<m.length:=by
    rcases Nat.lt_or_ge p m.length with f | f
    ·exact f
    ·rw [ga m p f] at b;exact absurd b (by decide)
   have t:(m.drop p).take 1=[m[p]]:=by
    rw [List.drop_eq_getElem_cons g];rfl
   have s:ak m p=(m[p].toNat:Int):=by rw [eB m p g];unfold jn;simp [g]
   rw [t]
   rw [s] at b q e
   exact xX m[p] e q b
 rw [if_neg b] at *
 by_cases o:cls (ak m p)=7
 ·rw [if_pos o] at *
  unfold gR at *
  by_cases a:ak m p=34
  ·rw [if_pos a] at *
   cases hi:jj (l.drop (p+1)) 34 with
   | none=>rw [hi] at h;exact absurd h (by show ¬(7:Int)=0;decide)
   | some x=>exact yB (k:=5) rfl (by decide) (by decide)
  rw [if_neg a] at *
  by_cases d:ak m p=39
  ·rw [if_pos d] at *
   cases hi:jj (l.drop (p+1)) 39 with
   | none=>rw [hi] at h;exact absurd h (by show ¬(7:Int)=0;decide)
   | some x=>rw [hi] at h;exact mp _ _ _ _ h (by decide) (fun e=>absurd e (by decide))
  ·rw [if_neg d] at h;exact absurd h (by decide)
 ·rw [if_neg o] at h;exact absurd h (by decide)
theorem yL (m l:List UInt8) (a:Nat) (h:(bD m l a).r.err=0):TkOne (bD m l a).r:=by
 have d:¬ak m (a+cd (m.drop a))=37:=by
  rw [<-bQ];exact mg _ _ (ae _)
 unfold bD at *
 by_cases c:a+cd (m.drop a)=l.length
 ·simp only [if_pos c] at h;exact absurd h (by decide)
 simp only [if_neg c] at *
 by_cases b:(dg m l (a+cd (m.drop a))).err=0
 ·simp only [if_pos b] at *;exact zD _ _ _ d b
 ·simp only [if_neg b] at h;exact absurd h b
theorem xO (m l:List UInt8) (g:m.length=l.length) (a:Nat) (d:a<=l.length) (h:(lL m l a).err=0):∀t∈(lL m l a).l,TkOne t.r:=by
 obtain ⟨_,k,e⟩:=(qg m l g a d).1 h
 intro t j
 obtain ⟨i,f⟩:=List.mem_iff_getElem?.1 j
 obtain ⟨b,c,_⟩:=e i t f
 rw [<-b]
 exact yL _ _ _ (by rw [b];exact c)
theorem yA {t:NextR} (h:TkOne t.r):stopT t=(if t.r.kind=7 then true else if t.r.kind=6 then decide (¬t.r.text=[40])&&(decide (¬t.r.text=[91])&&decide (¬t.r.text=[123])) else false):=by
 by_cases b:t.r.kind=7
 ·rw [if_pos b];unfold stopT;simp [b]
 rw [if_neg b]
 by_cases a:t.r.kind=6
 ·rw [if_pos a]
  unfold stopT dp
  rw [a]
  rcases h.six a with e | e | e | e | e | e | e | e <;> rw [e] <;> decide
 ·rw [if_neg a];unfold stopT dp;simp [a,b]
theorem TkF.of {E:RE} (c:0<E.T.length) (h:∀t∈E.T,TkOne t.r):TkF E:=by
 have a:∀i,E.at i∈E.T:=fun i=>by
  unfold RE.at lJ
  rw [List.getD_eq_getElem?_getD,List.getElem?_eq_getElem (show min i (E.T.length-1)<E.T.length by omega)]
  exact List.getElem_mem _
 exact ⟨fun i b=>(h _ (a i)).int b,fun i=>yA (h _ (a i))⟩
end Hb
namespace Go.Proofs.YtbojljpldcijgaaGreat
open Go.RowKit Hb
theorem PsQ.begin {w X:au} (E:RE) (g tc:Nat) (a:Option Addr) (on c:Nat) (f:ToksOk 16384 E.T) (k:Tab X a on c E.P) (B:on<=100) (H:w.heap.size<=X.heap.size)
  (n:X.ownsRow w.heap.size 76 6 (.slice (some ⟨g,0,none⟩) E.T.length tc) E.T.length (ff E.T)) :
  PsQ ⟨w.heap.size,X.heap.size,X.heap.size+1,X.heap.size,g,tc,a,on,c,E⟩ 0 false (bv E.T 0) (.slice none 0 0,.slice none 0 0)
   (X.alloc (.cells #[.slice (some ⟨g,0,none⟩) E.T.length tc,aa ab 0,av false,.slice a on c,aa ab E.q,aa ab 0,.slice none 0 0,.slice none 0 0] 82)):=by
 have s:aB X.heap.size X (X.alloc (.cells #[.slice (some ⟨g,0,none⟩) E.T.length tc,aa ab 0,av false,.slice a on c,aa ab E.q,aa ab 0,.slice none 0 0,.slice none 0 0] 82)):=(ap _ _).alloc (ae _) _
 have u:=(n.lt g rfl).2
 have x:=f.pos
 have F:(E.at (E.T.length-1)).r.kind=7:=by
  rw [E.at_get (by omega)]
  exact (f.last _ (by omega)).2 (by omega)
 have G:E.T.length<=tc:=by
  rcases n.2 with ⟨h,_⟩ | ⟨M,K,L,h,_,_,m,_⟩
  ·cases h
  ·injection h with _ _ h3;omega
 have A:Bk (X.alloc (.cells #[.slice (some ⟨g,0,none⟩) E.T.length tc,aa ab 0,av false,.slice a on c,aa ab E.q,aa ab 0,.slice none 0 0,.slice none 0 0] 82)) X.heap.size [.slice (some ⟨g,0,none⟩) E.T.length tc,aa ab 0,av false,.slice a on c,aa ab E.q,aa ab 0,.slice none 0 0,.slice none 0 0]:=Bk.new X _ _
 refine { ok:={ b01:=H,p1:=⟨ae _,Nat.lt_succ_self _⟩,gl:=u,len:=by have:=f.len;simp only;omega,pos:=x,tcap:=G,endk:=F,opl:=k.len,few:=B,nil:=k.nil,ob:=fun D=>?_,txt:=fun t o=>?_,nms:=fun t o m=>?_ },low:=by simp,bk:=?_,tk:=fun j C i v h=>?_,ops:=k.ops.below s,nm:=?_,om:=?_,n1:=x,vn:=by rw [gB];exact ae _,vc:=by rw [gB];exact rz }
 ·intro b I e
  have y:0<E.P.length:=D
  obtain ⟨J,O,d,N,_⟩:=k.ops 0 y
  rw [show a=some ⟨b,I,none⟩ from e] at d
  injection d with d;injection d with d _ _
  show b<X.heap.size
  omega
 ·have:=f.fits t o
  exact ⟨by have:=this.txt;omega,this.num⟩
 ·have:=(f.fits t o).nam
  unfold fa at m
  simp at m
  exact this (by omega)
 ·rw [gB];exact A
 ·have z:(ff E.T)[j * 6+i]? = some v:=nM E.T j C i v h
  have l:=n.cells (g:=g) rfl _ _ z
  rw [eO] at l
  rw [s.cell (p:=⟨g,_,none⟩) u]
  rw [show (0:Nat)+(j * 6+i)=j * 6+i by omega] at l
  exact l
 ·rw [gB];exact eF _ _ _ _
 ·rw [gB];exact eF _ _ _ _
theorem xE {E:RE} {t:Tm} {p:Int} {m:Nat} {wr:Bool} (h:AnQ (uf E E.T.length 1200 0) 0 (t,p,m) m wr):kA E=if wr=true\/¬(E.at m).r.kind=7 then .error m else .ok (t,m):=by
 unfold kA
 rcases h.2 with ⟨b,c⟩ | ⟨b,_,d⟩
 ·rw [c,if_pos (.inl b)]
 ·rw [d]
  simp only
  by_cases a:(E.at m).r.kind=7
  ·rw [if_pos a,if_neg (by rw [b];simp [a])]
  ·rw [if_neg a,if_pos (.inr a)]
def eL (s:ByteArray) (a:Int->Int):Array Value:=#[ac s]++Array.ofFn (n:=256) fun i=>aa ab (a (i.val:Int))
def eK (s:ByteArray) (a:Int->Int):Value:=.agg (eL s a)
theorem eR (s:ByteArray) (a:Int->Int):(eL s a).size=257:=by simp [eL]
theorem ld (s:ByteArray) (a:Int->Int):(eL s a)[0]? = some (ac s):=by simp [eL]
theorem kq (s:ByteArray) (a:Int->Int) (c:Nat) (h:c<256):(eL s a)[1+c]? = some (aa ab (a c)):=by
 unfold eL
 rw [Array.getElem?_append_right (by simp)]
 simp [h]
theorem oZ:(Tryz.prog.info? 107).map (·.size)=some 257:=by kernel_rfl
structure Txt (w:au) (b:Nat) (s:ByteArray) (tab:Int->Int):Prop where
 lt:b<w.heap.size
 blk:w.heap[b]? = some (.cells (eL s tab) 107 (0,0))
theorem Txt.c0 {w:au} {b:Nat} {s:ByteArray} {a:Int->Int} (h:Txt w b s a):w.cell? ⟨b,0,none⟩=some (ac s):=(cell_of_row w b 0 _ _ _ h.blk).trans (ld s a)
theorem Txt.ct {w:au} {b:Nat} {s:ByteArray} {a:Int->Int} (h:Txt w b s a) (c:Nat) (d:c<256):w.cell? ⟨b,1+c,none⟩=some (aa ab (a c)):=(cell_of_row w b _ _ _ _ h.blk).trans (kq s a c d)
theorem Txt.same {w w':au} {b:Nat} {s:ByteArray} {tab:Int->Int} (h:Txt w b s tab) (c:w.heap.size<=w'.heap.size) (a:w'.heap[b]? = w.heap[b]?):Txt w' b s tab:=⟨aA h.lt c,a.trans h.blk⟩
theorem Txt.below {w w':au} {b B:Nat} {s:ByteArray} {tab:Int->Int} (h:Txt w b s tab) (a:aB B w w') (c:b<B):Txt w' b s tab:=h.same a.size (a.block b c)
theorem Txt.tabc {w:au} {b:Nat} {s:ByteArray} {a:Int->Int} (h:Txt w b s a) (e:ex a) (k:Nat) (c:k<s.size):w.cell? ⟨b,1+s[k].toNat,none⟩=some (aa ab (ak (ba a s.data.toList) k)):=by
 have d:k<s.data.toList.length:=by simpa using c
 rw [h.ct s[k].toNat s[k].toNat_lt,lC s k c,zg a e _ k d,eB _ _ (by rw [bL];exact d)]
theorem AB (s:ByteArray) (a:Int->Int) (w:au):(Instr.box 107 (eK s a)).run am w=.ok (ar (some ⟨w.heap.size,0,none⟩)) (w.alloc (.cells (eL s a) 107)):=by kernel_rfl
theorem bb {d:Array Oper} {f:List Oper} {o:Oper} {a:Act} {Q:Exit->Act->au->Prop} {w:au} (i:o.guard=none) (x:Operand) (s:ByteArray) (c:Int->Int)
  (j:o.op=.box 107 x) (k:a.eval x=eK s c)
  (h:∀b w1,Txt w1 b s c->w.heap.size<=b->aB w.heap.size w w1->cq am d Q f (a.put o.dst (ar (some ⟨b,0,none⟩))) w1):cq am d Q (o::f) a w:=by
 refine wpList_plain i fun K g=>?_
 have e:(execOp a.eval o).run am w=.ok (.value (ar (some ⟨w.heap.size,0,none⟩))) (w.alloc (.cells (eL s c) 107)):=by
  unfold execOp
  rw [j]
  simp only [k]
  rw [Sem.run_bind,AB]
  rfl
 unfold Oper.wp
 rw [e]
 exact g _ _ (h _ _ ⟨by simp,heap_alloc_new w _⟩ (ae _) ((ap _ _).alloc (ae _) _))
theorem aq {c:Array Oper} {d:List Oper} {o:Oper} {a:Act} {Q:Exit->Act->au->Prop} {w:au} (f:o.guard=none) (x:Operand) {b:Nat} {s:ByteArray} {e:Int->Int}
  (g:o.op=.load 107 x) (i:a.eval x=ar (some ⟨b,0,none⟩)) (T:Txt w b s e)
  (h:cq am c Q d (a.put o.dst (eK s e)) w):cq am c Q (o::d) a w :=
 wpList_load_row f _ x g b i _ _ _ _ T.blk Tryz.underlying107 rfl (by rw [oZ,eR]) h
theorem zC (s:ByteArray) (d:Int->Int) (k:Nat) (w:au) :
  aU am 187 #[eK s d,aa ab k] w fun e w'=>e=aD (aa ab (ak s.data.toList k))/\aB w.heap.size w w':=by
 by_cases f:k<s.size
 ·have j:=lC s k f
  have a:=zq (eB s.data.toList k (by simpa using f))
  have l:=kj s.data.toList k
  have m:=lD s.data.toList k
  go_enter Tryz.func187,Tryz.ntmps187
  go_wp2_with (refine bb rfl _ s d rfl rfl ?_;intro b i T h c;have g:=T.c0)
  go_ret
  exact ⟨dl a.out.symm,c⟩
 ·have a:=zq (ga s.data.toList k (by simp;omega))
  go_enter Tryz.func187,Tryz.ntmps187
  go_wp2_with (refine bb rfl _ s d rfl rfl ?_;intro b i T h c;have g:=T.c0)
  go_ret
  exact ⟨dl a.out.symm,c⟩
theorem AX (s:ByteArray) (a:Int->Int) (d:ex a) (k:Nat) (w:au) :
  aU am 147 #[eK s a,aa ab k] w fun e w'=>e=aD (aa ab (ak (ba a s.data.toList) k))/\aB w.heap.size w w':=by
 have g:=zq d
 clear d
 by_cases j:k<s.size
 ·have n:=kj s.data.toList k
  have o:(s[k].toNat:Int)<256:=by have:=s[k].toNat_lt;omega
  go_enter Tryz.func147,Tryz.ntmps147
  go_wp2_with (refine bb rfl _ s a rfl rfl ?_;intro b l T i c;have h:=T.c0;have m:=T.tabc g.out k j)
  go_ret
  exact ⟨dl rfl,c⟩
 ·have f:=zq (ga (ba a s.data.toList) k (by rw [bL];simp;omega))
  go_enter Tryz.func147,Tryz.ntmps147
  go_wp2_with (refine bb rfl _ s a rfl rfl ?_;intro b l T i c;have h:=T.c0)
  go_ret
  exact ⟨dl f.out.symm,c⟩
theorem gQ (c:Int) (w:au) :
  aU am 148 #[aa ab c] w fun e w'=>e=aD (av (cls c==1))/\w=w':=by
 have a:=zq (dv c w)
 go_enter Tryz.func148,Tryz.ntmps148
 go_wp2_with fail
 refine a.out.mono ?_;rintro e b ⟨rfl,rfl⟩
 go_wp2_with fail
 go_ret
 exact ⟨bY rfl,rfl⟩
end Go.Proofs.YtbojljpldcijgaaGreat
namespace Hb
def nD (m:List UInt8) (p:Nat):Bool:=!(ak m p==47&&ak m (p+1)==42)
theorem pR (m:List UInt8) (p:Nat) (h:¬(ak m p=47/\ak m (p+1)=42)):nD m p=true:=by
 unfold nD
 by_cases a:ak m p=47
 ·by_cases b:ak m (p+1)=42
  ·exact absurd ⟨a,b⟩ h
  ·simp [b]
 ·simp [a]
theorem rk (m:List UInt8) (p:Nat) (a:ak m p=47) (b:ak m (p+1)=42):nD m p=false:=by
 unfold nD;rw [a,b];rfl
theorem tE (m:List UInt8) (p:Nat) (h:nD m p=false):ak m p=47/\ak m (p+1)=42:=by
 unfold nD at h;simpa using h
theorem vf (m:List UInt8) (p:Nat) (h:nD m p=true):¬(ak m p=47/\ak m (p+1)=42):=fun a=>by
 rw [rk m p a.1 a.2] at h;cases h
def jI (l:List UInt8) (k:Nat) (q:Int):Int:=if ak l k=92/\ak l (k+1)=10 then 0 else match cD (l.drop k) q with
 | none=>0
 | some x=>x.1
def jH (l:List UInt8) (k:Nat) (q:Int):Nat:=if ak l k=92/\ak l (k+1)=10 then k+2 else match cD (l.drop k) q with
 | none=>k
 | some x=>k+x.2
def jx (l:List UInt8) (k:Nat) (q:Int):Int:=if ak l k=92/\ak l (k+1)=10 then 2 else match cD (l.drop k) q with
 | none=>0
 | some _=>1
structure QuotIs (l:List UInt8) (k:Nat) (q c:Int) (e:Nat) (kind:Int):Prop where
 c:jI l k q=c
 e:jH l k q=e
 k:jx l k q=kind
theorem nT (l:List UInt8) (k:Nat) (q:Int) (a:ak l k=92) (b:ak l (k+1)=10):QuotIs l k q 0 (k+2) 2:=by
 constructor
 ·unfold jI;rw [if_pos ⟨a,b⟩]
 ·unfold jH;rw [if_pos ⟨a,b⟩]
 ·unfold jx;rw [if_pos ⟨a,b⟩]
theorem kP (l:List UInt8) (k:Nat) (q:Int) (h:¬(ak l k=92/\ak l (k+1)=10)) (a:cD (l.drop k) q=none):QuotIs l k q 0 k 0:=by
 constructor
 ·unfold jI;rw [if_neg h,a]
 ·unfold jH;rw [if_neg h,a]
 ·unfold jx;rw [if_neg h,a]
theorem jP (l:List UInt8) (k:Nat) (q c:Int) (n:Nat) (h:¬(ak l k=92/\ak l (k+1)=10)) (a:cD (l.drop k) q=some (c,n)):QuotIs l k q c (k+n) 1:=by
 constructor
 ·unfold jI;rw [if_neg h,a]
 ·unfold jH;rw [if_neg h,a]
 ·unfold jx;rw [if_neg h,a]
theorem yo (l:List UInt8) (k:Nat) (q:Int) (h:ak l k<0\/ak l k=10):QuotIs l k q 0 k 0 :=
 kP l k q (by omega) (by unfold cD;rw [bQ,bj,if_pos h])
theorem ot (l:List UInt8) (k:Nat) (q:Int) (c:q=39\/q=34) (a:ak l k=q) (b:ak l (k+1)=q):QuotIs l k q q (k+2) 1 :=
 jP l k q q 2 (by omega) (by unfold cD;simp only [bQ,bj];rw [if_neg (by omega),if_pos a,if_pos b])
theorem ta (l:List UInt8) (k:Nat) (q:Int) (c:q=39\/q=34) (a:ak l k=q) (b:¬ak l (k+1)=q):QuotIs l k q 0 k 0 :=
 kP l k q (by omega) (by unfold cD;simp only [bQ,bj];rw [if_neg (by omega),if_pos a,if_neg b])
theorem uG (l:List UInt8) (k:Nat) (q:Int) (a:¬(ak l k<0\/ak l k=10)) (b:¬ak l k=q) (c:¬ak l k=92):QuotIs l k q (ak l k) (k+1) 1 :=
 jP l k q _ 1 (by omega) (by unfold cD;simp only [bQ,bj];rw [if_neg a,if_neg b,if_pos c])
theorem yn (l:List UInt8) (k:Nat) (q:Int) (d:q=39\/q=34) (b:ak l k=92) (c:¬ak l (k+1)=10) (a:iD (ak l (k+1))=true):QuotIs l k q (mX (ak l (k+1))) (k+2) 1 :=
 jP l k q _ 2 (by omega) (by unfold cD;simp only [bQ,bj];rw [if_neg (by omega),if_neg (by omega),if_neg (by omega),if_pos a])
def fR (a:Int) (l:List UInt8) (j:Nat):Nat:=min (bg a (l.take j)) 256
theorem qc (base:Int) (c:2<=base) (d:base<=36) (l:List UInt8) (j:Nat) (f:j<br (bJ base) l):(fR base l (j+1):Int)=min ((fR base l j:Int) * base+cG (ak l j) base) 256/\0<=cG (ak l j) base/\cG (ak l j) base<=36:=by
 obtain ⟨e,a,b⟩:=lm base c d l j f
 refine ⟨?_,a,b⟩
 unfold fR
 generalize bg base (l.take (j+1))=x at *
 generalize bg base (l.take j)=y at *
 by_cases g:y<=256
 ·rw [Nat.min_eq_left g,<-e];omega
 ·have h:(256:Int) * base<=y * base:=Int.mul_le_mul_of_nonneg_right (by omega) (by omega)
  rw [Nat.min_eq_right (show 256<=y by omega),Nat.min_eq_right (show 256<=x by omega)]
  omega
theorem uN (m l:List UInt8) (p:Nat) (h:ak m p=48) (g:ak m (p+1)=39):ew m l p=if jx l (p+2) 39=1 then ⟨4,[],jI l (p+2) 39,p,jH l (p+2) 39,0⟩ else cY 7:=by
 unfold ew
 rw [if_pos ⟨h,g⟩]
 by_cases a:ak l (p+2)=92/\ak l (p+2+1)=10
 ·have Q:=nT l (p+2) 39 a.1 a.2
  have i:cD (l.drop (p+2)) 39=none:=by
   have f:ak (l.drop (p+2)) 1=10:=by rw [bQ];exact a.2
   have j:gU (l.drop (p+2))=0:=by
    unfold gU lw gV
    rw [f]
    simp only [show ¬(10:Int)=120 by decide,if_false,cV]
    by_cases d:p+2+1<l.length
    ·have b:=a.2
     rw [eB _ _ d] at b
     exact lf _ _ _ d (by rw [b];decide +kernel)
    ·exact jY _ _ _ (by omega)
   unfold cD
   rw [f,bQ,bj,a.1,j]
   rw [if_neg (by decide),if_neg (by decide),if_neg (by decide),if_neg (by decide +kernel),if_neg (by omega)]
  rw [i,Q.k,if_neg (by decide)]
 ·cases hq:cD (l.drop (p+2)) 39 with
  | none=>rw [(kP l (p+2) 39 a hq).k,if_neg (by decide)]
  | some ck=>
   obtain ⟨c,k⟩:=ck
   have Q:=jP l (p+2) 39 c k a hq
   rw [Q.k,Q.c,Q.e,if_pos rfl];simp
theorem td (l:List UInt8) (k:Nat) (q b:Int) (f:Nat) (w:q=39\/q=34) (t:ak l k=92) (m:¬ak l (k+1)=10) (n:iD (ak l (k+1))=false)
  (u:(if ak l (k+1)=120 then 16 else 8)=b) (v:(if ak l (k+1)=120 then 2 else 1)=f) :
  (0<br (bJ b) (l.drop (k+f))->bg b ((l.drop (k+f)).take (br (bJ b) (l.drop (k+f))))<=255->ak l (k+f+br (bJ b) (l.drop (k+f)))=92->QuotIs l k q (bg b ((l.drop (k+f)).take (br (bJ b) (l.drop (k+f))))) (k+f+br (bJ b) (l.drop (k+f))+1) 1) /\
  (¬(0<br (bJ b) (l.drop (k+f))/\bg b ((l.drop (k+f)).take (br (bJ b) (l.drop (k+f))))<=255/\ak l (k+f+br (bJ b) (l.drop (k+f)))=92)->QuotIs l k q 0 k 0):=by
 have o:ak (l.drop k) 0=92:=by rw [bQ,bj];exact t
 have d:ak (l.drop k) 1=ak l (k+1):=bQ _ _ _
 have i:lw (l.drop k)=b:=by unfold lw;rw [d];exact u
 have c:gV (l.drop k)=f:=by unfold gV;rw [d];exact v
 have a:gU (l.drop k)=br (bJ b) (l.drop (k+f)):=by unfold gU;rw [i,c,cV]
 have e:kG (l.drop k)=bg b ((l.drop (k+f)).take (br (bJ b) (l.drop (k+f)))):=by unfold kG;rw [i,c,a,cV]
 have j:ak (l.drop k) (gV (l.drop k)+gU (l.drop k))=ak l (k+f+br (bJ b) (l.drop (k+f))):=by rw [c,a,bQ,Nat.add_assoc]
 refine ⟨fun p r s=>?_,fun h=>?_⟩
 ·have:=jP l k q _ _ (fun g=>m g.2) (nZ (l.drop k) q o (by omega) (by rw [d];exact n) ⟨by rw [a];exact p,by rw [e];exact r,by rw [j];exact s⟩)
  rw [e,c,a] at this
  rw [show k+f+br (bJ b) (l.drop (k+f))+1=k+(f+br (bJ b) (l.drop (k+f))+1) by omega]
  exact this
 ·exact kP l k q (fun g=>m g.2) (iB (l.drop k) q o (by omega) (by rw [d];exact n) (by rw [j,a,e];exact h))
theorem gF (b:Int) (l:List UInt8) (c j:Nat) (e:j<br (bJ b) (l.drop c)):fq (ak l (c+j)) b=true/\c+j<l.length:=by
 obtain ⟨a,d⟩:=jO _ _ _ e
 rw [bQ] at a
 rw [aN] at d
 exact ⟨a,by omega⟩
theorem gE (b:Int) (l:List UInt8) (c:Nat):fq (ak l (c+br (bJ b) (l.drop c))) b=false:=by
 have:=mf (bJ b) (nX b) (l.drop c)
 rw [bQ] at this
 exact this
end Hb
namespace Go.Proofs.YtbojljpldcijgaaGreat
open Go.RowKit Hb
theorem aO (s:ByteArray) (a:Int->Int) (M:List UInt8) (b:Hid (ba a s.data.toList=M)) (d:Hid (ex a)) (i:Int) (k:Nat) (c:i=k) (w:au) :
  aU am 147 #[eK s a,aa ab i] w fun e w'=>e=aD (aa ab (ak M k))/\aB w.heap.size w w':=by
 rw [<-b.out,c];exact AX s a d.out k w
theorem cy (s:ByteArray) (a:Int->Int) (i:Int) (k:Nat) (b:i=k) (w:au) :
  aU am 187 #[eK s a,aa ab i] w fun e w'=>e=aD (aa ab (ak s.data.toList k))/\aB w.heap.size w w':=by
 rw [b];exact zC s a k w
theorem ax {c:Array Oper} {d:List Oper} {o:Oper} {a:Act} {Q:Exit->Act->au->Prop} {w:au} (x:Operand) {b:Nat} {s:ByteArray} {e:Int->Int}
  (g:o.op=.load 107 x) (j:a.eval x=ar (some ⟨b,0,none⟩)) (T:Txt w b s e) (i:Region.wanted o (yielded c a.tmps)=true)
  (h:cq am c Q d (a.put o.dst (eK s e)) w):cq am c Q (o::d) a w :=
 wpList_step fun _ f=>by
  rw [if_pos i]
  exact wp_load_row _ x g b j _ _ _ _ T.blk Tryz.underlying107 rfl (by rw [oZ,eR]) (f _ _ h)
theorem aG {b:Array Oper} {c:List Oper} {a:Act} {Q:Exit->Act->au->Prop} {w:au} {d t p f x} (h:cq am b Q (⟨d,.load 107 x,t,p,f,none⟩::c) a w):cq am b Q (⟨d,.load 107 x,t,p,f,none⟩::c) a w:=h
theorem aR {b:Array Oper} {c:List Oper} {a:Act} {Q:Exit->Act->au->Prop} {w:au} {d t p f x g} (h:cq am b Q (⟨d,.load 107 x,t,p,f,some g⟩::c) a w):cq am b Q (⟨d,.load 107 x,t,p,f,some g⟩::c) a w:=h
theorem ys (M:List UInt8) (k j:Nat) (c:k<=j) (a:j<M.length) (h:(j-k)+br eh (M.drop j)=br eh (M.drop k)) (b:¬ak M j=10):(j+1-k)+br eh (M.drop (j+1))=br eh (M.drop k):=by
 rw [kK eh M j a (by rw [<-eB _ _ a];unfold eh;simpa using b)] at h;omega
theorem vG (M:List UInt8) (k j:Nat) (h:(j-k)+br eh (M.drop j)=br eh (M.drop k)) (b:ak M j<0\/ak M j=10):j-k=br eh (M.drop k):=by
 by_cases a:j<M.length
 ·have:=bX M j
  rw [lf eh M j a (by rw [<-eB _ _ a];unfold eh;simp;omega)] at h;omega
 ·rw [jY eh M j (by omega)] at h;omega
theorem oR (s:ByteArray) (a:Int->Int) (ht:ex a) (E:Nat) (d6:s.size<=16384) (b9:E<=s.size) (w:au) :
  aU am 103 #[eK s a,aa ab E] w fun e w'=>e=aD (aJ #[aa ab (E+cd ((ba a s.data.toList).drop E):Nat),av (nD (ba a s.data.toList) (E+cd ((ba a s.data.toList).drop E)))])/\aB w.heap.size w w':=by
 have f:=zq ht
 clear ht
 have B:Hid ((ba a s.data.toList).length=s.size):=by show _=_;rw [bL];simp
 generalize hM:ba a s.data.toList=M at *
 have d:=zq hM
 clear hM
 go_enter Tryz.func103,Tryz.ntmps103
 go_wp2_with (refine bb rfl _ s a rfl rfl ?_;intro b P T0 c9 b5)
 have c5:=T0.lt
 go_loopw [1] (fun i wr=>∃k:Nat,k<=s.size/\i=aa ab k/\aB w.heap.size w wr/\Txt wr b s a/\Hid (k+cd (M.drop k)=E+cd (M.drop E))) (fun i _=>s.size-(intOf i).toNat)
 case atStart=>exact ⟨E,b9,rfl,b5,T0,rfl⟩
 case round=>
  obtain ⟨k,c1,rfl,C,T,F⟩:=hrel
  have hs:=C.size
  by_cases c2:k<s.size
  ·have D:k<M.length:=by rw [B.out];exact c2
   have d4:0<=ak M k:=by have:=bX M k;omega
   by_cases y:cls (ak M k)=1
   ·have q:=zq (sO M k D y)
    have b1:(cls (ak M k)==1)=true:=by simp [y]
    clear y
    go_wp2_with (first | (with_reducible refine aG ?_;refine aq rfl _ rfl rfl T ?_) | (with_reducible refine aR ?_;refine ax _ rfl rfl T rfl ?_))
    refine (aO s a M d f _ (k) (by omega) _).mono ?_;rintro e P ⟨rfl,h⟩
    have m:=T.below h T.lt
    go_wp2_with fail
    refine (gQ _ _).mono ?_;rintro e S ⟨rfl,rfl⟩
    go_wp2_with fail
    go_roundw
    case rel=>exact ⟨k+1,by omega,by go_num,C.trans (h.mono (by omega)),m,by have h1:=F.out;have h2:=q.out;show _=_;omega⟩
    case measure=>simp [intOf];omega
   have b1:(cls (ak M k)==1)=false:=by simp [y]
   by_cases z:ak M k=37
   ·have q:=zq (sN M k D y z)
    have d5:=jX eh (M.drop k) (by simp;omega) (by rw [bQ,bj,z];rfl)
    have c4:=bS eh (M.drop k)
    rw [aN,B.out] at c4
    have b2:(ak M k==37)=true:=by simp [z]
    clear y z
    go_wp2_with (first | (with_reducible refine aG ?_;refine aq rfl _ rfl rfl T ?_) | (with_reducible refine aR ?_;refine ax _ rfl rfl T rfl ?_))
    refine (aO s a M d f _ (k) (by omega) _).mono ?_;rintro e P ⟨rfl,h⟩
    have m:=T.below h T.lt
    go_wp2_with fail
    refine (gQ _ _).mono ?_;rintro e S ⟨rfl,rfl⟩
    have a0:=C.trans (h.mono (by omega))
    have c6:=m.lt
    clear h T C
    go_wp2_with fail
    go_loopw [1] (fun x V=>∃j:Nat,k<=j/\j<=s.size/\x=aa ab j/\aB w.heap.size w V/\Txt V b s a/\Hid ((j-k)+br eh (M.drop j)=br eh (M.drop k))) (fun x _=>s.size-(intOf x).toNat)
    case atStart=>exact ⟨k,ae _,c1,rfl,a0,m,by show _=_;omega⟩
    case round=>
     obtain ⟨j,b7,a8,rfl,A,c,HJ⟩:=hrel
     have c3:=A.size
     have Z:=bX M j
     rw [B.out] at Z
     by_cases I:ak M j<0
     ·have Q:=zq (vG M k j HJ.out (.inl I))
      have Y:decide (ak M j ≥ 0)=false:=by simp;omega
      have R:=zq (show j=k+br eh (M.drop k) by have:=Q.out;omega)
      clear Z
      go_wp2_with (first | (with_reducible refine aG ?_;refine aq rfl _ rfl rfl c ?_) | (with_reducible refine aR ?_;refine ax _ rfl rfl c rfl ?_))
      refine (aO s a M d f _ (j) (by omega) _).mono ?_;rintro e w3 ⟨rfl,n⟩
      have o:=c.below n c.lt
      go_wp2_with fail
      go_roundw
      case rel=>exact ⟨j,a8,rfl,A.trans (n.mono (by omega)),o,by have h1:=F.out;have h2:=q.out;show _=_;rw [R.out];omega⟩
      case measure=>have:=R.out;simp [intOf];omega
     have Y:decide (ak M j ≥ 0)=true:=by simp;omega
     by_cases p:ak M j=10
     ·have Q:=zq (vG M k j HJ.out (.inr p))
      have b4:(ak M j != 10)=false:=by simp [p]
      have R:=zq (show j=k+br eh (M.drop k) by have:=Q.out;omega)
      clear Z p
      go_wp2_with (first | (with_reducible refine aG ?_;refine aq rfl _ rfl rfl c ?_) | (with_reducible refine aR ?_;refine ax _ rfl rfl c rfl ?_))
      refine (aO s a M d f _ (j) (by omega) _).mono ?_;rintro e w3 ⟨rfl,n⟩
      have o:=c.below n c.lt
      go_wp2_with (first | (with_reducible refine aG ?_;refine aq rfl _ rfl rfl o ?_) | (with_reducible refine aR ?_;refine ax _ rfl rfl o rfl ?_))
      refine (aO s a M d f _ (j) (by omega) _).mono ?_;rintro e U ⟨rfl,l⟩
      have g:=o.below l o.lt
      go_wp2_with fail
      go_roundw
      case rel=>exact ⟨j,a8,rfl,A.trans ((n.mono (by omega)).trans (l.mono (by have:=n.size;omega))),g,by have h1:=F.out;have h2:=q.out;show _=_;rw [R.out];omega⟩
      case measure=>have:=R.out;simp [intOf];omega
     ·have b4:(ak M j != 10)=true:=by simp [p]
      have b8:j<s.size:=by omega
      have Q:=zq (ys M k j b7 (by rw [B.out];exact b8) HJ.out p)
      clear Z p
      go_wp2_with (first | (with_reducible refine aG ?_;refine aq rfl _ rfl rfl c ?_) | (with_reducible refine aR ?_;refine ax _ rfl rfl c rfl ?_))
      refine (aO s a M d f _ (j) (by omega) _).mono ?_;rintro e w3 ⟨rfl,n⟩
      have o:=c.below n c.lt
      go_wp2_with (first | (with_reducible refine aG ?_;refine aq rfl _ rfl rfl o ?_) | (with_reducible refine aR ?_;refine ax _ rfl rfl o rfl ?_))
      refine (aO s a M d f _ (j) (by omega) _).mono ?_;rintro e U ⟨rfl,l⟩
      have g:=o.below l o.lt
      go_wp2_with fail
      go_roundw
      case rel=>exact ⟨j+1,by omega,by omega,by go_num,A.trans ((n.mono (by omega)).trans (l.mono (by have:=n.size;omega))),g,Q⟩
      case measure=>simp [intOf];omega
   have b2:(ak M k==37)=false:=by simp [z]
   by_cases H:ak M k=47
   ·have Y:(ak M k != 47)=false:=by simp [H]
    by_cases L:ak M (k+1)=42
    ·have b4:(ak M (k+1) != 42)=false:=by simp [L]
     have A3:=zq H
     have W:=zq L
     clear y z H L
     go_wp2_with (first | (with_reducible refine aG ?_;refine aq rfl _ rfl rfl T ?_) | (with_reducible refine aR ?_;refine ax _ rfl rfl T rfl ?_))
     refine (aO s a M d f _ (k) (by omega) _).mono ?_;rintro e P ⟨rfl,h⟩
     have m:=T.below h T.lt
     go_wp2_with fail
     refine (gQ _ _).mono ?_;rintro e S ⟨rfl,rfl⟩
     go_wp2_with (first | (with_reducible refine aG ?_;refine aq rfl _ rfl rfl m ?_) | (with_reducible refine aR ?_;refine ax _ rfl rfl m rfl ?_))
     refine (aO s a M d f _ (k+1) (by omega) _).mono ?_;rintro e w3 ⟨rfl,n⟩
     have o:=m.below n m.lt
     have a0:aB w.heap.size w w3:=C.trans ((h.mono (by omega)).trans (n.mono (by have:=h.size;omega)))
     clear h n T m C
     go_wp2_with fail
     go_loopw [7] (fun x V=>∃e:Nat,k+2<=e/\e<=s.size/\x=aa ab e/\aB w.heap.size w V/\Txt V b s a/\Hid (dW (M.drop (k+2))=(dW (M.drop e)).map (· + (e-(k+2))))) (fun x _=>s.size-(intOf x).toNat)
     case atStart=>
      have c0:k+2<=s.size:=by
       have:=bX M (k+1);have:=W.out;have:=B.out;omega
      exact ⟨k+2,ae _,c0,by go_num,a0,o,by show _=_;simp⟩
     case round=>
      obtain ⟨e,a5,c7,rfl,A,c,X⟩:=hrel
      have c3:=A.size
      by_cases b6:e<s.size
      ·have a6:e<M.length:=by rw [B.out];exact b6
       have d0:decide (ak M e ≥ 0)=true:=by have:=bX M e;simp;omega
       by_cases I:ak M e=42
       ·have a9:(ak M e != 42)=false:=by simp [I]
        have D1:=zq I
        clear I
        by_cases p:ak M (e+1)=47
        ·have b0:(ak M (e+1) != 47)=false:=by simp [p]
         have d3:decide (ak M e<0)=false:=by simp at d0 |-;omega
         have K:=zq (oF M e a6 D1.out p)
         have HS:=zq (sQ M k (e-(k+2)) D A3.out W.out (by rw [X.out,K.out];simp))
         have c8:e+2<=s.size:=by have:=bX M (e+1);have:=B.out;omega
         clear p
         go_wp2_with (first | (with_reducible refine aG ?_;refine aq rfl _ rfl rfl c ?_) | (with_reducible refine aR ?_;refine ax _ rfl rfl c rfl ?_))
         refine (aO s a M d f _ (e) (by omega) _).mono ?_;rintro e U ⟨rfl,l⟩
         have g:=c.below l c.lt
         go_wp2_with (first | (with_reducible refine aG ?_;refine aq rfl _ rfl rfl g ?_) | (with_reducible refine aR ?_;refine ax _ rfl rfl g rfl ?_))
         refine (aO s a M d f _ (e) (by omega) _).mono ?_;rintro e w5 ⟨rfl,t⟩
         have r:=g.below t g.lt
         go_wp2_with (first | (with_reducible refine aG ?_;refine aq rfl _ rfl rfl r ?_) | (with_reducible refine aR ?_;refine ax _ rfl rfl r rfl ?_))
         refine (aO s a M d f _ (e+1) (by omega) _).mono ?_;rintro e w6 ⟨rfl,O⟩
         have N:=r.below O r.lt
         go_wp2_with (first | (with_reducible refine aG ?_;refine aq rfl _ rfl rfl N ?_) | (with_reducible refine aR ?_;refine ax _ rfl rfl N rfl ?_))
         refine (aO s a M d f _ (e) (by omega) _).mono ?_;rintro e w7 ⟨rfl,a7⟩
         have T7:=N.below a7 N.lt
         go_wp2_with fail
         go_roundw
         case rel=>exact ⟨e+2,by omega,by go_num,A.trans ((ip (ae _) l t O).trans (a7.mono (by have:=l.size;have:=t.size;have:=O.size;omega)) |>.mono (by omega)),T7,qJ M k e _ a5 F.out HS.out⟩
         case measure=>simp [intOf];omega
        ·have b0:(ak M (e+1) != 47)=true:=by simp [p]
         have K:=zq (lA M e a6 (fun u=>p u.2))
         clear p
         go_wp2_with (first | (with_reducible refine aG ?_;refine aq rfl _ rfl rfl c ?_) | (with_reducible refine aR ?_;refine ax _ rfl rfl c rfl ?_))
         refine (aO s a M d f _ (e) (by omega) _).mono ?_;rintro e U ⟨rfl,l⟩
         have g:=c.below l c.lt
         go_wp2_with (first | (with_reducible refine aG ?_;refine aq rfl _ rfl rfl g ?_) | (with_reducible refine aR ?_;refine ax _ rfl rfl g rfl ?_))
         refine (aO s a M d f _ (e) (by omega) _).mono ?_;rintro e w5 ⟨rfl,t⟩
         have r:=g.below t g.lt
         go_wp2_with (first | (with_reducible refine aG ?_;refine aq rfl _ rfl rfl r ?_) | (with_reducible refine aR ?_;refine ax _ rfl rfl r rfl ?_))
         refine (aO s a M d f _ (e+1) (by omega) _).mono ?_;rintro e w6 ⟨rfl,O⟩
         have N:=r.below O r.lt
         go_wp2_with fail
         go_roundw
         case rel=>exact ⟨e+1,by omega,by omega,by go_num,A.trans (ip (by omega) l t O),N,ly M k e a5 X.out K.out⟩
         case measure=>simp [intOf];omega
       ·have a9:(ak M e != 42)=true:=by simp [I]
        have K:=zq (lA M e a6 (fun u=>I u.1))
        clear I
        go_wp2_with (first | (with_reducible refine aG ?_;refine aq rfl _ rfl rfl c ?_) | (with_reducible refine aR ?_;refine ax _ rfl rfl c rfl ?_))
        refine (aO s a M d f _ (e) (by omega) _).mono ?_;rintro e U ⟨rfl,l⟩
        have g:=c.below l c.lt
        go_wp2_with (first | (with_reducible refine aG ?_;refine aq rfl _ rfl rfl g ?_) | (with_reducible refine aR ?_;refine ax _ rfl rfl g rfl ?_))
        refine (aO s a M d f _ (e) (by omega) _).mono ?_;rintro e w5 ⟨rfl,t⟩
        have r:=g.below t g.lt
        go_wp2_with fail
        go_roundw
        case rel=>exact ⟨e+1,by omega,by omega,by go_num,A.trans (ey (by omega) l t),r,ly M k e a5 X.out K.out⟩
        case measure=>simp [intOf];omega
      ·obtain rfl:e=s.size:=by omega
       have K:=zq (oG M s.size (by rw [B.out];exact ae _))
       have q:=zq (qK M k D A3.out W.out (by rw [X.out,K.out];rfl))
       have J:=zq (rk M k A3.out W.out)
       have G:=ga M s.size (by rw [B.out];exact ae _)
       have d0:decide (ak M s.size ≥ 0)=false:=by rw [G];rfl
       have d3:decide (ak M s.size<0)=true:=by rw [G];rfl
       clear G
       go_wp2_with (with_reducible refine aG ?_;refine aq rfl _ rfl rfl c ?_)
       refine (aO s a M d f _ (s.size) (by omega) _).mono ?_;rintro e U ⟨rfl,l⟩
       have g:=c.below l c.lt
       go_wp2_with (with_reducible refine aG ?_;refine aq rfl _ rfl rfl g ?_)
       refine (aO s a M d f _ (s.size) (by omega) _).mono ?_;rintro e w5 ⟨rfl,t⟩
       have r:=g.below t g.lt
       go_wp2_with fail
       refine aw (v:=aJ #[aa ab (k:Int),av false]) (by simp [results,Tryz.results103,go_sem]) rfl ⟨by rw [<-F.out,q.out,bj,J.out],A.trans (ey (by omega) l t)⟩
    ·have b4:(ak M (k+1) != 42)=true:=by simp [L]
     have q:=zq (oS M k D y z (fun u=>L u.2))
     have J:=zq (pR M k (fun u=>L u.2))
     clear y z H L
     go_wp2_with (first | (with_reducible refine aG ?_;refine aq rfl _ rfl rfl T ?_) | (with_reducible refine aR ?_;refine ax _ rfl rfl T rfl ?_))
     refine (aO s a M d f _ (k) (by omega) _).mono ?_;rintro e P ⟨rfl,h⟩
     have m:=T.below h T.lt
     go_wp2_with fail
     refine (gQ _ _).mono ?_;rintro e S ⟨rfl,rfl⟩
     go_wp2_with (first | (with_reducible refine aG ?_;refine aq rfl _ rfl rfl m ?_) | (with_reducible refine aR ?_;refine ax _ rfl rfl m rfl ?_))
     refine (aO s a M d f _ (k+1) (by omega) _).mono ?_;rintro e w3 ⟨rfl,n⟩
     have o:=m.below n m.lt
     go_wp2_with fail
     refine aw (v:=aJ #[aa ab (k:Int),av true]) (by simp [results,Tryz.results103,go_sem]) rfl ⟨by rw [<-F.out,q.out,bj,J.out],C.trans (ey (by omega) h n)⟩
   ·have Y:(ak M k != 47)=true:=by simp [H]
    have q:=zq (oS M k D y z (fun u=>H u.1))
    have J:=zq (pR M k (fun u=>H u.1))
    clear y z H
    go_wp2_with (first | (with_reducible refine aG ?_;refine aq rfl _ rfl rfl T ?_) | (with_reducible refine aR ?_;refine ax _ rfl rfl T rfl ?_))
    refine (aO s a M d f _ (k) (by omega) _).mono ?_;rintro e P ⟨rfl,h⟩
    have m:=T.below h T.lt
    go_wp2_with fail
    refine (gQ _ _).mono ?_;rintro e S ⟨rfl,rfl⟩
    go_wp2_with fail
    refine aw (v:=aJ #[aa ab (k:Int),av true]) (by simp [results,Tryz.results103,go_sem]) rfl ⟨by rw [<-F.out,q.out,bj,J.out],C.trans (h.mono (by omega))⟩
  ·have D:M.length<=k:=by rw [B.out];omega
   have G:=ga M k D
   have q:=zq (sP M k D)
   have J:=zq (pR M k (fun u=>by omega))
   have b1:(cls (ak M k)==1)=false:=by rw [G];rfl
   have b2:(ak M k==37)=false:=by rw [G];rfl
   have Y:(ak M k != 47)=true:=by rw [G];rfl
   clear G
   go_wp2_with (first | (with_reducible refine aG ?_;refine aq rfl _ rfl rfl T ?_) | (with_reducible refine aR ?_;refine ax _ rfl rfl T rfl ?_))
   refine (aO s a M d f _ (k) (by omega) _).mono ?_;rintro e P ⟨rfl,h⟩
   have m:=T.below h T.lt
   go_wp2_with fail
   refine (gQ _ _).mono ?_;rintro e S ⟨rfl,rfl⟩
   go_wp2_with fail
   refine aw (v:=aJ #[aa ab (k:Int),av true]) (by simp [results,Tryz.results103,go_sem]) rfl ⟨by rw [<-F.out,q.out,bj,J.out],C.trans (h.mono (by omega))⟩
theorem qI (q:Int->Bool) (M:List UInt8) (k j:Nat) (c:k<=j) (a:j<M.length) (h:(j-k)+br q (M.drop j)=br q (M.drop k)) (b:q (ak M j)=true):(j+1-k)+br q (M.drop (j+1))=br q (M.drop k):=by
 rw [kK q M j a (by rw [<-eB _ _ a];exact b)] at h;omega
theorem mZ (q:Int->Bool) (M:List UInt8) (k j:Nat) (h:(j-k)+br q (M.drop j)=br q (M.drop k)) (b:M.length<=j\/q (ak M j)=false):j-k=br q (M.drop k):=by
 by_cases a:j<M.length
 ·rw [lf q M j a (by rw [<-eB _ _ a];exact b.resolve_left (by omega))] at h;omega
 ·rw [jY q M j (by omega)] at h;omega
theorem eH {w w':au} {b e size:Nat} {v:Value} {n:Nat} {xs:List Value} (h:w.ownsRow b e size v n xs) {B:Nat} (f:aB B w w') (i:w.heap.size<=B):w'.ownsRow b e size v n xs:=by
 refine ⟨h.1,?_⟩
 rcases h.2 with k | ⟨g,c,d,l,j,a,m⟩
 ·exact .inl k
 ·exact .inr ⟨g,c,d,l,j,(f.block g (aA (by rw [Array.getElem?_eq_some_iff] at a;exact a.1) i)).trans a,m⟩
theorem jp (s:ByteArray) (c:Int->Int) (I:ex c) (a:Nat) (a3:s.size<=16384) (R:a<=s.size) (w:au) :
  aU am 150 #[eK s c,aa ab a,aa ab 0] w fun e w'=>e=aD (aJ #[ac ⟨(((ba c s.data.toList).drop a).take (br cL ((ba c s.data.toList).drop a))).toArray⟩,aa ab (a+br cL ((ba c s.data.toList).drop a):Nat)])/\aB w.heap.size w w':=by
 have m:=zq I
 clear I
 have x:Hid ((ba c s.data.toList).length=s.size):=by show _=_;rw [bL];simp
 generalize F:ba c s.data.toList=M at *
 have l:=zq F
 clear F
 go_enter Tryz.func150,Tryz.ntmps150
 go_wp2_with (refine bb rfl _ s c rfl rfl ?_;intro b q B a0 E)
 have G:=B.lt
 go_loopw [1,8] (fun i v wr=>∃k:Nat,a<=k/\k<=s.size/\i=aa ab k/\aB w.heap.size w wr/\q.heap.size<=wr.heap.size/\Txt wr b s c/\wr.ownsRow q.heap.size 5 1 v (k-a) (Hb.byteCells ((M.drop a).take (k-a)))/\Hid ((k-a)+br cL (M.drop k)=br cL (M.drop a))) (fun i _ _=>s.size-(intOf i).toNat)
 case atStart=>exact ⟨a,ae _,R,rfl,E,ae _,B,by rw [Nat.sub_self];exact iz _ _ _ _,by show _=_;omega⟩
 case round=>
  obtain ⟨k,S,Z,rfl,n,X,T,p,r⟩:=hrel
  have hs:=n.size
  have a2:=E.size
  by_cases U:k<s.size
  ·have H:k<M.length:=by rw [x.out];exact U
   have D:decide (ak M k ≥ 0)=true:=by have:=bX M k;simp;omega
   by_cases h:cL (ak M k)=true
   ·have J:=zq (qI cL M a k S H r.out h)
    have L:=h
    have G:0<=ak M k:=by simpa using D
    have O:ak M k<=255:=dS M k
    have K:=zq (show (M.drop a).take (k+1-a)=(M.drop a).take (k-a)++[(ak M k).toNat.toUInt8] by rw [show k+1-a=(k-a)+1 by omega,iT _ _ _ (by omega),show a+(k-a)=k by omega,eB _ _ H])
    clear h
    go_wp2_with (first | (with_reducible refine aG ?_;refine aq rfl _ rfl rfl T ?_) | (with_reducible refine aR ?_;refine ax _ rfl rfl T rfl ?_))
    refine (aO s c M l m _ (k) (by omega) _).mono ?_;rintro e y ⟨rfl,d⟩
    have f:=T.below d T.lt
    go_wp2_with (first | (with_reducible refine aG ?_;refine aq rfl _ rfl rfl f ?_) | (with_reducible refine aR ?_;refine ax _ rfl rfl f rfl ?_))
    refine (aO s c M l m _ (k) (by omega) _).mono ?_;rintro e z ⟨rfl,g⟩
    have C:=f.below g f.lt
    have o:=eH (eH p d (ae _)) g (ae _)
    have N:=n.trans (ey (by omega) d g)
    have W:q.heap.size<=z.heap.size:=aQ X (aQ d.size g.size)
    clear p d g T f n
    go_wp2_with fail
    refine (qO _ _).mono ?_;rintro e Y ⟨rfl,rfl⟩
    go_wp2_with (at_builtin;go_must (refine dx rfl _ _ 168 5 rfl aZ kg q.heap.size _ _ _ rfl _ o _ G O rfl rfl (by omega) (by omega) ?_;intro v1 w5 V t))
    go_roundw
    case rel=>exact ⟨k+1,by omega,by omega,by go_num,N.trans (t.mono (by omega)),aQ W t.size,C.below t (by omega),by rw [K.out,show k+1-a=k-a+1 by omega];exact V,J⟩
    case measure=>simp [intOf];omega
   ·have j:=zq (mZ cL M a k r.out (.inr (by simpa using h)))
    have L:cL (ak M k)=false:=by simpa using h
    have u:=zq (show k=a+br cL (M.drop a) by have:=j.out;omega)
    clear h
    go_wp2_with (first | (with_reducible refine aG ?_;refine aq rfl _ rfl rfl T ?_) | (with_reducible refine aR ?_;refine ax _ rfl rfl T rfl ?_))
    refine (aO s c M l m _ (k) (by omega) _).mono ?_;rintro e y ⟨rfl,d⟩
    have f:=T.below d T.lt
    go_wp2_with (first | (with_reducible refine aG ?_;refine aq rfl _ rfl rfl f ?_) | (with_reducible refine aR ?_;refine ax _ rfl rfl f rfl ?_))
    refine (aO s c M l m _ (k) (by omega) _).mono ?_;rintro e z ⟨rfl,g⟩
    have C:=f.below g f.lt
    have o:=eH (eH p d (ae _)) g (ae _)
    go_wp2_with fail
    refine (qO _ _).mono ?_;rintro e Y ⟨rfl,rfl⟩
    have Q:=iZ (P:=am) z 168 9 5 aZ bA bo _ _ (k-a) _ o
    go_wp2_with fail
    refine aw (v:=aJ #[ac ⟨((M.drop a).take (k-a)).toArray⟩,aa ab (k:Int)]) (by simp [results,Tryz.results150,go_sem]) rfl ⟨by rw [j.out,<-u.out],n.trans (ey (by omega) d g)⟩
  ·obtain rfl:k=s.size:=by omega
   have j:=zq (mZ cL M a s.size r.out (.inl (by rw [x.out];exact ae _)))
   have u:=zq (show s.size=a+br cL (M.drop a) by have:=j.out;omega)
   have A:=ga M s.size (by rw [x.out];exact ae _)
   have D:decide (ak M s.size ≥ 0)=false:=by rw [A];rfl
   clear A
   go_wp2_with (first | (with_reducible refine aG ?_;refine aq rfl _ rfl rfl T ?_) | (with_reducible refine aR ?_;refine ax _ rfl rfl T rfl ?_))
   refine (aO s c M l m _ (s.size) (by omega) _).mono ?_;rintro e y ⟨rfl,d⟩
   have f:=T.below d T.lt
   have o:=eH p d (ae _)
   have Q:=iZ (P:=am) y 168 9 5 aZ bA bo _ _ (s.size-a) _ o
   go_wp2_with fail
   refine aw (v:=aJ #[ac ⟨((M.drop a).take (s.size-a)).toArray⟩,aa ab (s.size:Int)]) (by simp [results,Tryz.results150,go_sem]) rfl ⟨by rw [j.out,<-u.out],n.trans (d.mono (by omega))⟩
theorem ko (s:ByteArray) (c:Int->Int) (I:ex c) (a:Nat) (a3:s.size<=16384) (R:a<=s.size) (w:au) :
  aU am 150 #[eK s c,aa ab a,aa ab 5] w fun e w'=>e=aD (aJ #[ac ⟨(((ba c s.data.toList).drop a).take (br cJ ((ba c s.data.toList).drop a))).toArray⟩,aa ab (a+br cJ ((ba c s.data.toList).drop a):Nat)])/\aB w.heap.size w w':=by
 have m:=zq I
 clear I
 have x:Hid ((ba c s.data.toList).length=s.size):=by show _=_;rw [bL];simp
 generalize F:ba c s.data.toList=M at *
 have l:=zq F
 clear F
 go_enter Tryz.func150,Tryz.ntmps150
 go_wp2_with (refine bb rfl _ s c rfl rfl ?_;intro b q B a0 E)
 have G:=B.lt
 go_loopw [1,8] (fun i v wr=>∃k:Nat,a<=k/\k<=s.size/\i=aa ab k/\aB w.heap.size w wr/\q.heap.size<=wr.heap.size/\Txt wr b s c/\wr.ownsRow q.heap.size 5 1 v (k-a) (Hb.byteCells ((M.drop a).take (k-a)))/\Hid ((k-a)+br cJ (M.drop k)=br cJ (M.drop a))) (fun i _ _=>s.size-(intOf i).toNat)
 case atStart=>exact ⟨a,ae _,R,rfl,E,ae _,B,by rw [Nat.sub_self];exact iz _ _ _ _,by show _=_;omega⟩
 case round=>
  obtain ⟨k,S,Z,rfl,n,X,T,p,r⟩:=hrel
  have hs:=n.size
  have a2:=E.size
  by_cases U:k<s.size
  ·have H:k<M.length:=by rw [x.out];exact U
   have D:decide (ak M k ≥ 0)=true:=by have:=bX M k;simp;omega
   by_cases h:cJ (ak M k)=true
   ·have J:=zq (qI cJ M a k S H r.out h)
    have L:(cls (ak M k) != 5)=false:=by unfold cJ at h;simpa using h
    have G:0<=ak M k:=by simpa using D
    have O:ak M k<=255:=dS M k
    have K:=zq (show (M.drop a).take (k+1-a)=(M.drop a).take (k-a)++[(ak M k).toNat.toUInt8] by rw [show k+1-a=(k-a)+1 by omega,iT _ _ _ (by omega),show a+(k-a)=k by omega,eB _ _ H])
    clear h
    go_wp2_with (first | (with_reducible refine aG ?_;refine aq rfl _ rfl rfl T ?_) | (with_reducible refine aR ?_;refine ax _ rfl rfl T rfl ?_))
    refine (aO s c M l m _ (k) (by omega) _).mono ?_;rintro e y ⟨rfl,d⟩
    have f:=T.below d T.lt
    go_wp2_with (first | (with_reducible refine aG ?_;refine aq rfl _ rfl rfl f ?_) | (with_reducible refine aR ?_;refine ax _ rfl rfl f rfl ?_))
    refine (aO s c M l m _ (k) (by omega) _).mono ?_;rintro e z ⟨rfl,g⟩
    have C:=f.below g f.lt
    have o:=eH (eH p d (ae _)) g (ae _)
    have N:=n.trans (ey (by omega) d g)
    have W:q.heap.size<=z.heap.size:=aQ X (aQ d.size g.size)
    clear p d g T f n
    go_wp2_with fail
    refine (dv _ _).mono ?_;rintro e Y ⟨rfl,rfl⟩
    go_wp2_with (at_builtin;go_must (refine dx rfl _ _ 168 5 rfl aZ kg q.heap.size _ _ _ rfl _ o _ G O rfl rfl (by omega) (by omega) ?_;intro v1 w5 V t))
    go_roundw
    case rel=>exact ⟨k+1,by omega,by omega,by go_num,N.trans (t.mono (by omega)),aQ W t.size,C.below t (by omega),by rw [K.out,show k+1-a=k-a+1 by omega];exact V,J⟩
    case measure=>simp [intOf];omega
   ·have j:=zq (mZ cJ M a k r.out (.inr (by simpa using h)))
    have L:(cls (ak M k) != 5)=true:=by unfold cJ at h;simpa using h
    have u:=zq (show k=a+br cJ (M.drop a) by have:=j.out;omega)
    clear h
    go_wp2_with (first | (with_reducible refine aG ?_;refine aq rfl _ rfl rfl T ?_) | (with_reducible refine aR ?_;refine ax _ rfl rfl T rfl ?_))
    refine (aO s c M l m _ (k) (by omega) _).mono ?_;rintro e y ⟨rfl,d⟩
    have f:=T.below d T.lt
    go_wp2_with (first | (with_reducible refine aG ?_;refine aq rfl _ rfl rfl f ?_) | (with_reducible refine aR ?_;refine ax _ rfl rfl f rfl ?_))
    refine (aO s c M l m _ (k) (by omega) _).mono ?_;rintro e z ⟨rfl,g⟩
    have C:=f.below g f.lt
    have o:=eH (eH p d (ae _)) g (ae _)
    go_wp2_with fail
    refine (dv _ _).mono ?_;rintro e Y ⟨rfl,rfl⟩
    have Q:=iZ (P:=am) z 168 9 5 aZ bA bo _ _ (k-a) _ o
    go_wp2_with fail
    refine aw (v:=aJ #[ac ⟨((M.drop a).take (k-a)).toArray⟩,aa ab (k:Int)]) (by simp [results,Tryz.results150,go_sem]) rfl ⟨by rw [j.out,<-u.out],n.trans (ey (by omega) d g)⟩
  ·obtain rfl:k=s.size:=by omega
   have j:=zq (mZ cJ M a s.size r.out (.inl (by rw [x.out];exact ae _)))
   have u:=zq (show s.size=a+br cJ (M.drop a) by have:=j.out;omega)
   have A:=ga M s.size (by rw [x.out];exact ae _)
   have D:decide (ak M s.size ≥ 0)=false:=by rw [A];rfl
   clear A
   go_wp2_with (first | (with_reducible refine aG ?_;refine aq rfl _ rfl rfl T ?_) | (with_reducible refine aR ?_;refine ax _ rfl rfl T rfl ?_))
   refine (aO s c M l m _ (s.size) (by omega) _).mono ?_;rintro e y ⟨rfl,d⟩
   have f:=T.below d T.lt
   have o:=eH p d (ae _)
   have Q:=iZ (P:=am) y 168 9 5 aZ bA bo _ _ (s.size-a) _ o
   go_wp2_with fail
   refine aw (v:=aJ #[ac ⟨((M.drop a).take (s.size-a)).toArray⟩,aa ab (s.size:Int)]) (by simp [results,Tryz.results150,go_sem]) rfl ⟨by rw [j.out,<-u.out],n.trans (d.mono (by omega))⟩
end Go.Proofs.YtbojljpldcijgaaGreat
