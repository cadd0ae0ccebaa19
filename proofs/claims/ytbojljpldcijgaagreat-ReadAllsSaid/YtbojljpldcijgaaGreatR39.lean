/- Parts of the proof. -/
import Derived.Test.YtbojljpldcijgaaGreatR01
import Derived.Test.YtbojljpldcijgaaGreatR37
import Derived.Test.YtbojljpldcijgaaGreatR38
set_option maxHeartbeats 12800000
set_option maxRecDepth 100000
open Go renaming Calls -> aU, World -> au, bodyPost_ret -> aw
open Go.IntKind renaming i64 -> ab
open Go.IntWalk renaming u8_in -> cP
open Go.Proofs.Tryz renaming func104 -> db, ntmps104 -> cM, prog -> am, results104 -> cj, underlying168 -> aZ, underlying5 -> bA, underlying9 -> bo
open Go.RowKit renaming Below -> aB
open Go.RowKit.Below renaming alloc -> cR, refl -> ap, setCell -> ch
open Go.Value renaming int -> aa
open Go.World renaming setCell -> bw
open List renaming length_drop -> aN
open Nat renaming le_refl -> ae, lt_of_lt_of_le -> aA
namespace Go.Proofs.YtbojljpldcijgaaGreat
open Go.RowKit Hb
theorem dE {a b:au} {A:Obj} {c d f g h i:Value} {t:TypeId} (j:aB ((a.alloc A).alloc (.cells #[c,d,f,g,h,i] t)).heap.size ((a.alloc A).alloc (.cells #[c,d,f,g,h,i] t)) b) :
  b.cell? ⟨a.heap.size+1,0,none⟩=some c/\b.cell? ⟨a.heap.size+1,1,none⟩=some d/\b.cell? ⟨a.heap.size+1,2,none⟩=some f/\b.cell? ⟨a.heap.size+1,3,none⟩=some g/\b.cell? ⟨a.heap.size+1,4,none⟩=some h/\b.cell? ⟨a.heap.size+1,5,none⟩=some i/\(∀o,b.frozen? ⟨a.heap.size+1,o,none⟩=false)/\a.heap.size+1<b.heap.size:=by
 have m:(a.alloc A).heap.size=a.heap.size+1:=by simp
 have k:(a.alloc A).heap.size<((a.alloc A).alloc (.cells #[c,d,f,g,h,i] t)).heap.size:=by simp
 rw [<-m]
 generalize a.alloc A=W at *
 have e:∀o v,(#[c,d,f,g,h,i]:Array Value)[o]? = some v->b.cell? ⟨W.heap.size,o,none⟩=some v:=fun o v n=>(j.cell (p:=⟨W.heap.size,o,none⟩) k).trans ((World.cell?_alloc_new W _ t o).trans n)
 refine ⟨e _ _ rfl,e _ _ rfl,e _ _ rfl,e _ _ rfl,e _ _ rfl,e _ _ rfl,fun o=>?_,aA k j.size⟩
 rw [j.frozen (p:=⟨W.heap.size,o,none⟩) k]
 have l:(W.alloc (.cells #[c,d,f,g,h,i] t)).heap[W.heap.size]? = some (.cells #[c,d,f,g,h,i] t):=by show (W.heap.push _)[W.heap.size]? = _;simp
 unfold World.frozen?;simp only [l];simp
theorem kY (w:au) (o:Obj) (g i:Nat) (h:g<w.heap.size):(w.alloc o).cell? ⟨g,i,none⟩=w.cell? ⟨g,i,none⟩:=((ap w.heap.size w).alloc (ae _) o).cell (p:=⟨g,i,none⟩) h
theorem pn (w:au) (p:Addr) (u:Value):(w.setCell p u).heap.size=w.heap.size:=by simp [bw]
theorem ce {B:Nat} {w a:au} (h:aB B w a) (b:B<=a.heap.size) (A c:Obj):aB B w ((a.alloc A).alloc c):=(h.alloc b _).alloc (Nat.le_trans b (by simp)) _
theorem ui (s:ByteArray) (a:Int->Int) (l:ex a) (p:Nat) (R:p<s.size) (S:s.size<=16384) (K:(ak (ba a s.data.toList) p==46)=false) (U:(cls (ak (ba a s.data.toList) p)==2)=false) (V:(cls (ak (ba a s.data.toList) p)==3)=false) (X:(cls (ak (ba a s.data.toList) p)==5)=false) (W:(cls (ak (ba a s.data.toList) p)==4)=false) (H:(ak (ba a s.data.toList) p==33)=false) (L:(ak (ba a s.data.toList) p==59)=false) (Y:(cls (ak (ba a s.data.toList) p)==6)=false) (J:(ak (ba a s.data.toList) p==39)=false) (I:(ak (ba a s.data.toList) p==34)=false) (w:au) :
  aU am 104 #[eK s a,aa ab p] w fun e w'=>dL (cY 7) e/\aB w.heap.size w w':=by
 have n:=zq l
 clear l
 have k:Hid ((ba a s.data.toList).length=s.size):=by show _=_;rw [bL];simp
 generalize j:ba a s.data.toList=M at *
 have m:=zq j
 clear j
 have q:0<=ak M p:=by have:=bX M p;have:=k.out;omega
 have r:=dS M p
 have T:IntKind.u8.wrap (ak M p)=ak M p:=cP _ (by omega)
 have y:=bS cL (M.drop p)
 have z:=bS cJ (M.drop p)
 rw [aN,k.out] at y z
 go_enter db,cM
 go_wp2_with (first | (refine bb rfl _ s a rfl rfl ?_;intro b f g Q h;have c:=g.below ((ap _ _).alloc (ae _) aX) g.lt;unfold aX at c) | (with_reducible refine aG ?_;refine aq rfl _ rfl rfl c ?_))
 refine (aO s a M m n _ p (by omega) _).mono ?_;rintro e w2 ⟨rfl,d⟩
 have x:=h.size
 have N:=g.lt
 have G:=c.below d c.lt
 have i:aB (f.alloc aX).heap.size (f.alloc aX) w2:=d
 have t:f.heap.size<w2.heap.size:=aA (by simp) d.size
 have u:f.heap.size<w2.heap.size+1:=by omega
 obtain ⟨A,B,C,D,E,F,Z⟩:=bR i (by simp)
 have o:aB w.heap.size w w2:=(h.alloc x aX).trans (i.mono (by simp;omega))
 clear h d c
 go_wp2_with fail
 refine (dv _ _).mono ?_;rintro e w3 ⟨rfl,rfl⟩
 have O:=fun w'=>dQ (P:=am) 168 9 5 aZ bA bo (ak M p) q r w'
 go_wp2_with fail
 refine aw (v:=bq (cY 7)) (by simp [bq,cY,results,cj,go_sem,A,B,C,D,E,F,kY,t,u]) rfl ⟨rfl,by repeat (first | with_reducible exact o | with_reducible refine ch ?_ (by dsimp only;omega) _ | with_reducible refine cR ?_ (by simp [bw];omega) _)⟩
theorem wI (s:ByteArray) (a:Int->Int) (l:ex a) (p:Nat) (N:p<s.size) (O:s.size<=16384) (I:(ak (ba a s.data.toList) p==46)=false) (R:(cls (ak (ba a s.data.toList) p)==2)=false) (S:(cls (ak (ba a s.data.toList) p)==3)=false) (U:(cls (ak (ba a s.data.toList) p)==5)=false) (T:(cls (ak (ba a s.data.toList) p)==4)=false) (H:(ak (ba a s.data.toList) p==33)=true) (w:au) :
  aU am 104 #[eK s a,aa ab p] w fun e w'=>dL ⟨1,[(ak (ba a s.data.toList) p).toNat.toUInt8],0,p,p+1,0⟩ e/\aB w.heap.size w w':=by
 have n:=zq l
 clear l
 have k:Hid ((ba a s.data.toList).length=s.size):=by show _=_;rw [bL];simp
 generalize j:ba a s.data.toList=M at *
 have m:=zq j
 clear j
 have q:0<=ak M p:=by have:=bX M p;have:=k.out;omega
 have r:=dS M p
 have Q:IntKind.u8.wrap (ak M p)=ak M p:=cP _ (by omega)
 have y:=bS cL (M.drop p)
 have z:=bS cJ (M.drop p)
 rw [aN,k.out] at y z
 go_enter db,cM
 go_wp2_with (first | (refine bb rfl _ s a rfl rfl ?_;intro b f g L h;have c:=g.below ((ap _ _).alloc (ae _) aX) g.lt;unfold aX at c) | (with_reducible refine aG ?_;refine aq rfl _ rfl rfl c ?_))
 refine (aO s a M m n _ p (by omega) _).mono ?_;rintro e w2 ⟨rfl,d⟩
 have x:=h.size
 have J:=g.lt
 have G:=c.below d c.lt
 have i:aB (f.alloc aX).heap.size (f.alloc aX) w2:=d
 have t:f.heap.size<w2.heap.size:=aA (by simp) d.size
 have u:f.heap.size<w2.heap.size+1:=by omega
 obtain ⟨A,B,C,D,E,F,V⟩:=bR i (by simp)
 have o:aB w.heap.size w w2:=(h.alloc x aX).trans (i.mono (by simp;omega))
 clear h d c
 go_wp2_with fail
 refine (dv _ _).mono ?_;rintro e W ⟨rfl,rfl⟩
 have K:=fun w'=>dQ (P:=am) 168 9 5 aZ bA bo (ak M p) q r w'
 go_wp2_with fail
 refine aw (v:=bq ⟨1,[(ak M p).toNat.toUInt8],0,p,p+1,0⟩) (by simp [bq,results,cj,go_sem,A,B,C,D,E,F,kY,t,u]) rfl ⟨rfl,by repeat (first | with_reducible exact o | with_reducible refine ch ?_ (by dsimp only;omega) _ | with_reducible refine cR ?_ (by simp [bw];omega) _)⟩
theorem uh (s:ByteArray) (a:Int->Int) (l:ex a) (p:Nat) (O:p<s.size) (Q:s.size<=16384) (I:(ak (ba a s.data.toList) p==46)=false) (S:(cls (ak (ba a s.data.toList) p)==2)=false) (T:(cls (ak (ba a s.data.toList) p)==3)=false) (V:(cls (ak (ba a s.data.toList) p)==5)=false) (U:(cls (ak (ba a s.data.toList) p)==4)=false) (H:(ak (ba a s.data.toList) p==33)=false) (J:(ak (ba a s.data.toList) p==59)=true) (w:au) :
  aU am 104 #[eK s a,aa ab p] w fun e w'=>dL ⟨1,[(ak (ba a s.data.toList) p).toNat.toUInt8],0,p,p+1,0⟩ e/\aB w.heap.size w w':=by
 have n:=zq l
 clear l
 have k:Hid ((ba a s.data.toList).length=s.size):=by show _=_;rw [bL];simp
 generalize j:ba a s.data.toList=M at *
 have m:=zq j
 clear j
 have q:0<=ak M p:=by have:=bX M p;have:=k.out;omega
 have r:=dS M p
 have R:IntKind.u8.wrap (ak M p)=ak M p:=cP _ (by omega)
 have y:=bS cL (M.drop p)
 have z:=bS cJ (M.drop p)
 rw [aN,k.out] at y z
 go_enter db,cM
 go_wp2_with (first | (refine bb rfl _ s a rfl rfl ?_;intro b f g N h;have c:=g.below ((ap _ _).alloc (ae _) aX) g.lt;unfold aX at c) | (with_reducible refine aG ?_;refine aq rfl _ rfl rfl c ?_))
 refine (aO s a M m n _ p (by omega) _).mono ?_;rintro e w2 ⟨rfl,d⟩
 have x:=h.size
 have K:=g.lt
 have G:=c.below d c.lt
 have i:aB (f.alloc aX).heap.size (f.alloc aX) w2:=d
 have t:f.heap.size<w2.heap.size:=aA (by simp) d.size
 have u:f.heap.size<w2.heap.size+1:=by omega
 obtain ⟨A,B,C,D,E,F,W⟩:=bR i (by simp)
 have o:aB w.heap.size w w2:=(h.alloc x aX).trans (i.mono (by simp;omega))
 clear h d c
 go_wp2_with fail
 refine (dv _ _).mono ?_;rintro e X ⟨rfl,rfl⟩
 have L:=fun w'=>dQ (P:=am) 168 9 5 aZ bA bo (ak M p) q r w'
 go_wp2_with fail
 refine aw (v:=bq ⟨1,[(ak M p).toNat.toUInt8],0,p,p+1,0⟩) (by simp [bq,results,cj,go_sem,A,B,C,D,E,F,kY,t,u]) rfl ⟨rfl,by repeat (first | with_reducible exact o | with_reducible refine ch ?_ (by dsimp only;omega) _ | with_reducible refine cR ?_ (by simp [bw];omega) _)⟩
theorem ug (s:ByteArray) (a:Int->Int) (l:ex a) (p:Nat) (O:p<s.size) (Q:s.size<=16384) (I:(ak (ba a s.data.toList) p==46)=false) (S:(cls (ak (ba a s.data.toList) p)==2)=false) (T:(cls (ak (ba a s.data.toList) p)==3)=false) (V:(cls (ak (ba a s.data.toList) p)==5)=false) (U:(cls (ak (ba a s.data.toList) p)==4)=false) (H:(ak (ba a s.data.toList) p==33)=false) (J:(ak (ba a s.data.toList) p==59)=false) (W:(cls (ak (ba a s.data.toList) p)==6)=true) (w:au) :
  aU am 104 #[eK s a,aa ab p] w fun e w'=>dL ⟨6,[(ak (ba a s.data.toList) p).toNat.toUInt8],0,p,p+1,0⟩ e/\aB w.heap.size w w':=by
 have n:=zq l
 clear l
 have k:Hid ((ba a s.data.toList).length=s.size):=by show _=_;rw [bL];simp
 generalize j:ba a s.data.toList=M at *
 have m:=zq j
 clear j
 have q:0<=ak M p:=by have:=bX M p;have:=k.out;omega
 have r:=dS M p
 have R:IntKind.u8.wrap (ak M p)=ak M p:=cP _ (by omega)
 have y:=bS cL (M.drop p)
 have z:=bS cJ (M.drop p)
 rw [aN,k.out] at y z
 go_enter db,cM
 go_wp2_with (first | (refine bb rfl _ s a rfl rfl ?_;intro b f g N h;have c:=g.below ((ap _ _).alloc (ae _) aX) g.lt;unfold aX at c) | (with_reducible refine aG ?_;refine aq rfl _ rfl rfl c ?_))
 refine (aO s a M m n _ p (by omega) _).mono ?_;rintro e w2 ⟨rfl,d⟩
 have x:=h.size
 have K:=g.lt
 have G:=c.below d c.lt
 have i:aB (f.alloc aX).heap.size (f.alloc aX) w2:=d
 have t:f.heap.size<w2.heap.size:=aA (by simp) d.size
 have u:f.heap.size<w2.heap.size+1:=by omega
 obtain ⟨A,B,C,D,E,F,X⟩:=bR i (by simp)
 have o:aB w.heap.size w w2:=(h.alloc x aX).trans (i.mono (by simp;omega))
 clear h d c
 go_wp2_with fail
 refine (dv _ _).mono ?_;rintro e Y ⟨rfl,rfl⟩
 have L:=fun w'=>dQ (P:=am) 168 9 5 aZ bA bo (ak M p) q r w'
 go_wp2_with fail
 refine aw (v:=bq ⟨6,[(ak M p).toNat.toUInt8],0,p,p+1,0⟩) (by simp [bq,results,cj,go_sem,A,B,C,D,E,F,kY,t,u]) rfl ⟨rfl,by repeat (first | with_reducible exact o | with_reducible refine ch ?_ (by dsimp only;omega) _ | with_reducible refine cR ?_ (by simp [bw];omega) _)⟩
theorem nN (s:ByteArray) (a:Int->Int) (B:ex a) (p:Nat) (hp:p<s.size) (N:s.size<=16384) (Q:(ak (ba a s.data.toList) p==46)=false) (k2:(cls (ak (ba a s.data.toList) p)==2)=true) (I:100<(((ba a s.data.toList).drop p).take (br cL ((ba a s.data.toList).drop p))).length) (w:au) :
  aU am 104 #[eK s a,aa ab p] w fun e w'=>dL (cY 2) e/\aB w.heap.size w w':=by
 have t:=zq B
 clear B
 have A:Hid ((ba a s.data.toList).length=s.size):=by show _=_;rw [bL];simp
 generalize y:ba a s.data.toList=M at *
 have r:=zq y
 clear y
 have F:0<=ak M p:=by have:=bX M p;have:=A.out;omega
 have G:=dS M p
 have a7:IntKind.u8.wrap (ak M p)=ak M p:=cP _ (by omega)
 have K:=bS cL (M.drop p)
 have L:=bS cJ (M.drop p)
 rw [aN,A.out] at K L
 have a6:decide ((100:Int)<(((M.drop p).take (br cL (M.drop p))).length:Int))=true:=decide_eq_true (by omega)
 clear I
 go_enter db,cM
 go_wp2_with (first | (refine bb rfl _ s a rfl rfl ?_;intro b f i a5 j;have c:=i.below ((ap _ _).alloc (ae _) aX) i.lt;unfold aX at c) | (with_reducible refine aG ?_;refine aq rfl _ rfl rfl c ?_))
 refine (aO s a M r t _ p (by omega) _).mono ?_;rintro e w2 ⟨rfl,g⟩
 have J:=j.size
 have a0:=i.lt
 have d:=c.below g c.lt
 have h:aB (f.alloc aX).heap.size (f.alloc aX) w2:=g
 have a1:f.heap.size<w2.heap.size:=aA (by simp) g.size
 have a2:f.heap.size<w2.heap.size+1:=by omega
 obtain ⟨k,l,m,n,o,q,C⟩:=bR h (by simp)
 have D:aB w.heap.size w w2:=(j.alloc J aX).trans (h.mono (by simp;omega))
 clear j g c
 go_wp2_with fail
 refine (dv _ _).mono ?_;rintro e w3 ⟨rfl,rfl⟩
 have H:=fun w'=>dQ (P:=am) 168 9 5 aZ bA bo (ak M p) F G w'
 go_wp2_with (first | (with_reducible refine aG ?_;refine aq rfl _ rfl rfl (d.below (ce (ap w2.heap.size w2) (ae _) _ _) d.lt) ?_) | (with_reducible refine aR ?_;refine ax _ rfl rfl (d.below (ce (ap w2.heap.size w2) (ae _) _ _) d.lt) rfl ?_))
 refine (jp s a t.out p N (by omega) _).mono ?_;rintro e w4 ⟨rfl,u⟩;rw [r.out]
 obtain ⟨R,S,T,U,V,W,Y,Z⟩:=dE u
 have x:aB w2.heap.size w2 w4:=(ce (ap w2.heap.size w2) (ae _) _ _).trans (u.mono (by simp;omega))
 clear k l m n o q C
 obtain ⟨k,l,m,n,o,q,C⟩:=bR (h.trans (x.mono (by simp;omega))) (by simp)
 generalize z:(M.drop p).take (br cL (M.drop p))=X at *
 have O:=zq z
 clear z h d H
 have E:=D.trans (x.mono (by omega))
 have a4:w2.heap.size<=w4.heap.size:=by omega
 have a3:f.heap.size<w4.heap.size:=by omega
 go_wp2_with fail
 refine aw (v:=bq (cY 2)) (by simp [bq,cY,results,cj,go_sem,k,l,m,n,o,q]) rfl ⟨rfl,by repeat (first | with_reducible exact E | with_reducible refine ch ?_ (by dsimp only;omega) _ | with_reducible refine cR ?_ (by simp [bw];omega) _)⟩
theorem sG (s:ByteArray) (a:Int->Int) (B:ex a) (p:Nat) (hp:p<s.size) (O:s.size<=16384) (Q:(ak (ba a s.data.toList) p==46)=false) (k2:(cls (ak (ba a s.data.toList) p)==2)=true) (J:¬100<(((ba a s.data.toList).drop p).take (br cL ((ba a s.data.toList).drop p))).length) (w:au) :
  aU am 104 #[eK s a,aa ab p] w fun e w'=>dL ⟨1,(((ba a s.data.toList).drop p).take (br cL ((ba a s.data.toList).drop p))),0,p,p+br cL ((ba a s.data.toList).drop p),0⟩ e/\aB w.heap.size w w':=by
 have t:=zq B
 clear B
 have A:Hid ((ba a s.data.toList).length=s.size):=by show _=_;rw [bL];simp
 generalize y:ba a s.data.toList=M at *
 have r:=zq y
 clear y
 have G:0<=ak M p:=by have:=bX M p;have:=A.out;omega
 have H:=dS M p
 have a7:IntKind.u8.wrap (ak M p)=ak M p:=cP _ (by omega)
 have L:=bS cL (M.drop p)
 have N:=bS cJ (M.drop p)
 rw [aN,A.out] at L N
 have a6:decide ((100:Int)<(((M.drop p).take (br cL (M.drop p))).length:Int))=false:=decide_eq_false (by omega)
 clear J
 go_enter db,cM
 go_wp2_with (first | (refine bb rfl _ s a rfl rfl ?_;intro b f i a5 j;have c:=i.below ((ap _ _).alloc (ae _) aX) i.lt;unfold aX at c) | (with_reducible refine aG ?_;refine aq rfl _ rfl rfl c ?_))
 refine (aO s a M r t _ p (by omega) _).mono ?_;rintro e w2 ⟨rfl,g⟩
 have K:=j.size
 have a0:=i.lt
 have d:=c.below g c.lt
 have h:aB (f.alloc aX).heap.size (f.alloc aX) w2:=g
 have a1:f.heap.size<w2.heap.size:=aA (by simp) g.size
 have a2:f.heap.size<w2.heap.size+1:=by omega
 obtain ⟨k,l,m,n,o,q,C⟩:=bR h (by simp)
 have E:aB w.heap.size w w2:=(j.alloc K aX).trans (h.mono (by simp;omega))
 clear j g c
 go_wp2_with fail
 refine (dv _ _).mono ?_;rintro e w3 ⟨rfl,rfl⟩
 have I:=fun w'=>dQ (P:=am) 168 9 5 aZ bA bo (ak M p) G H w'
 go_wp2_with (first | (with_reducible refine aG ?_;refine aq rfl _ rfl rfl (d.below (ce (ap w2.heap.size w2) (ae _) _ _) d.lt) ?_) | (with_reducible refine aR ?_;refine ax _ rfl rfl (d.below (ce (ap w2.heap.size w2) (ae _) _ _) d.lt) rfl ?_))
 refine (jp s a t.out p O (by omega) _).mono ?_;rintro e w4 ⟨rfl,u⟩;rw [r.out]
 obtain ⟨R,S,T,U,V,W,Y,Z⟩:=dE u
 have x:aB w2.heap.size w2 w4:=(ce (ap w2.heap.size w2) (ae _) _ _).trans (u.mono (by simp;omega))
 clear k l m n o q C
 obtain ⟨k,l,m,n,o,q,C⟩:=bR (h.trans (x.mono (by simp;omega))) (by simp)
 generalize z:(M.drop p).take (br cL (M.drop p))=X at *
 have D:=zq z
 clear z h d I
 have F:=E.trans (x.mono (by omega))
 have a4:w2.heap.size<=w4.heap.size:=by omega
 have a3:f.heap.size<w4.heap.size:=by omega
 go_wp2_with fail
 refine aw (v:=bq ⟨1,X,0,p,p+br cL (M.drop p),0⟩) (by simp [bq,results,cj,go_sem,k,l,m,n,o,q]) rfl ⟨by rw [D.out];rfl,by repeat (first | with_reducible exact F | with_reducible refine ch ?_ (by dsimp only;omega) _ | with_reducible refine cR ?_ (by simp [bw];omega) _)⟩
theorem rr {a b:au} {g:Nat} {y f h i j l k:Value} (m:a.cell? ⟨g,0,none⟩=some y) (q:a.cell? ⟨g,1,none⟩=some f) (r:a.cell? ⟨g,2,none⟩=some h) (s:a.cell? ⟨g,3,none⟩=some i) (t:a.cell? ⟨g,4,none⟩=some j) (u:a.cell? ⟨g,5,none⟩=some l) (w:∀o,a.frozen? ⟨g,o,none⟩=false) (v:g<a.heap.size)
  (c:aB (a.setCell ⟨g,0,none⟩ k).heap.size (a.setCell ⟨g,0,none⟩ k) b) :
  b.cell? ⟨g,0,none⟩=some k/\b.cell? ⟨g,1,none⟩=some f/\b.cell? ⟨g,2,none⟩=some h/\b.cell? ⟨g,3,none⟩=some i/\b.cell? ⟨g,4,none⟩=some j/\b.cell? ⟨g,5,none⟩=some l/\(∀o,b.frozen? ⟨g,o,none⟩=false)/\g<b.heap.size:=by
 have d:g<(a.setCell ⟨g,0,none⟩ k).heap.size:=by rw [pn];exact v
 have e:∀o,b.cell? ⟨g,o,none⟩=(a.setCell ⟨g,0,none⟩ k).cell? ⟨g,o,none⟩:=fun o=>c.cell (p:=⟨g,o,none⟩) d
 have n:∀o,o≠0->(a.setCell ⟨g,0,none⟩ k).cell? ⟨g,o,none⟩=a.cell? ⟨g,o,none⟩:=fun o z=>World.cell?_setCell_other a _ _ _ (by intro x;injection x with _ h2 _;omega)
 exact ⟨(e 0).trans (World.cell?_setCell_same a _ _ m),(e 1).trans ((n 1 (by decide)).trans q),(e 2).trans ((n 2 (by decide)).trans r),(e 3).trans ((n 3 (by decide)).trans s),(e 4).trans ((n 4 (by decide)).trans t),(e 5).trans ((n 5 (by decide)).trans u),fun o=>(c.frozen (p:=⟨g,o,none⟩) d).trans ((kh _ _ _ _).trans (w o)),aA d c.size⟩
theorem mE (s:ByteArray) (a:Int->Int) (B:ex a) (p:Nat) (hp:p<s.size) (N:s.size<=16384) (Q:(ak (ba a s.data.toList) p==46)=false) (k2:(cls (ak (ba a s.data.toList) p)==2)=false) (k3:(cls (ak (ba a s.data.toList) p)==3)=true) (I:100<(((ba a s.data.toList).drop p).take (br cL ((ba a s.data.toList).drop p))).length) (w:au) :
  aU am 104 #[eK s a,aa ab p] w fun e w'=>dL (cY 2) e/\aB w.heap.size w w':=by
 have t:=zq B
 clear B
 have A:Hid ((ba a s.data.toList).length=s.size):=by show _=_;rw [bL];simp
 generalize y:ba a s.data.toList=M at *
 have r:=zq y
 clear y
 have F:0<=ak M p:=by have:=bX M p;have:=A.out;omega
 have G:=dS M p
 have a7:IntKind.u8.wrap (ak M p)=ak M p:=cP _ (by omega)
 have K:=bS cL (M.drop p)
 have L:=bS cJ (M.drop p)
 rw [aN,A.out] at K L
 have a6:decide ((100:Int)<(((M.drop p).take (br cL (M.drop p))).length:Int))=true:=decide_eq_true (by omega)
 clear I
 go_enter db,cM
 go_wp2_with (first | (refine bb rfl _ s a rfl rfl ?_;intro b f i a5 j;have c:=i.below ((ap _ _).alloc (ae _) aX) i.lt;unfold aX at c) | (with_reducible refine aG ?_;refine aq rfl _ rfl rfl c ?_))
 refine (aO s a M r t _ p (by omega) _).mono ?_;rintro e w2 ⟨rfl,g⟩
 have J:=j.size
 have a0:=i.lt
 have d:=c.below g c.lt
 have h:aB (f.alloc aX).heap.size (f.alloc aX) w2:=g
 have a1:f.heap.size<w2.heap.size:=aA (by simp) g.size
 have a2:f.heap.size<w2.heap.size+1:=by omega
 obtain ⟨k,l,m,n,o,q,C⟩:=bR h (by simp)
 have D:aB w.heap.size w w2:=(j.alloc J aX).trans (h.mono (by simp;omega))
 clear j g c
 go_wp2_with fail
 refine (dv _ _).mono ?_;rintro e w3 ⟨rfl,rfl⟩
 have H:=fun w'=>dQ (P:=am) 168 9 5 aZ bA bo (ak M p) F G w'
 go_wp2_with (first | (with_reducible refine aG ?_;refine aq rfl _ rfl rfl (d.below (ce (ap w2.heap.size w2) (ae _) _ _) d.lt) ?_) | (with_reducible refine aR ?_;refine ax _ rfl rfl (d.below (ce (ap w2.heap.size w2) (ae _) _ _) d.lt) rfl ?_))
 refine (jp s a t.out p N (by omega) _).mono ?_;rintro e w4 ⟨rfl,u⟩;rw [r.out]
 obtain ⟨R,S,T,U,V,W,Y,Z⟩:=dE u
 have x:aB w2.heap.size w2 w4:=(ce (ap w2.heap.size w2) (ae _) _ _).trans (u.mono (by simp;omega))
 clear k l m n o q C
 obtain ⟨k,l,m,n,o,q,C⟩:=bR (h.trans (x.mono (by simp;omega))) (by simp)
 generalize z:(M.drop p).take (br cL (M.drop p))=X at *
 have O:=zq z
 clear z h d H
 have E:=D.trans (x.mono (by omega))
 have a4:w2.heap.size<=w4.heap.size:=by omega
 have a3:f.heap.size<w4.heap.size:=by omega
 go_wp2_with fail
 refine aw (v:=bq (cY 2)) (by simp [bq,cY,results,cj,go_sem,k,l,m,n,o,q]) rfl ⟨rfl,by repeat (first | with_reducible exact E | with_reducible refine ch ?_ (by dsimp only;omega) _ | with_reducible refine cR ?_ (by simp [bw];omega) _)⟩
theorem ql (s:ByteArray) (a:Int->Int) (B:ex a) (p:Nat) (hp:p<s.size) (O:s.size<=16384) (Q:(ak (ba a s.data.toList) p==46)=false) (k2:(cls (ak (ba a s.data.toList) p)==2)=false) (k3:(cls (ak (ba a s.data.toList) p)==3)=true) (J:¬100<(((ba a s.data.toList).drop p).take (br cL ((ba a s.data.toList).drop p))).length) (w:au) :
  aU am 104 #[eK s a,aa ab p] w fun e w'=>dL ⟨3,(((ba a s.data.toList).drop p).take (br cL ((ba a s.data.toList).drop p))),0,p,p+br cL ((ba a s.data.toList).drop p),0⟩ e/\aB w.heap.size w w':=by
 have t:=zq B
 clear B
 have A:Hid ((ba a s.data.toList).length=s.size):=by show _=_;rw [bL];simp
 generalize y:ba a s.data.toList=M at *
 have r:=zq y
 clear y
 have G:0<=ak M p:=by have:=bX M p;have:=A.out;omega
 have H:=dS M p
 have a7:IntKind.u8.wrap (ak M p)=ak M p:=cP _ (by omega)
 have L:=bS cL (M.drop p)
 have N:=bS cJ (M.drop p)
 rw [aN,A.out] at L N
 have a6:decide ((100:Int)<(((M.drop p).take (br cL (M.drop p))).length:Int))=false:=decide_eq_false (by omega)
 clear J
 go_enter db,cM
 go_wp2_with (first | (refine bb rfl _ s a rfl rfl ?_;intro b f i a5 j;have c:=i.below ((ap _ _).alloc (ae _) aX) i.lt;unfold aX at c) | (with_reducible refine aG ?_;refine aq rfl _ rfl rfl c ?_))
 refine (aO s a M r t _ p (by omega) _).mono ?_;rintro e w2 ⟨rfl,g⟩
 have K:=j.size
 have a0:=i.lt
 have d:=c.below g c.lt
 have h:aB (f.alloc aX).heap.size (f.alloc aX) w2:=g
 have a1:f.heap.size<w2.heap.size:=aA (by simp) g.size
 have a2:f.heap.size<w2.heap.size+1:=by omega
 obtain ⟨k,l,m,n,o,q,C⟩:=bR h (by simp)
 have E:aB w.heap.size w w2:=(j.alloc K aX).trans (h.mono (by simp;omega))
 clear j g c
 go_wp2_with fail
 refine (dv _ _).mono ?_;rintro e w3 ⟨rfl,rfl⟩
 have I:=fun w'=>dQ (P:=am) 168 9 5 aZ bA bo (ak M p) G H w'
 go_wp2_with (first | (with_reducible refine aG ?_;refine aq rfl _ rfl rfl (d.below (ce (ap w2.heap.size w2) (ae _) _ _) d.lt) ?_) | (with_reducible refine aR ?_;refine ax _ rfl rfl (d.below (ce (ap w2.heap.size w2) (ae _) _ _) d.lt) rfl ?_))
 refine (jp s a t.out p O (by omega) _).mono ?_;rintro e w4 ⟨rfl,u⟩;rw [r.out]
 obtain ⟨R,S,T,U,V,W,Y,Z⟩:=dE u
 have x:aB w2.heap.size w2 w4:=(ce (ap w2.heap.size w2) (ae _) _ _).trans (u.mono (by simp;omega))
 clear k l m n o q C
 obtain ⟨k,l,m,n,o,q,C⟩:=bR (h.trans (x.mono (by simp;omega))) (by simp)
 generalize z:(M.drop p).take (br cL (M.drop p))=X at *
 have D:=zq z
 clear z h d I
 have F:=E.trans (x.mono (by omega))
 have a4:w2.heap.size<=w4.heap.size:=by omega
 have a3:f.heap.size<w4.heap.size:=by omega
 go_wp2_with fail
 refine aw (v:=bq ⟨3,X,0,p,p+br cL (M.drop p),0⟩) (by simp [bq,results,cj,go_sem,k,l,m,n,o,q]) rfl ⟨by rw [D.out];rfl,by repeat (first | with_reducible exact F | with_reducible refine ch ?_ (by dsimp only;omega) _ | with_reducible refine cR ?_ (by simp [bw];omega) _)⟩
theorem pg (s:ByteArray) (a:Int->Int) (B:ex a) (p:Nat) (hp:p<s.size) (N:s.size<=16384) (Q:(ak (ba a s.data.toList) p==46)=false) (k2:(cls (ak (ba a s.data.toList) p)==2)=false) (k3:(cls (ak (ba a s.data.toList) p)==3)=false) (k5:(cls (ak (ba a s.data.toList) p)==5)=true) (I:100<(((ba a s.data.toList).drop p).take (br cJ ((ba a s.data.toList).drop p))).length) (w:au) :
  aU am 104 #[eK s a,aa ab p] w fun e w'=>dL (cY 2) e/\aB w.heap.size w w':=by
 have t:=zq B
 clear B
 have A:Hid ((ba a s.data.toList).length=s.size):=by show _=_;rw [bL];simp
 generalize y:ba a s.data.toList=M at *
 have r:=zq y
 clear y
 have F:0<=ak M p:=by have:=bX M p;have:=A.out;omega
 have G:=dS M p
 have a7:IntKind.u8.wrap (ak M p)=ak M p:=cP _ (by omega)
 have K:=bS cL (M.drop p)
 have L:=bS cJ (M.drop p)
 rw [aN,A.out] at K L
 have a6:decide ((100:Int)<(((M.drop p).take (br cJ (M.drop p))).length:Int))=true:=decide_eq_true (by omega)
 clear I
 go_enter db,cM
 go_wp2_with (first | (refine bb rfl _ s a rfl rfl ?_;intro b f i a5 j;have c:=i.below ((ap _ _).alloc (ae _) aX) i.lt;unfold aX at c) | (with_reducible refine aG ?_;refine aq rfl _ rfl rfl c ?_))
 refine (aO s a M r t _ p (by omega) _).mono ?_;rintro e w2 ⟨rfl,g⟩
 have J:=j.size
 have a0:=i.lt
 have d:=c.below g c.lt
 have h:aB (f.alloc aX).heap.size (f.alloc aX) w2:=g
 have a1:f.heap.size<w2.heap.size:=aA (by simp) g.size
 have a2:f.heap.size<w2.heap.size+1:=by omega
 obtain ⟨k,l,m,n,o,q,C⟩:=bR h (by simp)
 have D:aB w.heap.size w w2:=(j.alloc J aX).trans (h.mono (by simp;omega))
 clear j g c
 go_wp2_with fail
 refine (dv _ _).mono ?_;rintro e w3 ⟨rfl,rfl⟩
 have H:=fun w'=>dQ (P:=am) 168 9 5 aZ bA bo (ak M p) F G w'
 go_wp2_with (first | (with_reducible refine aG ?_;refine aq rfl _ rfl rfl (d.below (ce (ap w2.heap.size w2) (ae _) _ _) d.lt) ?_) | (with_reducible refine aR ?_;refine ax _ rfl rfl (d.below (ce (ap w2.heap.size w2) (ae _) _ _) d.lt) rfl ?_))
 refine (ko s a t.out p N (by omega) _).mono ?_;rintro e w4 ⟨rfl,u⟩;rw [r.out]
 obtain ⟨R,S,T,U,V,W,Y,Z⟩:=dE u
 have x:aB w2.heap.size w2 w4:=(ce (ap w2.heap.size w2) (ae _) _ _).trans (u.mono (by simp;omega))
 clear k l m n o q C
 obtain ⟨k,l,m,n,o,q,C⟩:=bR (h.trans (x.mono (by simp;omega))) (by simp)
 generalize z:(M.drop p).take (br cJ (M.drop p))=X at *
 have O:=zq z
 clear z h d H
 have E:=D.trans (x.mono (by omega))
 have a4:w2.heap.size<=w4.heap.size:=by omega
 have a3:f.heap.size<w4.heap.size:=by omega
 go_wp2_with fail
 refine aw (v:=bq (cY 2)) (by simp [bq,cY,results,cj,go_sem,k,l,m,n,o,q]) rfl ⟨rfl,by repeat (first | with_reducible exact E | with_reducible refine ch ?_ (by dsimp only;omega) _ | with_reducible refine cR ?_ (by simp [bw];omega) _)⟩
theorem wG (s:ByteArray) (a:Int->Int) (B:ex a) (p:Nat) (hp:p<s.size) (O:s.size<=16384) (Q:(ak (ba a s.data.toList) p==46)=false) (k2:(cls (ak (ba a s.data.toList) p)==2)=false) (k3:(cls (ak (ba a s.data.toList) p)==3)=false) (k5:(cls (ak (ba a s.data.toList) p)==5)=true) (J:¬100<(((ba a s.data.toList).drop p).take (br cJ ((ba a s.data.toList).drop p))).length) (w:au) :
  aU am 104 #[eK s a,aa ab p] w fun e w'=>dL ⟨1,(((ba a s.data.toList).drop p).take (br cJ ((ba a s.data.toList).drop p))),0,p,p+br cJ ((ba a s.data.toList).drop p),0⟩ e/\aB w.heap.size w w':=by
 have t:=zq B
 clear B
 have A:Hid ((ba a s.data.toList).length=s.size):=by show _=_;rw [bL];simp
 generalize y:ba a s.data.toList=M at *
 have r:=zq y
 clear y
 have G:0<=ak M p:=by have:=bX M p;have:=A.out;omega
 have H:=dS M p
 have a7:IntKind.u8.wrap (ak M p)=ak M p:=cP _ (by omega)
 have L:=bS cL (M.drop p)
 have N:=bS cJ (M.drop p)
 rw [aN,A.out] at L N
 have a6:decide ((100:Int)<(((M.drop p).take (br cJ (M.drop p))).length:Int))=false:=decide_eq_false (by omega)
 clear J
 go_enter db,cM
 go_wp2_with (first | (refine bb rfl _ s a rfl rfl ?_;intro b f i a5 j;have c:=i.below ((ap _ _).alloc (ae _) aX) i.lt;unfold aX at c) | (with_reducible refine aG ?_;refine aq rfl _ rfl rfl c ?_))
 refine (aO s a M r t _ p (by omega) _).mono ?_;rintro e w2 ⟨rfl,g⟩
 have K:=j.size
 have a0:=i.lt
 have d:=c.below g c.lt
 have h:aB (f.alloc aX).heap.size (f.alloc aX) w2:=g
 have a1:f.heap.size<w2.heap.size:=aA (by simp) g.size
 have a2:f.heap.size<w2.heap.size+1:=by omega
 obtain ⟨k,l,m,n,o,q,C⟩:=bR h (by simp)
 have E:aB w.heap.size w w2:=(j.alloc K aX).trans (h.mono (by simp;omega))
 clear j g c
 go_wp2_with fail
 refine (dv _ _).mono ?_;rintro e w3 ⟨rfl,rfl⟩
 have I:=fun w'=>dQ (P:=am) 168 9 5 aZ bA bo (ak M p) G H w'
 go_wp2_with (first | (with_reducible refine aG ?_;refine aq rfl _ rfl rfl (d.below (ce (ap w2.heap.size w2) (ae _) _ _) d.lt) ?_) | (with_reducible refine aR ?_;refine ax _ rfl rfl (d.below (ce (ap w2.heap.size w2) (ae _) _ _) d.lt) rfl ?_))
 refine (ko s a t.out p O (by omega) _).mono ?_;rintro e w4 ⟨rfl,u⟩;rw [r.out]
 obtain ⟨R,S,T,U,V,W,Y,Z⟩:=dE u
 have x:aB w2.heap.size w2 w4:=(ce (ap w2.heap.size w2) (ae _) _ _).trans (u.mono (by simp;omega))
 clear k l m n o q C
 obtain ⟨k,l,m,n,o,q,C⟩:=bR (h.trans (x.mono (by simp;omega))) (by simp)
 generalize z:(M.drop p).take (br cJ (M.drop p))=X at *
 have D:=zq z
 clear z h d I
 have F:=E.trans (x.mono (by omega))
 have a4:w2.heap.size<=w4.heap.size:=by omega
 have a3:f.heap.size<w4.heap.size:=by omega
 go_wp2_with fail
 refine aw (v:=bq ⟨1,X,0,p,p+br cJ (M.drop p),0⟩) (by simp [bq,results,cj,go_sem,k,l,m,n,o,q]) rfl ⟨by rw [D.out];rfl,by repeat (first | with_reducible exact F | with_reducible refine ch ?_ (by dsimp only;omega) _ | with_reducible refine cR ?_ (by simp [bw];omega) _)⟩
theorem ul (s:ByteArray) (a:Int->Int) (B:ex a) (p:Nat) (hp:p<s.size) (a4:s.size<=16384) (N:(ak (ba a s.data.toList) p==46)=true) (O:decide (ak (ba a s.data.toList) (p+1)<0)=true) (w:au) :
  aU am 104 #[eK s a,aa ab p] w fun e w'=>dL ⟨7,[(ak (ba a s.data.toList) p).toNat.toUInt8],0,p,p+1,0⟩ e/\aB w.heap.size w w':=by
 have t:=zq B
 clear B
 have A:Hid ((ba a s.data.toList).length=s.size):=by show _=_;rw [bL];simp
 generalize z:ba a s.data.toList=M at *
 have r:=zq z
 clear z
 have F:0<=ak M p:=by have:=bX M p;have:=A.out;omega
 have G:=dS M p
 have a5:IntKind.u8.wrap (ak M p)=ak M p:=cP _ (by omega)
 have J:=bS cL (M.drop p)
 have K:=bS cJ (M.drop p)
 rw [aN,A.out] at J K
 go_enter db,cM
 go_wp2_with (first | (refine bb rfl _ s a rfl rfl ?_;intro b f i a3 j;have d:=i.below ((ap _ _).alloc (ae _) aX) i.lt;unfold aX at d) | (with_reducible refine aG ?_;refine aq rfl _ rfl rfl d ?_))
 refine (aO s a M r t _ p (by omega) _).mono ?_;rintro e w2 ⟨rfl,g⟩
 have I:=j.size
 have Y:=i.lt
 have c:=d.below g d.lt
 have h:aB (f.alloc aX).heap.size (f.alloc aX) w2:=g
 have Z:f.heap.size<w2.heap.size:=aA (by simp) g.size
 have a0:f.heap.size<w2.heap.size+1:=by omega
 obtain ⟨k,l,m,n,o,q,C⟩:=bR h (by simp)
 have D:aB w.heap.size w w2:=(j.alloc I aX).trans (h.mono (by simp;omega))
 clear j g d
 go_wp2_with fail
 refine (dv _ _).mono ?_;rintro e w3 ⟨rfl,rfl⟩
 have H:=fun w'=>dQ (P:=am) 168 9 5 aZ bA bo (ak M p) F G w'
 go_wp2_with (first | (with_reducible refine aG ?_;refine aq rfl _ rfl rfl (c.below (ce (ap w2.heap.size w2) (ae _) _ _) c.lt) ?_) | (with_reducible refine aR ?_;refine ax _ rfl rfl (c.below (ce (ap w2.heap.size w2) (ae _) _ _) c.lt) rfl ?_))
 refine (aO s a M r t _ (p+1) (by omega) _).mono ?_;rintro e w4 ⟨rfl,u⟩
 have L:=Txt.below (c.below (ce (ap w2.heap.size w2) (ae _) _ _) c.lt) u (by simp;have:=c.lt;omega)
 have x:=u
 obtain ⟨Q,R,S,T,U,V,W,X⟩:=dE x
 have y:aB w2.heap.size w2 w4:=(ce (ap w2.heap.size w2) (ae _) _ _).trans (x.mono (by simp;omega))
 clear k l m n o q C
 obtain ⟨k,l,m,n,o,q,C⟩:=bR (h.trans (y.mono (by simp;omega))) (by simp)
 clear h c H
 have E:=D.trans (y.mono (by omega))
 have a2:w2.heap.size<=w4.heap.size:=by omega
 have a1:f.heap.size<w4.heap.size:=by omega
 go_wp2_with fail
 refine aw (v:=bq ⟨7,[(ak M p).toNat.toUInt8],0,p,p+1,0⟩) (by simp [bq,results,cj,go_sem,k,l,m,n,o,q]) rfl ⟨rfl,by repeat (first | with_reducible exact E | with_reducible refine ch ?_ (by dsimp only;omega) _ | with_reducible refine cR ?_ (by simp [bw];omega) _)⟩
theorem uk (s:ByteArray) (a:Int->Int) (D:ex a) (p:Nat) (hp:p<s.size) (a6:s.size<=16384) (Q:(ak (ba a s.data.toList) p==46)=true) (R:decide (ak (ba a s.data.toList) (p+1)<0)=false) (S:(ak (ba a s.data.toList) (p+1)==37)=true) (w:au) :
  aU am 104 #[eK s a,aa ab p] w fun e w'=>dL ⟨7,[(ak (ba a s.data.toList) p).toNat.toUInt8],0,p,p+1,0⟩ e/\aB w.heap.size w w':=by
 have k:=zq D
 clear D
 have C:Hid ((ba a s.data.toList).length=s.size):=by show _=_;rw [bL];simp
 generalize B:ba a s.data.toList=M at *
 have j:=zq B
 clear B
 have H:0<=ak M p:=by have:=bX M p;have:=C.out;omega
 have I:=dS M p
 have a7:IntKind.u8.wrap (ak M p)=ak M p:=cP _ (by omega)
 have L:=bS cL (M.drop p)
 have N:=bS cJ (M.drop p)
 rw [aN,C.out] at L N
 go_enter db,cM
 go_wp2_with (first | (refine bb rfl _ s a rfl rfl ?_;intro b f l a5 m;have d:=l.below ((ap _ _).alloc (ae _) aX) l.lt;unfold aX at d) | (with_reducible refine aG ?_;refine aq rfl _ rfl rfl d ?_))
 refine (aO s a M j k _ p (by omega) _).mono ?_;rintro e w2 ⟨rfl,h⟩
 have K:=m.size
 have a0:=l.lt
 have c:=d.below h d.lt
 have i:aB (f.alloc aX).heap.size (f.alloc aX) w2:=h
 have a1:f.heap.size<w2.heap.size:=aA (by simp) h.size
 have a2:f.heap.size<w2.heap.size+1:=by omega
 obtain ⟨n,o,q,r,t,u,E⟩:=bR i (by simp)
 have F:aB w.heap.size w w2:=(m.alloc K aX).trans (i.mono (by simp;omega))
 clear m h d
 go_wp2_with fail
 refine (dv _ _).mono ?_;rintro e w3 ⟨rfl,rfl⟩
 have J:=fun w'=>dQ (P:=am) 168 9 5 aZ bA bo (ak M p) H I w'
 go_wp2_with (first | (with_reducible refine aG ?_;refine aq rfl _ rfl rfl (c.below (ce (ap w2.heap.size w2) (ae _) _ _) c.lt) ?_) | (with_reducible refine aR ?_;refine ax _ rfl rfl (c.below (ce (ap w2.heap.size w2) (ae _) _ _) c.lt) rfl ?_))
 refine (aO s a M j k _ (p+1) (by omega) _).mono ?_;rintro e w4 ⟨rfl,x⟩
 have g:=Txt.below (c.below (ce (ap w2.heap.size w2) (ae _) _ _) c.lt) x (by simp;have:=c.lt;omega)
 go_wp2_with (first | (with_reducible refine aG ?_;refine aq rfl _ rfl rfl g ?_) | (with_reducible refine aR ?_;refine ax _ rfl rfl g rfl ?_))
 refine (aO s a M j k _ (p+1) (by omega) _).mono ?_;rintro e w5 ⟨rfl,y⟩
 have O:=g.below y g.lt
 have z:=ey (ae _) x y
 obtain ⟨T,U,V,W,X,Y,Z,gl⟩:=dE z
 have A:aB w2.heap.size w2 w5:=(ce (ap w2.heap.size w2) (ae _) _ _).trans (z.mono (by simp;omega))
 clear n o q r t u E
 obtain ⟨n,o,q,r,t,u,E⟩:=bR (i.trans (A.mono (by simp;omega))) (by simp)
 clear i c J
 have G:=F.trans (A.mono (by omega))
 have a4:w2.heap.size<=w5.heap.size:=by omega
 have a3:f.heap.size<w5.heap.size:=by omega
 go_wp2_with fail
 refine aw (v:=bq ⟨7,[(ak M p).toNat.toUInt8],0,p,p+1,0⟩) (by simp [bq,results,cj,go_sem,n,o,q,r,t,u]) rfl ⟨rfl,by repeat (first | with_reducible exact G | with_reducible refine ch ?_ (by dsimp only;omega) _ | with_reducible refine cR ?_ (by simp [bw];omega) _)⟩
theorem uj (s:ByteArray) (a:Int->Int) (F:ex a) (p:Nat) (hp:p<s.size) (a6:s.size<=16384) (S:(ak (ba a s.data.toList) p==46)=true) (T:decide (ak (ba a s.data.toList) (p+1)<0)=false) (U:(ak (ba a s.data.toList) (p+1)==37)=false) (V:(cls (ak (ba a s.data.toList) (p+1))==1)=true) (w:au) :
  aU am 104 #[eK s a,aa ab p] w fun e w'=>dL ⟨7,[(ak (ba a s.data.toList) p).toNat.toUInt8],0,p,p+1,0⟩ e/\aB w.heap.size w w':=by
 have h:=zq F
 clear F
 have E:Hid ((ba a s.data.toList).length=s.size):=by show _=_;rw [bL];simp
 generalize D:ba a s.data.toList=M at *
 have g:=zq D
 clear D
 have J:0<=ak M p:=by have:=bX M p;have:=E.out;omega
 have K:=dS M p
 have a7:IntKind.u8.wrap (ak M p)=ak M p:=cP _ (by omega)
 have O:=bS cL (M.drop p)
 have Q:=bS cJ (M.drop p)
 rw [aN,E.out] at O Q
 go_enter db,cM
 go_wp2_with (first | (refine bb rfl _ s a rfl rfl ?_;intro b f m a5 n;have d:=m.below ((ap _ _).alloc (ae _) aX) m.lt;unfold aX at d) | (with_reducible refine aG ?_;refine aq rfl _ rfl rfl d ?_))
 refine (aO s a M g h _ p (by omega) _).mono ?_;rintro e w2 ⟨rfl,k⟩
 have N:=n.size
 have a0:=m.lt
 have c:=d.below k d.lt
 have l:aB (f.alloc aX).heap.size (f.alloc aX) w2:=k
 have a1:f.heap.size<w2.heap.size:=aA (by simp) k.size
 have a2:f.heap.size<w2.heap.size+1:=by omega
 obtain ⟨o,q,r,t,u,x,G⟩:=bR l (by simp)
 have H:aB w.heap.size w w2:=(n.alloc N aX).trans (l.mono (by simp;omega))
 clear n k d
 go_wp2_with fail
 refine (dv _ _).mono ?_;rintro e w3 ⟨rfl,rfl⟩
 have L:=fun w'=>dQ (P:=am) 168 9 5 aZ bA bo (ak M p) J K w'
 go_wp2_with (first | (with_reducible refine aG ?_;refine aq rfl _ rfl rfl (c.below (ce (ap w2.heap.size w2) (ae _) _ _) c.lt) ?_) | (with_reducible refine aR ?_;refine ax _ rfl rfl (c.below (ce (ap w2.heap.size w2) (ae _) _ _) c.lt) rfl ?_))
 refine (aO s a M g h _ (p+1) (by omega) _).mono ?_;rintro e w4 ⟨rfl,y⟩
 have i:=Txt.below (c.below (ce (ap w2.heap.size w2) (ae _) _ _) c.lt) y (by simp;have:=c.lt;omega)
 go_wp2_with (first | (with_reducible refine aG ?_;refine aq rfl _ rfl rfl i ?_) | (with_reducible refine aR ?_;refine ax _ rfl rfl i rfl ?_))
 refine (aO s a M g h _ (p+1) (by omega) _).mono ?_;rintro e w5 ⟨rfl,z⟩
 have j:=i.below z i.lt
 go_wp2_with (first | (with_reducible refine aG ?_;refine aq rfl _ rfl rfl j ?_) | (with_reducible refine aR ?_;refine ax _ rfl rfl j rfl ?_))
 refine (aO s a M g h _ (p+1) (by omega) _).mono ?_;rintro e w6 ⟨rfl,A⟩
 have R:=j.below A j.lt
 have B:=ip (ae _) y z A
 go_wp2_with fail
 refine (gQ _ _).mono ?_;rintro e w9 ⟨rfl,rfl⟩
 obtain ⟨W,X,Y,Z,g4,g5,g6,gl⟩:=dE B
 have C:aB w2.heap.size w2 w6:=(ce (ap w2.heap.size w2) (ae _) _ _).trans (B.mono (by simp;omega))
 clear o q r t u x G
 obtain ⟨o,q,r,t,u,x,G⟩:=bR (l.trans (C.mono (by simp;omega))) (by simp)
 clear l c L
 have I:=H.trans (C.mono (by omega))
 have a4:w2.heap.size<=w6.heap.size:=by omega
 have a3:f.heap.size<w6.heap.size:=by omega
 go_wp2_with fail
 refine aw (v:=bq ⟨7,[(ak M p).toNat.toUInt8],0,p,p+1,0⟩) (by simp [bq,results,cj,go_sem,o,q,r,t,u,x]) rfl ⟨rfl,by repeat (first | with_reducible exact I | with_reducible refine ch ?_ (by dsimp only;omega) _ | with_reducible refine cR ?_ (by simp [bw];omega) _)⟩
end Go.Proofs.YtbojljpldcijgaaGreat
