/- Parts of the proof. -/
import Derived.Test.YtlikcjbjibhjgaaGreatDoorR01
import Derived.Test.YtlikcjbjibhjgaaGreatDoorR03
import Derived.Test.YtlikcjbjibhjgaaGreatDoorR10
import Derived.Test.YtlikcjbjibhjgaaGreatDoorR16
import Derived.Test.YtlikcjbjibhjgaaGreatDoorR27
import Derived.Test.YtlikcjbjibhjgaaGreatDoorR28
import Derived.Test.YtlikcjbjibhjgaaGreatDoorR31
set_option maxHeartbeats 12800000
set_option maxRecDepth 100000
open Go renaming Calls -> aJ, World -> ai, bodyPost_ret -> ay, maxLen -> be
open Go.Ending renaming returned -> aw
open Go.IntKind renaming i64 -> ae
open Go.Proofs.Tryz renaming prog -> ah
open Go.RowKit renaming Below -> ax
open Go.RowKit.Below renaming refl -> aj
open Go.Value renaming agg -> aN, bool -> am, int -> ab, string -> aa
open List renaming mem_cons -> bg, mem_nil_iff -> bQ
open Nat renaming le_refl -> ag, reduceAdd -> ar, zero_add -> ap
namespace Hb
open Go Go.RowKit
theorem Ae (s:ByteArray):(s++(⟨#[32,46]⟩:ByteArray)).data.toList=s.data.toList++[32,46]:=by simp
theorem Ad (s:ByteArray):(s++(⟨#[32,46]⟩:ByteArray)).size=s.size+2:=by simp [ByteArray.size_append];rfl
theorem IM {n:Nat} (h:n<=16384):wrap64 ((n:Int)+2)=(n:Int)+2:=IntWalk.wrap64_in _ (by omega)
end Hb
namespace Go.Proofs.YtlikcjbjibhjgaaGreatDoor
open Go.RowKit Hb
theorem NX (v:Int) (w:ai):aJ ah 17 #[ab ae v] w fun e w'=>e=aw (aN #[ab ae 0,ab ae v,aa ⟨#[]⟩,.slice none 0 0])/\ax w.heap.size w w':=by
 have a:=(aj w.heap.size w).alloc (ag _) (.cells #[ab ae 0,ab ae v,aa ⟨#[]⟩,.slice none 0 0] 25)
 go_enter Tryz.func17,Tryz.ntmps17
 go_wp2_with fail
 exact ay (v:=aN #[ab ae 0,ab ae v,aa ⟨#[]⟩,.slice none 0 0]) (by simp [results,Tryz.results17,go_sem]) rfl ⟨rfl,a⟩
theorem Ni (s:ByteArray) (w:ai):aJ ah 16 #[aa s] w fun e w'=>e=aw (aN #[ab ae 2,ab ae 0,aa s,.slice none 0 0])/\ax w.heap.size w w':=by
 have a:=(aj w.heap.size w).alloc (ag _) (.cells #[ab ae 2,ab ae 0,aa s,.slice none 0 0] 25)
 go_enter Tryz.func16,Tryz.ntmps16
 go_wp2_with fail
 exact ay (v:=aN #[ab ae 2,ab ae 0,aa s,.slice none 0 0]) (by simp [results,Tryz.results16,go_sem]) rfl ⟨rfl,a⟩
theorem Nh (v:Int) (w:ai):aJ ah 15 #[ab ae v] w fun e w'=>e=aw (aN #[ab ae 1,ab ae v,aa ⟨#[]⟩,.slice none 0 0])/\ax w.heap.size w w':=by
 have a:=(aj w.heap.size w).alloc (ag _) (.cells #[ab ae 1,ab ae v,aa ⟨#[]⟩,.slice none 0 0] 25)
 go_enter Tryz.func15,Tryz.ntmps15
 go_wp2_with fail
 exact ay (v:=aN #[ab ae 1,ab ae v,aa ⟨#[]⟩,.slice none 0 0]) (by simp [results,Tryz.results15,go_sem]) rfl ⟨rfl,a⟩
theorem Jz (s:ByteArray) (A:Option Addr) (n c:Nat) (w:ai):aJ ah 14 #[aa s,.slice A n c] w fun e w'=>e=aw (aN #[ab ae 3,ab ae 0,aa s,.slice A n c])/\ax w.heap.size w w':=by
 have a:=(aj w.heap.size w).alloc (ag _) (.cells #[ab ae 3,ab ae 0,aa s,.slice A n c] 25)
 go_enter Tryz.func14,Tryz.ntmps14
 go_wp2_with fail
 exact ay (v:=aN #[ab ae 3,ab ae 0,aa s,.slice A n c]) (by simp [results,Tryz.results14,go_sem]) rfl ⟨rfl,a⟩
theorem AH:Tm.All (fun x=>dP x=true) yT:=by
 have c:∀t:Tm,dP t=true->t.args=[]->Tm.All (fun x=>dP x=true) t:=fun t f g=>.mk _ f fun a d=>by rw [g] at d;cases d
 have e:∀t a b:Tm,dP t=true->t.args=[a,b]->Tm.All (fun x=>dP x=true) a->Tm.All (fun x=>dP x=true) b->Tm.All (fun x=>dP x=true) t:=fun t a b f g d i=>.mk _ f fun x h=>by
  rw [g] at h
  simp only [bg,bQ,or_false] at h
  rcases h with rfl|rfl
  ·exact d
  ·exact i
 exact e _ _ _ (by decide +kernel) rfl (e _ _ _ (by decide +kernel) rfl (c _ (by decide +kernel) rfl) (c _ (by decide +kernel) rfl)) (e _ _ _ (by decide +kernel) rfl (c _ (by decide +kernel) rfl) (e _ _ _ (by decide +kernel) rfl (c _ (by decide +kernel) rfl) (c _ (by decide +kernel) rfl)))
attribute [local go_sem] Oper.semAt_some
theorem FZ (w:ai) (hD:DoorOk w):aJ ah 5 #[] w fun e w'=>e=aw (am true)/\ax w.heap.size w w':=by
 have HD:=zq hD
 obtain ⟨f,q⟩:=lz (α:=ByteArray) (⟨#[49,45,32,45,49,45,40,40,45,41,61,91,39,104,101,108,108,111,32,119,111,114,108,100,39,124,95,48,93,41]⟩)
 have i6:f.size<=16382:=by rw [q.out];decide
 have h8:f.toList=[49,45,32,45,49,45,40,40,45,41,61,91,39,104,101,108,108,111,32,119,111,114,108,100,39,124,95,48,93,41]:=by rw [q.out];decide +kernel
 have i5:(f.toList==[49,45,32,45,49,45,40,40,45,41,61,91,39,104,101,108,108,111,32,119,111,114,108,100,39,124,95,48,93,41])=true:=by rw [h8];decide +kernel
 obtain ⟨_,_,g7,g8,K,b2,b1⟩:=pX (o:=oQ) (T:=defL) rfl rfl AH (by rw [rc]) (by rw [rc];decide) 1 1 false false rfl
 have g6:cd yT=true:=(pX (o:=oQ) (T:=defL) rfl rfl AH (by rw [rc]) (by rw [rc];decide) 1 1 false false rfl).1
 obtain ⟨z,HZ⟩:=lz (gy yT)
 rw [<-HZ.out] at K b2 b1
 obtain ⟨L,d7⟩:=lz (g7.length)
 obtain ⟨M,f7⟩:=lz (g8.length)
 rw [rc,<-q.out] at K
 have h3:Hid (∀g d X,Tab X (some ⟨g,0,none⟩) 41 d defL->aJ ah 9 #[aa (f++(⟨#[32,46]⟩:ByteArray)),ab ae 0,aN #[.slice (some ⟨g,0,none⟩) 41 d,ab ae 1,ab ae 1,am false,am false,.slice none 0 0]] X fun e w'=>∃C c k m l n,e=aw (.tuple #[aN #[ab ae z.kind,ab ae z.num,aa z.name,.slice C z.args.length c,.slice k L m,.slice l M n,ab ae ((f.size:Int)+2)],ab ae 0,ab ae 0])/\ax X.heap.size X w'/\kk X w' C z.args):=zq fun g d X hX=>by
  have h:=Db (f++(⟨#[32,46]⟩:ByteArray)) 0 (some ⟨g,0,none⟩) 41 d 1 1 false false none 0 0 defL [] X hX rfl (Nat.zero_le _) (Pairs.nil _ _) (by rw [Ad,q.out];decide)
  rw [Ae,K] at h
  rw [d7.out,f7.out]
  exact h.mono fun _ _ ⟨C,c,k,m,l,n,h0,h1,h2,_⟩=>⟨C,c,k,m,l,n,h0,h1,h2⟩
 have h7:Hid (∀C c g X,TmsAt X.heap.size X C z.args->TmsAt X.heap.size X (some ⟨g,0,none⟩) yT.args->aJ ah 10 #[aN #[ab ae z.kind,ab ae z.num,aa z.name,.slice C z.args.length c],aN #[ab ae 3,ab ae 0,aa ⟨#[45]⟩,.slice (some ⟨g,0,none⟩) 2 2]] X fun e w'=>e=aw (am true)/\ax X.heap.size X w'):=zq fun C c g X h1 h2=>by
  have h:=vv z yT C (some ⟨g,0,none⟩) c 2 X h1 h2 b2 g6
  rw [b1,<-HZ.out,oX.2 rfl] at h
  exact h
 have b3:=zq (aj w.heap.size w)
 clear hD K b2 b1 g6 HZ d7 f7 g7 g8
 go_enter Tryz.func5,Tryz.ntmps5
 go_wp2_with fail
 refine (Nh 1 _).mono ?_;rintro e w1 ⟨rfl,a⟩
 have b4:=bz b3 a
 clear a b3
 go_wp2_with fail
 refine (Nh (-1) _).mono ?_;rintro e y ⟨rfl,a⟩
 have c4:=bz b4 a
 clear a b4
 obtain ⟨y3,D⟩:=lz (y.alloc (.cells #[ab ae 1,ab ae 1,aa ⟨#[]⟩,.slice none 0 0,ab ae 1,ab ae (-1),aa ⟨#[]⟩,.slice none 0 0] 25))
 obtain ⟨g1,O⟩:=lz (y.heap.size)
 have a:ax y.heap.size y y3:=by rw [D.out];exact (aj _ _).alloc (ag _) _
 have b:TmsAt y3.heap.size y3 (some ⟨g1,0,none⟩) [xn 1,xn (-1)]:=by
  rw [D.out,O.out]
  exact sE (w:=y) 25 [(xn 1,none,0),(xn (-1),none,0)] (by unfold be;simp) (fun r b=>by
   simp only [bg,bQ,or_false] at b
   rcases b with rfl|rfl
   ·exact TmsK.nil
   ·exact TmsK.nil)
 have c5:=bz c4 a
 clear a c4
 have d8:=zq b
 clear b
 go_wp2_with fail
 rw [<-D.out]
 clear D
 rw [<-O.out]
 clear O
 refine (Jz ⟨#[45]⟩ _ _ _ _).mono ?_;rintro e w4 ⟨rfl,a⟩
 have c6:=bz c5 a
 have e0:=zq ((d8.out.keep a).mono a.size)
 clear a c5 d8
 go_wp2_with fail
 refine (Ni ⟨#[45]⟩ _).mono ?_;rintro e w5 ⟨rfl,a⟩
 have c7:=bz c6 a
 have e1:=zq ((e0.out.keep a).mono a.size)
 clear a c6 e0
 go_wp2_with fail
 refine (Ni ⟨#[104,101,108,108,111,32,119,111,114,108,100]⟩ _).mono ?_;rintro e w6 ⟨rfl,a⟩
 have c8:=bz c7 a
 have e2:=zq ((e1.out.keep a).mono a.size)
 clear a c7 e1
 go_wp2_with fail
 refine (NX 0 _).mono ?_;rintro e A ⟨rfl,a⟩
 have c9:=bz c8 a
 have e3:=zq ((e2.out.keep a).mono a.size)
 clear a c8 e2
 obtain ⟨y8,E⟩:=lz (A.alloc (.cells #[ab ae 2,ab ae 0,aa ⟨#[104,101,108,108,111,32,119,111,114,108,100]⟩,.slice none 0 0,ab ae 0,ab ae 0,aa ⟨#[]⟩,.slice none 0 0] 25))
 obtain ⟨g2,P⟩:=lz (A.heap.size)
 have a:ax A.heap.size A y8:=by rw [E.out];exact (aj _ _).alloc (ag _) _
 have b:TmsAt y8.heap.size y8 (some ⟨g2,0,none⟩) [xa ⟨#[104,101,108,108,111,32,119,111,114,108,100]⟩,.mk 0 0 ⟨#[]⟩ []]:=by
  rw [E.out,P.out]
  exact sE (w:=A) 25 [(xa ⟨#[104,101,108,108,111,32,119,111,114,108,100]⟩,none,0),(.mk 0 0 ⟨#[]⟩ [],none,0)] (by unfold be;simp) (fun r b=>by
   simp only [bg,bQ,or_false] at b
   rcases b with rfl|rfl
   ·exact TmsK.nil
   ·exact TmsK.nil)
 have d0:=bz c9 a
 have e4:=zq ((e3.out.keep a).mono a.size)
 clear a c9 e3
 have e6:=zq b
 clear b
 go_wp2_with fail
 rw [<-E.out]
 clear E
 rw [<-P.out]
 clear P
 refine (Jz ⟨#[46]⟩ _ _ _ _).mono ?_;rintro e B ⟨rfl,a⟩
 have d1:=bz d0 a
 have e5:=zq ((e4.out.keep a).mono a.size)
 have a4:=zq ((e6.out.keep a).mono a.size)
 clear a d0 e4 e6
 obtain ⟨y10,F⟩:=lz (B.alloc (.cells #[ab ae 2,ab ae 0,aa ⟨#[45]⟩,.slice none 0 0,ab ae 3,ab ae 0,aa ⟨#[46]⟩,.slice (some ⟨g2,0,none⟩) 2 2] 25))
 obtain ⟨g3,Q⟩:=lz (B.heap.size)
 have a:ax B.heap.size B y10:=by rw [F.out];exact (aj _ _).alloc (ag _) _
 have b:TmsAt y10.heap.size y10 (some ⟨g3,0,none⟩) [xa ⟨#[45]⟩,yL]:=by
  rw [F.out,Q.out]
  exact sE (w:=B) 25 [(xa ⟨#[45]⟩,none,0),(yL,some ⟨g2,0,none⟩,2)] (by unfold be;simp) (fun r b=>by
   simp only [bg,bQ,or_false] at b
   rcases b with rfl|rfl
   ·exact TmsK.nil
   ·exact a4.out)
 have b5:=bz d1 a
 have d9:=zq ((e5.out.keep a).mono a.size)
 have e7:=zq ((a4.out.keep a).mono a.size)
 clear a d1 e5 a4
 have e9:=zq b
 clear b
 go_wp2_with fail
 rw [<-F.out]
 clear F
 rw [<-Q.out]
 clear Q
 refine (Jz ⟨#[61]⟩ _ _ _ _).mono ?_;rintro e t ⟨rfl,a⟩
 have b6:=bz b5 a
 have a3:=zq ((d9.out.keep a).mono a.size)
 have e8:=zq ((e7.out.keep a).mono a.size)
 have a5:=zq ((e9.out.keep a).mono a.size)
 clear a b5 d9 e7 e9
 obtain ⟨y12,G⟩:=lz (t.alloc (.cells #[ab ae 3,ab ae 0,aa ⟨#[45]⟩,.slice (some ⟨g1,0,none⟩) 2 2,ab ae 3,ab ae 0,aa ⟨#[61]⟩,.slice (some ⟨g3,0,none⟩) 2 2] 25))
 obtain ⟨p,R⟩:=lz (t.heap.size)
 have a:ax t.heap.size t y12:=by rw [G.out];exact (aj _ _).alloc (ag _) _
 have b:TmsAt y12.heap.size y12 (some ⟨p,0,none⟩) [yM,yE]:=by
  rw [G.out,R.out]
  exact sE (w:=t) 25 [(yM,some ⟨g1,0,none⟩,2),(yE,some ⟨g3,0,none⟩,2)] (by unfold be;simp) (fun r b=>by
   simp only [bg,bQ,or_false] at b
   rcases b with rfl|rfl
   ·exact a3.out
   ·exact a5.out)
 have b7:=bz b6 a
 have h4:=zq ((a3.out.keep a).mono a.size)
 have h5:=zq ((e8.out.keep a).mono a.size)
 have h6:=zq ((a5.out.keep a).mono a.size)
 clear a b6 a3 e8 a5
 have f0:=zq b
 clear b
 clear h4
 clear h5
 clear h6
 go_wp2_with fail
 rw [<-G.out]
 clear G
 rw [<-R.out]
 clear R
 refine (Jz ⟨#[45]⟩ _ _ _ _).mono ?_;rintro e u ⟨rfl,a⟩
 have b8:=bz b7 a
 have f1:=zq ((f0.out.keep a).mono a.size)
 clear a b7 f0
 obtain ⟨y14,J⟩:=lz (u.alloc (.cells #[ab ae 3,ab ae 0,aa ⟨#[45]⟩,.slice (some ⟨p,0,none⟩) 2 2] 25))
 obtain ⟨gt,V⟩:=lz (u.heap.size)
 have a:ax u.heap.size u y14:=by rw [J.out];exact (aj _ _).alloc (ag _) _
 have j:Bk y14 gt [ab ae 3,ab ae 0,aa ⟨#[45]⟩,.slice (some ⟨p,0,none⟩) 2 2]:=by rw [J.out,V.out];exact Bk.new u [ab ae 3,ab ae 0,aa ⟨#[45]⟩,.slice (some ⟨p,0,none⟩) 2 2] 25
 have b9:=bz b8 a
 have f2:=zq ((f1.out.keep a).mono a.size)
 clear a b8 f1
 have d4:=zq j
 clear j
 go_wp2_with fail
 rw [<-J.out]
 clear J
 rw [<-V.out]
 clear V
 refine (Ds _).mono ?_;rintro e v ⟨g,d,rfl,a,hT⟩
 have c0:=bz b9 a
 have f3:=zq ((f2.out.keep a).mono a.size)
 have d5:=zq (d4.out.call a)
 clear a b9 f2 d4
 have f8:=zq hT
 clear hT
 obtain ⟨y16,I⟩:=lz (v.alloc (.cells #[.slice (some ⟨g,0,none⟩) 41 d,ab ae 1,ab ae 1,am false,am false,.slice none 0 0] 32))
 obtain ⟨gs,U⟩:=lz (v.heap.size)
 have a:ax v.heap.size v y16:=by rw [I.out];exact (aj _ _).alloc (ag _) _
 have j:Bk y16 gs [.slice (some ⟨g,0,none⟩) 41 d,ab ae 1,ab ae 1,am false,am false,.slice none 0 0]:=by rw [I.out,U.out];exact Bk.new v [.slice (some ⟨g,0,none⟩) 41 d,ab ae 1,ab ae 1,am false,am false,.slice none 0 0] 32
 have N:=bz c0 a
 have a6:=zq ((f3.out.keep a).mono a.size)
 have a0:=zq (d5.out.call a)
 have a9:=zq (f8.out.below a)
 clear a c0 f3 d5 f8
 have Y:=zq j
 clear j
 have HX:Hid (aJ ah 7 #[aN #[ab ae 3,ab ae 0,aa ⟨#[45]⟩,.slice (some ⟨p,0,none⟩) 2 2],.slice (some ⟨g,0,none⟩) 41 d,aN #[am true,am false,am false]] y16 fun e w'=>e=aw (.tuple #[aa f,ab ae 0])/\ax y16.heap.size y16 w'):=zq (by
  have h:=FG (o:=oQ) (T:=defL) (TA:=some ⟨g,0,none⟩) (TN:=41) (TC:=d) AH (some ⟨p,0,none⟩) 2 y16 (HD.out.below N.out) (by decide) a9.out a6.out
  rw [rc,<-q.out] at h
  exact h)
 have i:=a0.out.all0
 simp only [bd,ap,ar,and_true] at i
 have s:=Y.out.all0
 simp only [bd,ap,ar,and_true] at s
 go_upto_region 3 with fail
 rw [<-I.out]
 clear I
 rw [<-U.out]
 clear U
 go_wp2_with fail
 refine HX.out.mono ?_;rintro e i7 ⟨rfl,a⟩
 clear HX i s
 have c1:=bz N a
 have f4:=zq ((a6.out.keep a).mono a.size)
 have a1:=zq (a0.out.call a)
 have b0:=zq (a9.out.below a)
 have Z:=zq (Y.out.call a)
 clear a N a6 a0 a9 Y
 have HC:=zq (h3.out g d _ b0.out)
 have i:=a1.out.all0
 simp only [bd,ap,ar,and_true] at i
 have s:=Z.out.all0
 simp only [bd,ap,ar,and_true] at s
 go_wp2_with fail
 refine HC.out.mono ?_;rintro e x ⟨C,c,k,m,l,n,rfl,a,hn⟩
 clear HC i s
 have c2:=bz c1 a
 have f5:=zq ((f4.out.keep a).mono a.size)
 have d6:=zq (a1.out.call a)
 have f9:=zq (b0.out.below a)
 have d2:=zq (Z.out.call a)
 clear a c1 f4 a1 b0 Z
 have f6:=zq (TmsK.at' (hn.keep (fun _ _=>rfl) fun _ hb=>hb.2))
 clear hn
 obtain ⟨y19,H⟩:=lz (x.alloc (.cells #[ab ae z.kind,ab ae z.num,aa z.name,.slice C z.args.length c,.slice k L m,.slice l M n,ab ae ((f.size:Int)+2)] 45))
 obtain ⟨gr,S⟩:=lz (x.heap.size)
 have a:ax x.heap.size x y19:=by rw [H.out];exact (aj _ _).alloc (ag _) _
 have j:Bk y19 gr [ab ae z.kind,ab ae z.num,aa z.name,.slice C z.args.length c,.slice k L m,.slice l M n,ab ae ((f.size:Int)+2)]:=by rw [H.out,S.out];exact Bk.new x [ab ae z.kind,ab ae z.num,aa z.name,.slice C z.args.length c,.slice k L m,.slice l M n,ab ae ((f.size:Int)+2)] 45
 have c3:=bz c2 a
 have a7:=zq ((f5.out.keep a).mono a.size)
 have a8:=zq ((f6.out.keep a).mono a.size)
 have a2:=zq (d6.out.call a)
 have g0:=zq (f9.out.below a)
 have d3:=zq (d2.out.call a)
 clear a c2 f5 f6 d6 f9 d2
 have W:=zq j
 clear j
 have i:=a2.out.all0
 simp only [bd,ap,ar,and_true] at i
 have g5:=W.out.all0
 simp only [bd,ap,ar,and_true] at g5
 go_upto_region 5 with fail
 rw [<-H.out]
 clear H
 rw [<-S.out]
 clear S
 go_wp2_with fail
 refine (h7.out _ _ _ _ a8.out a7.out).mono ?_;rintro e i8 ⟨rfl,a⟩
 clear i g5
 have g9:=bz c3 a
 have i2:=zq ((a7.out.keep a).mono a.size)
 have i3:=zq ((a8.out.keep a).mono a.size)
 have i1:=zq (a2.out.call a)
 have i4:=zq (g0.out.below a)
 have i0:=zq (d3.out.call a)
 have h9:=zq (W.out.call a)
 clear a c3 a7 a8 a2 g0 d3 W
 go_wp2_with fail
 go_ret
 exact ⟨rfl,g9.out⟩
end Go.Proofs.YtlikcjbjibhjgaaGreatDoor
