/- Parts of the proof. -/
import Derived.Test.YtgapnafkelokaaaGreatDoorR01
import Derived.Test.YtgapnafkelokaaaGreatDoorR12
import Derived.Test.YtgapnafkelokaaaGreatDoorR16
import Derived.Test.YtgapnafkelokaaaGreatDoorR30
import Derived.Test.YtgapnafkelokaaaGreatDoorR31
import Derived.Test.YtgapnafkelokaaaGreatDoorR33
set_option maxHeartbeats 12800000
set_option maxRecDepth 100000
open Go renaming Calls -> aG
open Go.Ending renaming returned -> av
open Go.IntKind renaming i64 -> ae
open Go.Proofs.Tryz renaming prog -> ah
open Go.RowKit renaming Below -> ay
open Go.RowKit.Below renaming refl -> ak
open Go.Value renaming agg -> aN, bool -> an, int -> ab, string -> aa
open Nat renaming le_refl -> ag, reduceAdd -> ar, zero_add -> ap
namespace Hb
open Go Go.RowKit
theorem Fu (s:ByteArray):(s++(⟨#[32,46]⟩:ByteArray)).data.toList=s.data.toList++[32,46]:=by simp
theorem Ft (s:ByteArray):(s++(⟨#[32,46]⟩:ByteArray)).size=s.size+2:=by simp [ByteArray.size_append];rfl
theorem Fs {n:Nat} (h:n<=16382):wrap64 ((n:Int)+2)=(n:Int)+2:=IntWalk.wrap64_in _ (by omega)
end Hb
namespace Go.Proofs.YtgapnafkelokaaaGreatDoor
open Go.RowKit Hb
attribute [local go_sem] Oper.semAt_some
theorem Fa {T:List OpR} {TA:Option Addr} {TN TC:Nat} {t:Tm} (a0:Tm.All (fun x=>cV x=true) t) (A:Option Addr) (b:Nat) (f:FlR) (y:Bool) (w:World) (R:DoorOk w) (hm:TN<=maxLen) (U:Tab w TA TN TC T) (S:TmsAt w.heap.size w A t.args) :
  aG ah 8 #[dR t A b,.slice TA TN TC,Ke f,an y] w fun e w'=>e=av (an true)/\ay w.heap.size w w':=by
 have HE:=zq (fun W (h:ay w.heap.size w W)=>qI W (R.below h))
 have J:Hid (ay w.heap.size w ((w.alloc (.cells #[ab ae t.kind,ab ae t.num,aa t.name,.slice A t.args.length b] 24)).alloc (.cells #[ab ae f.q,ab ae f.u,an f.c,an f.d] 53))):=zq (((ak _ w).alloc (ag _) _).alloc (by simp) _)
 have b8:Bk (w.alloc (.cells #[ab ae t.kind,ab ae t.num,aa t.name,.slice A t.args.length b] 24)) w.heap.size [ab ae t.kind,ab ae t.num,aa t.name,.slice A t.args.length b]:=Bk.new w [ab ae t.kind,ab ae t.num,aa t.name,.slice A t.args.length b] 24
 have a9:Hid (Bk ((w.alloc (.cells #[ab ae t.kind,ab ae t.num,aa t.name,.slice A t.args.length b] 24)).alloc (.cells #[ab ae f.q,ab ae f.u,an f.c,an f.d] 53)) w.heap.size [ab ae t.kind,ab ae t.num,aa t.name,.slice A t.args.length b]):=zq (b8.call ((ak _ _).alloc (ag _) _))
 have a5:Hid (Bk ((w.alloc (.cells #[ab ae t.kind,ab ae t.num,aa t.name,.slice A t.args.length b] 24)).alloc (.cells #[ab ae f.q,ab ae f.u,an f.c,an f.d] 53)) (w.heap.size+1) [ab ae f.q,ab ae f.u,an f.c,an f.d]):=zq (by
  have h:=Bk.new (w.alloc (.cells #[ab ae t.kind,ab ae t.num,aa t.name,.slice A t.args.length b] 24)) [ab ae f.q,ab ae f.u,an f.c,an f.d] 53
  rwa [show (w.alloc (.cells #[ab ae t.kind,ab ae t.num,aa t.name,.slice A t.args.length b] 24)).heap.size=w.heap.size+1 by simp] at h)
 clear b8
 obtain ⟨r,F⟩:=lz (oF ⟨true,y,false⟩ T t)
 have b7:Hid (∀W,ay w.heap.size w W->aG ah 12 #[aN #[ab ae t.kind,ab ae t.num,aa t.name,.slice A t.args.length b],.slice TA TN TC,aN #[an true,an y,an false]] W fun e w'=>e=av (.tuple #[aa r.1,ab ae r.2])/\ay W.heap.size W w'):=zq (fun W h=>by
  rw [F.out]
  exact yG (o:=⟨true,y,false⟩) (T:=T) (TA:=TA) (TN:=TN) (TC:=TC) a0 A b W (R.below h) hm (U.below h) ((S.keep h).mono h.size))
 have p:=zq (fun (h:r.2=0) (v:r.1.size<=16382) (Z:pl f=true)=>by
  rw [F.out] at h v
  have hh:=Dc (o:=⟨true,y,false⟩) rfl rfl a0 h v f.q f.u f.c f.d Z
  rw [<-F.out] at hh
  exact hh)
 have HV:Hid (∀W,aG ah 26 #[aN #[ab ae f.q,ab ae f.u,an f.c,an f.d]] W fun e w'=>e=av (an (pl f))/\ay W.heap.size W w'):=zq (fun W=>Er f W)
 have b4:Hid (∀(z:ByteArray) X,z.size<=maxLen->ay w.heap.size w X->aG ah 27 #[aa z,ab ae 0,aN #[.slice TA TN TC,ab ae f.q,ab ae f.u,an f.c,an f.d,.slice none 0 0]] X (LY X (lG z.data.toList 0 ⟨T,f.q,f.u,f.c,f.d,[]⟩))):=zq fun z X hx i=>
  AI z 0 TA TN TC f.q f.u f.c f.d none 0 0 T [] X (U.below i) rfl (Nat.zero_le _) (Pairs.nil _ _) hx
 have b6:Hid (∀(g:Tm) (C:Option Addr) (c:Nat) X,ay w.heap.size w X->TmsAt X.heap.size X C g.args->bu g=true->bu t=true->iV g=iV t->aG ah 28 #[aN #[ab ae g.kind,ab ae g.num,aa g.name,.slice C g.args.length c],aN #[ab ae t.kind,ab ae t.num,aa t.name,.slice A t.args.length b]] X fun e w'=>e=av (an true)/\ay X.heap.size X w'):=zq fun g C c X i hg P Q h3=>by
  have h:=rV g t C A c b X hg ((S.keep i).mono i.size) P Q
  rw [h3,vP.2 rfl] at h
  exact h
 clear F S U R a0 hm
 obtain ⟨s,es⟩:=r
 unfold dR Ke
 go_enter Tryz.func8,Tryz.ntmps8
 go_wp2_with fail
 refine (HE.out _ J.out).mono ?_;rintro e w1 ⟨rfl,a⟩
 have K:=bz J a
 have O:=zq (a9.out.call a)
 have a6:=zq (a5.out.call a)
 clear a J a9 a5 HE
 have j:=O.out.all0
 simp only [aW,ap,ar,and_true] at j
 go_wp2_with fail
 refine (b7.out _ K.out).mono ?_;rintro e w2 ⟨rfl,a⟩
 have D:=bz K a
 have b0:=zq (O.out.call a)
 have M:=zq (a6.out.call a)
 clear a K O a6 b7 j
 go_upto_region 4 with fail
 by_cases Y:es=0
 rotate_left
 ·have hb:(es != 0)=true:=by simpa using Y
  clear Y p
  go_wp2_with fail
  go_ret
  exact ⟨rfl,D.out⟩
 subst Y
 by_cases hl:(16382:Int)<(s.size:Int)
 ·clear p
  go_wp2_with fail
  go_ret
  exact ⟨rfl,D.out⟩
 have v:s.size<=16382:=by omega
 have j:=M.out.all0
 simp only [aW,ap,ar,and_true] at j
 go_wp2_with fail
 refine (HV.out _).mono ?_;rintro e w3 ⟨rfl,a⟩
 have E:=bz D a
 have b1:=zq (b0.out.call a)
 have a7:=zq (M.out.call a)
 clear a D b0 M HV j
 cases Z:pl f
 ·clear p
  go_wp2_with fail
  go_ret
  exact ⟨rfl,E.out⟩
 obtain ⟨b9,_,gr,c0,c1,a1,a2,V⟩:=p.out (by first | rfl | trivial) v Z
 obtain ⟨g,HG⟩:=lz (fT gr t)
 rw [<-HG.out] at a1 a2 V
 obtain ⟨H,b3⟩:=lz (c0.length)
 obtain ⟨I,b5⟩:=lz (c1.length)
 have a4:Hid (∀X,ay w.heap.size w X->aG ah 27 #[aa (s++(⟨#[32,46]⟩:ByteArray)),ab ae 0,aN #[.slice TA TN TC,ab ae f.q,ab ae f.u,an f.c,an f.d,.slice none 0 0]] X fun e w'=>∃C c k m l n,e=av (.tuple #[aN #[ab ae g.kind,ab ae g.num,aa g.name,.slice C g.args.length c,.slice k H m,.slice l I n,ab ae ((s.size:Int)+2)],ab ae 0,ab ae 0])/\ay X.heap.size X w'/\kt X w' C g.args):=zq fun X i=>by
  have h:=b4.out (s++(⟨#[32,46]⟩:ByteArray)) X (by rw [Ft];unfold maxLen;omega) i
  rw [Fu,a1] at h
  rw [b3.out,b5.out]
  exact h.mono fun _ _ ⟨C,c,k,m,l,n,h0,P,Q,_⟩=>⟨C,c,k,m,l,n,h0,P,Q⟩
 have c6:=zq (fun C c X i hg=>b6.out g C c X i hg a2 b9 V)
 have c7:=Fs v
 clear p b4 b6 a1 a2 b9 V HG b3 b5 c0 c1 gr
 have j:=a7.out.all0
 simp only [aW,ap,ar,and_true] at j
 go_wp2_with fail
 refine (a4.out _ E.out).mono ?_;rintro e B ⟨C,c,k,m,l,n,rfl,a,hn⟩
 have a3:=bz E a
 have b2:=zq (b1.out.call a)
 have a8:=zq (TmsK.at' (hn.keep (fun _ _=>rfl) fun _ hb=>hb.2))
 clear a E b1 a7 a4 j hn
 obtain ⟨x2,G⟩:=lz (B.alloc (.cells #[ab ae g.kind,ab ae g.num,aa g.name,.slice C g.args.length c,.slice k H m,.slice l I n,ab ae ((s.size:Int)+2)] 57))
 obtain ⟨g2,N⟩:=lz (B.heap.size)
 have a:ay B.heap.size B x2:=by rw [G.out];exact (ak _ _).alloc (ag _) _
 have c5:Hid (Bk x2 g2 [ab ae g.kind,ab ae g.num,aa g.name,.slice C g.args.length c,.slice k H m,.slice l I n,ab ae ((s.size:Int)+2)]):=zq (by rw [G.out,N.out];exact Bk.new B [ab ae g.kind,ab ae g.num,aa g.name,.slice C g.args.length c,.slice k H m,.slice l I n,ab ae ((s.size:Int)+2)] 57)
 have L:=bz a3 a
 have c4:=zq (b2.out.call a)
 have c3:=zq ((a8.out.keep a).mono a.size)
 go_upto_region 7 with fail
 rw [<-G.out,<-N.out]
 clear a a3 b2 a8 G N
 have hq:=c5.out.all0
 simp only [aW,ap,ar,and_true] at hq
 have hk:=c4.out.all0
 simp only [aW,ap,ar,and_true] at hk
 go_wp2_with fail
 refine (c6.out _ _ _ L.out c3.out).mono ?_;rintro e wz ⟨rfl,a⟩
 have c2:=bz L a
 clear a L
 go_wp2_with fail
 go_ret
 exact ⟨rfl,c2.out⟩
end Go.Proofs.YtgapnafkelokaaaGreatDoor
