/- Parts of the proof. -/
import Derived.Test.YtpokpgkjaifccaaGreatDoorRRH01
import Derived.Test.YtpokpgkjaifccaaGreatDoorRRH07
import Derived.Test.YtpokpgkjaifccaaGreatDoorRRH09
import Derived.Test.YtpokpgkjaifccaaGreatDoorRRH04
import Derived.Test.YtpokpgkjaifccaaGreatDoorRRH05
namespace Hb
open Go Go.RowKit
theorem setg_other (X:World) (g:Nat) (a b c d:Value) {k:Nat} (h:k≠g):((((X.setCell ⟨g,0,none⟩ a).setCell ⟨g,1,none⟩ b).setCell ⟨g,2,none⟩ c).setCell ⟨g,3,none⟩ d).heap[k]? = X.heap[k]?:=by
 rw [heap_setCell_other _ _ _ _ h,heap_setCell_other _ _ _ _ h,heap_setCell_other _ _ _ _ h,heap_setCell_other _ _ _ _ h]
def structT (s:ByteArray) (l:List Tm):Tm:=if l=[] then atomT s else cloneT (.mk 3 0 s l)
def ballT (s:ByteArray) (l:List Tm):Tm:=structT ⟨#[101,114,114,111,114]⟩ [structT s l,atomT ⟨#[91,93]⟩]
theorem structT_cons {s:ByteArray} {l:List Tm} (h:l≠[]):structT s l=cloneT (.mk 3 0 s l):=if_neg h
theorem structT_nil (s:ByteArray):structT s []=atomT s:=rfl
end Hb
namespace Go.Proofs.YtpokpgkjaifccaaGreatDoorRR
open Go.RowKit Hb
set_option maxRecDepth 100000
set_option maxHeartbeats 1600000 in
theorem t_struct (s:ByteArray) (A:Option Addr) (cap:Nat) (l:List Tm) (w:World) (hs:s.size≤100) (hT:TmsAt w.heap.size w A l):Calls Tryz.prog 107 #[.string s,.slice A l.length cap] w fun e w'=>∃A' c',e=.returned (tmV (structT s l) A' c')∧Below w.heap.size w w'∧NewT w w' A' (structT s l).args:=by
 have HB0:Hid (Below w.heap.size w (w.alloc (.cells #[.int .i64 0,.int .i64 0,.string ⟨#[]⟩,.slice none 0 0] 32))):=zq ((Below.refl _ _).alloc (Nat.le_refl _) _)
 have HK0:Hid (Bk (w.alloc (.cells #[.int .i64 0,.int .i64 0,.string ⟨#[]⟩,.slice none 0 0] 32)) w.heap.size [.int .i64 0,.int .i64 0,.string ⟨#[]⟩,.slice none 0 0]):=zq (Bk.new w [.int .i64 0,.int .i64 0,.string ⟨#[]⟩,.slice none 0 0] 32)
 have hlt0:w.heap.size<(w.alloc (.cells #[.int .i64 0,.int .i64 0,.string ⟨#[]⟩,.slice none 0 0] 32)).heap.size:=by simp
 by_cases hl:l=[]
 ·subst hl
  rw [structT_nil]
  obtain ⟨at_,HAT⟩:=lz (atomT s)
  have HA:=zq (fun W=>t_atom s hs W)
  rw [←HAT.out] at HA ⊢
  have HAA:Hid (at_.args=[]):=zq (by rw [HAT.out];rfl)
  clear hT hs
  rw [List.length_nil]
  go_enter Tryz.func107,Tryz.ntmps107
  go_wp2_with fail
  refine (HA.out _).mono ?_;rintro e w1 ⟨A1,c1,rfl,hB1⟩
  have HB1:=bz HB0 hB1
  have HK1:=zq (HK0.out.call hB1)
  have HN9:Hid (TmsK (fun b=>w.heap.size<b∧b<w1.heap.size) w1 A1 at_.args):=zq (by rw [HAA.out];exact TmsK.nil)
  clear hB1 HB0 HK0 hlt0 HA
  unfold tmV
  have z0:=HK1.out.c 0 (.int .i64 0) rfl
  have f0:=HK1.out.f 0
  have z1:=HK1.out.c 1 (.int .i64 0) rfl
  have f1:=HK1.out.f 1
  have z2:=HK1.out.c 2 (.string ⟨#[]⟩) rfl
  have f2:=HK1.out.f 2
  have z3:=HK1.out.c 3 (.slice none 0 0) rfl
  have f3:=HK1.out.f 3
  have hk1:Bk ((((w1.setCell ⟨w.heap.size,0,none⟩ (.int .i64 at_.kind)).setCell ⟨w.heap.size,1,none⟩ (.int .i64 at_.num)).setCell ⟨w.heap.size,2,none⟩ (.string at_.name)).setCell ⟨w.heap.size,3,none⟩ (.slice A1 at_.args.length c1)) w.heap.size [.int .i64 at_.kind,.int .i64 at_.num,.string at_.name,.slice A1 at_.args.length c1]:=((((HK1.out.set 0 (.int .i64 at_.kind)).set 1 (.int .i64 at_.num)).set 2 (.string at_.name)).set 3 (.slice A1 at_.args.length c1))
  have hb1:Below w.heap.size w ((((w1.setCell ⟨w.heap.size,0,none⟩ (.int .i64 at_.kind)).setCell ⟨w.heap.size,1,none⟩ (.int .i64 at_.num)).setCell ⟨w.heap.size,2,none⟩ (.string at_.name)).setCell ⟨w.heap.size,3,none⟩ (.slice A1 at_.args.length c1)):=((((HB1.out.setCell (p:=⟨w.heap.size,_,none⟩) (Nat.le_refl _) _).setCell (p:=⟨w.heap.size,_,none⟩) (Nat.le_refl _) _).setCell (p:=⟨w.heap.size,_,none⟩) (Nat.le_refl _) _).setCell (p:=⟨w.heap.size,_,none⟩) (Nat.le_refl _) _)
  have hn1:NewT w ((((w1.setCell ⟨w.heap.size,0,none⟩ (.int .i64 at_.kind)).setCell ⟨w.heap.size,1,none⟩ (.int .i64 at_.num)).setCell ⟨w.heap.size,2,none⟩ (.string at_.name)).setCell ⟨w.heap.size,3,none⟩ (.slice A1 at_.args.length c1)) A1 at_.args:=HN9.out.keep (fun b hb=>setg_other _ _ _ _ _ _ (by have:=hb.1;omega)) (fun b hb=>⟨Nat.le_of_lt hb.1,by simpa using hb.2⟩)
  obtain ⟨wz,HWZ⟩:=lz (((((w1.setCell ⟨w.heap.size,0,none⟩ (.int .i64 at_.kind)).setCell ⟨w.heap.size,1,none⟩ (.int .i64 at_.num)).setCell ⟨w.heap.size,2,none⟩ (.string at_.name)).setCell ⟨w.heap.size,3,none⟩ (.slice A1 at_.args.length c1)))
  rw [←HWZ.out] at hk1 hb1 hn1
  have HK9:=zq hk1
  have HB9:=zq hb1
  have HNN:=zq hn1
  clear hk1 hb1 hn1
  go_wp2_with fail
  rw [←HWZ.out]
  have m0:=HK9.out.c 0 (.int .i64 at_.kind) rfl
  have m1:=HK9.out.c 1 (.int .i64 at_.num) rfl
  have m2:=HK9.out.c 2 (.string at_.name) rfl
  have m3:=HK9.out.c 3 (.slice A1 at_.args.length c1) rfl
  exact bodyPost_ret (v:=.agg #[.int .i64 at_.kind,.int .i64 at_.num,.string at_.name,.slice A1 at_.args.length c1]) (by simp [results,Tryz.results107,go_sem,m0,m1,m2,m3]) rfl ⟨A1,c1,rfl,HB9.out,HNN.out⟩
 ·rw [structT_cons hl]
  obtain ⟨st,HST⟩:=lz (cloneT (.mk 3 0 s l))
  obtain ⟨n,HN⟩:=lz (l.length)
  have hn:0<n:=by rw [HN.out];exact List.length_pos_iff.2 hl
  have HC:Hid (∀W,Below w.heap.size w W→Calls Tryz.prog 35 #[.agg #[.int .i64 3,.int .i64 0,.string s,.slice A n cap]] W fun e w'=>∃A' c',e=.returned (tmV st A' c')∧Below W.heap.size W w'∧NewT W w' A' st.args):=zq fun W hW=>by
   have:=t_clone (.mk 3 0 s l) A cap W ((hT.keep hW).mono hW.size)
   rw [←HST.out] at this
   rw [HN.out]
   exact this
  rw [←HST.out,←HN.out]
  clear hT hs hl HST HN
  go_enter Tryz.func107,Tryz.ntmps107
  go_wp2_with fail
  refine (HC.out _ HB0.out).mono ?_;rintro e w1 ⟨A1,c1,rfl,hB1,hN1⟩
  have HB1:=bz HB0 hB1
  have HK1:=zq (HK0.out.call hB1)
  have HN9:Hid (TmsK (fun b=>w.heap.size<b∧b<w1.heap.size) w1 A1 st.args):=zq (hN1.keep (fun _ _=>rfl) (fun b hb=>⟨Nat.lt_of_lt_of_le hlt0 hb.1,hb.2⟩))
  clear hB1 hN1 HB0 HK0 hlt0 HC
  unfold tmV
  have z0:=HK1.out.c 0 (.int .i64 0) rfl
  have f0:=HK1.out.f 0
  have z1:=HK1.out.c 1 (.int .i64 0) rfl
  have f1:=HK1.out.f 1
  have z2:=HK1.out.c 2 (.string ⟨#[]⟩) rfl
  have f2:=HK1.out.f 2
  have z3:=HK1.out.c 3 (.slice none 0 0) rfl
  have f3:=HK1.out.f 3
  have hk1:Bk ((((w1.setCell ⟨w.heap.size,0,none⟩ (.int .i64 st.kind)).setCell ⟨w.heap.size,1,none⟩ (.int .i64 st.num)).setCell ⟨w.heap.size,2,none⟩ (.string st.name)).setCell ⟨w.heap.size,3,none⟩ (.slice A1 st.args.length c1)) w.heap.size [.int .i64 st.kind,.int .i64 st.num,.string st.name,.slice A1 st.args.length c1]:=((((HK1.out.set 0 (.int .i64 st.kind)).set 1 (.int .i64 st.num)).set 2 (.string st.name)).set 3 (.slice A1 st.args.length c1))
  have hb1:Below w.heap.size w ((((w1.setCell ⟨w.heap.size,0,none⟩ (.int .i64 st.kind)).setCell ⟨w.heap.size,1,none⟩ (.int .i64 st.num)).setCell ⟨w.heap.size,2,none⟩ (.string st.name)).setCell ⟨w.heap.size,3,none⟩ (.slice A1 st.args.length c1)):=((((HB1.out.setCell (p:=⟨w.heap.size,_,none⟩) (Nat.le_refl _) _).setCell (p:=⟨w.heap.size,_,none⟩) (Nat.le_refl _) _).setCell (p:=⟨w.heap.size,_,none⟩) (Nat.le_refl _) _).setCell (p:=⟨w.heap.size,_,none⟩) (Nat.le_refl _) _)
  have hn1:NewT w ((((w1.setCell ⟨w.heap.size,0,none⟩ (.int .i64 st.kind)).setCell ⟨w.heap.size,1,none⟩ (.int .i64 st.num)).setCell ⟨w.heap.size,2,none⟩ (.string st.name)).setCell ⟨w.heap.size,3,none⟩ (.slice A1 st.args.length c1)) A1 st.args:=HN9.out.keep (fun b hb=>setg_other _ _ _ _ _ _ (by have:=hb.1;omega)) (fun b hb=>⟨Nat.le_of_lt hb.1,by simpa using hb.2⟩)
  obtain ⟨wz,HWZ⟩:=lz (((((w1.setCell ⟨w.heap.size,0,none⟩ (.int .i64 st.kind)).setCell ⟨w.heap.size,1,none⟩ (.int .i64 st.num)).setCell ⟨w.heap.size,2,none⟩ (.string st.name)).setCell ⟨w.heap.size,3,none⟩ (.slice A1 st.args.length c1)))
  rw [←HWZ.out] at hk1 hb1 hn1
  have HK9:=zq hk1
  have HB9:=zq hb1
  have HNN:=zq hn1
  clear hk1 hb1 hn1
  go_wp2_with fail
  rw [←HWZ.out]
  have m0:=HK9.out.c 0 (.int .i64 st.kind) rfl
  have m1:=HK9.out.c 1 (.int .i64 st.num) rfl
  have m2:=HK9.out.c 2 (.string st.name) rfl
  have m3:=HK9.out.c 3 (.slice A1 st.args.length c1) rfl
  exact bodyPost_ret (v:=.agg #[.int .i64 st.kind,.int .i64 st.num,.string st.name,.slice A1 st.args.length c1]) (by simp [results,Tryz.results107,go_sem,m0,m1,m2,m3]) rfl ⟨A1,c1,rfl,HB9.out,HNN.out⟩
set_option maxHeartbeats 1600000 in
theorem b_raise (s:ByteArray) (A:Option Addr) (cap:Nat) (l:List Tm) (w:World) (hs:s.size≤100) (hT:TmsAt w.heap.size w A l):Calls Tryz.prog 92 #[.string s,.slice A l.length cap] w fun e w'=>∃A' c',e=.returned (tmV (ballT s l) A' c')∧Below w.heap.size w w'∧NewT w w' A' (ballT s l).args:=by
 have HB0:Hid (Below w.heap.size w (w.alloc (.cells #[.int .i64 0,.int .i64 0,.string ⟨#[]⟩,.slice none 0 0] 32))):=zq ((Below.refl _ _).alloc (Nat.le_refl _) _)
 have HK0:Hid (Bk (w.alloc (.cells #[.int .i64 0,.int .i64 0,.string ⟨#[]⟩,.slice none 0 0] 32)) w.heap.size [.int .i64 0,.int .i64 0,.string ⟨#[]⟩,.slice none 0 0]):=zq (Bk.new w [.int .i64 0,.int .i64 0,.string ⟨#[]⟩,.slice none 0 0] 32)
 have hlt0:w.heap.size<(w.alloc (.cells #[.int .i64 0,.int .i64 0,.string ⟨#[]⟩,.slice none 0 0] 32)).heap.size:=by simp
 obtain ⟨x,HX⟩:=lz (structT s l)
 obtain ⟨y,HY⟩:=lz (ballT s l)
 have HYX:Hid (y=structT ⟨#[101,114,114,111,114]⟩ [x,atomT ⟨#[91,93]⟩]):=zq (by rw [HY.out,HX.out];rfl)
 have HS1:Hid (∀W,Below w.heap.size w W→Calls Tryz.prog 107 #[.string s,.slice A l.length cap] W fun e w'=>∃A' c',e=.returned (tmV x A' c')∧Below W.heap.size W w'∧NewT W w' A' x.args):=zq fun W hW=>by
  have:=t_struct s A cap l W hs ((hT.keep hW).mono hW.size)
  rwa [←HX.out] at this
 have HA1:Hid (∀W,Calls Tryz.prog 75 #[.string ⟨#[91,93]⟩] W fun e w'=>∃A' c',e=.returned (.agg #[.int .i64 2,.int .i64 0,.string ⟨#[91,93]⟩,.slice A' 0 c'])∧Below W.heap.size W w'):=zq fun W=>t_atom ⟨#[91,93]⟩ (by decide) W
 rw [←HY.out]
 generalize l.length=n at *
 clear hT hs HX HY
 go_enter Tryz.func92,Tryz.ntmps92
 go_wp2_with fail
 refine (HS1.out _ HB0.out).mono ?_;rintro e w1 ⟨A1,c1,rfl,hB1,hN1⟩
 have HB1:=bz HB0 hB1
 have HK1:=zq (HK0.out.call hB1)
 have HN1:Hid (TmsK (fun b=>w.heap.size<b∧b<w1.heap.size) w1 A1 x.args):=zq (hN1.keep (fun _ _=>rfl) (fun b hb=>⟨Nat.lt_of_lt_of_le hlt0 hb.1,hb.2⟩))
 clear hB1 hN1 HB0 HK0 hlt0 HS1
 unfold tmV
 go_wp2_with fail
 refine (HA1.out _).mono ?_;rintro e w2 ⟨A2,c2,rfl,hB2⟩
 have HB2:=bz HB1 hB2
 have HK2:=zq (HK1.out.call hB2)
 have HN2:Hid (TmsAt w2.heap.size w2 A1 x.args):=zq (TmsK.at' (HN1.out.keep (K':=fun _=>True) (fun b hb=>hB2.block b hb.2) (fun _ _=>trivial)))
 clear hB2 HB1 HK1 HN1 HA1
 have HS2:Hid (Calls Tryz.prog 107 #[.string ⟨#[101,114,114,111,114]⟩,.slice (some ⟨w2.heap.size,0,none⟩) 2 2] (w2.alloc (.cells #[.int .i64 x.kind,.int .i64 x.num,.string x.name,.slice A1 x.args.length c1,.int .i64 2,.int .i64 0,.string ⟨#[91,93]⟩,.slice A2 0 c2] 32)) fun e w'=>∃A' c',e=.returned (tmV y A' c')∧Below (w2.alloc (.cells #[.int .i64 x.kind,.int .i64 x.num,.string x.name,.slice A1 x.args.length c1,.int .i64 2,.int .i64 0,.string ⟨#[91,93]⟩,.slice A2 0 c2] 32)).heap.size (w2.alloc (.cells #[.int .i64 x.kind,.int .i64 x.num,.string x.name,.slice A1 x.args.length c1,.int .i64 2,.int .i64 0,.string ⟨#[91,93]⟩,.slice A2 0 c2] 32)) w'∧NewT (w2.alloc (.cells #[.int .i64 x.kind,.int .i64 x.num,.string x.name,.slice A1 x.args.length c1,.int .i64 2,.int .i64 0,.string ⟨#[91,93]⟩,.slice A2 0 c2] 32)) w' A' y.args):=zq (by
  have hr:=TmsK.rows (K:=fun b=>b<w2.heap.size+1) (w:=w2) (rs:=[(x,A1,c1),(atomT ⟨#[91,93]⟩,A2,c2)]) (e:=32) (by omega) (by simp [maxLen]) (fun r hr=>by
   simp only [List.mem_cons,List.mem_nil_iff,or_false] at hr
   rcases hr with rfl | rfl
   ·exact (HN2.out.keep ((Below.refl w2.heap.size w2).alloc (Nat.le_refl _) _)).mono (by omega)
   ·exact TmsK.nil)
  have:=t_struct ⟨#[101,114,114,111,114]⟩ _ 2 _ _ (by decide) (TmsK.at' hr)
  rw [show ([(x,A1,c1),(atomT ⟨#[91,93]⟩,A2,c2)]:List TR).map (fun r:TR=>r.1)=[x,atomT ⟨#[91,93]⟩] from rfl,←HYX.out] at this
  exact this)
 go_wp2_with fail
 refine HS2.out.mono ?_;rintro e w3 ⟨A3,c3,rfl,hB3,hN3⟩
 have hB23:Below w2.heap.size w2 w3:=((Below.refl w2.heap.size w2).alloc (Nat.le_refl _) _).trans (hB3.mono (by simp))
 have HB3:=bz HB2 hB23
 have HK3:=zq (HK2.out.call hB23)
 have hlt2:=HK2.out.lt
 have HN9:Hid (TmsK (fun b=>w.heap.size<b∧b<w3.heap.size) w3 A3 y.args):=zq (hN3.keep (fun _ _=>rfl) (fun b hb=>⟨by have:=hb.1;rw [World.size_alloc] at this;omega,hb.2⟩))
 clear hB3 hN3 hB23 HB2 HK2 HN2 HS2 hlt2 HYX
 unfold tmV
 have z0:=HK3.out.c 0 (.int .i64 0) rfl
 have f0:=HK3.out.f 0
 have z1:=HK3.out.c 1 (.int .i64 0) rfl
 have f1:=HK3.out.f 1
 have z2:=HK3.out.c 2 (.string ⟨#[]⟩) rfl
 have f2:=HK3.out.f 2
 have z3:=HK3.out.c 3 (.slice none 0 0) rfl
 have f3:=HK3.out.f 3
 have hk1:Bk ((((w3.setCell ⟨w.heap.size,0,none⟩ (.int .i64 y.kind)).setCell ⟨w.heap.size,1,none⟩ (.int .i64 y.num)).setCell ⟨w.heap.size,2,none⟩ (.string y.name)).setCell ⟨w.heap.size,3,none⟩ (.slice A3 y.args.length c3)) w.heap.size [.int .i64 y.kind,.int .i64 y.num,.string y.name,.slice A3 y.args.length c3]:=((((HK3.out.set 0 (.int .i64 y.kind)).set 1 (.int .i64 y.num)).set 2 (.string y.name)).set 3 (.slice A3 y.args.length c3))
 have hb1:Below w.heap.size w ((((w3.setCell ⟨w.heap.size,0,none⟩ (.int .i64 y.kind)).setCell ⟨w.heap.size,1,none⟩ (.int .i64 y.num)).setCell ⟨w.heap.size,2,none⟩ (.string y.name)).setCell ⟨w.heap.size,3,none⟩ (.slice A3 y.args.length c3)):=((((HB3.out.setCell (p:=⟨w.heap.size,_,none⟩) (Nat.le_refl _) _).setCell (p:=⟨w.heap.size,_,none⟩) (Nat.le_refl _) _).setCell (p:=⟨w.heap.size,_,none⟩) (Nat.le_refl _) _).setCell (p:=⟨w.heap.size,_,none⟩) (Nat.le_refl _) _)
 have hn1:NewT w ((((w3.setCell ⟨w.heap.size,0,none⟩ (.int .i64 y.kind)).setCell ⟨w.heap.size,1,none⟩ (.int .i64 y.num)).setCell ⟨w.heap.size,2,none⟩ (.string y.name)).setCell ⟨w.heap.size,3,none⟩ (.slice A3 y.args.length c3)) A3 y.args:=HN9.out.keep (fun b hb=>setg_other _ _ _ _ _ _ (by have:=hb.1;omega)) (fun b hb=>⟨Nat.le_of_lt hb.1,by simpa using hb.2⟩)
 obtain ⟨wz,HWZ⟩:=lz (((((w3.setCell ⟨w.heap.size,0,none⟩ (.int .i64 y.kind)).setCell ⟨w.heap.size,1,none⟩ (.int .i64 y.num)).setCell ⟨w.heap.size,2,none⟩ (.string y.name)).setCell ⟨w.heap.size,3,none⟩ (.slice A3 y.args.length c3)))
 rw [←HWZ.out] at hk1 hb1 hn1
 have HK9:=zq hk1
 have HB9:=zq hb1
 have HNN:=zq hn1
 clear hk1 hb1 hn1
 go_wp2_with fail
 rw [←HWZ.out]
 have m0:=HK9.out.c 0 (.int .i64 y.kind) rfl
 have m1:=HK9.out.c 1 (.int .i64 y.num) rfl
 have m2:=HK9.out.c 2 (.string y.name) rfl
 have m3:=HK9.out.c 3 (.slice A3 y.args.length c3) rfl
 exact bodyPost_ret (v:=.agg #[.int .i64 y.kind,.int .i64 y.num,.string y.name,.slice A3 y.args.length c3]) (by simp [results,Tryz.results92,go_sem,m0,m1,m2,m3]) rfl ⟨A3,c3,rfl,HB9.out,HNN.out⟩
theorem b_inst (w:World):Calls Tryz.prog 66 #[] w fun e w'=>∃A' c',e=.returned (tmV (ballT ⟨#[105,110,115,116,97,110,116,105,97,116,105,111,110,95,101,114,114,111,114]⟩ []) A' c')∧Below w.heap.size w w'∧NewT w w' A' (ballT ⟨#[105,110,115,116,97,110,116,105,97,116,105,111,110,95,101,114,114,111,114]⟩ []).args:=by
 have HB0:Hid (Below w.heap.size w (w.alloc (.cells #[.int .i64 0,.int .i64 0,.string ⟨#[]⟩,.slice none 0 0] 32))):=zq ((Below.refl _ _).alloc (Nat.le_refl _) _)
 have HK0:Hid (Bk (w.alloc (.cells #[.int .i64 0,.int .i64 0,.string ⟨#[]⟩,.slice none 0 0] 32)) w.heap.size [.int .i64 0,.int .i64 0,.string ⟨#[]⟩,.slice none 0 0]):=zq (Bk.new w [.int .i64 0,.int .i64 0,.string ⟨#[]⟩,.slice none 0 0] 32)
 have hlt0:w.heap.size<(w.alloc (.cells #[.int .i64 0,.int .i64 0,.string ⟨#[]⟩,.slice none 0 0] 32)).heap.size:=by simp
 obtain ⟨y,HY⟩:=lz (ballT ⟨#[105,110,115,116,97,110,116,105,97,116,105,111,110,95,101,114,114,111,114]⟩ [])
 have HR:Hid (∀W,Calls Tryz.prog 92 #[.string ⟨#[105,110,115,116,97,110,116,105,97,116,105,111,110,95,101,114,114,111,114]⟩,.slice none 0 0] W fun e w'=>∃A' c',e=.returned (tmV y A' c')∧Below W.heap.size W w'∧NewT W w' A' y.args):=zq fun W=>by
  have:=b_raise ⟨#[105,110,115,116,97,110,116,105,97,116,105,111,110,95,101,114,114,111,114]⟩ none 0 [] W (by decide) TmsK.nil
  rwa [←HY.out] at this
 rw [←HY.out]
 clear HY
 go_enter Tryz.func66,Tryz.ntmps66
 go_wp2_with fail
 refine (HR.out _).mono ?_;rintro e w1 ⟨A1,c1,rfl,hB1,hN1⟩
 have HB1:=bz HB0 hB1
 have HK1:=zq (HK0.out.call hB1)
 have HN9:Hid (TmsK (fun b=>w.heap.size<b∧b<w1.heap.size) w1 A1 y.args):=zq (hN1.keep (fun _ _=>rfl) (fun b hb=>⟨Nat.lt_of_lt_of_le hlt0 hb.1,hb.2⟩))
 clear hB1 hN1 HB0 HK0 hlt0 HR
 unfold tmV
 have z0:=HK1.out.c 0 (.int .i64 0) rfl
 have f0:=HK1.out.f 0
 have z1:=HK1.out.c 1 (.int .i64 0) rfl
 have f1:=HK1.out.f 1
 have z2:=HK1.out.c 2 (.string ⟨#[]⟩) rfl
 have f2:=HK1.out.f 2
 have z3:=HK1.out.c 3 (.slice none 0 0) rfl
 have f3:=HK1.out.f 3
 have hk1:Bk ((((w1.setCell ⟨w.heap.size,0,none⟩ (.int .i64 y.kind)).setCell ⟨w.heap.size,1,none⟩ (.int .i64 y.num)).setCell ⟨w.heap.size,2,none⟩ (.string y.name)).setCell ⟨w.heap.size,3,none⟩ (.slice A1 y.args.length c1)) w.heap.size [.int .i64 y.kind,.int .i64 y.num,.string y.name,.slice A1 y.args.length c1]:=((((HK1.out.set 0 (.int .i64 y.kind)).set 1 (.int .i64 y.num)).set 2 (.string y.name)).set 3 (.slice A1 y.args.length c1))
 have hb1:Below w.heap.size w ((((w1.setCell ⟨w.heap.size,0,none⟩ (.int .i64 y.kind)).setCell ⟨w.heap.size,1,none⟩ (.int .i64 y.num)).setCell ⟨w.heap.size,2,none⟩ (.string y.name)).setCell ⟨w.heap.size,3,none⟩ (.slice A1 y.args.length c1)):=((((HB1.out.setCell (p:=⟨w.heap.size,_,none⟩) (Nat.le_refl _) _).setCell (p:=⟨w.heap.size,_,none⟩) (Nat.le_refl _) _).setCell (p:=⟨w.heap.size,_,none⟩) (Nat.le_refl _) _).setCell (p:=⟨w.heap.size,_,none⟩) (Nat.le_refl _) _)
 have hn1:NewT w ((((w1.setCell ⟨w.heap.size,0,none⟩ (.int .i64 y.kind)).setCell ⟨w.heap.size,1,none⟩ (.int .i64 y.num)).setCell ⟨w.heap.size,2,none⟩ (.string y.name)).setCell ⟨w.heap.size,3,none⟩ (.slice A1 y.args.length c1)) A1 y.args:=HN9.out.keep (fun b hb=>setg_other _ _ _ _ _ _ (by have:=hb.1;omega)) (fun b hb=>⟨Nat.le_of_lt hb.1,by simpa using hb.2⟩)
 obtain ⟨wz,HWZ⟩:=lz (((((w1.setCell ⟨w.heap.size,0,none⟩ (.int .i64 y.kind)).setCell ⟨w.heap.size,1,none⟩ (.int .i64 y.num)).setCell ⟨w.heap.size,2,none⟩ (.string y.name)).setCell ⟨w.heap.size,3,none⟩ (.slice A1 y.args.length c1)))
 rw [←HWZ.out] at hk1 hb1 hn1
 have HK9:=zq hk1
 have HB9:=zq hb1
 have HNN:=zq hn1
 clear hk1 hb1 hn1
 go_wp2_with fail
 rw [←HWZ.out]
 have m0:=HK9.out.c 0 (.int .i64 y.kind) rfl
 have m1:=HK9.out.c 1 (.int .i64 y.num) rfl
 have m2:=HK9.out.c 2 (.string y.name) rfl
 have m3:=HK9.out.c 3 (.slice A1 y.args.length c1) rfl
 exact bodyPost_ret (v:=.agg #[.int .i64 y.kind,.int .i64 y.num,.string y.name,.slice A1 y.args.length c1]) (by simp [results,Tryz.results66,go_sem,m0,m1,m2,m3]) rfl ⟨A1,c1,rfl,HB9.out,HNN.out⟩
end Go.Proofs.YtpokpgkjaifccaaGreatDoorRR
