/- Parts of the proof. -/
import Derived.Test.YtpokpgkjaifccaaGreatDoorRRH01
import Derived.Test.YtpokpgkjaifccaaGreatDoorRRH12
import Derived.Lib.BufferMore
import Derived.Lib.AppendZerosOnto
import Derived.Lib.Overlaps
import Derived.Shelf.Spec.SlicesInsert
import Derived.Laws.CopyRow
import Derived.Laws.CopyOwn
import Derived.Deep.DeepMust
namespace Hb
open Go Go.RowKit
def iE (t:Tm):Option Tm:=if t.kind=0 then some biT else if ¬t.kind=1 then some (btT sInteger t) else none
end Hb
namespace Go.Proofs.YtpokpgkjaifccaaGreatDoorRR
open Go.RowKit Hb Go.Shelf
set_option maxRecDepth 100000
set_option linter.unusedSimpArgs false
set_option maxHeartbeats 1600000 in
theorem b_char (t:Tm) (A:Option Addr) (cap:Nat) (w:World) (hv:validT t=true) (hT:TmsAt w.heap.size w A t.args):Calls Tryz.prog 76 #[tmV t A cap] w fun e w'=>Below w.heap.size w w'∧ElR (chE t) (chV t) w w' e:=by
 obtain ⟨R,HR⟩:=lz (biT)
 have HBO:Hid (∀X,Below w.heap.size w X→Calls Tryz.prog 97 #[tmV t A cap] X fun e w'=>Below X.heap.size X w'∧((t.kind=0∧∃A' c',e=.returned (.tuple #[tmV R A' c',.bool false])∧NewT X w' A' R.args)∨(¬t.kind=0∧e=.returned (.tuple #[.agg #[.int .i64 0,.int .i64 0,.string ⟨#[]⟩,.slice none 0 0],.bool true])))):=zq fun X hX=>by
  rw [HR.out];exact b_bound t A cap X hv ((hT.keep hX).mono hX.size)
 have HB0:Hid (Below w.heap.size w ((w.alloc (.cells #[.int .i64 t.kind,.int .i64 t.num,.string t.name,.slice A t.args.length cap] 32)).alloc (.cells #[.int .i64 0,.int .i64 0,.string ⟨#[]⟩,.slice none 0 0] 32))):=zq (((Below.refl _ w).alloc (Nat.le_refl _) _).alloc (by simp) _)
 have HK0:Hid (Bks ((w.alloc (.cells #[.int .i64 t.kind,.int .i64 t.num,.string t.name,.slice A t.args.length cap] 32)).alloc (.cells #[.int .i64 0,.int .i64 0,.string ⟨#[]⟩,.slice none 0 0] 32)) [(w.heap.size+1,[.int .i64 0,.int .i64 0,.string ⟨#[]⟩,.slice none 0 0]),(w.heap.size,[.int .i64 t.kind,.int .i64 t.num,.string t.name,.slice A t.args.length cap])]):=zq (((Bks.nil w).new [.int .i64 t.kind,.int .i64 t.num,.string t.name,.slice A t.args.length cap] 32 rfl).new [.int .i64 0,.int .i64 0,.string ⟨#[]⟩,.slice none 0 0] 32 (by simp))
 have hlt:w.heap.size+1<w.heap.size+1+1:=by omega
 have HT:=zq hT
 clear hT hv
 obtain ⟨Q,HQ⟩:=lz (btT sChar t)
 have HTY:Hid (∀X,Below w.heap.size w X→Calls Tryz.prog 79 #[.string ⟨#[99,104,97,114,97,99,116,101,114]⟩,tmV t A cap] X fun e w'=>∃A' c',e=.returned (tmV Q A' c')∧Below X.heap.size X w'∧NewT X w' A' Q.args):=zq fun X hX=>by
  rw [HQ.out];exact b_type ⟨#[99,104,97,114,97,99,116,101,114]⟩ t A cap X (by decide) ((HT.out.keep hX).mono hX.size)
 rcases Decidable.em (t.kind=0) with d0 | d0
 ·have HE:Hid (chE t=some R):=zq (by rw [HR.out];unfold chE;rw [if_pos d0])
  have D0:=zq d0
  clear d0
  rw [HE.out]
  unfold tmV at *
  go_enter Tryz.func76,Tryz.ntmps76
  go_wp2_with fail
  refine (HBO.out _ HB0.out).mono ?_;rintro e w1 ⟨hB1,(⟨_,xa,xc,rfl,hN1⟩ | ⟨h,_⟩)⟩
  ·have HB1:=bz HB0 hB1
   have HK1:=zq (HK0.out.call hB1)
   have HN1:=zq (NewT.lo (lo:=w.heap.size+1+1) hN1 (by simp))
   clear hB1 hN1 HB0 HK0
   obtain ⟨wz,HWZ,HBZ,HKZ,HNZ⟩:=fin4 (xc:=xc) 0 HB1.out HK1.out rfl rfl HN1.out (by omega) (by have:=hlt;omega)
   have ca:=HK1.out.all
   simp only [bksAll,bkAll,Nat.zero_add,Nat.reduceAdd,and_true] at ca
   go_wp2_with fail
   rw [←HWZ.out]
   have cz:=HKZ.out.all
   simp only [bksAll,bkAll,Nat.zero_add,Nat.reduceAdd,and_true,List.set_cons_zero] at cz
   simp only [List.set_cons_zero] at HKZ
   clear ca HWZ
   obtain ⟨wy,HWZ9,HBZ9,HKZ9,HNZ9⟩:=fin4 (xc:=xc) 0 HBZ.out HKZ.out rfl rfl HNZ.out (by omega) (by have:=hlt;omega)
   have ca9:=HKZ.out.all
   simp only [bksAll,bkAll,Nat.zero_add,Nat.reduceAdd,and_true] at ca9
   go_wp2_with go_region
   rw [←HWZ9.out]
   have cy:=HKZ9.out.all
   simp only [bksAll,bkAll,Nat.zero_add,Nat.reduceAdd,and_true,List.set_cons_zero] at cy
   exact bodyPost_ret (v:=.tuple #[.int .i64 0,.agg #[.int .i64 R.kind,.int .i64 R.num,.string R.name,.slice xa R.args.length xc],.bool false]) (by simp [results,Tryz.results76,go_sem,cy]) rfl ⟨HBZ9.out.drew,xa,xc,rfl,(HNZ9.out.newT (by omega)).keep (fun _ _=>rfl) (fun _ h=>h)⟩
  ·exact absurd D0.out h
 ·have D0:=zq d0
  have HE1:Hid (¬(t.kind=2∧t.name.size=1)→chE t=some Q):=zq fun h=>by rw [HQ.out];unfold chE;rw [if_neg d0,if_neg h]
  have HE2:Hid (t.kind=2∧t.name.size=1→chE t=none):=zq fun h=>by unfold chE;rw [if_neg d0,if_pos h]
  have HVL:Hid (∀c:UInt8,t.name=⟨#[c]⟩→chV t=(c.toNat:Int)):=zq fun c h=>by unfold chV;rw [h];rfl
  clear d0
  unfold tmV at *
  generalize chE t=E at *
  generalize chV t=V at *
  clear HQ HT HR
  generalize t.kind=a0 at *
  generalize t.num=a1 at *
  generalize t.name=a2 at *
  generalize t.args.length=a3 at *
  have d:(a0=2∧∃c,a2=⟨#[c]⟩)∨(a0=2∧¬a2.size=1)∨¬a0=2:=by
   rcases Decidable.em (a0=2) with h | h
   ·rcases Decidable.em (a2.size=1) with k | k
    ·exact .inl ⟨h,one_byte k⟩
    ·exact .inr (.inl ⟨h,k⟩)
   ·exact .inr (.inr h)
  rcases d with ⟨rfl,c,rfl⟩ | ⟨rfl,d2⟩ | d2
  ·have HE:=zq (HE2.out ⟨rfl,rfl⟩)
   have HIX:∀W,(Instr.index 9 (.string ⟨#[c]⟩) (.int .i64 0)).run Tryz.prog W=.ok (.int .u8 (c.toNat:Int)) W:=fun W=>by simp [Instr.index,run_underlying Tryz.underlying9,asIntOf,go_sem];rfl
   have hc:(c.toNat:Int)<256:=by have:=c.toNat_lt;omega
   have HVC:=zq (HVL.out c rfl)
   clear HE1 HE2 HVL HTY
   rw [HE.out,HVC.out]
   go_enter Tryz.func76,Tryz.ntmps76
   go_wp2_with fail
   refine (HBO.out _ HB0.out).mono ?_;rintro e w1 ⟨hB1,(⟨h,_⟩ | ⟨_,rfl⟩)⟩
   ·exact absurd h D0.out
   have HB1:=bz HB0 hB1
   have HK1:=zq (HK0.out.call hB1)
   have hs1:=hB1.size
   simp only [World.size_alloc] at hs1
   clear hB1 HB0 HK0 HBO
   have HN1:Hid (TmsK (fun b=>w.heap.size+1+1≤b∧b<w1.heap.size) w1 none tm0.args):=zq TmsK.nil
   obtain ⟨wz,HWZ,HBZ,HKZ,HNZ⟩:=fin4 (xc:=0) 0 HB1.out HK1.out rfl rfl HN1.out (by omega) (by have:=hlt;omega)
   have hs2:w1.heap.size≤wz.heap.size:=by rw [HWZ.out];simp
   change Hid (wz=(((w1.setCell _ (.int .i64 0)).setCell _ (.int .i64 0)).setCell _ (.string ⟨#[]⟩)).setCell _ (.slice none 0 0)) at HWZ
   change Hid (Bks wz [(w.heap.size+1,[.int .i64 0,.int .i64 0,.string ⟨#[]⟩,.slice none 0 0]),_]) at HKZ
   have ca:=HK1.out.all
   simp only [bksAll,bkAll,Nat.zero_add,Nat.reduceAdd,and_true] at ca
   have HN3:Hid (TmsK (fun b=>w.heap.size+1+1≤b∧b<wz.heap.size) wz none tm0.args):=zq TmsK.nil
   obtain ⟨wy,HWZ9,HBZ9,HKZ9,_⟩:=fin4 (xc:=0) 0 HBZ.out HKZ.out rfl rfl HN3.out (by omega) (by have:=hlt;omega)
   change Hid (wy=(((wz.setCell _ (.int .i64 0)).setCell _ (.int .i64 0)).setCell _ (.string ⟨#[]⟩)).setCell _ (.slice none 0 0)) at HWZ9
   change Hid (Bks wy [(w.heap.size+1,[.int .i64 0,.int .i64 0,.string ⟨#[]⟩,.slice none 0 0]),_]) at HKZ9
   go_wp2_with fail
   rw [←HWZ.out,←HWZ9.out]
   have cy:=HKZ9.out.all
   simp only [bksAll,bkAll,Nat.zero_add,Nat.reduceAdd,and_true,List.set_cons_zero] at cy
   exact bodyPost_ret (v:=.tuple #[.int .i64 (c.toNat:Int),.agg #[.int .i64 0,.int .i64 0,.string ⟨#[]⟩,.slice none 0 0],.bool true]) (by simp [results,Tryz.results76,go_sem,cy]) rfl ⟨HBZ9.out,rfl⟩
  ·have HE:=zq (HE1.out fun h=>d2 h.2)
   have d3:¬(a2.size:Int)=1:=by omega
   clear HE1 HE2 HVL d2
   rw [HE.out]
   go_enter Tryz.func76,Tryz.ntmps76
   go_wp2_with fail
   refine (HBO.out _ HB0.out).mono ?_;rintro e w1 ⟨hB1,(⟨h,_⟩ | ⟨_,rfl⟩)⟩
   ·exact absurd h D0.out
   have HB1:=bz HB0 hB1
   have HK1:=zq (HK0.out.call hB1)
   have hs1:=hB1.size
   simp only [World.size_alloc] at hs1
   clear hB1 HB0 HK0 HBO
   have HN1:Hid (TmsK (fun b=>w.heap.size+1+1≤b∧b<w1.heap.size) w1 none tm0.args):=zq TmsK.nil
   obtain ⟨wz,HWZ,HBZ,HKZ,HNZ⟩:=fin4 (xc:=0) 0 HB1.out HK1.out rfl rfl HN1.out (by omega) (by have:=hlt;omega)
   have hs2:w1.heap.size≤wz.heap.size:=by rw [HWZ.out];simp
   change Hid (wz=(((w1.setCell _ (.int .i64 0)).setCell _ (.int .i64 0)).setCell _ (.string ⟨#[]⟩)).setCell _ (.slice none 0 0)) at HWZ
   change Hid (Bks wz [(w.heap.size+1,[.int .i64 0,.int .i64 0,.string ⟨#[]⟩,.slice none 0 0]),_]) at HKZ
   have ca:=HK1.out.all
   simp only [bksAll,bkAll,Nat.zero_add,Nat.reduceAdd,and_true] at ca
   go_wp2_with fail
   rw [←HWZ.out]
   have cz:=HKZ.out.all
   simp only [bksAll,bkAll,Nat.zero_add,Nat.reduceAdd,and_true,List.set_cons_zero] at cz
   clear ca HWZ HN1 HB1 HK1 HNZ
   refine (HTY.out _ HBZ.out).mono ?_;rintro e w3 ⟨xa,xc,rfl,hB3,hN3⟩
   have HB3:=bz HBZ hB3
   have HK3:=zq (HKZ.out.call hB3)
   have HN3:=zq (NewT.lo (lo:=w.heap.size+1+1) hN3 (by omega))
   clear hB3 hN3 cz HTY HBZ HKZ
   obtain ⟨wy,HWZ9,HBZ9,HKZ9,HNZ9⟩:=fin4 (xc:=xc) 0 HB3.out HK3.out rfl rfl HN3.out (by omega) (by have:=hlt;omega)
   have ca9:=HK3.out.all
   simp only [bksAll,bkAll,Nat.zero_add,Nat.reduceAdd,and_true] at ca9
   go_wp2_with fail
   rw [←HWZ9.out]
   have cy:=HKZ9.out.all
   simp only [bksAll,bkAll,Nat.zero_add,Nat.reduceAdd,and_true,List.set_cons_zero] at cy
   exact bodyPost_ret (v:=.tuple #[.int .i64 0,.agg #[.int .i64 Q.kind,.int .i64 Q.num,.string Q.name,.slice xa Q.args.length xc],.bool false]) (by simp [results,Tryz.results76,go_sem,cy]) rfl ⟨HBZ9.out,xa,xc,rfl,HNZ9.out.newT (by omega)⟩
  ·have HE:=zq (HE1.out fun h=>d2 h.1)
   clear HE1 HE2 HVL
   rw [HE.out]
   go_enter Tryz.func76,Tryz.ntmps76
   go_wp2_with fail
   refine (HBO.out _ HB0.out).mono ?_;rintro e w1 ⟨hB1,(⟨h,_⟩ | ⟨_,rfl⟩)⟩
   ·exact absurd h D0.out
   have HB1:=bz HB0 hB1
   have HK1:=zq (HK0.out.call hB1)
   have hs1:=hB1.size
   simp only [World.size_alloc] at hs1
   clear hB1 HB0 HK0 HBO
   have HN1:Hid (TmsK (fun b=>w.heap.size+1+1≤b∧b<w1.heap.size) w1 none tm0.args):=zq TmsK.nil
   obtain ⟨wz,HWZ,HBZ,HKZ,HNZ⟩:=fin4 (xc:=0) 0 HB1.out HK1.out rfl rfl HN1.out (by omega) (by have:=hlt;omega)
   have hs2:w1.heap.size≤wz.heap.size:=by rw [HWZ.out];simp
   change Hid (wz=(((w1.setCell _ (.int .i64 0)).setCell _ (.int .i64 0)).setCell _ (.string ⟨#[]⟩)).setCell _ (.slice none 0 0)) at HWZ
   change Hid (Bks wz [(w.heap.size+1,[.int .i64 0,.int .i64 0,.string ⟨#[]⟩,.slice none 0 0]),_]) at HKZ
   have ca:=HK1.out.all
   simp only [bksAll,bkAll,Nat.zero_add,Nat.reduceAdd,and_true] at ca
   go_wp2_with fail
   rw [←HWZ.out]
   have cz:=HKZ.out.all
   simp only [bksAll,bkAll,Nat.zero_add,Nat.reduceAdd,and_true,List.set_cons_zero] at cz
   clear ca HWZ HN1 HB1 HK1 HNZ
   refine (HTY.out _ HBZ.out).mono ?_;rintro e w3 ⟨xa,xc,rfl,hB3,hN3⟩
   have HB3:=bz HBZ hB3
   have HK3:=zq (HKZ.out.call hB3)
   have HN3:=zq (NewT.lo (lo:=w.heap.size+1+1) hN3 (by omega))
   clear hB3 hN3 cz HTY HBZ HKZ
   obtain ⟨wy,HWZ9,HBZ9,HKZ9,HNZ9⟩:=fin4 (xc:=xc) 0 HB3.out HK3.out rfl rfl HN3.out (by omega) (by have:=hlt;omega)
   have ca9:=HK3.out.all
   simp only [bksAll,bkAll,Nat.zero_add,Nat.reduceAdd,and_true] at ca9
   go_wp2_with fail
   rw [←HWZ9.out]
   have cy:=HKZ9.out.all
   simp only [bksAll,bkAll,Nat.zero_add,Nat.reduceAdd,and_true,List.set_cons_zero] at cy
   exact bodyPost_ret (v:=.tuple #[.int .i64 0,.agg #[.int .i64 Q.kind,.int .i64 Q.num,.string Q.name,.slice xa Q.args.length xc],.bool false]) (by simp [results,Tryz.results76,go_sem,cy]) rfl ⟨HBZ9.out,xa,xc,rfl,HNZ9.out.newT (by omega)⟩
set_option maxHeartbeats 1600000 in
theorem b_int (t:Tm) (A:Option Addr) (cap:Nat) (w:World) (hv:validT t=true) (hT:TmsAt w.heap.size w A t.args):Calls Tryz.prog 98 #[tmV t A cap] w fun e w'=>Below w.heap.size w w'∧ElR (iE t) (t.num) w w' e:=by
 obtain ⟨R,HR⟩:=lz (biT)
 have HBO:Hid (∀X,Below w.heap.size w X→Calls Tryz.prog 97 #[tmV t A cap] X fun e w'=>Below X.heap.size X w'∧((t.kind=0∧∃A' c',e=.returned (.tuple #[tmV R A' c',.bool false])∧NewT X w' A' R.args)∨(¬t.kind=0∧e=.returned (.tuple #[.agg #[.int .i64 0,.int .i64 0,.string ⟨#[]⟩,.slice none 0 0],.bool true])))):=zq fun X hX=>by
  rw [HR.out];exact b_bound t A cap X hv ((hT.keep hX).mono hX.size)
 have HB0:Hid (Below w.heap.size w ((w.alloc (.cells #[.int .i64 t.kind,.int .i64 t.num,.string t.name,.slice A t.args.length cap] 32)).alloc (.cells #[.int .i64 0,.int .i64 0,.string ⟨#[]⟩,.slice none 0 0] 32))):=zq (((Below.refl _ w).alloc (Nat.le_refl _) _).alloc (by simp) _)
 have HK0:Hid (Bks ((w.alloc (.cells #[.int .i64 t.kind,.int .i64 t.num,.string t.name,.slice A t.args.length cap] 32)).alloc (.cells #[.int .i64 0,.int .i64 0,.string ⟨#[]⟩,.slice none 0 0] 32)) [(w.heap.size+1,[.int .i64 0,.int .i64 0,.string ⟨#[]⟩,.slice none 0 0]),(w.heap.size,[.int .i64 t.kind,.int .i64 t.num,.string t.name,.slice A t.args.length cap])]):=zq (((Bks.nil w).new [.int .i64 t.kind,.int .i64 t.num,.string t.name,.slice A t.args.length cap] 32 rfl).new [.int .i64 0,.int .i64 0,.string ⟨#[]⟩,.slice none 0 0] 32 (by simp))
 have hlt:w.heap.size+1<w.heap.size+1+1:=by omega
 have HT:=zq hT
 clear hT hv
 obtain ⟨Q,HQ⟩:=lz (btT sInteger t)
 have HTY:Hid (∀X,Below w.heap.size w X→Calls Tryz.prog 79 #[.string ⟨#[105,110,116,101,103,101,114]⟩,tmV t A cap] X fun e w'=>∃A' c',e=.returned (tmV Q A' c')∧Below X.heap.size X w'∧NewT X w' A' Q.args):=zq fun X hX=>by
  rw [HQ.out];exact b_type ⟨#[105,110,116,101,103,101,114]⟩ t A cap X (by decide) ((HT.out.keep hX).mono hX.size)
 rcases Decidable.em (t.kind=0) with d0 | d0
 ·have HE:Hid (iE t=some R):=zq (by rw [HR.out];unfold iE;rw [if_pos d0])
  have D0:=zq d0
  clear d0
  rw [HE.out]
  unfold tmV at *
  go_enter Tryz.func98,Tryz.ntmps98
  go_wp2_with fail
  refine (HBO.out _ HB0.out).mono ?_;rintro e w1 ⟨hB1,(⟨_,xa,xc,rfl,hN1⟩ | ⟨h,_⟩)⟩
  ·have HB1:=bz HB0 hB1
   have HK1:=zq (HK0.out.call hB1)
   have HN1:=zq (NewT.lo (lo:=w.heap.size+1+1) hN1 (by simp))
   clear hB1 hN1 HB0 HK0
   obtain ⟨wz,HWZ,HBZ,HKZ,HNZ⟩:=fin4 (xc:=xc) 0 HB1.out HK1.out rfl rfl HN1.out (by omega) (by have:=hlt;omega)
   have ca:=HK1.out.all
   simp only [bksAll,bkAll,Nat.zero_add,Nat.reduceAdd,and_true] at ca
   go_wp2_with fail
   rw [←HWZ.out]
   have cz:=HKZ.out.all
   simp only [bksAll,bkAll,Nat.zero_add,Nat.reduceAdd,and_true,List.set_cons_zero] at cz
   simp only [List.set_cons_zero] at HKZ
   clear ca HWZ
   obtain ⟨wy,HWZ9,HBZ9,HKZ9,HNZ9⟩:=fin4 (xc:=xc) 0 HBZ.out HKZ.out rfl rfl HNZ.out (by omega) (by have:=hlt;omega)
   have ca9:=HKZ.out.all
   simp only [bksAll,bkAll,Nat.zero_add,Nat.reduceAdd,and_true] at ca9
   go_wp2_with go_region
   rw [←HWZ9.out]
   have cy:=HKZ9.out.all
   simp only [bksAll,bkAll,Nat.zero_add,Nat.reduceAdd,and_true,List.set_cons_zero] at cy
   exact bodyPost_ret (v:=.tuple #[.int .i64 0,.agg #[.int .i64 R.kind,.int .i64 R.num,.string R.name,.slice xa R.args.length xc],.bool false]) (by simp [results,Tryz.results98,go_sem,cy]) rfl ⟨HBZ9.out.drew,xa,xc,rfl,(HNZ9.out.newT (by omega)).keep (fun _ _=>rfl) (fun _ h=>h)⟩
  ·exact absurd D0.out h
 ·have D0:=zq d0
  have HE1:Hid (¬t.kind=1→iE t=some Q):=zq fun h=>by rw [HQ.out];unfold iE;rw [if_neg d0,if_pos h]
  have HE2:Hid (t.kind=1→iE t=none):=zq fun h=>by unfold iE;rw [if_neg d0,if_neg (fun k=>k h)]
  clear d0
  unfold tmV at *
  generalize iE t=E at *
  clear HQ HT HR
  generalize t.kind=a0 at *
  generalize t.num=a1 at *
  generalize t.name=a2 at *
  generalize t.args.length=a3 at *
  rcases Decidable.em (a0=1) with rfl | d2
  ·have HE:=zq (HE2.out rfl)
   clear HE1 HE2 HTY
   rw [HE.out]
   go_enter Tryz.func98,Tryz.ntmps98
   go_wp2_with fail
   refine (HBO.out _ HB0.out).mono ?_;rintro e w1 ⟨hB1,(⟨h,_⟩ | ⟨_,rfl⟩)⟩
   ·exact absurd h D0.out
   have HB1:=bz HB0 hB1
   have HK1:=zq (HK0.out.call hB1)
   have hs1:=hB1.size
   simp only [World.size_alloc] at hs1
   clear hB1 HB0 HK0 HBO
   have HN1:Hid (TmsK (fun b=>w.heap.size+1+1≤b∧b<w1.heap.size) w1 none tm0.args):=zq TmsK.nil
   obtain ⟨wz,HWZ,HBZ,HKZ,HNZ⟩:=fin4 (xc:=0) 0 HB1.out HK1.out rfl rfl HN1.out (by omega) (by have:=hlt;omega)
   have hs2:w1.heap.size≤wz.heap.size:=by rw [HWZ.out];simp
   change Hid (wz=(((w1.setCell _ (.int .i64 0)).setCell _ (.int .i64 0)).setCell _ (.string ⟨#[]⟩)).setCell _ (.slice none 0 0)) at HWZ
   change Hid (Bks wz [(w.heap.size+1,[.int .i64 0,.int .i64 0,.string ⟨#[]⟩,.slice none 0 0]),_]) at HKZ
   have ca:=HK1.out.all
   simp only [bksAll,bkAll,Nat.zero_add,Nat.reduceAdd,and_true] at ca
   have HN3:Hid (TmsK (fun b=>w.heap.size+1+1≤b∧b<wz.heap.size) wz none tm0.args):=zq TmsK.nil
   obtain ⟨wy,HWZ9,HBZ9,HKZ9,_⟩:=fin4 (xc:=0) 0 HBZ.out HKZ.out rfl rfl HN3.out (by omega) (by have:=hlt;omega)
   change Hid (wy=(((wz.setCell _ (.int .i64 0)).setCell _ (.int .i64 0)).setCell _ (.string ⟨#[]⟩)).setCell _ (.slice none 0 0)) at HWZ9
   change Hid (Bks wy [(w.heap.size+1,[.int .i64 0,.int .i64 0,.string ⟨#[]⟩,.slice none 0 0]),_]) at HKZ9
   go_wp2_with fail
   rw [←HWZ.out,←HWZ9.out]
   have cy:=HKZ9.out.all
   simp only [bksAll,bkAll,Nat.zero_add,Nat.reduceAdd,and_true,List.set_cons_zero] at cy
   exact bodyPost_ret (v:=.tuple #[.int .i64 a1,.agg #[.int .i64 0,.int .i64 0,.string ⟨#[]⟩,.slice none 0 0],.bool true]) (by simp [results,Tryz.results98,go_sem,cy]) rfl ⟨HBZ9.out,rfl⟩
  ·have HE:=zq (HE1.out d2)
   clear HE1 HE2
   rw [HE.out]
   go_enter Tryz.func98,Tryz.ntmps98
   go_wp2_with fail
   refine (HBO.out _ HB0.out).mono ?_;rintro e w1 ⟨hB1,(⟨h,_⟩ | ⟨_,rfl⟩)⟩
   ·exact absurd h D0.out
   have HB1:=bz HB0 hB1
   have HK1:=zq (HK0.out.call hB1)
   have hs1:=hB1.size
   simp only [World.size_alloc] at hs1
   clear hB1 HB0 HK0 HBO
   have HN1:Hid (TmsK (fun b=>w.heap.size+1+1≤b∧b<w1.heap.size) w1 none tm0.args):=zq TmsK.nil
   obtain ⟨wz,HWZ,HBZ,HKZ,HNZ⟩:=fin4 (xc:=0) 0 HB1.out HK1.out rfl rfl HN1.out (by omega) (by have:=hlt;omega)
   have hs2:w1.heap.size≤wz.heap.size:=by rw [HWZ.out];simp
   change Hid (wz=(((w1.setCell _ (.int .i64 0)).setCell _ (.int .i64 0)).setCell _ (.string ⟨#[]⟩)).setCell _ (.slice none 0 0)) at HWZ
   change Hid (Bks wz [(w.heap.size+1,[.int .i64 0,.int .i64 0,.string ⟨#[]⟩,.slice none 0 0]),_]) at HKZ
   have ca:=HK1.out.all
   simp only [bksAll,bkAll,Nat.zero_add,Nat.reduceAdd,and_true] at ca
   go_wp2_with fail
   rw [←HWZ.out]
   have cz:=HKZ.out.all
   simp only [bksAll,bkAll,Nat.zero_add,Nat.reduceAdd,and_true,List.set_cons_zero] at cz
   clear ca HWZ HN1 HB1 HK1 HNZ
   refine (HTY.out _ HBZ.out).mono ?_;rintro e w3 ⟨xa,xc,rfl,hB3,hN3⟩
   have HB3:=bz HBZ hB3
   have HK3:=zq (HKZ.out.call hB3)
   have HN3:=zq (NewT.lo (lo:=w.heap.size+1+1) hN3 (by omega))
   clear hB3 hN3 cz HTY HBZ HKZ
   obtain ⟨wy,HWZ9,HBZ9,HKZ9,HNZ9⟩:=fin4 (xc:=xc) 0 HB3.out HK3.out rfl rfl HN3.out (by omega) (by have:=hlt;omega)
   have ca9:=HK3.out.all
   simp only [bksAll,bkAll,Nat.zero_add,Nat.reduceAdd,and_true] at ca9
   go_wp2_with fail
   rw [←HWZ9.out]
   have cy:=HKZ9.out.all
   simp only [bksAll,bkAll,Nat.zero_add,Nat.reduceAdd,and_true,List.set_cons_zero] at cy
   exact bodyPost_ret (v:=.tuple #[.int .i64 0,.agg #[.int .i64 Q.kind,.int .i64 Q.num,.string Q.name,.slice xa Q.args.length xc],.bool false]) (by simp [results,Tryz.results98,go_sem,cy]) rfl ⟨HBZ9.out,xa,xc,rfl,HNZ9.out.newT (by omega)⟩
set_option maxHeartbeats 1600000 in
theorem b_code (t:Tm) (A:Option Addr) (cap:Nat) (w:World) (hv:validT t=true) (hT:TmsAt w.heap.size w A t.args):Calls Tryz.prog 78 #[tmV t A cap] w fun e w'=>Below w.heap.size w w'∧ElR (cdE t) (t.num) w w' e:=by
 have HBO:Hid (∀X,Below w.heap.size w X→Calls Tryz.prog 98 #[tmV t A cap] X fun e w'=>Below X.heap.size X w'∧ElR (iE t) t.num X w' e):=zq fun X hX=>b_int t A cap X hv ((hT.keep hX).mono hX.size)
 have HB0:Hid (Below w.heap.size w ((w.alloc (.cells #[.int .i64 t.kind,.int .i64 t.num,.string t.name,.slice A t.args.length cap] 32)).alloc (.cells #[.int .i64 0,.int .i64 0,.string ⟨#[]⟩,.slice none 0 0] 32))):=zq (((Below.refl _ w).alloc (Nat.le_refl _) _).alloc (by simp) _)
 have HK0:Hid (Bks ((w.alloc (.cells #[.int .i64 t.kind,.int .i64 t.num,.string t.name,.slice A t.args.length cap] 32)).alloc (.cells #[.int .i64 0,.int .i64 0,.string ⟨#[]⟩,.slice none 0 0] 32)) [(w.heap.size+1,[.int .i64 0,.int .i64 0,.string ⟨#[]⟩,.slice none 0 0]),(w.heap.size,[.int .i64 t.kind,.int .i64 t.num,.string t.name,.slice A t.args.length cap])]):=zq (((Bks.nil w).new [.int .i64 t.kind,.int .i64 t.num,.string t.name,.slice A t.args.length cap] 32 rfl).new [.int .i64 0,.int .i64 0,.string ⟨#[]⟩,.slice none 0 0] 32 (by simp))
 have hlt:w.heap.size+1<w.heap.size+1+1:=by omega
 have HE1:Hid (∀R,iE t=some R→cdE t=some R):=zq fun R h=>by
  unfold iE at h;unfold cdE
  split at h
  ·rename_i k;rw [if_pos k];exact h
  ·rename_i k
   rw [if_neg k]
   split at h
   ·rename_i k2;rw [if_pos k2];exact h
   ·cases h
 have HE2:Hid (iE t=none→(t.num<0∨255<t.num→cdE t=some brT)∧(¬(t.num<0∨255<t.num)→cdE t=none)):=zq fun h=>by
  unfold iE at h;unfold cdE
  split at h
  ·cases h
  ·rename_i k
   rw [if_neg k]
   split at h
   ·cases h
   ·rename_i k2
    rw [if_neg k2]
    exact ⟨fun k3=>if_pos k3,fun k3=>if_neg k3⟩
 obtain ⟨Q,HQ⟩:=lz (brT)
 have HRP:Hid (∀X,Calls Tryz.prog 81 #[.string ⟨#[99,104,97,114,97,99,116,101,114,95,99,111,100,101]⟩] X fun e w'=>∃A' c',e=.returned (tmV Q A' c')∧Below X.heap.size X w'∧NewT X w' A' Q.args):=zq fun X=>by
  rw [HQ.out];exact b_repr X
 rw [←HQ.out] at HE2
 clear hT hv HQ
 unfold tmV at *
 generalize cdE t=E at *
 generalize iE t=I at *
 generalize t.kind=a0 at *
 generalize t.num=a1 at *
 generalize t.name=a2 at *
 generalize t.args.length=a3 at *
 rcases I with _ | R
 ·have HE3:=zq (HE2.out rfl)
  clear HE1 HE2
  rcases Decidable.em (a1<0∨255<a1) with d | d
  ·have HE:=zq (HE3.out.1 d)
   clear HE3
   rw [HE.out]
   have d1:a1<0∨(¬a1<0∧255<a1):=by omega
   clear d
   rcases d1 with d1 | ⟨d1,d2⟩
   ·skip
    go_enter Tryz.func78,Tryz.ntmps78
    go_wp2_with fail
    refine (HBO.out _ HB0.out).mono ?_;rintro e w1 ⟨hB1,rfl⟩
    have HB1:=bz HB0 hB1
    have HK1:=zq (HK0.out.call hB1)
    have hs1:=hB1.size
    simp only [World.size_alloc] at hs1
    clear hB1 HB0 HK0 HBO
    have HN1:Hid (TmsK (fun b=>w.heap.size+1+1≤b∧b<w1.heap.size) w1 none tm0.args):=zq TmsK.nil
    obtain ⟨wz,HWZ,HBZ,HKZ,HNZ⟩:=fin4 (xc:=0) 0 HB1.out HK1.out rfl rfl HN1.out (by omega) (by have:=hlt;omega)
    have hs2:w1.heap.size≤wz.heap.size:=by rw [HWZ.out];simp
    change Hid (wz=(((w1.setCell _ (.int .i64 0)).setCell _ (.int .i64 0)).setCell _ (.string ⟨#[]⟩)).setCell _ (.slice none 0 0)) at HWZ
    change Hid (Bks wz [(w.heap.size+1,[.int .i64 0,.int .i64 0,.string ⟨#[]⟩,.slice none 0 0]),_]) at HKZ
    have ca:=HK1.out.all
    simp only [bksAll,bkAll,Nat.zero_add,Nat.reduceAdd,and_true] at ca
    unfold tmV tm0 Tm.kind Tm.num Tm.name Tm.args
    simp only [List.length_nil]
    go_wp2_with fail
    rw [←HWZ.out]
    have cz:=HKZ.out.all
    simp only [bksAll,bkAll,Nat.zero_add,Nat.reduceAdd,and_true,List.set_cons_zero] at cz
    clear ca HWZ HN1 HB1 HK1 HNZ
    refine (HRP.out _).mono ?_;rintro e w3 ⟨xa,xc,rfl,hB3,hN3⟩
    have HB3:=bz HBZ hB3
    have HK3:=zq (HKZ.out.call hB3)
    have HN3:=zq (NewT.lo (lo:=w.heap.size+1+1) hN3 (by omega))
    clear hB3 hN3 cz HRP HBZ HKZ
    obtain ⟨wy,HWZ9,HBZ9,HKZ9,HNZ9⟩:=fin4 (xc:=xc) 0 HB3.out HK3.out rfl rfl HN3.out (by omega) (by have:=hlt;omega)
    have ca9:=HK3.out.all
    simp only [bksAll,bkAll,Nat.zero_add,Nat.reduceAdd,and_true] at ca9
    go_wp2_with fail
    rw [←HWZ9.out]
    have cy:=HKZ9.out.all
    simp only [bksAll,bkAll,Nat.zero_add,Nat.reduceAdd,and_true,List.set_cons_zero] at cy
    exact bodyPost_ret (v:=.tuple #[.int .i64 0,.agg #[.int .i64 Q.kind,.int .i64 Q.num,.string Q.name,.slice xa Q.args.length xc],.bool false]) (by simp [results,Tryz.results78,go_sem,cy]) rfl ⟨HBZ9.out,xa,xc,rfl,HNZ9.out.newT (by omega)⟩
   ·skip
    go_enter Tryz.func78,Tryz.ntmps78
    go_wp2_with fail
    refine (HBO.out _ HB0.out).mono ?_;rintro e w1 ⟨hB1,rfl⟩
    have HB1:=bz HB0 hB1
    have HK1:=zq (HK0.out.call hB1)
    have hs1:=hB1.size
    simp only [World.size_alloc] at hs1
    clear hB1 HB0 HK0 HBO
    have HN1:Hid (TmsK (fun b=>w.heap.size+1+1≤b∧b<w1.heap.size) w1 none tm0.args):=zq TmsK.nil
    obtain ⟨wz,HWZ,HBZ,HKZ,HNZ⟩:=fin4 (xc:=0) 0 HB1.out HK1.out rfl rfl HN1.out (by omega) (by have:=hlt;omega)
    have hs2:w1.heap.size≤wz.heap.size:=by rw [HWZ.out];simp
    change Hid (wz=(((w1.setCell _ (.int .i64 0)).setCell _ (.int .i64 0)).setCell _ (.string ⟨#[]⟩)).setCell _ (.slice none 0 0)) at HWZ
    change Hid (Bks wz [(w.heap.size+1,[.int .i64 0,.int .i64 0,.string ⟨#[]⟩,.slice none 0 0]),_]) at HKZ
    have ca:=HK1.out.all
    simp only [bksAll,bkAll,Nat.zero_add,Nat.reduceAdd,and_true] at ca
    unfold tmV tm0 Tm.kind Tm.num Tm.name Tm.args
    simp only [List.length_nil]
    go_wp2_with fail
    rw [←HWZ.out]
    have cz:=HKZ.out.all
    simp only [bksAll,bkAll,Nat.zero_add,Nat.reduceAdd,and_true,List.set_cons_zero] at cz
    clear ca HWZ HN1 HB1 HK1 HNZ
    refine (HRP.out _).mono ?_;rintro e w3 ⟨xa,xc,rfl,hB3,hN3⟩
    have HB3:=bz HBZ hB3
    have HK3:=zq (HKZ.out.call hB3)
    have HN3:=zq (NewT.lo (lo:=w.heap.size+1+1) hN3 (by omega))
    clear hB3 hN3 cz HRP HBZ HKZ
    obtain ⟨wy,HWZ9,HBZ9,HKZ9,HNZ9⟩:=fin4 (xc:=xc) 0 HB3.out HK3.out rfl rfl HN3.out (by omega) (by have:=hlt;omega)
    have ca9:=HK3.out.all
    simp only [bksAll,bkAll,Nat.zero_add,Nat.reduceAdd,and_true] at ca9
    go_wp2_with fail
    rw [←HWZ9.out]
    have cy:=HKZ9.out.all
    simp only [bksAll,bkAll,Nat.zero_add,Nat.reduceAdd,and_true,List.set_cons_zero] at cy
    exact bodyPost_ret (v:=.tuple #[.int .i64 0,.agg #[.int .i64 Q.kind,.int .i64 Q.num,.string Q.name,.slice xa Q.args.length xc],.bool false]) (by simp [results,Tryz.results78,go_sem,cy]) rfl ⟨HBZ9.out,xa,xc,rfl,HNZ9.out.newT (by omega)⟩
  ·have HE:=zq (HE3.out.2 d)
   have d1:¬a1<0:=by omega
   have d2:¬255<a1:=by omega
   clear HE3 d HRP
   rw [HE.out]
   go_enter Tryz.func78,Tryz.ntmps78
   go_wp2_with fail
   refine (HBO.out _ HB0.out).mono ?_;rintro e w1 ⟨hB1,rfl⟩
   have HB1:=bz HB0 hB1
   have HK1:=zq (HK0.out.call hB1)
   have hs1:=hB1.size
   simp only [World.size_alloc] at hs1
   clear hB1 HB0 HK0 HBO
   have HN1:Hid (TmsK (fun b=>w.heap.size+1+1≤b∧b<w1.heap.size) w1 none tm0.args):=zq TmsK.nil
   obtain ⟨wz,HWZ,HBZ,HKZ,HNZ⟩:=fin4 (xc:=0) 0 HB1.out HK1.out rfl rfl HN1.out (by omega) (by have:=hlt;omega)
   have hs2:w1.heap.size≤wz.heap.size:=by rw [HWZ.out];simp
   change Hid (wz=(((w1.setCell _ (.int .i64 0)).setCell _ (.int .i64 0)).setCell _ (.string ⟨#[]⟩)).setCell _ (.slice none 0 0)) at HWZ
   change Hid (Bks wz [(w.heap.size+1,[.int .i64 0,.int .i64 0,.string ⟨#[]⟩,.slice none 0 0]),_]) at HKZ
   have ca:=HK1.out.all
   simp only [bksAll,bkAll,Nat.zero_add,Nat.reduceAdd,and_true] at ca
   unfold tmV tm0 Tm.kind Tm.num Tm.name Tm.args
   simp only [List.length_nil]
   have HN3:Hid (TmsK (fun b=>w.heap.size+1+1≤b∧b<wz.heap.size) wz none tm0.args):=zq TmsK.nil
   obtain ⟨wy,HWZ9,HBZ9,HKZ9,_⟩:=fin4 (xc:=0) 0 HBZ.out HKZ.out rfl rfl HN3.out (by omega) (by have:=hlt;omega)
   change Hid (wy=(((wz.setCell _ (.int .i64 0)).setCell _ (.int .i64 0)).setCell _ (.string ⟨#[]⟩)).setCell _ (.slice none 0 0)) at HWZ9
   change Hid (Bks wy [(w.heap.size+1,[.int .i64 0,.int .i64 0,.string ⟨#[]⟩,.slice none 0 0]),_]) at HKZ9
   go_wp2_with fail
   rw [←HWZ.out,←HWZ9.out]
   have cy:=HKZ9.out.all
   simp only [bksAll,bkAll,Nat.zero_add,Nat.reduceAdd,and_true,List.set_cons_zero] at cy
   exact bodyPost_ret (v:=.tuple #[.int .i64 a1,.agg #[.int .i64 0,.int .i64 0,.string ⟨#[]⟩,.slice none 0 0],.bool true]) (by simp [results,Tryz.results78,go_sem,cy]) rfl ⟨HBZ9.out,rfl⟩
 ·have HE:=zq (HE1.out R rfl)
  clear HE1 HE2 HRP
  rw [HE.out]
  go_enter Tryz.func78,Tryz.ntmps78
  go_wp2_with fail
  refine (HBO.out _ HB0.out).mono ?_;rintro e w1 ⟨hB1,⟨xa,xc,rfl,hN1⟩⟩
  have HB1:=bz HB0 hB1
  have HK1:=zq (HK0.out.call hB1)
  have HN1:=zq (NewT.lo (lo:=w.heap.size+1+1) hN1 (by simp))
  clear hB1 hN1 HB0 HK0
  unfold tmV
  obtain ⟨wz,HWZ,HBZ,HKZ,HNZ⟩:=fin4 (xc:=xc) 0 HB1.out HK1.out rfl rfl HN1.out (by omega) (by have:=hlt;omega)
  have ca:=HK1.out.all
  simp only [bksAll,bkAll,Nat.zero_add,Nat.reduceAdd,and_true] at ca
  go_wp2_with fail
  rw [←HWZ.out]
  have cz:=HKZ.out.all
  simp only [bksAll,bkAll,Nat.zero_add,Nat.reduceAdd,and_true,List.set_cons_zero] at cz
  simp only [List.set_cons_zero] at HKZ
  clear ca HWZ
  obtain ⟨wy,HWZ9,HBZ9,HKZ9,HNZ9⟩:=fin4 (xc:=xc) 0 HBZ.out HKZ.out rfl rfl HNZ.out (by omega) (by have:=hlt;omega)
  have ca9:=HKZ.out.all
  simp only [bksAll,bkAll,Nat.zero_add,Nat.reduceAdd,and_true] at ca9
  go_wp2_with go_region
  rw [←HWZ9.out]
  have cy:=HKZ9.out.all
  simp only [bksAll,bkAll,Nat.zero_add,Nat.reduceAdd,and_true,List.set_cons_zero] at cy
  exact bodyPost_ret (v:=.tuple #[.int .i64 0,.agg #[.int .i64 R.kind,.int .i64 R.num,.string R.name,.slice xa R.args.length xc],.bool false]) (by simp [results,Tryz.results78,go_sem,cy]) rfl ⟨HBZ9.out.drew,xa,xc,rfl,(HNZ9.out.newT (by omega)).keep (fun _ _=>rfl) (fun _ h=>h)⟩
end Go.Proofs.YtpokpgkjaifccaaGreatDoorRR
namespace Hb
open Go Go.RowKit
structure ArgsAt (w:World) (b off:Nat) (rs:List TR):Prop where
 lt:b<w.heap.size
 c:∀j u,(rowsC rs)[j]? = some u→w.cell? ⟨b,off+j,none⟩=some u
 s:∀r∈rs,TmsAt w.heap.size w r.2.1 r.1.args
theorem ArgsAt.keep {w w':World} {b off:Nat} {rs:List TR} (h:ArgsAt w b off rs) (hB:Below w.heap.size w w'):ArgsAt w' b off rs :=
 ⟨Nat.lt_of_lt_of_le h.lt hB.size,fun j u hu=>(hB.cell (p:=⟨b,off+j,none⟩) h.lt).trans (h.c j u hu),fun r hr=>((h.s r hr).keep hB).mono hB.size⟩
theorem TmsAt.args {w:World} {A:Option Addr} {l:List Tm} (h:TmsAt w.heap.size w A l) (h0:0<l.length):∃b off rs,A=some ⟨b,off,none⟩∧rs.map (fun r:TR=>r.1)=l∧ArgsAt w b off rs:=by
 obtain ⟨b,off,_,_,rfl,_⟩:=h.get 0 h0
 have key:∀k,k≤l.length→∃rs:List TR,rs.map (fun r:TR=>r.1)=l.take k∧(∀j u,(rowsC rs)[j]? = some u→w.cell? ⟨b,off+j,none⟩=some u)∧∀r∈rs,TmsAt w.heap.size w r.2.1 r.1.args:=by
  intro k
  induction k with
  | zero=>intro _;exact ⟨[],rfl,fun j u hu=>(by simp [rowsC] at hu),fun r hr=>(by cases hr)⟩
  | succ k ih=>
   intro hk
   obtain ⟨rs,h1,h2,h3⟩:=ih (by omega)
   have hkl:k<l.length:=hk
   obtain ⟨b',off',A',cap',e,hb,c0,c1,c2,c3,hs⟩:=h.get k hkl
   cases e
   have hlen:rs.length=k:=by have:=congrArg List.length h1;rw [List.length_map,List.length_take] at this;omega
   refine ⟨rs++[(l[k],A',cap')],by rw [List.map_append,h1,List.take_succ_eq_append_getElem hkl];rfl,fun j u hu=>?_,fun r hr=>?_⟩
   ·rw [rowsC_app] at hu
    by_cases hj:j<k * 4
    ·rw [List.getElem?_append_left (by rw [rowsC_len,hlen];exact hj)] at hu
     exact h2 j u hu
    ·rw [List.getElem?_append_right (by rw [rowsC_len,hlen];omega),rowsC_len,hlen] at hu
     obtain ⟨i,rfl⟩:∃i,j=k * 4+i:=⟨j-k * 4,by omega⟩
     rw [Nat.add_sub_cancel_left] at hu
     rw [←Nat.add_assoc]
     have e1:rowsC [((l[k],A',cap'):TR)]=[.int .i64 l[k].kind,.int .i64 l[k].num,.string l[k].name,.slice A' l[k].args.length cap']:=rfl
     rw [e1] at hu
     match i,hu with
     | 0,hu=>injection hu with hu;subst hu;exact c0
     | 1,hu=>injection hu with hu;subst hu;exact c1
     | 2,hu=>injection hu with hu;subst hu;exact c2
     | 3,hu=>injection hu with hu;subst hu;exact c3
     | i+4,hu=>simp at hu
   ·rcases List.mem_append.1 hr with hr | hr
    ·exact h3 r hr
    ·rw [List.mem_singleton] at hr;subst hr;exact hs
 obtain ⟨rs,h1,h2,h3⟩:=key l.length (Nat.le_refl _)
 rw [List.take_length] at h1
 obtain ⟨b',off',_,_,e,hb,_⟩:=h.get 0 h0
 cases e
 exact ⟨b,off,rs,rfl,h1,hb,h2,h3⟩
theorem ArgsAt.tms {w:World} {b off:Nat} {rs:List TR} (h:ArgsAt w b off rs) (hm:rs.length≤maxLen):TmsAt w.heap.size w (some ⟨b,off,none⟩) (rs.map (fun r:TR=>r.1)):=by
 refine .mk _ _ (fun j=>(rs.getD j (tm0,none,0)).2.1) (fun j=>(rs.getD j (tm0,none,0)).2.2) (by rw [List.length_map];exact hm) (fun j hj=>?_) (fun j hj=>?_)
 ·rw [List.length_map] at hj
  obtain ⟨p0,p1,p2,p3⟩:=rowsC_get rs j hj
  have e1:rs.getD j (tm0,none,0)=rs[j]:=by rw [List.getD_eq_getElem?_getD,List.getElem?_eq_getElem hj];rfl
  refine ⟨b,off,rfl,h.lt,?_,?_,?_,?_⟩
  ·rw [List.getElem_map];exact h.c _ _ p0
  ·rw [List.getElem_map,Nat.add_assoc];exact h.c _ _ p1
  ·rw [List.getElem_map,Nat.add_assoc];exact h.c _ _ p2
  ·rw [List.getElem_map,Nat.add_assoc];simp only [e1];exact h.c _ _ p3
 ·rw [List.length_map] at hj
  have e1:rs.getD j (tm0,none,0)=rs[j]:=by rw [List.getD_eq_getElem?_getD,List.getElem?_eq_getElem hj];rfl
  rw [List.getElem_map];simp only [e1]
  exact h.s _ (List.getElem_mem hj)
theorem run_copy_row4 {P:Program} (w:World) (dT sT ty elem:TypeId) (g o dLen dCap:Nat) (a:Addr) (sLen sCap:Nat) (cur:List Value) (t:TypeId) (cs:List Value) (m:Nat)
  (hu:P.underlying dT=some (.slice elem)) (hs:(P.info? elem).map (·.size)=some 4)
  (hg:w.heap[g]? = some (.cells cur.toArray t (0,0))) (hm:m=Nat.min sLen dLen) (hn:cs.length=m * 4)
  (hsrc:∀j v,cs[j]? = some v→w.cell? (a.add j)=some v) (hfit:o+cs.length≤cur.length) (h1:∀v∈cs,v.oneCell'=true) :
  (Builtin.copy_ #[dT,sT] ty #[.slice (some ⟨g,o,none⟩) dLen dCap,.slice (some a) sLen sCap]).run P w =
   .ok (goInt m) (w.setRow g (cur.take o++cs++cur.drop (o+cs.length)).toArray):=by
 have hl:=run_loadCells_list (P:=P) w a cs hsrc
 have hst:=run_storeCells_at P g o t cs 0 cur.toArray w hg (by simpa using hfit) h1
 simp only [Nat.add_zero] at hst
 cases hq:P.info? elem with
 | none=>simp [hq] at hs
 | some i=>
  have hi:i.size=4:=by simpa [hq] using hs
  rw [hn] at hl
  simp [Builtin.copy_,run_underlying hu,Builtin.lenOf,Builtin.firstCells,Go.sizeOf,typeInfo,hq,hi,←hm,hl,hst]
def put (rs:List TR) (k:Nat) (qs:List TR):List TR:=rs.take k++qs++rs.drop (k+qs.length)
theorem rowsC_take (rs:List TR) (k:Nat):rowsC (rs.take k)=(rowsC rs).take (k * 4):=by
 rcases Nat.lt_or_ge rs.length k with h | h
 ·rw [List.take_of_length_le (by omega),List.take_of_length_le (by rw [rowsC_len];omega)]
 ·have e:=congrArg rowsC (List.take_append_drop k rs)
  rw [rowsC_app] at e
  rw [←e,List.take_left' (by rw [rowsC_len,List.length_take,Nat.min_eq_left h])]
theorem rowsC_drop (rs:List TR) (k:Nat):rowsC (rs.drop k)=(rowsC rs).drop (k * 4):=by
 rcases Nat.lt_or_ge rs.length k with h | h
 ·rw [List.drop_of_length_le (by omega),List.drop_of_length_le (by rw [rowsC_len];omega)];rfl
 ·have e:=congrArg rowsC (List.take_append_drop k rs)
  rw [rowsC_app] at e
  rw [←e,List.drop_left' (by rw [rowsC_len,List.length_take,Nat.min_eq_left h])]
theorem put_len (rs:List TR) (k:Nat) (qs:List TR) (h:k+qs.length≤rs.length):(put rs k qs).length=rs.length:=by
 unfold put;simp only [List.length_append,List.length_take,List.length_drop];omega
theorem put_cells (rs:List TR) (k:Nat) (qs:List TR) (cur:List Value) (hc:cur.take (rs.length * 4)=rowsC rs) (h:k+qs.length≤rs.length) :
  (cur.take (k * 4)++rowsC qs++cur.drop (k * 4+(rowsC qs).length)).take (rs.length * 4)=rowsC (put rs k qs):=by
 have hl:(rowsC rs).length=rs.length * 4:=rowsC_len rs
 have hcur:rs.length * 4≤cur.length:=by have:=congrArg List.length hc;rw [List.length_take,hl] at this;omega
 unfold put
 rw [rowsC_app,rowsC_app,rowsC_take,rowsC_drop,←hc,rowsC_len,List.take_take,Nat.min_eq_left (by omega)]
 have e1:(cur.take (k * 4)++rowsC qs).length=k * 4+qs.length * 4:=by rw [List.length_append,List.length_take,rowsC_len];omega
 rw [List.take_append,e1,List.take_of_length_le (by rw [e1];omega),List.drop_take,show (k+qs.length) * 4=k * 4+qs.length * 4 by omega]
theorem put_mem {rs:List TR} {k:Nat} {qs:List TR} {r:TR} (h:r∈put rs k qs):r∈rs∨r∈qs:=by
 unfold put at h
 rcases List.mem_append.1 h with h | h
 ·rcases List.mem_append.1 h with h | h
  ·exact .inl (List.mem_of_mem_take h)
  ·exact .inr h
 ·exact .inl (List.mem_of_mem_drop h)
end Hb
namespace Go.Proofs.YtpokpgkjaifccaaGreatDoorRR
open Go.RowKit Hb Go.Shelf
set_option maxRecDepth 100000
set_option linter.unusedSimpArgs false
theorem sizeTmA:(Tryz.prog.info? 32).map (·.size)=some 4:=by kernel_rfl
set_option maxHeartbeats 1600000 in
theorem a_clone (b off cap n:Nat) (rs:List TR) (w:World) (hn:n=rs.length) (hm:n≤8) (hA:ArgsAt w b off rs) :
  Calls Tryz.prog 94 #[.slice (some ⟨b,off,none⟩) n cap] w fun e w'=>∃A' cap',e=.returned (.slice A' n cap')∧Below w.heap.size w w'∧w'.ownsRow w.heap.size 32 4 (.slice A' n cap') n (rowsC rs):=by
 obtain ⟨i,hi,hz0,hz1,hz2⟩:=info_parts infoTm
 have HI:=zq hi
 have HZ0:=zq hz0
 have HZ1:=zq hz1
 have HZ2:=zq hz2
 have HN:=zq hn
 have hE:=zq (own_empty w w.heap.size 32 4 (Nat.le_refl _))
 have hB0:=(Below.refl w.heap.size w).alloc (Nat.le_refl _) (.cells #[] 32)
 have HPA:=zq (hA.keep hB0)
 clear hi hz0 hz1 hz2 hn hA
 have q22:∀(w:World) (a:Option Addr) (n c n' c':Nat),(binOp .eql 30 (.slice a n c) (.slice none n' c')).run Tryz.prog w=.ok (.bool a.isNone) w:=fun w a n c n' c'=>Lib.run_eql_slice_nil w _ _ a n c n' c' Tryz.underlying30
 go_enter Tryz.func94,Tryz.ntmps94
 go_wp2_with (at_builtin;go_must (refine wpList_append_own _ rfl _ _ 30 rfl w.heap.size 32 i _ 4 56 Tryz.underlying30 HI.out HZ0.out HZ1.out HZ2.out rfl (by decide) _ 0 [] rfl hE.out ⟨b,off,none⟩ n cap (rowsC rs) rfl (by rw [rowsC_len,HN.out]) (by intro j u hu;rw [addr_add];exact HPA.out.c j u hu) (by intro u hu;unfold rowsC at hu;rw [List.mem_flatMap] at hu;obtain ⟨p,_,hp⟩:=hu;exact rowC_one p u hp) (by unfold maxLen;omega) (by omega) (by simp) ?_;intro v1 w1 hown1 hg1 _))
 rw [Nat.zero_add,List.nil_append] at hown1
 have hB1:Below w.heap.size w w1:=hB0.grown hg1 (by simp) (fun k hk=>Nat.le_of_eq (Option.some.inj (show some w.heap.size=some k from hk)))
 obtain ⟨A',cap',rfl⟩:=own_slice hown1
 have HPP:=zq hown1
 clear hown1
 go_ret
 exact ⟨A',cap',rfl,hB1,HPP.out⟩
theorem at_copyT {ops:Array Oper} {rest:List Oper} {a:Act} {Q:Exit→Act→World→Prop} {w:World} {d t p f x g} (h:wpList Tryz.prog ops Q (⟨d,.call { callee:=.builtin .copy,args:=x,argTypes:=#[30,30] },t,p,f,g⟩::rest) a w):wpList Tryz.prog ops Q (⟨d,.call { callee:=.builtin .copy,args:=x,argTypes:=#[30,30] },t,p,f,g⟩::rest) a w:=h
def WithR (w w':World) (e:Ending) (l:List Tm):Prop:=∃g A' c',e=.returned (.slice (some ⟨g,0,none⟩) 1 1)∧Below w.heap.size w w'∧Bk w' g [.slice A' l.length c']∧TmsAt w'.heap.size w' A' l∧∃g2,A'=some ⟨g2,0,none⟩∧w.heap.size≤g2∧g2<w'.heap.size
set_option maxHeartbeats 3200000 in
theorem a_with (b off cap n k m b2 off2 cap2:Nat) (rs qs:List TR) (w:World) (hn:n=rs.length) (hm:n≤8) (hq:m=qs.length) (h0:0<m) (hkm:k+m≤n) (hA:ArgsAt w b off rs) (hQ:ArgsAt w b2 off2 qs) :
  Calls Tryz.prog 69 #[.slice (some ⟨b,off,none⟩) n cap,.int .i64 k,.slice (some ⟨b2,off2,none⟩) m cap2] w fun e w'=>WithR w w' e ((put rs k qs).map (·.1)):=by
 have HCL:=zq (a_clone b off cap n rs w hn hm hA)
 have HA:=zq hA
 have HQ:=zq hQ
 have HN:=zq hn
 have HM:=zq hq
 clear hA hQ hn hq
 go_enter Tryz.func69,Tryz.ntmps69
 go_wp2_with fail
 refine HCL.out.mono ?_;rintro e w1 ⟨A1,c1,rfl,hB1,hown⟩
 rcases hown.2 with ⟨_,h⟩ | ⟨g,cap',cur,hv,hg,hh,hnc,hcm,hsz,ht⟩
 ·omega
 injection hv with hv1 hv2 hv3
 subst hv1;subst hv3
 obtain ⟨C,rfl⟩:∃C:List Value,cur=C.toArray:=⟨cur.toList,by simp⟩
 have hCl:C.length=c1 * 4:=by simpa using hsz
 have hCt:C.take (rs.length * 4)=rowsC rs:=by have:=HN.out;rw [←this];simpa using ht
 obtain ⟨C',hC'⟩:∃C',C'=C.take (k * 4)++rowsC qs++C.drop (k * 4+(rowsC qs).length):=⟨_,rfl⟩
 have hCp:C'.take (rs.length * 4)=rowsC (put rs k qs):=by rw [hC'];exact put_cells rs k qs C hCt (by have:=HN.out;have:=HM.out;omega)
 have hg1:g<w1.heap.size:=(Array.getElem?_eq_some_iff.1 hh).1
 have hql:(rowsC qs).length=m * 4:=by rw [rowsC_len,HM.out]
 have HH:=zq hh
 have HQ1:=zq (HQ.out.keep hB1)
 have HA1:=zq (HA.out.keep hB1)
 have HCP:Hid (∀ty dc,(Builtin.copy_ #[30,30] ty #[.slice (some ⟨g,k * 4,none⟩) (n-k) dc,.slice (some ⟨b2,off2,none⟩) m cap2]).run Tryz.prog w1=.ok (goInt (m:Int)) (w1.setRow g C'.toArray)):=zq fun ty dc=>by
  have h:=run_copy_row4 (P:=Tryz.prog) w1 30 30 ty 32 g (k * 4) (n-k) dc ⟨b2,off2,none⟩ m cap2 C 32 (rowsC qs) m Tryz.underlying30 sizeTmA HH.out (by simp only [Nat.min_def];split <;> omega) hql
   (fun j v hj=>by rw [addr_add];exact HQ1.out.c j v hj) (by rw [hCl,hql];omega) (by intro u hu;unfold rowsC at hu;rw [List.mem_flatMap] at hu;obtain ⟨p,_,hp⟩:=hu;exact rowC_one p u hp)
  rw [h,hC']
 have hb2:Below w.heap.size w (w1.setRow g C'.toArray):=below_setRow hB1 hg _
 have hl2:C'.length=C.length:=by
  rw [hC'];simp only [List.length_append,List.length_take,List.length_drop,hql]
  omega
 have hrow:(w1.setRow g C'.toArray).heap[g]? = some (.cells C'.toArray 32 (0,0)):=setRow_heap w1 g _ _ _ _ HH.out
 obtain ⟨w2,HW2⟩:=lz (w1.setRow g C'.toArray)
 rw [←HW2.out] at HCP hb2 hrow
 have hput:=put_len rs k qs (by have:=HN.out;have:=HM.out;omega)
 have HAR:Hid (∀W,Below w2.heap.size w2 W→TmsAt W.heap.size W (some ⟨g,0,none⟩) ((put rs k qs).map (fun r:TR=>r.1))):=zq fun W hW=>by
  have hgw:g<w2.heap.size:=(Array.getElem?_eq_some_iff.1 hrow).1
  have hmem:∀r∈put rs k qs,TmsAt w1.heap.size w1 r.2.1 r.1.args:=fun r hr=>by
   rcases put_mem hr with hr | hr
   ·exact ((HA.out.s r hr).keep hB1).mono hB1.size
   ·exact ((HQ.out.s r hr).keep hB1).mono hB1.size
  have hold:∀r∈put rs k qs,TmsAt w.heap.size w r.2.1 r.1.args:=fun r hr=>by
   rcases put_mem hr with hr | hr
   ·exact HA.out.s r hr
   ·exact HQ.out.s r hr
  have hcell:∀j u,(rowsC (put rs k qs))[j]? = some u→w2.cell? ⟨g,0+j,none⟩=some u:=fun j u hu=>by
   rw [←hCp] at hu
   have hj:j<rs.length * 4:=by
    rcases Nat.lt_or_ge j (rs.length * 4) with h | h
    ·exact h
    ·rw [List.getElem?_eq_none (by rw [List.length_take];omega)] at hu;cases hu
   rw [List.getElem?_take_of_lt hj] at hu
   show World.cell? w2 _=_
   unfold World.cell?
   simp only [hrow]
   rw [Nat.zero_add]
   simpa using hu
  have hargs:ArgsAt w2 g 0 (put rs k qs):=⟨hgw,hcell,fun r hr=>((hold r hr).keep hb2).mono hb2.size⟩
  exact (hargs.keep hW).tms (by rw [hput];have:=HN.out;unfold maxLen;omega)
 have HLEN:Hid (((put rs k qs).map (fun r:TR=>r.1)).length=n):=zq (by rw [List.length_map,hput,HN.out])
 have HB2:=zq hb2
 have hgt:=(Array.getElem?_eq_some_iff.1 hrow).1
 clear hown hh ht hsz hCt hCp hC' hCl hql hl2 hrow hb2 hB1 hput HQ1 HA1 HQ HA HH HCL HN HM
 have hm2:n≤8:=hm
 unfold maxLen at hcm
 have e1:¬(c1=k):=by omega
 have e2:¬(k=c1):=by omega
 have q2:(0:Int)≤(k:Int):=by omega
 have q6:(k:Int)≤(n:Int):=by omega
 have q7:(n:Int)≤(c1:Int):=by omega
 have q8:(k:Int)≤(c1:Int):=by omega
 go_wp2_with ((with_reducible refine at_copyT ?_);go_must (refine wpList_copy_runI _ rfl _ _ 30 30 rfl _ _ rfl rfl (HCP.out 3 (c1-k)) ?_))
 go_ret
 refine ⟨w2.heap.size,some ⟨g,0,none⟩,c1,rfl,HB2.out.alloc HB2.out.size _,?_,HAR.out _ ((Below.refl _ _).alloc (Nat.le_refl _) _),g,rfl,hg,by simp;omega⟩
 rw [HLEN.out]
 exact Bk.new w2 [.slice (some ⟨g,0,none⟩) n c1] 30
set_option maxHeartbeats 800000 in
theorem a_atomOrVar (t:Tm) (A:Option Addr) (cap:Nat) (w:World) (hT:TmsAt w.heap.size w A t.args):Calls Tryz.prog 67 #[tmV t A cap] w fun e w'=>Below w.heap.size w w'∧Chk w' e (atomB t):=by
 have HV:=zq (fun W=>a_isVar t A cap W)
 have HA:=zq (fun W=>a_isAtom t A cap W)
 obtain ⟨Q,HQ⟩:=lz (btT sAtom t)
 have HTY:Hid (∀X,Below w.heap.size w X→Calls Tryz.prog 79 #[.string ⟨#[97,116,111,109]⟩,tmV t A cap] X fun e w'=>∃A' c',e=.returned (tmV Q A' c')∧Below X.heap.size X w'∧NewT X w' A' Q.args):=zq fun X hX=>by
  rw [HQ.out];exact b_type ⟨#[97,116,111,109]⟩ t A cap X (by decide) ((hT.keep hX).mono hX.size)
 have HTH:=zq (fun A c W h=>a_throw Q A c W h)
 have HE1:Hid (¬(t.kind=0∨t.kind=2)→atomB t=some Q):=zq fun h=>by rw [HQ.out];exact atomB_yes h
 have HE2:Hid (t.kind=0∨t.kind=2→atomB t=none):=zq fun h=>atomB_no h
 have HB0:Hid (Below w.heap.size w (w.alloc (.cells #[.int .i64 t.kind,.int .i64 t.num,.string t.name,.slice A t.args.length cap] 32))):=zq ((Below.refl _ w).alloc (Nat.le_refl _) _)
 have HK0:Hid (Bks (w.alloc (.cells #[.int .i64 t.kind,.int .i64 t.num,.string t.name,.slice A t.args.length cap] 32)) [(w.heap.size,[.int .i64 t.kind,.int .i64 t.num,.string t.name,.slice A t.args.length cap])]):=zq ((Bks.nil w).new [.int .i64 t.kind,.int .i64 t.num,.string t.name,.slice A t.args.length cap] 32 rfl)
 clear hT HQ
 unfold tmV at *
 generalize atomB t=E at *
 generalize t.kind=a0 at *
 generalize t.num=a1 at *
 generalize t.name=a2 at *
 generalize t.args.length=a3 at *
 rcases (show a0=0∨a0=2∨¬(a0=0∨a0=2) by omega) with rfl | rfl | d
 ·have HE:=zq (HE2.out (.inl rfl))
  rw [HE.out]
  clear HE1 HE2 HTY HTH
  go_enter Tryz.func67,Tryz.ntmps67
  go_wp2_with fail
  refine (HV.out _).mono ?_;rintro e w1 ⟨rfl,hB⟩
  have HB1:=bz HB0 hB
  have HK1:=zq (HK0.out.call hB)
  clear hB HB0 HK0
  have c1:=HK1.out.all
  simp only [bksAll,bkAll,Nat.zero_add,Nat.reduceAdd,and_true] at c1
  go_wp2_with fail
  go_end0
  exact ⟨HB1.out,rfl⟩
 ·have HE:=zq (HE2.out (.inr rfl))
  rw [HE.out]
  clear HE1 HE2 HTY HTH
  go_enter Tryz.func67,Tryz.ntmps67
  go_wp2_with fail
  refine (HV.out _).mono ?_;rintro e w1 ⟨rfl,hB⟩
  have HB1:=bz HB0 hB
  have HK1:=zq (HK0.out.call hB)
  clear hB HB0 HK0
  have c1:=HK1.out.all
  simp only [bksAll,bkAll,Nat.zero_add,Nat.reduceAdd,and_true] at c1
  go_wp2_with fail
  refine (HA.out _).mono ?_;rintro e w2 ⟨rfl,hB⟩
  have HB2:=bz HB1 hB
  have HK2:=zq (HK1.out.call hB)
  clear hB HB1 HK1
  have c2:=HK2.out.all
  simp only [bksAll,bkAll,Nat.zero_add,Nat.reduceAdd,and_true] at c2
  go_wp2_with fail
  go_end0
  exact ⟨HB2.out,rfl⟩
 ·have HE:=zq (HE1.out d)
  have d0:(a0==0)=false:=by simp;omega
  have d2:(a0==2)=false:=by simp;omega
  rw [HE.out]
  clear HE1 HE2 d
  rw [d0] at HV
  rw [d2] at HA
  clear d0 d2
  go_enter Tryz.func67,Tryz.ntmps67
  go_wp2_with fail
  refine (HV.out _).mono ?_;rintro e w1 ⟨rfl,hB⟩
  have HB1:=bz HB0 hB
  have HK1:=zq (HK0.out.call hB)
  clear hB HB0 HK0
  have c1:=HK1.out.all
  simp only [bksAll,bkAll,Nat.zero_add,Nat.reduceAdd,and_true] at c1
  go_wp2_with fail
  refine (HA.out _).mono ?_;rintro e w2 ⟨rfl,hB⟩
  have HB2:=bz HB1 hB
  have HK2:=zq (HK1.out.call hB)
  clear hB HB1 HK1
  have c2:=HK2.out.all
  simp only [bksAll,bkAll,Nat.zero_add,Nat.reduceAdd,and_true] at c2
  go_wp2_with fail
  refine (HTY.out _ HB2.out).mono ?_;rintro e w3 ⟨xa,xc,rfl,hB3,hN3⟩
  have HB3:=bz HB2 hB3
  have HN3:=zq hN3.tms
  clear hB3 hN3 HB2 HK2 c2
  go_wp2_with fail
  refine (HTH.out _ _ _ HN3.out).mono ?_;rintro e w4 ⟨hB4,⟨A4,c4,rfl,hT4⟩⟩
  exact ⟨rfl,HB3.out.trans (hB4.mono HB3.out.size),A4,c4,rfl,hT4⟩
set_option maxHeartbeats 1600000 in
theorem a_size (t:Tm) (A:Option Addr) (cap:Nat) (w:World) (hT:TmsAt w.heap.size w A t.args):Calls Tryz.prog 68 #[tmV t A cap] w fun e w'=>Below w.heap.size w w'∧Chk w' e (sizeB t):=by
 have HV:=zq (fun W=>a_isVar t A cap W)
 have HI:=zq (fun W=>a_isInt t A cap W)
 obtain ⟨Q,HQ⟩:=lz (btT sInteger t)
 have HTY:Hid (∀X,Below w.heap.size w X→Calls Tryz.prog 79 #[.string ⟨#[105,110,116,101,103,101,114]⟩,tmV t A cap] X fun e w'=>∃A' c',e=.returned (tmV Q A' c')∧Below X.heap.size X w'∧NewT X w' A' Q.args):=zq fun X hX=>by
  rw [HQ.out];exact b_type ⟨#[105,110,116,101,103,101,114]⟩ t A cap X (by decide) ((hT.keep hX).mono hX.size)
 obtain ⟨D,HD⟩:=lz (bdT sLess t)
 have HDO:Hid (∀X,Below w.heap.size w X→Calls Tryz.prog 93 #[.string ⟨#[110,111,116,95,108,101,115,115,95,116,104,97,110,95,122,101,114,111]⟩,tmV t A cap] X fun e w'=>∃A' c',e=.returned (tmV D A' c')∧Below X.heap.size X w'∧NewT X w' A' D.args):=zq fun X hX=>by
  rw [HD.out];exact b_domain ⟨#[110,111,116,95,108,101,115,115,95,116,104,97,110,95,122,101,114,111]⟩ t A cap X (by decide) ((hT.keep hX).mono hX.size)
 have HTH:=zq (fun Q A c W h=>a_throw Q A c W h)
 have HE1:Hid (¬(t.kind=0∨t.kind=1)→sizeB t=some Q):=zq fun h=>by rw [HQ.out];exact if_pos h
 have HE2:Hid (t.kind=1∧t.num<0→sizeB t=some D):=zq fun h=>by rw [HD.out];unfold sizeB;rw [if_neg (fun k=>k (.inr h.1)),if_pos h]
 have HE3:Hid ((t.kind=0∨t.kind=1)→¬(t.kind=1∧t.num<0)→sizeB t=none):=zq fun h k=>by unfold sizeB;rw [if_neg (fun h'=>h' h),if_neg k]
 have HB0:Hid (Below w.heap.size w (w.alloc (.cells #[.int .i64 t.kind,.int .i64 t.num,.string t.name,.slice A t.args.length cap] 32))):=zq ((Below.refl _ w).alloc (Nat.le_refl _) _)
 have HK0:Hid (Bks (w.alloc (.cells #[.int .i64 t.kind,.int .i64 t.num,.string t.name,.slice A t.args.length cap] 32)) [(w.heap.size,[.int .i64 t.kind,.int .i64 t.num,.string t.name,.slice A t.args.length cap])]):=zq ((Bks.nil w).new [.int .i64 t.kind,.int .i64 t.num,.string t.name,.slice A t.args.length cap] 32 rfl)
 clear hT HQ HD
 unfold tmV at *
 generalize sizeB t=E at *
 generalize t.kind=a0 at *
 generalize t.num=a1 at *
 generalize t.name=a2 at *
 generalize t.args.length=a3 at *
 rcases (show a0=0∨(a0=1∧a1<0)∨(a0=1∧¬a1<0)∨¬(a0=0∨a0=1) by omega) with rfl | ⟨rfl,d⟩ | ⟨rfl,d⟩ | d
 ·have HE:=zq (HE3.out (.inl rfl) (by omega))
  rw [HE.out]
  clear HE1 HE2 HE3 HTY HTH HDO
  go_enter Tryz.func68,Tryz.ntmps68
  go_wp2_with fail
  refine (HV.out _).mono ?_;rintro e w1 ⟨rfl,hB⟩
  have HB1:=bz HB0 hB
  have HK1:=zq (HK0.out.call hB)
  clear hB HB0 HK0
  have c1:=HK1.out.all
  simp only [bksAll,bkAll,Nat.zero_add,Nat.reduceAdd,and_true] at c1
  go_wp2_with fail
  go_end0
  exact ⟨HB1.out,rfl⟩
 ·have HE:=zq (HE2.out ⟨rfl,d⟩)
  rw [HE.out]
  clear HE1 HE2 HE3 HTY
  go_enter Tryz.func68,Tryz.ntmps68
  go_wp2_with fail
  refine (HV.out _).mono ?_;rintro e w1 ⟨rfl,hB⟩
  have HB1:=bz HB0 hB
  have HK1:=zq (HK0.out.call hB)
  clear hB HB0 HK0
  have c1:=HK1.out.all
  simp only [bksAll,bkAll,Nat.zero_add,Nat.reduceAdd,and_true] at c1
  go_wp2_with fail
  refine (HI.out _).mono ?_;rintro e w2 ⟨rfl,hB⟩
  have HB2:=bz HB1 hB
  have HK2:=zq (HK1.out.call hB)
  clear hB HB1 HK1
  have c2:=HK2.out.all
  simp only [bksAll,bkAll,Nat.zero_add,Nat.reduceAdd,and_true] at c2
  go_wp2_with fail
  refine (HDO.out _ HB2.out).mono ?_;rintro e w3 ⟨xa,xc,rfl,hB3,hN3⟩
  have HB3:=bz HB2 hB3
  have HN3:=zq hN3.tms
  clear hB3 hN3 HB2 HK2 c2
  go_wp2_with fail
  refine (HTH.out _ _ _ _ HN3.out).mono ?_;rintro e w4 ⟨hB4,⟨A4,c4,rfl,hT4⟩⟩
  exact ⟨rfl,HB3.out.trans (hB4.mono HB3.out.size),A4,c4,rfl,hT4⟩
 ·have HE:=zq (HE3.out (.inr rfl) (by omega))
  rw [HE.out]
  clear HE1 HE2 HE3 HTY HTH HDO
  go_enter Tryz.func68,Tryz.ntmps68
  go_wp2_with fail
  refine (HV.out _).mono ?_;rintro e w1 ⟨rfl,hB⟩
  have HB1:=bz HB0 hB
  have HK1:=zq (HK0.out.call hB)
  clear hB HB0 HK0
  have c1:=HK1.out.all
  simp only [bksAll,bkAll,Nat.zero_add,Nat.reduceAdd,and_true] at c1
  go_wp2_with fail
  refine (HI.out _).mono ?_;rintro e w2 ⟨rfl,hB⟩
  have HB2:=bz HB1 hB
  have HK2:=zq (HK1.out.call hB)
  clear hB HB1 HK1
  have c2:=HK2.out.all
  simp only [bksAll,bkAll,Nat.zero_add,Nat.reduceAdd,and_true] at c2
  go_wp2_with fail
  go_end0
  exact ⟨HB2.out,rfl⟩
 ·have HE:=zq (HE1.out d)
  have d0:(a0==0)=false:=by simp;omega
  have d2:(a0==1)=false:=by simp;omega
  rw [HE.out]
  clear HE1 HE2 HE3 d HDO
  rw [d0] at HV
  rw [d2] at HI
  clear d0 d2
  go_enter Tryz.func68,Tryz.ntmps68
  go_wp2_with fail
  refine (HV.out _).mono ?_;rintro e w1 ⟨rfl,hB⟩
  have HB1:=bz HB0 hB
  have HK1:=zq (HK0.out.call hB)
  clear hB HB0 HK0
  have c1:=HK1.out.all
  simp only [bksAll,bkAll,Nat.zero_add,Nat.reduceAdd,and_true] at c1
  go_wp2_with fail
  refine (HI.out _).mono ?_;rintro e w2 ⟨rfl,hB⟩
  have HB2:=bz HB1 hB
  have HK2:=zq (HK1.out.call hB)
  clear hB HB1 HK1
  have c2:=HK2.out.all
  simp only [bksAll,bkAll,Nat.zero_add,Nat.reduceAdd,and_true] at c2
  go_wp2_with fail
  refine (HTY.out _ HB2.out).mono ?_;rintro e w3 ⟨xa,xc,rfl,hB3,hN3⟩
  have HB3:=bz HB2 hB3
  have HN3:=zq hN3.tms
  clear hB3 hN3 HB2 HK2 c2
  go_wp2_with fail
  refine (HTH.out _ _ _ _ HN3.out).mono ?_;rintro e w4 ⟨hB4,⟨A4,c4,rfl,hT4⟩⟩
  exact ⟨rfl,HB3.out.trans (hB4.mono HB3.out.size),A4,c4,rfl,hT4⟩
end Go.Proofs.YtpokpgkjaifccaaGreatDoorRR
namespace Hb
open Go Go.RowKit
def cellsAll (X:World) (b off:Nat):Nat→List Value→Prop
 | _,[]=>True
 | i,v::vs=>X.cell? ⟨b,off+i,none⟩=some v∧cellsAll X b off (i+1) vs
theorem cellsAll_of {X:World} {b off:Nat}:∀(vs:List Value) (i:Nat),(∀j u,vs[j]? = some u→X.cell? ⟨b,off+(i+j),none⟩=some u)→cellsAll X b off i vs
 | [],_,_=>trivial
 | v::vs,i,h=>⟨h 0 v rfl,cellsAll_of vs (i+1) fun j u hu=>by have:=h (j+1) u hu;rwa [show i+(j+1)=i+1+j by omega] at this⟩
theorem ArgsAt.all {w:World} {b off:Nat} {rs:List TR} (h:ArgsAt w b off rs):b<w.heap.size∧cellsAll w b off 0 (rowsC rs):=⟨h.lt,cellsAll_of _ 0 fun j u hu=>by rw [Nat.zero_add];exact h.c j u hu⟩
def RowsAt (w:World) (A:Option Addr) (ls:List (List Tm)):Prop:=∀j (hj:j<ls.length),∃b off A' c',A=some ⟨b,off,none⟩∧b<w.heap.size∧w.cell? ⟨b,off+j,none⟩=some (.slice A' ls[j].length c')∧TmsAt w.heap.size w A' ls[j]
theorem RowsAt.one {w:World} {g c:Nat} {A:Option Addr} {l:List Tm} (hb:Bk w g [.slice A l.length c]) (ht:TmsAt w.heap.size w A l):RowsAt w (some ⟨g,0,none⟩) [l]:=fun j hj=>by
 have h0:j=0:=by simpa using hj
 subst h0
 exact ⟨g,0,A,c,rfl,hb.lt,hb.c 0 _ rfl,ht⟩
theorem ArgsAt.new (w:World) (rs:List TR) (e:TypeId) (h:∀r∈rs,TmsAt w.heap.size w r.2.1 r.1.args):ArgsAt (w.alloc (.cells (rowsC rs).toArray e)) w.heap.size 0 rs :=
 ⟨by simp,fun j x hx=>by rw [World.cell?_alloc_new,Nat.zero_add];simpa using hx,fun r hr=>((h r hr).keep ((Below.refl _ _).alloc (Nat.le_refl _) _)).mono (by simp)⟩
end Hb
namespace Go.Proofs.YtpokpgkjaifccaaGreatDoorRR
open Go.RowKit Hb Go.Shelf
set_option maxRecDepth 100000
set_option linter.unusedSimpArgs false
def RAns (w':World) (e:Ending):RA→Prop
 | .ok ls=>∃A c,e=.returned (.slice A ls.length c)∧RowsAt w' A ls
 | .ball b=>Thr w' b e
theorem WithR.ans {w w':World} {e:Ending} {l:List Tm} (h:WithR w w' e l):Below w.heap.size w w'∧RAns w' e (.ok [l]):=by
 obtain ⟨g,A',c',rfl,hB,hb,ht,_⟩:=h
 exact ⟨hB,_,_,rfl,RowsAt.one hb ht⟩
theorem a_withN (b off cap n k m:Nat) (rs qs:List TR) (w:World) (hn:n=rs.length) (hm:n≤8) (hq:m=qs.length) (h0:0<m) (hkm:k+m≤n) (hA:ArgsAt w b off rs) (hQ:∀r∈qs,TmsAt w.heap.size w r.2.1 r.1.args) :
  Calls Tryz.prog 69 #[.slice (some ⟨b,off,none⟩) n cap,.int .i64 k,.slice (some ⟨w.heap.size,0,none⟩) m m] (w.alloc (.cells (rowsC qs).toArray 32)) fun e w'=>Below w.heap.size w w'∧RAns w' e (.ok [(put rs k qs).map (·.1)]):=by
 have hb:=(Below.refl w.heap.size w).alloc (Nat.le_refl _) (.cells (rowsC qs).toArray 32)
 refine (a_with b off cap n k m w.heap.size 0 m rs qs _ hn hm hq h0 hkm (hA.keep hb) (ArgsAt.new w qs _ hQ)).mono fun e w' hw=>?_
 have:=WithR.ans hw
 exact ⟨hb.trans (this.1.mono (by simp)),this.2⟩
set_option maxHeartbeats 1600000 in
theorem a_length (b off cap:Nat) (t u:Tm) (A U:Option Addr) (c d:Nat) (w:World) (hA:ArgsAt w b off [(t,A,c),(u,U,d)]) :
  Calls Tryz.prog 38 #[.slice (some ⟨b,off,none⟩) 2 cap] w fun e w'=>Below w.heap.size w w'∧RAns w' e (lengthA t u):=by
 have HA0:=zq hA
 have HV:Hid (∀W,Calls Tryz.prog 64 #[tmV t A c] W fun e w'=>e=.returned (.bool (t.kind==0))∧Below W.heap.size W w'):=zq fun W=>a_isVar t A c W
 have HAV:Hid (∀W,ArgsAt W b off [(t,A,c),(u,U,d)]→Calls Tryz.prog 67 #[tmV t A c] W fun e w'=>Below W.heap.size W w'∧Chk w' e (atomB t)):=zq fun W h=>a_atomOrVar t A c W (h.s (t,A,c) (by simp))
 have HSZ:Hid (∀W,ArgsAt W b off [(t,A,c),(u,U,d)]→Calls Tryz.prog 68 #[tmV u U d] W fun e w'=>Below W.heap.size W w'∧Chk w' e (sizeB u)):=zq fun W h=>a_size u U d W (h.s (u,U,d) (by simp))
 have HTH:=zq (fun Q A c W h=>a_throw Q A c W h)
 have HIN:=zq (fun W=>b_inst W)
 have HTI:=zq (fun W=>t_int (t.name.size:Int) W)
 have HWI:Hid (∀W,ArgsAt W b off [(t,A,c),(u,U,d)]→Calls Tryz.prog 69 #[.slice (some ⟨b,off,none⟩) 2 cap,.int .i64 1,.slice (some ⟨W.heap.size,0,none⟩) 1 1] (W.alloc (.cells #[.int .i64 (intT t.name.size).kind,.int .i64 (intT t.name.size).num,.string (intT t.name.size).name,.slice none (intT t.name.size).args.length 0] 32)) fun e w'=>Below W.heap.size W w'∧RAns w' e (.ok [[t,intT t.name.size]])):=zq fun W h=>a_withN b off cap 2 1 1 [(t,A,c),(u,U,d)] [(intT t.name.size,none,0)] W rfl (by decide) rfl (by decide) (by decide) h (fun r hr=>by rw [List.mem_singleton] at hr;subst hr;exact TmsK.nil)
 obtain ⟨LA,HLA⟩:=lz (lengthA t u)
 have HL:Hid (LA=if t.kind=0 then .ball biT else orB (atomB t) (orB (sizeB u) (.ok [[t,intT t.name.size]]))):=zq (by rw [HLA.out];rfl)
 rw [←HLA.out]
 clear hA HLA
 unfold tmV at *
 unfold intT at HWI
 simp only [Tm.kind,Tm.num,Tm.name,Tm.args,List.length_nil] at HWI
 rcases Decidable.em (t.kind=0) with d0 | d0
 ·rw [if_pos d0] at HL
  have d1:(t.kind==0)=true:=by simpa using d0
  rw [d1] at HV
  rw [HL.out]
  clear d0 d1 HL HAV HSZ HWI HTI
  have HA_0:=HA0
  clear HA0
  have fHA_0:=HA_0.out.all
  simp only [rowsC,rowC,List.flatMap_cons,List.flatMap_nil,List.cons_append,List.nil_append,cellsAll,Nat.add_zero,Nat.zero_add,Nat.reduceAdd,and_true] at fHA_0
  go_enter Tryz.func38,Tryz.ntmps38
  go_wp2_with fail
  refine (HV.out _).mono ?_;rintro e w1 ⟨rfl,hB⟩
  clear fHA_0
  have HB1_:=zq hB
  have HA_1:=zq (HA_0.out.keep hB)
  clear hB HA_0 
  have fHA_1:=HA_1.out.all
  simp only [rowsC,rowC,List.flatMap_cons,List.flatMap_nil,List.cons_append,List.nil_append,cellsAll,Nat.add_zero,Nat.zero_add,Nat.reduceAdd,and_true] at fHA_1
  go_wp2_with fail
  refine (HIN.out _).mono ?_;rintro e w2 ⟨xa,xc,rfl,hB,hN⟩
  have HB2_:=bz HB1_ hB
  have HN2_:=zq hN.tms
  clear hB hN
  go_wp2_with fail
  refine (HTH.out _ _ _ _ HN2_.out).mono ?_;rintro e wt ⟨hBt,⟨At,ct,rfl,hTt⟩⟩
  exact ⟨rfl,HB2_.out.trans (hBt.mono HB2_.out.size),⟨At,ct,rfl,hTt⟩⟩
 ·rw [if_neg d0] at HL
  have d1:(t.kind==0)=false:=by simpa using d0
  rw [d1] at HV
  clear d0 d1 HIN
  generalize atomB t=E1 at *
  generalize sizeB u=E2 at *
  rcases E1 with _ | x1
  ·rcases E2 with _ | x2
   ·have HL2:Hid (LA=.ok [[t,intT t.name.size]]):=HL
    rw [HL2.out]
    clear HL HL2 HTH
    have HA_0:=HA0
    clear HA0
    have fHA_0:=HA_0.out.all
    simp only [rowsC,rowC,List.flatMap_cons,List.flatMap_nil,List.cons_append,List.nil_append,cellsAll,Nat.add_zero,Nat.zero_add,Nat.reduceAdd,and_true] at fHA_0
    go_enter Tryz.func38,Tryz.ntmps38
    go_wp2_with fail
    refine (HV.out _).mono ?_;rintro e w1 ⟨rfl,hB⟩
    clear fHA_0
    have HB1_:=zq hB
    have HA_1:=zq (HA_0.out.keep hB)
    clear hB HA_0 
    have fHA_1:=HA_1.out.all
    simp only [rowsC,rowC,List.flatMap_cons,List.flatMap_nil,List.cons_append,List.nil_append,cellsAll,Nat.add_zero,Nat.zero_add,Nat.reduceAdd,and_true] at fHA_1
    go_wp2_with fail
    refine (HAV.out _ HA_1.out).mono ?_;rintro e w2 ⟨hB,rfl⟩
    clear fHA_1
    have HB2_:=bz HB1_ hB
    have HA_2:=zq (HA_1.out.keep hB)
    clear hB HB1_ HA_1 
    have fHA_2:=HA_2.out.all
    simp only [rowsC,rowC,List.flatMap_cons,List.flatMap_nil,List.cons_append,List.nil_append,cellsAll,Nat.add_zero,Nat.zero_add,Nat.reduceAdd,and_true] at fHA_2
    go_wp2_with fail
    refine (HSZ.out _ HA_2.out).mono ?_;rintro e w3 ⟨hB,rfl⟩
    clear fHA_2
    have HB3_:=bz HB2_ hB
    have HA_3:=zq (HA_2.out.keep hB)
    clear hB HB2_ HA_2 
    have fHA_3:=HA_3.out.all
    simp only [rowsC,rowC,List.flatMap_cons,List.flatMap_nil,List.cons_append,List.nil_append,cellsAll,Nat.add_zero,Nat.zero_add,Nat.reduceAdd,and_true] at fHA_3
    go_wp2_with fail
    refine (HTI.out _).mono ?_;rintro e w4 ⟨rfl,hB⟩
    clear fHA_3
    have HB4_:=bz HB3_ hB
    have HA_4:=zq (HA_3.out.keep hB)
    clear hB HB3_ HA_3 
    have fHA_4:=HA_4.out.all
    simp only [rowsC,rowC,List.flatMap_cons,List.flatMap_nil,List.cons_append,List.nil_append,cellsAll,Nat.add_zero,Nat.zero_add,Nat.reduceAdd,and_true] at fHA_4
    go_wp2_with fail
    refine (HWI.out _ HA_4.out).mono ?_;rintro e wz ⟨hBz,⟨A9,c9,rfl,hR9⟩⟩
    have HBZ:=bz HB4_ hBz
    have HRZ:=zq hR9
    clear hBz hR9
    go_wp2_with fail
    go_ret
    exact ⟨HBZ.out,⟨A9,c9,rfl,HRZ.out⟩⟩
   ·have HL2:Hid (LA=.ball x2):=HL
    rw [HL2.out]
    clear HL HL2 HTH HWI HTI
    have HA_0:=HA0
    clear HA0
    have fHA_0:=HA_0.out.all
    simp only [rowsC,rowC,List.flatMap_cons,List.flatMap_nil,List.cons_append,List.nil_append,cellsAll,Nat.add_zero,Nat.zero_add,Nat.reduceAdd,and_true] at fHA_0
    go_enter Tryz.func38,Tryz.ntmps38
    go_wp2_with fail
    refine (HV.out _).mono ?_;rintro e w1 ⟨rfl,hB⟩
    clear fHA_0
    have HB1_:=zq hB
    have HA_1:=zq (HA_0.out.keep hB)
    clear hB HA_0 
    have fHA_1:=HA_1.out.all
    simp only [rowsC,rowC,List.flatMap_cons,List.flatMap_nil,List.cons_append,List.nil_append,cellsAll,Nat.add_zero,Nat.zero_add,Nat.reduceAdd,and_true] at fHA_1
    go_wp2_with fail
    refine (HAV.out _ HA_1.out).mono ?_;rintro e w2 ⟨hB,rfl⟩
    clear fHA_1
    have HB2_:=bz HB1_ hB
    have HA_2:=zq (HA_1.out.keep hB)
    clear hB HB1_ HA_1 
    have fHA_2:=HA_2.out.all
    simp only [rowsC,rowC,List.flatMap_cons,List.flatMap_nil,List.cons_append,List.nil_append,cellsAll,Nat.add_zero,Nat.zero_add,Nat.reduceAdd,and_true] at fHA_2
    go_wp2_with fail
    refine (HSZ.out _ HA_2.out).mono ?_;rintro e wt ⟨hBt,⟨At,ct,rfl,hTt⟩⟩
    exact ⟨rfl,HB2_.out.trans (hBt.mono HB2_.out.size),⟨At,ct,rfl,hTt⟩⟩
  ·have HL2:Hid (LA=.ball x1):=HL
   rw [HL2.out]
   clear HL HL2 HTH HWI HTI HSZ
   have HA_0:=HA0
   clear HA0
   have fHA_0:=HA_0.out.all
   simp only [rowsC,rowC,List.flatMap_cons,List.flatMap_nil,List.cons_append,List.nil_append,cellsAll,Nat.add_zero,Nat.zero_add,Nat.reduceAdd,and_true] at fHA_0
   go_enter Tryz.func38,Tryz.ntmps38
   go_wp2_with fail
   refine (HV.out _).mono ?_;rintro e w1 ⟨rfl,hB⟩
   clear fHA_0
   have HB1_:=zq hB
   have HA_1:=zq (HA_0.out.keep hB)
   clear hB HA_0 
   have fHA_1:=HA_1.out.all
   simp only [rowsC,rowC,List.flatMap_cons,List.flatMap_nil,List.cons_append,List.nil_append,cellsAll,Nat.add_zero,Nat.zero_add,Nat.reduceAdd,and_true] at fHA_1
   go_wp2_with fail
   refine (HAV.out _ HA_1.out).mono ?_;rintro e wt ⟨hBt,⟨At,ct,rfl,hTt⟩⟩
   exact ⟨rfl,HB1_.out.trans (hBt.mono HB1_.out.size),⟨At,ct,rfl,hTt⟩⟩
end Go.Proofs.YtpokpgkjaifccaaGreatDoorRR
