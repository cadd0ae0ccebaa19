/- Parts of the proof. -/
import Derived.Test.YtpokpgkjaifccaaGreatDoorRRH01
import Derived.Test.YtpokpgkjaifccaaGreatDoorRRH14
import Derived.Maps.AppendAt
namespace Hb
open Go Go.RowKit
def chT (codes:Bool) (b:UInt8):Tm:=if codes then intT (b.toNat:Int) else atomT ⟨#[b]⟩
def textT (codes:Bool) (l:List UInt8):Tm:=lisA (l.map (chT codes))
theorem chT_args (codes:Bool) (b:UInt8):(chT codes b).args=[]:=by cases codes <;> rfl
theorem chT_leaf (codes:Bool) (b:UInt8):leafOk (chT codes b):=by
 refine ⟨chT_args codes b,?_⟩
 cases codes
 ·rfl
 ·simp [nodeOk,chT,intT,Tm.kind,Tm.name,Tm.args,tl_data]
end Hb
namespace Go.Proofs.YtpokpgkjaifccaaGreatDoorRR
open Go.RowKit Hb Go.Shelf
set_option maxRecDepth 100000
set_option linter.unusedSimpArgs false
theorem a_chr1 (b:UInt8) (w:World):Calls Tryz.prog 74 #[.int .u8 (b.toNat:Int)] w fun e w'=>∃a c,e=.returned (tmV (chT false b) a c)∧Below w.heap.size w w':=by
 have HTA2:Hid (∀(s:ByteArray) (_:s.size≤100) W,Calls Tryz.prog 75 #[.string s] W fun e w'=>∃a q,e=.returned (.agg #[.int .i64 2,.int .i64 0,.string s,.slice a 0 q])∧Below W.heap.size W w'):=zq fun s h W=>t_atom s h W
 have n0:(0:Int)≤(b.toNat:Int):=by omega
 have n1:(b.toNat:Int)≤255:=by have:=b.toNat_lt;omega
 have hk:∀w:World,(convert 44 9 (.slice (some ⟨w.heap.size,0,none⟩) 1 1)).run Tryz.prog (w.alloc (.cells #[.int .u8 (b.toNat:Int)] 5))=.ok (.string ⟨#[b]⟩) (w.alloc (.cells #[.int .u8 (b.toNat:Int)] 5)):=fun (w:World)=>by
  have:=conv_new1 (P:=Tryz.prog) 44 9 5 Tryz.underlying44 Tryz.underlying5 Tryz.underlying9 (b.toNat:Int) n0 n1 w
  rw [this];simp
 have hk2:=hk (w.alloc (.cells #[.int .i64 0,.int .i64 0,.string ⟨#[]⟩,.slice none 0 0] 32))
 simp only [World.size_alloc] at hk2
 clear hk
 have HB0:Hid (Below w.heap.size w (w.alloc (.cells #[.int .i64 0,.int .i64 0,.string ⟨#[]⟩,.slice none 0 0] 32))):=zq ((Below.refl _ w).alloc (Nat.le_refl _) _)
 have HK0:Hid (Bks (w.alloc (.cells #[.int .i64 0,.int .i64 0,.string ⟨#[]⟩,.slice none 0 0] 32)) [(w.heap.size,[.int .i64 0,.int .i64 0,.string ⟨#[]⟩,.slice none 0 0])]):=zq ((Bks.nil w).new [.int .i64 0,.int .i64 0,.string ⟨#[]⟩,.slice none 0 0] 32 rfl)
 obtain ⟨R,HR⟩:=lz (chT false b)
 have HRV:Hid (∀a c,Value.agg #[.int .i64 R.kind,.int .i64 R.num,.string R.name,.slice a R.args.length c]=.agg #[.int .i64 2,.int .i64 0,.string ⟨#[b]⟩,.slice a 0 c]):=zq (by rw [HR.out];intro a c;rfl)
 have HRN:Hid (R.args=[]):=zq (by rw [HR.out];rfl)
 rw [←HR.out]
 clear HR n0 n1
 unfold tmV
 go_enter Tryz.func74,Tryz.ntmps74
 go_wp2_with fail
 refine (HTA2.out ⟨#[b]⟩ (show (1:Nat)≤100 by decide) _).mono ?_;rintro e w2 ⟨xa,xc,rfl,hB⟩
 rw [←HRV.out]
 have hB1:=((Below.refl (w.alloc (.cells #[.int .i64 0,.int .i64 0,.string ⟨#[]⟩,.slice none 0 0] 32)).heap.size _).alloc (Nat.le_refl _) (.cells #[.int .u8 (b.toNat:Int)] 5)).trans (hB.mono (by simp))
 have HB2:=bz HB0 hB1
 have HK2:=zq (HK0.out.call hB1)
 have hlt:w.heap.size<w.heap.size+1:=by omega
 have HN2:Hid (TmsK (fun b=>w.heap.size+1≤b∧b<w2.heap.size) w2 xa R.args):=zq (by rw [HRN.out];exact TmsK.nil)
 clear hB hB1 HB0 HK0
 obtain ⟨wz,HWZ,HBZ,HKZ,HNZ⟩:=fin4 (xc:=xc) 0 HB2.out HK2.out rfl rfl HN2.out (by omega) (by have:=hlt;omega)
 have ca:=HK2.out.all
 simp only [bksAll,bkAll,Nat.zero_add,Nat.reduceAdd,and_true] at ca
 go_wp2_with fail
 rw [←HWZ.out]
 have cz:=HKZ.out.all
 simp only [bksAll,bkAll,Nat.zero_add,Nat.reduceAdd,and_true,List.set_cons_zero] at cz
 exact bodyPost_ret (v:=.agg #[.int .i64 R.kind,.int .i64 R.num,.string R.name,.slice xa R.args.length xc]) (by simp [results,Tryz.results74,go_sem,cz]) rfl ⟨xa,xc,rfl,HBZ.out⟩
theorem a_cod1 (b:UInt8) (w:World):Calls Tryz.prog 77 #[.int .u8 (b.toNat:Int)] w fun e w'=>∃a c,e=.returned (tmV (chT true b) a c)∧Below w.heap.size w w':=by
 have HTI2:=zq (fun n W=>t_int n W)
 have hw64:wrap64 (b.toNat:Int)=(b.toNat:Int):=IntWalk.wrap64_in _ (by have:=b.toNat_lt;omega)
 have HB0:Hid (Below w.heap.size w (w.alloc (.cells #[.int .i64 0,.int .i64 0,.string ⟨#[]⟩,.slice none 0 0] 32))):=zq ((Below.refl _ w).alloc (Nat.le_refl _) _)
 have HK0:Hid (Bks (w.alloc (.cells #[.int .i64 0,.int .i64 0,.string ⟨#[]⟩,.slice none 0 0] 32)) [(w.heap.size,[.int .i64 0,.int .i64 0,.string ⟨#[]⟩,.slice none 0 0])]):=zq ((Bks.nil w).new [.int .i64 0,.int .i64 0,.string ⟨#[]⟩,.slice none 0 0] 32 rfl)
 obtain ⟨R,HR⟩:=lz (chT true b)
 have HRV:Hid (Value.agg #[.int .i64 R.kind,.int .i64 R.num,.string R.name,.slice none R.args.length 0]=.agg #[.int .i64 1,.int .i64 (b.toNat:Int),.string ⟨#[]⟩,.slice none 0 0]):=zq (by rw [HR.out];rfl)
 have HRN:Hid (R.args=[]):=zq (by rw [HR.out];rfl)
 rw [←HR.out]
 clear HR
 unfold tmV
 go_enter Tryz.func77,Tryz.ntmps77
 go_wp2_with fail
 rw [hw64]
 refine (HTI2.out _ _).mono ?_;rintro e w2 ⟨rfl,hB⟩
 rw [←HRV.out]
 have HB2:=bz HB0 hB
 have HK2:=zq (HK0.out.call hB)
 have hlt:w.heap.size<w.heap.size+1:=by omega
 have HN2:Hid (TmsK (fun b=>w.heap.size+1≤b∧b<w2.heap.size) w2 none R.args):=zq (by rw [HRN.out];exact TmsK.nil)
 clear hB HB0 HK0
 obtain ⟨wz,HWZ,HBZ,HKZ,HNZ⟩:=fin4 (xc:=0) 0 HB2.out HK2.out rfl rfl HN2.out (by omega) (by have:=hlt;omega)
 have ca:=HK2.out.all
 simp only [bksAll,bkAll,Nat.zero_add,Nat.reduceAdd,and_true] at ca
 go_wp2_with fail
 rw [←HWZ.out]
 have cz:=HKZ.out.all
 simp only [bksAll,bkAll,Nat.zero_add,Nat.reduceAdd,and_true,List.set_cons_zero] at cz
 exact bodyPost_ret (v:=.agg #[.int .i64 R.kind,.int .i64 R.num,.string R.name,.slice none R.args.length 0]) (by simp [results,Tryz.results77,go_sem,cz]) rfl ⟨none,0,rfl,HBZ.out⟩
theorem a_characters (w:World):Calls Tryz.prog 41 #[] w fun e w'=>e=.returned (.agg #[.func (.func 74) #[] #[],.func (.func 76) #[] #[]])∧Below w.heap.size w w':=by
 go_enter Tryz.func41,Tryz.ntmps41
 go_wp2_with fail
 exact bodyPost_ret (v:=.agg #[.func (.func 74) #[] #[],.func (.func 76) #[] #[]]) (by simp [results,Tryz.results41,go_sem]) rfl ⟨rfl,(Below.refl _ _).alloc (Nat.le_refl _) _⟩
theorem a_codes (w:World):Calls Tryz.prog 43 #[] w fun e w'=>e=.returned (.agg #[.func (.func 77) #[] #[],.func (.func 78) #[] #[]])∧Below w.heap.size w w':=by
 go_enter Tryz.func43,Tryz.ntmps43
 go_wp2_with fail
 exact bodyPost_ret (v:=.agg #[.func (.func 77) #[] #[],.func (.func 78) #[] #[]]) (by simp [results,Tryz.results43,go_sem]) rfl ⟨rfl,(Below.refl _ _).alloc (Nat.le_refl _) _⟩
end Go.Proofs.YtpokpgkjaifccaaGreatDoorRR
namespace Hb
open Go Go.RowKit
theorem ba_take {α:Type} (s:ByteArray) (f:UInt8→α) (k:Nat) (h:k<s.size):(s.data.toList.take (k+1)).map f=(s.data.toList.take k).map f++[f (s[k]'h)]:=by
 have hl:k<s.data.toList.length:=by simpa using h
 rw [List.take_succ_eq_append_getElem hl,List.map_append]
 rfl
end Hb
namespace Go.Proofs.YtpokpgkjaifccaaGreatDoorRR
open Go.RowKit Hb Go.Shelf
set_option maxRecDepth 100000
set_option linter.unusedSimpArgs false
set_option maxHeartbeats 6400000 in
theorem a_wlistG (co:Bool) (fe fc:Nat) (hen:∀(args:Array Value) (W:World),(callFunc fe args).run Tryz.prog W=.ok (.enter fe args) W) (hee:∀(b:UInt8) X,Calls Tryz.prog fe #[.int .u8 (b.toNat:Int)] X fun e w'=>∃a c,e=.returned (tmV (chT co b) a c)∧Below X.heap.size X w') (s:ByteArray) (w:World) (hs:s.size≤900):Calls Tryz.prog 73 #[.agg #[.func (.func fe) #[] #[],.func (.func fc) #[] #[]],.string s] w fun e w'=>∃A c,e=.returned (tmV (textT co s.data.toList) A c)∧Below w.heap.size w w'∧NewT w w' A (textT co s.data.toList).args:=by
 have HEE:=zq hee
 clear hee
 obtain ⟨R,HR⟩:=lz (textT co s.data.toList)
 obtain ⟨n,HN⟩:=lz (s.size)
 have HTA2:Hid (∀(s:ByteArray) (_:s.size≤100) W,Calls Tryz.prog 75 #[.string s] W fun e w'=>∃a q,e=.returned (.agg #[.int .i64 2,.int .i64 0,.string s,.slice a 0 q])∧Below W.heap.size W w'):=zq fun s h W=>t_atom s h W
 have HB_0:Hid (Below w.heap.size w ((w.alloc (.cells #[.func (.func fe) #[] #[],.func (.func fc) #[] #[]] 67)).alloc (.cells #[.int .i64 0,.int .i64 0,.string ⟨#[]⟩,.slice none 0 0] 32))):=zq (((Below.refl _ w).alloc (Nat.le_refl _) _).alloc (by simp) _)
 have HK_0:Hid (Bks ((w.alloc (.cells #[.func (.func fe) #[] #[],.func (.func fc) #[] #[]] 67)).alloc (.cells #[.int .i64 0,.int .i64 0,.string ⟨#[]⟩,.slice none 0 0] 32)) [(w.heap.size+1,[.int .i64 0,.int .i64 0,.string ⟨#[]⟩,.slice none 0 0]),(w.heap.size,[.func (.func fe) #[] #[],.func (.func fc) #[] #[]])]):=zq (((Bks.nil w).new [.func (.func fe) #[] #[],.func (.func fc) #[] #[]] 67 rfl).new [.int .i64 0,.int .i64 0,.string ⟨#[]⟩,.slice none 0 0] 32 (by simp))
 obtain ⟨wl,HWL⟩:=lz (((w.alloc (.cells #[.func (.func fe) #[] #[],.func (.func fc) #[] #[]] 67)).alloc (.cells #[.int .i64 0,.int .i64 0,.string ⟨#[]⟩,.slice none 0 0] 32)))
 rw [←HWL.out] at HB_0 HK_0
 have hsl:(Builtin.len_ #[9] 3 #[.string s])=(Builtin.len_ #[9] 3 #[.string s]):=rfl
 rw [←HR.out]
 have hn9:n≤900:=by rw [HN.out];exact hs
 clear hs hsl
 go_enter Tryz.func73,Tryz.ntmps73
 go_wp2_with fail
 rw [←HWL.out,←HN.out]
 clear HWL
 go_loopw [5,9] (fun v i wr=>∃(k:Nat) (rs:List TR),k≤n∧i=.int .i64 k∧Hid (rs.map (fun r:TR=>r.1)=(s.data.toList.take k).map (chT co))∧Hid (OwnR wl.heap.size 32 wr v rs)∧Hid (Below wl.heap.size wl wr)) (fun _ i _=>n-(intOf i).toNat)
 case atStart=>exact ⟨0,[],Nat.zero_le _,rfl,zq rfl,zq (OwnR.nul _ _ _),zq (Below.refl _ _)⟩
 case round=>
  obtain ⟨k,rs,hk,rfl,HRS,HO4,HB4⟩:=hrel
  have HKR:Hid (Bks wr [(w.heap.size+1,[.int .i64 0,.int .i64 0,.string ⟨#[]⟩,.slice none 0 0]),(w.heap.size,[.func (.func fe) #[] #[],.func (.func fc) #[] #[]])]):=zq (HK_0.out.call HB4.out)
  obtain ⟨rv,hrv⟩:∃v,v=u5:=⟨_,rfl⟩
  subst hrv
  by_cases hlt:k<n
  ·have hks:k<s.size:=by rw [←HN.out];exact hlt
   obtain ⟨b,HBY⟩:=lz (s[k]'hks)
   obtain ⟨x,HX⟩:=lz (chT co b)
   have HXA:Hid (x.args=[]):=zq (by rw [HX.out];exact chT_args _ _)
   have HEL:Hid (∀X,Calls Tryz.prog fe #[.int .u8 (b.toNat:Int)] X fun e w'=>∃a c,e=.returned (tmV x a c)∧Below X.heap.size X w'):=zq fun X=>by rw [HX.out];exact HEE.out b X
   have HIX:Hid (∀X,(Instr.index 9 (.string s) (.int .i64 (k:Int))).run Tryz.prog X=.ok (.int .u8 (b.toNat:Int)) X):=zq fun X=>by
    rw [run_index_string X 9 s .i64 (k:Int) Tryz.underlying9,dif_pos ⟨by omega,by omega⟩,HBY.out]
    rfl
   have HRT:Hid ((rs++[((x,none,0):TR)]).map (fun r:TR=>r.1)=(s.data.toList.take (k+1)).map (chT co)):=zq (by rw [List.map_append,HRS.out,ba_take s _ k hks,HX.out,HBY.out];rfl)
   have HRL:Hid (rs.length≤100000):=zq (by
    have:=congrArg List.length HRS.out
    rw [List.length_map,List.length_map,List.length_take] at this
    omega)
   have k0:(0:Int)≤(k:Int):=by omega
   have k1:(k:Int)<(n:Nat):=by omega
   have hw2:wrap64 ((k:Int)+1)=(k:Int)+1:=IntWalk.wrap64_in _ (by omega)
   clear hks HRS HX HBY
   unfold tmV at HEL
   have u0:=HKR.out.all
   simp only [bksAll,bkAll,Nat.zero_add,Nat.reduceAdd,and_true] at u0
   go_wp2_with fail
   rename_i K9 hK9
   refine region_last (w0:=wr) [rPure [] [0] (fun | [v]=>v=rv | _=>False),
     rPure [] [1] (fun | [v]=>v=.pointer (some ⟨w.heap.size,0,none⟩) | _=>False),
     rVal [1] [2] (fun | [v]=>v=.func (.func fe) #[] #[] | _=>False),
     rPure [] [3] (fun | [v]=>v=.string s | _=>False),
     rPure [] [4] (fun | [v]=>v=.int .i64 (k:Int) | _=>False),
     rPure [3,4] [5] (fun | [v]=>v=.int .u8 (b.toNat:Int) | _=>False),
     rLf [1,2,3,4,5] 6 x,
     rOne [1,2,3,4,5,6] 7 wr.heap.size x,
     rLast (List.range 8) [8] (fun _=>True),
     rPure (List.range 9) [9,8] (fun | [v,u]=>v=u | _=>False)]
     [some 12,some 13,some 14,some 15,some 16,some 17,some 18,some 19,some 20,some 5] (fun _=>True) (wr.heap.size) 8 (tApp wl 32 rs x) (by kernel_rfl) (Nat.le_refl _) (by kernel_rfl) (by kernel_rfl) ⟨by decide,rfl⟩ (fun j o ho=>?srv9) (fun val Y hv HF=>?fin9)
   case srv9=>
     have hlt:j<10:=(Array.getElem?_eq_some_iff.1 ho).1
     rcases (show j=0∨j=1∨j=2∨j=3∨j=4∨j=5∨j=6∨j=7∨j=8∨j=9 by omega) with rfl | rfl | rfl | rfl | rfl | rfl | rfl | rfl | rfl | rfl
     ·cases ho
      refine srv_pure rfl rfl (fun val E hE hA=>?_)
      have e5:=hE.t 5 (rv) rfl
      exact ⟨rv,fun X=>by simp [execOp,go_sem,e5],rfl⟩
     ·cases ho
      refine srv_pure rfl rfl (fun val E hE hA=>?_)
      have e2:=hE.t 2 (.pointer (some ⟨w.heap.size,0,none⟩)) rfl
      exact ⟨.pointer (some ⟨w.heap.size,0,none⟩),fun X=>by simp [execOp,go_sem,e2],rfl⟩
     ·cases ho
      refine srv_val rfl rfl (fun _ _ _=>trivial) (fun val E X hE hB hA=>?_)
      have e13:=hE.t 13 (val 1) rfl
      have h1:val 1=.pointer (some ⟨w.heap.size,0,none⟩):=hA 1 (oz rfl)
      have HX:=(HKR.out.call hB).all
      simp only [bksAll,bkAll,Nat.zero_add,Nat.reduceAdd,and_true] at HX
      exact ⟨.func (.func fe) #[] #[],by simp [execOp,go_sem,e13,h1,HX],rfl⟩
     ·cases ho
      refine srv_pure rfl rfl (fun val E hE hA=>?_)
      have e1:=hE.t 1 (.string s) rfl
      exact ⟨.string s,fun X=>by simp [execOp,go_sem,e1],rfl⟩
     ·cases ho
      refine srv_pure rfl rfl (fun val E hE hA=>?_)
      have e6:=hE.t 6 (.int .i64 (k:Int)) rfl
      exact ⟨.int .i64 (k:Int),fun X=>by simp [execOp,go_sem,e6],rfl⟩
     ·cases ho
      refine srv_pure rfl rfl (fun val E hE hA=>?_)
      have e15:=hE.t 15 (val 3) rfl
      have h3:val 3=.string s:=hA 3 (oz rfl)
      have e16:=hE.t 16 (val 4) rfl
      have h4:val 4=.int .i64 (k:Int):=hA 4 (oz rfl)
      exact ⟨.int .u8 (b.toNat:Int),fun X=>by simp [execOp,go_sem,e15,h3,e16,h4,HIX.out],rfl⟩
     ·cases ho
      refine srv_cal rfl rfl fun val E X N hE hC hA hc=>?_
      have e14:=hE.t 14 (val 2) rfl
      have h2:val 2=.func (.func fe) #[] #[]:=hA 2 (oz rfl)
      have e17:=hE.t 17 (val 5) rfl
      have h5:val 5=.int .u8 (b.toNat:Int):=hA 5 (oz rfl)
      exact ⟨_,_,by simp [execOp,go_sem,hE.f,e14,h2,e17,h5] <;> first | rfl | exact hen _ _,(HEL.out X).mono fun e w' h=>by
       obtain ⟨a,c,he,hB⟩:=h
       exact ⟨_,he,hB,⟨a,c,rfl⟩,fun _ _ _=>trivial⟩⟩
     ·cases ho
      refine srv_mk rfl rfl fun val E X N hE hC hA hc=>?_
      obtain ⟨a,c,h6⟩:∃a c,val 6=.agg #[.int .i64 x.kind,.int .i64 x.num,.string x.name,.slice a x.args.length c]:=hA 6 (oz rfl)
      have e18:=hE.t 18 (val 6) rfl
      have hal:=(Below.refl X.heap.size X).alloc (Nat.le_refl _) (.cells #[.int .i64 x.kind,.int .i64 x.num,.string x.name,.slice a x.args.length c] 32)
      exact ⟨.slice (some ⟨X.heap.size,0,none⟩) 1 1,X.alloc (.cells #[.int .i64 x.kind,.int .i64 x.num,.string x.name,.slice a x.args.length c] 32),by simp [execOp,go_sem,e18,h6],hal,⟨_,rfl⟩,fun N' h1 h2=>⟨_,a,c,rfl,h2 _ (Nat.le_refl _) (by simp),Bk.new X _ 32,by rw [HXA.out];exact TmsK.nil⟩⟩
     ·cases ho
      refine srv_last rfl rfl fun val E X N hE hC hA hc _=>?_
      obtain ⟨g,a,c,h7,hg,hb,ht⟩:∃g a c,val 7=.slice (some ⟨g,0,none⟩) 1 1∧N g∧Bk X g (rowC (x,a,c))∧TmsK (fun b=>N b∧wr.heap.size≤b) X a x.args:=hc 7 (oz rfl) rfl
      have e12:=hE.t 12 (val 0) rfl
      have h0:val 0=rv:=hA 0 (oz rfl)
      have e19:=hE.t 19 (val 7) rfl
      rw [h0] at e12
      rw [h7] at e19
      exact (app_runsR (wl:=wl) (.tmp 12) (.tmp 19) rfl rv rs (x,a,c) g 1 e12 (HO4.out.below hC.bel) e19 hb (one_new ht hC.lt rfl HB4.out HO4.out) HRL.out (HB4.out.trans (hC.bel.mono HB4.out.size)))
     ·cases ho
      refine srv_pure rfl rfl (fun val E hE hA=>?_)
      have e20:=hE.t 20 (val 8) rfl
      exact ⟨val 8,fun X=>by simp [execOp,go_sem,e20],rfl⟩
   case fin9=>
    have h0:val 0=rv:=hv 0 (by decide)
    have h1:val 1=.pointer (some ⟨w.heap.size,0,none⟩):=hv 1 (by decide)
    have h2:val 2=.func (.func fe) #[] #[]:=hv 2 (by decide)
    have h3:val 3=.string s:=hv 3 (by decide)
    have h4:val 4=.int .i64 (k:Int):=hv 4 (by decide)
    have h5:val 5=.int .u8 (b.toNat:Int):=hv 5 (by decide)
    obtain ⟨_,_,h6⟩:∃a c,val 6=.agg #[.int .i64 x.kind,.int .i64 x.num,.string x.name,.slice a x.args.length c]:=hv 6 (by decide)
    obtain ⟨_,h7⟩:∃g,val 7=.slice (some ⟨g,0,none⟩) 1 1:=hv 7 (by decide)
    obtain ⟨v9,h8⟩:∃v9,val 8=v9:=⟨_,rfl⟩
    have h9:val 9=val 8:=hv 9 (by decide)
    rw [h8] at h9
    obtain ⟨xa,xc,ho9,hb9⟩:∃a c,OwnR wl.heap.size 32 Y (val 8) (rs++[(x,a,c)])∧Below wl.heap.size wl Y:=HF
    refine hK9 _ _ ?_
    simp only [fillD,List.set_cons_zero,List.set_cons_succ,Nat.reduceAdd,Nat.zero_add,h0,h1,h2,h3,h4,h5,h6,h7,h8,h9]
    rw [h8] at ho9
    have HO9:=zq ho9
    have HB9:=zq hb9
    have HR9:Hid ((rs++[((x,xa,xc):TR)]).map (fun r:TR=>r.1)=(s.data.toList.take (k+1)).map (chT co)):=zq (by rw [←HRT.out];simp)
    clear hv h0 h1 h2 h3 h4 h5 h6 h7 h8 h9 hK9 ho9 hb9 HO4 HB4 HKR HRT HIX HEL u0
    go_wp2_with fail
    go_roundw
    case rel=>exact ⟨k+1,_,by omega,by go_num,HR9,HO9,HB9⟩
    case measure=>simp [intOf] <;> omega
  ·have hkn:k=n:=by omega
   subst hkn
   obtain ⟨A9,c9,hv9,ht9⟩:=HO4.out.tms
   subst hv9
   have HLEN:Hid (rs.length=k):=zq (by
    have:=congrArg List.length HRS.out
    rw [List.length_map,List.length_map,List.length_take] at this
    have h2:=HN.out
    have h3:s.data.toList.length=s.size:=by simp
    omega)
   rw [HLEN.out]
   have HTL:Hid (rs.map (fun r:TR=>r.1)=s.data.toList.map (chT co)):=zq (by
    rw [HRS.out,List.take_of_length_le (by have h2:=HN.out;simp;omega)])
   have HLI:Hid (∀X a c,Below wr.heap.size wr X→Calls Tryz.prog 96 #[.slice A9 k c9,.agg #[.int .i64 2,.int .i64 0,.string ⟨#[91,93]⟩,.slice a 0 c]] X fun e w'=>∃A' c',e=.returned (tmV R A' c')∧Below X.heap.size X w'∧NewT X w' A' R.args):=zq fun X a c hX=>by
    have:=t_listL A9 k c9 (rs.map (fun r:TR=>r.1)) a c X (by rw [List.length_map,HLEN.out]) hn9 (fun x hx=>by
     rw [HTL.out,List.mem_map] at hx
     obtain ⟨b,_,rfl⟩:=hx
     exact chT_leaf _ _) ((TmsK.at' ht9).keep hX |>.mono hX.size)
    rw [HTL.out] at this
    rw [HR.out]
    exact this
   have HB_1:Hid (Below w.heap.size w wr):=zq (HB_0.out.trans (HB4.out.mono HB_0.out.size))
   unfold tmV at HLI
   clear HLEN ht9 HTL HRS HO4 HB4 HB_0 HK_0
   go_wp2_with fail
   refine (HTA2.out ⟨#[91,93]⟩ (by decide) _).mono ?_;rintro e w2 ⟨a2,c2,rfl,hB2⟩
   have HB_2:=bz HB_1 hB2
   have HK_2:=zq (HKR.out.call hB2)
   have HB_R:=zq hB2
   clear hB2 HB_1 HKR HTA2
   go_wp2_with fail
   refine (HLI.out _ _ _ HB_R.out).mono ?_;rintro e w3 ⟨xa,xc,rfl,hB3,hN3⟩
   have HB_3:=bz HB_2 hB3
   have HK_3:=zq (HK_2.out.call hB3)
   have hlt2:=HK_2.out.lt 0 rfl
   have HN_3:=zq (NewT.lo (lo:=w2.heap.size) hN3 (Nat.le_refl _))
   have hs2:=HB_2.out.size
   clear hB3 hN3 HB_2 HK_2 HB_R HLI
   obtain ⟨wz,HWZ,HBZ,HKZ,HNZ⟩:=fin4 (xc:=xc) 0 HB_3.out HK_3.out rfl rfl HN_3.out (by omega) (by have:=hlt2;omega)
   have ca:=HK_3.out.all
   simp only [bksAll,bkAll,Nat.zero_add,Nat.reduceAdd,and_true] at ca
   go_wp2_with fail
   rw [←HWZ.out]
   have cz:=HKZ.out.all
   simp only [bksAll,bkAll,Nat.zero_add,Nat.reduceAdd,and_true,List.set_cons_zero] at cz
   exact bodyPost_ret (v:=.agg #[.int .i64 R.kind,.int .i64 R.num,.string R.name,.slice xa R.args.length xc]) (by simp [results,Tryz.results73,go_sem,cz]) rfl ⟨xa,xc,rfl,HBZ.out,HNZ.out.newT (by omega)⟩
theorem a_wlist0 (s:ByteArray) (w:World) (hs:s.size≤900):Calls Tryz.prog 73 #[.agg #[.func (.func 74) #[] #[],.func (.func 76) #[] #[]],.string s] w fun e w'=>∃A c,e=.returned (tmV (textT false s.data.toList) A c)∧Below w.heap.size w w'∧NewT w w' A (textT false s.data.toList).args:=a_wlistG false 74 76 (fun _ _=>rfl) (fun b X=>a_chr1 b X) s w hs
theorem a_wlist1 (s:ByteArray) (w:World) (hs:s.size≤900):Calls Tryz.prog 73 #[.agg #[.func (.func 77) #[] #[],.func (.func 78) #[] #[]],.string s] w fun e w'=>∃A c,e=.returned (tmV (textT true s.data.toList) A c)∧Below w.heap.size w w'∧NewT w w' A (textT true s.data.toList).args:=a_wlistG true 77 78 (fun _ _=>rfl) (fun b X=>a_cod1 b X) s w hs
end Go.Proofs.YtpokpgkjaifccaaGreatDoorRR
namespace Hb
open Go Go.RowKit
theorem valid_arg {t x:Tm} (h:validT t=true) (hx:x∈t.args):validT x=true:=by
 obtain ⟨h1,h2⟩:=(validT_iff t).1 h
 rw [Tm.allOk_eq,Bool.and_eq_true] at h2
 refine (validT_iff x).2 ⟨?_,List.all_eq_true.1 h2.2 x hx⟩
 rw [Tm.nodes_eq] at h1
 have:x.nodes≤(t.args.map Tm.nodes).sum:=by
  have:∀l:List Tm,x∈l→x.nodes≤(l.map Tm.nodes).sum:=by
   intro l
   induction l with
   | nil=>intro h;cases h
   | cons y l ih=>
    intro h
    rw [List.map_cons,List.sum_cons]
    rcases List.mem_cons.1 h with rfl | h
    ·omega
    ·have:=ih h;omega
  exact this _ hx
 omega
theorem elems_valid:∀(n:Nat) (t:Tm),t.nodes≤n→validT t=true→(∀x∈elemsT t,validT x=true)
 | 0,t,h,_=>absurd h (by have:=t.nodes_pos;omega)
 | n+1,t,h,hv=>by
  by_cases hc:t.cons=true
  ·rw [elemsT_cons hc]
   have hl:=Tm.cons_len hc
   have h0:t.arg 0∈t.args:=by unfold Tm.arg;rw [List.getD_eq_getElem?_getD,List.getElem?_eq_getElem (by omega)];exact List.getElem_mem _
   have h1:t.arg 1∈t.args:=by unfold Tm.arg;rw [List.getD_eq_getElem?_getD,List.getElem?_eq_getElem (by omega)];exact List.getElem_mem _
   have hn:=t.nodes_arg 1 (by omega)
   intro x hx
   rcases List.mem_cons.1 hx with rfl | hx
   ·exact valid_arg hv h0
   ·exact elems_valid n (t.arg 1) (by omega) (valid_arg hv h1) x hx
  ·rw [elemsT_end (by simpa using hc)]
   intro x hx;cases hx
theorem name_small {t:Tm} (hv:validT t=true):t.name.size≤100:=by
 have h:=((validT_iff t).1 hv).2
 rw [Tm.allOk_eq,Bool.and_eq_true] at h
 have h1:=h.1
 unfold nodeOk at h1
 have e0:∀s:ByteArray,s.toList=[]→s.size≤100:=fun s hs=>by
  rw [tl_data] at hs
  have h3:=congrArg List.length hs
  rw [Array.length_toList] at h3
  show s.data.size≤100
  rw [h3];decide
 split at h1
 ·simp at h1;exact e0 _ h1.1.2
 ·split at h1
  ·simp at h1;exact e0 _ h1.1
  ·split at h1
   ·simp at h1;exact h1.1.2
   ·split at h1
    ·simp at h1;exact h1.1.1.2
    ·cases h1
theorem el_range {codes:Bool} {x:Tm} (h:elE codes x=none):0≤elV codes x∧elV codes x≤255:=by
 unfold elE at h;unfold elV
 cases codes
 ·simp only [Bool.false_eq_true,if_false]
  unfold chV
  have:=((x.name.data.toList.getD 0 0).toNat_lt)
  omega
 ·simp only [if_true] at h ⊢
  unfold cdE at h
  split at h
  ·cases h
  ·split at h
   ·cases h
   ·split at h
    ·cases h
    ·rename_i k;omega
theorem some_at {α β:Type} (f:α→Option β) {l:List α} {k:Nat} (h:k<l.length) (h0:(l.take k).findSome? f=none) {b:β} (hb:f l[k]=some b):l.findSome? f=some b:=by
 have e:l=l.take k++(l[k]::l.drop (k+1)):=by rw [←List.drop_eq_getElem_cons h,List.take_append_drop]
 rw [e,List.findSome?_append,h0,Option.none_or,List.findSome?_cons,hb]
theorem none_at {α β:Type} (f:α→Option β) {l:List α} {k:Nat} (h:k<l.length) (h0:(l.take k).findSome? f=none) (hb:f l[k]=none):(l.take (k+1)).findSome? f=none:=by
 rw [List.take_succ_eq_append_getElem h,List.findSome?_append,h0,Option.none_or,List.findSome?_cons,hb]
 rfl
def elsV (codes:Bool) (l:List Tm):List UInt8:=l.map fun x=>(elV codes x).toNat.toUInt8
def spelledA (codes:Bool) (t u:Tm):RA:=orB (atomB t) (if badL (tailT u)=true then .ball (btT sList u) else if (t.kind==2)=true then .ok [[t,textT codes t.name.data.toList]] else if ((tailT u).kind==0)=true then .ball biT
 else orB ((elemsT u).findSome? (elE codes)) (.ok [[atomT ⟨(elsV codes (elemsT u)).toArray⟩,u]]))
def tWith (w:World) (ls:List (List Tm)):List Value→World→Prop | [v],X=>∃A c,v=.slice A ls.length c∧RowsAt X A ls∧Below w.heap.size w X | _,_=>False
end Hb
namespace Go.Proofs.YtpokpgkjaifccaaGreatDoorRR
open Go.RowKit Hb Go.Shelf
set_option maxRecDepth 100000
set_option linter.unusedSimpArgs false
theorem infoU8A:(Tryz.prog.info? 5).map (fun i=>(i.zero,i.size,i.bytes))=some (some (.int .u8 0),1,1):=by kernel_rfl
theorem a_with1 (b off cap n k:Nat) (rs:List TR) (x:Tm) (a:Option Addr) (c g:Nat) (w:World) (hn:n=rs.length) (hm:n≤8) (hkm:k+1≤n) (hA:ArgsAt w b off rs) (hb:Bk w g (rowC (x,a,c))) (ht:TmsAt w.heap.size w a x.args) :
  Calls Tryz.prog 69 #[.slice (some ⟨b,off,none⟩) n cap,.int .i64 k,.slice (some ⟨g,0,none⟩) 1 1] w fun e w'=>Below w.heap.size w w'∧RAns w' e (.ok [(put rs k [(x,a,c)]).map (·.1)]):=by
 have hq:ArgsAt w g 0 [(x,a,c)]:=⟨hb.lt,fun j y hy=>by rw [Nat.zero_add];exact hb.c j y (by simpa [rowsC] using hy),fun r hr=>by rw [List.mem_singleton] at hr;subst hr;exact ht⟩
 exact (a_with b off cap n k 1 g 0 1 rs [(x,a,c)] w hn hm rfl (by decide) hkm hA hq).mono fun e w' hw=>WithR.ans hw
set_option maxHeartbeats 12800000 in
theorem a_spelledG (co:Bool) (fe fc:Nat) (hen:∀(args:Array Value) (W:World),(callFunc fc args).run Tryz.prog W=.ok (.enter fc args) W) (hch:∀(x:Tm) xa xc X,validT x=true→TmsAt X.heap.size X xa x.args→Calls Tryz.prog fc #[tmV x xa xc] X fun e w'=>Below X.heap.size X w'∧ElR (elE co x) (elV co x) X w' e) (hwl:∀(s:ByteArray) (w:World),s.size≤900→Calls Tryz.prog 73 #[.agg #[.func (.func fe) #[] #[],.func (.func fc) #[] #[]],.string s] w fun e w'=>∃A c,e=.returned (tmV (textT co s.data.toList) A c)∧Below w.heap.size w w'∧NewT w w' A (textT co s.data.toList).args) (b off cap:Nat) (t u:Tm) (A U:Option Addr) (c d:Nat) (w:World) (ht:validT t=true) (hu:validT u=true) (hA:ArgsAt w b off [(t,A,c),(u,U,d)]) :
  Calls Tryz.prog 40 #[.slice (some ⟨b,off,none⟩) 2 cap,.agg #[.func (.func fe) #[] #[],.func (.func fc) #[] #[]]] w fun e w'=>Below w.heap.size w w'∧RAns w' e (spelledA co t u):=by
 have HCC:=zq hch
 have HWW:=zq hwl
 clear hch hwl
 have HAV:Hid (∀W,ArgsAt W b off [(t,A,c),(u,U,d)]→Calls Tryz.prog 67 #[tmV t A c] W fun e w'=>Below W.heap.size W w'∧Chk w' e (atomB t)):=zq fun W h=>a_atomOrVar t A c W (h.s (t,A,c) (by simp))
 have HLI:Hid (∀W,ArgsAt W b off [(t,A,c),(u,U,d)]→Calls Tryz.prog 71 #[tmV u U d] W fun e w'=>Below W.heap.size W w'∧LisR u w' e):=zq fun W h=>a_listed u U d W hu (h.s (u,U,d) (by simp))
 have HAT:Hid (∀W,Calls Tryz.prog 72 #[tmV t A c] W fun e w'=>e=.returned (.bool (t.kind==2))∧Below W.heap.size W w'):=zq fun W=>a_isAtom t A c W
 have HIN:=zq (fun W=>b_inst W)
 have HTH:=zq (fun Q A c W h=>a_throw Q A c W h)
 obtain ⟨T,HTT⟩:=lz (textT co t.name.data.toList)
 have HWL:Hid (∀W,Calls Tryz.prog 73 #[.agg #[.func (.func fe) #[] #[],.func (.func fc) #[] #[]],.string t.name] W fun e w'=>∃a c,e=.returned (tmV T a c)∧Below W.heap.size W w'∧NewT W w' a T.args):=zq fun W=>by rw [HTT.out];exact HWW.out t.name W (by have:=name_small ht;omega)
 have HWI:Hid (∀X qa qc g,ArgsAt X b off [(t,A,c),(u,U,d)]→Bk X g [.int .i64 T.kind,.int .i64 T.num,.string T.name,.slice qa T.args.length qc]→TmsAt X.heap.size X qa T.args→Calls Tryz.prog 69 #[.slice (some ⟨b,off,none⟩) 2 cap,.int .i64 1,.slice (some ⟨g,0,none⟩) 1 1] X fun e w'=>Below X.heap.size X w'∧RAns w' e (.ok [[t,T]])):=zq fun X qa qc g h hb hx=>a_with1 b off cap 2 1 [(t,A,c),(u,U,d)] T qa qc g X rfl (by decide) (by decide) h hb hx
 have HW0:Hid (∀(s:ByteArray) W,ArgsAt W b off [(t,A,c),(u,U,d)]→Calls Tryz.prog 69 #[.slice (some ⟨b,off,none⟩) 2 cap,.int .i64 0,.slice (some ⟨W.heap.size,0,none⟩) 1 1] (W.alloc (.cells #[.int .i64 2,.int .i64 0,.string s,.slice none 0 0] 32)) fun e w'=>Below W.heap.size W w'∧RAns w' e (.ok [[atomT s,u]])):=zq fun s W h=>a_withN b off cap 2 0 1 [(t,A,c),(u,U,d)] [(atomT s,none,0)] W rfl (by decide) rfl (by decide) (by decide) h (fun r hr=>by rw [List.mem_singleton] at hr;subst hr;exact TmsK.nil)
 obtain ⟨l,HLL⟩:=lz (elemsT u)
 obtain ⟨n,HNN⟩:=lz (l.length)
 have hn2:n≤2000:=by
  have h1:=elemsT_len u;have h2:=((validT_iff u).1 hu).1
  rw [HNN.out,HLL.out];omega
 have HVL:Hid (∀x∈l,validT x=true):=zq (by rw [HLL.out];exact elems_valid _ u (Nat.le_refl _) hu)
 obtain ⟨lb,HBL⟩:=lz (badL (tailT u))
 obtain ⟨lv,HLV⟩:=lz (((tailT u).kind==0))
 obtain ⟨ta,HTA⟩:=lz ((t.kind==2))
 obtain ⟨Q1,HQ1⟩:=lz (btT sList u)
 obtain ⟨LA,HLA⟩:=lz (spelledA co t u)
 have HL:Hid (LA=orB (atomB t) (if lb=true then .ball Q1 else if ta=true then .ok [[t,T]] else if lv=true then .ball biT else orB (l.findSome? (elE co)) (.ok [[atomT ⟨(elsV co l).toArray⟩,u]]))):=zq (by rw [HLA.out,HBL.out,HLV.out,HTA.out,HQ1.out,HLL.out,HTT.out];rfl)
 have HLI2:Hid (∀W,ArgsAt W b off [(t,A,c),(u,U,d)]→Calls Tryz.prog 71 #[tmV u U d] W fun e w'=>Below W.heap.size W w'∧((lb=true∧Thr w' Q1 e)∨(lb=false∧∃a c,e=.returned (.tuple #[.slice a n c,.bool lv])∧TmsAt w'.heap.size w' a l))):=zq fun W h=>(HLI.out W h).mono fun e w' hh=>by
  unfold LisR at hh
  rw [←HBL.out,←HLV.out,←HQ1.out,←HLL.out,←HNN.out] at hh
  exact hh
 rw [←HTA.out] at HAT
 rw [←HLA.out]
 have HB0:Hid (Below w.heap.size w (w.alloc (.cells #[.func (.func fe) #[] #[],.func (.func fc) #[] #[]] 67))):=zq ((Below.refl w.heap.size w).alloc (Nat.le_refl _) _)
 have HW_0:Hid (Bk (w.alloc (.cells #[.func (.func fe) #[] #[],.func (.func fc) #[] #[]] 67)) w.heap.size [.func (.func fe) #[] #[],.func (.func fc) #[] #[]]):=zq (Bk.new w [.func (.func fe) #[] #[],.func (.func fc) #[] #[]] 67)
 have HA_0:Hid (ArgsAt (w.alloc (.cells #[.func (.func fe) #[] #[],.func (.func fc) #[] #[]] 67)) b off [(t,A,c),(u,U,d)]):=zq (hA.keep ((Below.refl w.heap.size w).alloc (Nat.le_refl _) _))
 have HAW:=zq hA
 clear hA ht hu HLI HLL HBL HLV HTA HQ1 HLA HTT
 unfold tmV at *
 generalize atomB t=E1 at *
 rcases E1 with _ | x1
 rotate_left
 ·have HL2:Hid (LA=.ball x1):=HL
  rw [HL2.out]
  clear HL HL2
  have haw:=HAW.out.all
  simp only [rowsC,rowC,List.flatMap_cons,List.flatMap_nil,List.cons_append,List.nil_append,cellsAll,Nat.add_zero,Nat.zero_add,Nat.reduceAdd,and_true] at haw
  have fHW_0:=HW_0.out.all0
  simp only [bkAll,Nat.zero_add,Nat.reduceAdd,and_true] at fHW_0
  have fHA_0:=HA_0.out.all
  simp only [rowsC,rowC,List.flatMap_cons,List.flatMap_nil,List.cons_append,List.nil_append,cellsAll,Nat.add_zero,Nat.zero_add,Nat.reduceAdd,and_true] at fHA_0
  go_enter Tryz.func40,Tryz.ntmps40
  go_wp2_with fail
  refine (HAV.out _ HA_0.out).mono ?_;rintro e wt ⟨hBt,⟨At,ct,rfl,hTt⟩⟩
  exact ⟨rfl,HB0.out.trans (hBt.mono HB0.out.size),⟨At,ct,rfl,hTt⟩⟩
 ·have HL2:Hid (LA=if lb=true then .ball Q1 else if ta=true then .ok [[t,T]] else if lv=true then .ball biT else orB (l.findSome? (elE co)) (.ok [[atomT ⟨(elsV co l).toArray⟩,u]])):=HL
  clear HL
  have haw:=HAW.out.all
  simp only [rowsC,rowC,List.flatMap_cons,List.flatMap_nil,List.cons_append,List.nil_append,cellsAll,Nat.add_zero,Nat.zero_add,Nat.reduceAdd,and_true] at haw
  have fHW_0:=HW_0.out.all0
  simp only [bkAll,Nat.zero_add,Nat.reduceAdd,and_true] at fHW_0
  have fHA_0:=HA_0.out.all
  simp only [rowsC,rowC,List.flatMap_cons,List.flatMap_nil,List.cons_append,List.nil_append,cellsAll,Nat.add_zero,Nat.zero_add,Nat.reduceAdd,and_true] at fHA_0
  go_enter Tryz.func40,Tryz.ntmps40
  go_wp2_with fail
  refine (HAV.out _ HA_0.out).mono ?_;rintro e w1 ⟨hB,rfl⟩
  clear fHW_0 fHA_0
  have HB1_:=bz HB0 hB
  have HW_1:=zq (HW_0.out.call hB)
  have HA_1:=zq (HA_0.out.keep hB)
  clear hB HB0 HW_0 HA_0 
  have fHW_1:=HW_1.out.all0
  simp only [bkAll,Nat.zero_add,Nat.reduceAdd,and_true] at fHW_1
  have fHA_1:=HA_1.out.all
  simp only [rowsC,rowC,List.flatMap_cons,List.flatMap_nil,List.cons_append,List.nil_append,cellsAll,Nat.add_zero,Nat.zero_add,Nat.reduceAdd,and_true] at fHA_1
  clear haw HAW
  go_wp2_with fail
  refine (HLI2.out _ HA_1.out).mono ?_;rintro e w2 ⟨hB,(⟨hlb,⟨At,ct,rfl,hTt⟩⟩ | ⟨hlb,⟨a1,c1,rfl,hl⟩⟩)⟩
  ·subst hlb
   exact ⟨rfl,HB1_.out.trans (hB.mono HB1_.out.size),by rw [HL2.out,if_pos rfl];exact ⟨At,ct,rfl,hTt⟩⟩
  subst hlb
  have HL:=zq (HL2.out.trans (if_neg (by decide)))
  have HM_2:=zq hl
  clear HL2 hl
  clear fHW_1 fHA_1
  have HB2_:=bz HB1_ hB
  have HW_2:=zq (HW_1.out.call hB)
  have HA_2:=zq (HA_1.out.keep hB)
  clear hB HB1_ HW_1 HA_1 
  have fHW_2:=HW_2.out.all0
  simp only [bkAll,Nat.zero_add,Nat.reduceAdd,and_true] at fHW_2
  have fHA_2:=HA_2.out.all
  simp only [rowsC,rowC,List.flatMap_cons,List.flatMap_nil,List.cons_append,List.nil_append,cellsAll,Nat.add_zero,Nat.zero_add,Nat.reduceAdd,and_true] at fHA_2
  go_wp2_with fail
  refine (HAT.out _).mono ?_;rintro e w11 ⟨rfl,hB⟩
  clear fHW_2 fHA_2
  have HB11_:=bz HB2_ hB
  have HW_11:=zq (HW_2.out.call hB)
  have HA_11:=zq (HA_2.out.keep hB)
  have HM_11:=zq ((HM_2.out.keep hB).mono hB.size)
  clear hB HB2_ HW_2 HA_2 HM_2 
  have fHW_11:=HW_11.out.all0
  simp only [bkAll,Nat.zero_add,Nat.reduceAdd,and_true] at fHW_11
  have fHA_11:=HA_11.out.all
  simp only [rowsC,rowC,List.flatMap_cons,List.flatMap_nil,List.cons_append,List.nil_append,cellsAll,Nat.add_zero,Nat.zero_add,Nat.reduceAdd,and_true] at fHA_11
  cases ta
  ·skip
   have HL3:=zq (HL.out.trans (if_neg (by decide)))
   clear HL HWL HWI HAT HLI2 HAV
   cases lv
   ·skip
    have HL4:=zq (HL3.out.trans (if_neg (by decide)))
    clear HL3
    have HOW:Hid (w11.ownsRow w11.heap.size 5 1 (.slice none 0 0) 0 (Hb.byteCells (elsV co (l.take 0)))):=zq (World.ownsRow_nil _ _ _ _)
    go_wp2_with fail
    obtain ⟨wl,HWLE⟩:=lz (w11)
    rw [←HWLE.out] at HOW HB11_ HW_11 HA_11 HM_11 ⊢
    have HBL:=HB11_
    clear HWLE fHW_11 fHA_11
    go_loopw [7,42] (fun v i wr=>∃k:Nat,k≤n∧i=.int .i64 k∧Hid ((l.take k).findSome? (elE co)=none)∧Hid (wr.ownsRow wl.heap.size 5 1 v k (Hb.byteCells (elsV co (l.take k))))∧Hid (Below wl.heap.size wl wr)) (fun _ i _=>n-(intOf i).toNat)
    case atStart=>exact ⟨0,Nat.zero_le _,rfl,zq rfl,HOW,zq (Below.refl _ _)⟩
    case round=>
     clear HOW
     obtain ⟨k,hk,rfl,HFS,HOW_0,HBR⟩:=hrel
     have HM_30:=zq ((HM_11.out.keep HBR.out).mono HBR.out.size)
     obtain ⟨rv,hrv⟩:∃v,v=u7:=⟨_,rfl⟩
     subst hrv
     by_cases hlt:k<n
     ·have hkl:k<l.length:=by rw [←HNN.out];exact hlt
      obtain ⟨b2,off2,xa,xc,hA',hb2,q0,q1,q2,q3,hsx⟩:=HM_30.out.get k hkl
      have hvx:=HVL.out _ (List.getElem_mem hkl)
      obtain ⟨x,HX⟩:=lz (l[k])
      rw [←HX.out] at q0 q1 q2 q3 hsx hvx
      cases hA'
      have HVX:Hid (∀X,Calls Tryz.prog 64 #[.agg #[.int .i64 x.kind,.int .i64 x.num,.string x.name,.slice xa x.args.length xc]] X fun e w'=>e=.returned (.bool (x.kind==0))∧Below X.heap.size X w'):=zq fun X=>a_isVar x xa xc X
      have HCH:Hid (∀X,Below wr.heap.size wr X→Calls Tryz.prog fc #[.agg #[.int .i64 x.kind,.int .i64 x.num,.string x.name,.slice xa x.args.length xc]] X fun e w'=>Below X.heap.size X w'∧ElR (elE co x) (elV co x) X w' e):=zq fun X hX=>HCC.out x xa xc X hvx ((hsx.keep hX).mono hX.size)
      have k0:(0:Int)≤(k:Int):=by omega
      have k1:(k:Int)<(n:Nat):=by omega
      have hz:=(Below.refl wr.heap.size wr).alloc (Nat.le_refl _) (.cells #[.int .i64 x.kind,.int .i64 x.num,.string x.name,.slice xa x.args.length xc] 32)
      obtain ⟨y1,HY1⟩:=lz (wr.alloc (.cells #[.int .i64 x.kind,.int .i64 x.num,.string x.name,.slice xa x.args.length xc] 32))
      have HX_40:Hid (Bk y1 wr.heap.size [.int .i64 x.kind,.int .i64 x.num,.string x.name,.slice xa x.args.length xc]):=zq (by rw [HY1.out];exact Bk.new wr [.int .i64 x.kind,.int .i64 x.num,.string x.name,.slice xa x.args.length xc] 32)
      have HR_40:Hid (Below wr.heap.size wr y1):=zq (by rw [HY1.out];exact hz)
      have HB_40:Hid (Below wl.heap.size wl y1):=zq (HBR.out.trans (HR_40.out.mono HBR.out.size))
      have HW_40:Hid (Bk y1 w.heap.size [.func (.func fe) #[] #[],.func (.func fc) #[] #[]]):=zq (HW_11.out.call HB_40.out)
      have HEV:Hid (x.kind=0→elE co x=some biT):=zq fun h=>by unfold elE;cases co <;> simp only [Bool.false_eq_true,if_true,if_false] <;> first | (unfold cdE;rw [if_pos h]) | (unfold chE;rw [if_pos h])
      clear hz hvx hsx HBR
      rcases hE:elE co x with _ | bb
      ·skip
       have d0:(x.kind==0)=false:=by
        rcases Decidable.em (x.kind=0) with h | h
        ·rw [HEV.out h] at hE;cases hE
        ·simpa using h
       have HFS2:Hid ((l.take (k+1)).findSome? (elE co)=none):=zq (none_at _ hkl HFS.out (by rw [←HX.out];exact hE))
       obtain ⟨v,HVE⟩:=lz (elV co x)
       have hv0:0≤v∧v≤255:=by rw [HVE.out];exact el_range hE
       have HTK:Hid (elsV co (l.take (k+1))=elsV co (l.take k)++[v.toNat.toUInt8]):=zq (by unfold elsV;rw [List.take_succ_eq_append_getElem hkl,List.map_append,HVE.out,HX.out];rfl)
       rw [d0] at HVX
       rw [hE,←HVE.out] at HCH
       have HCH2:Hid (∀X,Below wr.heap.size wr X→Calls Tryz.prog fc #[.agg #[.int .i64 x.kind,.int .i64 x.num,.string x.name,.slice xa x.args.length xc]] X fun e w'=>Below X.heap.size X w'∧e=.returned (.tuple #[.int .i64 v,.agg #[.int .i64 0,.int .i64 0,.string ⟨#[]⟩,.slice none 0 0],.bool true])):=HCH
       clear HCH
       have hw8:IntKind.u8.wrap v=v:=IntWalk.u8_in _ hv0
       have hw2:wrap64 ((k:Int)+1)=(k:Int)+1:=IntWalk.wrap64_in _ (by omega)
       clear hE d0 HEV HX HFS HVE
       go_wp2_with fail
       rw [←HY1.out]
       clear HY1
       have fHW_40:=HW_40.out.all0
       simp only [bkAll,Nat.zero_add,Nat.reduceAdd,and_true] at fHW_40
       have fHX_40:=HX_40.out.all0
       simp only [bkAll,Nat.zero_add,Nat.reduceAdd,and_true] at fHX_40
       refine (HVX.out _).mono ?_;rintro e w41 ⟨rfl,hB⟩
       clear fHW_40 fHX_40
       have HB41_:=bz HB_40 hB
       have HW_41:=zq (HW_40.out.call hB)
       have HX_41:=zq (HX_40.out.call hB)
       have HR_41:=bz HR_40 hB
       clear hB HB_40 HW_40 HX_40 HR_40 
       have fHW_41:=HW_41.out.all0
       simp only [bkAll,Nat.zero_add,Nat.reduceAdd,and_true] at fHW_41
       have fHX_41:=HX_41.out.all0
       simp only [bkAll,Nat.zero_add,Nat.reduceAdd,and_true] at fHX_41
       go_wp2_with fail
       refine (HCH2.out _ HR_41.out).mono ?_;rintro e w42 ⟨hB,rfl⟩
       clear fHW_41 fHX_41
       have HB42_:=bz HB41_ hB
       have HW_42:=zq (HW_41.out.call hB)
       have HX_42:=zq (HX_41.out.call hB)
       have HR_42:=bz HR_41 hB
       clear hB HB41_ HW_41 HX_41 HR_41 
       have fHW_42:=HW_42.out.all0
       simp only [bkAll,Nat.zero_add,Nat.reduceAdd,and_true] at fHW_42
       have fHX_42:=HX_42.out.all0
       simp only [bkAll,Nat.zero_add,Nat.reduceAdd,and_true] at fHX_42
       have hz2:=(Below.refl w42.heap.size w42).alloc (Nat.le_refl _) (.cells #[.int .i64 0,.int .i64 0,.string ⟨#[]⟩,.slice none 0 0] 32)
       obtain ⟨y3,HY3⟩:=lz (w42.alloc (.cells #[.int .i64 0,.int .i64 0,.string ⟨#[]⟩,.slice none 0 0] 32))
       have hB:Below w42.heap.size w42 y3:=by rw [HY3.out];exact hz2
       clear hz2
       clear fHW_42 fHX_42
       have HB43_:=bz HB42_ hB
       have HW_43:=zq (HW_42.out.call hB)
       have HX_43:=zq (HX_42.out.call hB)
       have HR_43:=bz HR_42 hB
       clear hB HB42_ HW_42 HX_42 HR_42 
       have fHW_43:=HW_43.out.all0
       simp only [bkAll,Nat.zero_add,Nat.reduceAdd,and_true] at fHW_43
       have fHX_43:=HX_43.out.all0
       simp only [bkAll,Nat.zero_add,Nat.reduceAdd,and_true] at fHX_43
       have HOW_9:=zq (own_below HOW_0.out HR_43.out)
       have hle:=HB43_.out.size
       clear HOW_0
       go_upto_region 16 with fail
       rw [←HY3.out]
       clear HY3
       go_wp2_with (at_builtin;go_must (refine wpList_append_byte rfl _ _ 44 5 rfl Tryz.underlying44 infoU8A wl.heap.size rv k (elsV co (l.take k)) rfl y3 HOW_9.out v hv0.1 hv0.2 rfl rfl (by omega) (by omega) ?_;intro v9 w9 hown9 hb9))
       have HOW_8:Hid (w9.ownsRow wl.heap.size 5 1 v9 (k+1) (Hb.byteCells (elsV co (l.take (k+1))))):=zq (by rw [HTK.out];exact hown9)
       have HBX:=zq (HB43_.out.trans hb9)
       clear hown9 hb9
       go_wp2_with fail
       go_roundw
       case rel=>exact ⟨k+1,by omega,by go_num,HFS2,HOW_8,HBX⟩
       case measure=>simp [intOf] <;> omega
      ·have HE:Hid (LA=.ball bb):=zq (by rw [HL4.out,some_at _ hkl HFS.out (by rw [←HX.out];exact hE)];rfl)
       clear HL4 HFS HOW_0 HX HM_30
       rcases Decidable.em (x.kind=0) with d0 | d0
       ·have hbb:bb=biT:=by have:=HEV.out d0;rw [hE] at this;injection this
        have d1:(x.kind==0)=true:=by simpa using d0
        subst hbb
        rw [d1] at HVX
        clear hE d0 d1 HEV HCH HNN
        have HB_41:=zq (HBL.out.trans (HB_40.out.mono HBL.out.size))
        clear HB_40 HR_40 HW_40
        go_wp2_with fail
        rw [←HY1.out]
        clear HY1
        have fHX_40:=HX_40.out.all0
        simp only [bkAll,Nat.zero_add,Nat.reduceAdd,and_true] at fHX_40
        refine (HVX.out _).mono ?_;rintro e w61 ⟨rfl,hB⟩
        clear fHX_40
        have HB61_:=bz HB_41 hB
        have HX_61:=zq (HX_40.out.call hB)
        clear hB HB_41 HX_40 
        have fHX_61:=HX_61.out.all0
        simp only [bkAll,Nat.zero_add,Nat.reduceAdd,and_true] at fHX_61
        go_wp2_with fail
        refine (HIN.out _).mono ?_;rintro e w62 ⟨xa,xc,rfl,hB,hN⟩
        have HB62_:=bz HB61_ hB
        have HN62_:=zq hN.tms
        clear hB hN
        go_wp2_with fail
        refine (HTH.out _ _ _ _ HN62_.out).mono ?_;rintro e wt ⟨hBt,⟨At,ct,rfl,hTt⟩⟩
        exact ⟨rfl,HB62_.out.trans (hBt.mono HB62_.out.size),by rw [HE.out];exact ⟨At,ct,rfl,hTt⟩⟩
       ·have d1:(x.kind==0)=false:=by simpa using d0
        rw [d1] at HVX
        rw [hE] at HCH
        clear hE d0 d1 HEV HNN
        have HB_41:=zq (HBL.out.trans (HB_40.out.mono HBL.out.size))
        clear HB_40
        go_wp2_with fail
        rw [←HY1.out]
        clear HY1
        have fHW_40:=HW_40.out.all0
        simp only [bkAll,Nat.zero_add,Nat.reduceAdd,and_true] at fHW_40
        have fHX_40:=HX_40.out.all0
        simp only [bkAll,Nat.zero_add,Nat.reduceAdd,and_true] at fHX_40
        refine (HVX.out _).mono ?_;rintro e w61 ⟨rfl,hB⟩
        clear fHW_40 fHX_40
        have HB61_:=bz HB_41 hB
        have HW_61:=zq (HW_40.out.call hB)
        have HX_61:=zq (HX_40.out.call hB)
        have HR_61:=bz HR_40 hB
        clear hB HB_41 HW_40 HX_40 HR_40 
        have fHW_61:=HW_61.out.all0
        simp only [bkAll,Nat.zero_add,Nat.reduceAdd,and_true] at fHW_61
        have fHX_61:=HX_61.out.all0
        simp only [bkAll,Nat.zero_add,Nat.reduceAdd,and_true] at fHX_61
        go_wp2_with fail
        refine (HCH.out _ HR_61.out).mono ?_;rintro e w62 ⟨hB,⟨xb,xd,rfl,hN⟩⟩
        clear fHW_61 fHX_61
        have HB62_:=bz HB61_ hB
        have HW_62:=zq (HW_61.out.call hB)
        have HX_62:=zq (HX_61.out.call hB)
        have HR_62:=bz HR_61 hB
        clear hB HB61_ HW_61 HX_61 HR_61 
        have fHW_62:=HW_62.out.all0
        simp only [bkAll,Nat.zero_add,Nat.reduceAdd,and_true] at fHW_62
        have fHX_62:=HX_62.out.all0
        simp only [bkAll,Nat.zero_add,Nat.reduceAdd,and_true] at fHX_62
        have HN_9:=zq hN.tms
        clear hN
        unfold tmV
        go_wp2_with fail
        refine (HTH.out _ _ _ _ ((HN_9.out.keep ((Below.refl _ _).alloc (Nat.le_refl _) _)).mono (by simp))).mono ?_;rintro e wt ⟨hBt,⟨At,ct,rfl,hTt⟩⟩
        have hbz:=(HB62_.out.alloc HB62_.out.size (.cells #[.int .i64 bb.kind,.int .i64 bb.num,.string bb.name,.slice xb bb.args.length xd] 32))
        exact ⟨rfl,hbz.trans (hBt.mono hbz.size),by rw [HE.out];exact ⟨At,ct,rfl,hTt⟩⟩
     ·have hkn:k=n:=by omega
      subst hkn
      have hlk:l.take k=l:=List.take_of_length_le (by rw [←HNN.out];exact Nat.le_refl _)
      rw [hlk] at HFS HOW_0
      have HE:Hid (LA=.ok [[atomT ⟨(elsV co l).toArray⟩,u]]):=zq (by rw [HL4.out,HFS.out];rfl)
      have hc:=conv_own (P:=Tryz.prog) wr 44 9 5 Tryz.underlying44 Tryz.underlying5 Tryz.underlying9 _ _ _ _ HOW_0.out
      have HB_70:=zq (HBL.out.trans (HBR.out.mono HBL.out.size))
      have HA_70:=zq (HA_11.out.keep HBR.out)
      clear HL4 HFS HOW_0 HM_30 hlk HBR HBL HW_11 HA_11 HM_11 HVL HNN
      have fHA_70:=HA_70.out.all
      simp only [rowsC,rowC,List.flatMap_cons,List.flatMap_nil,List.cons_append,List.nil_append,cellsAll,Nat.add_zero,Nat.zero_add,Nat.reduceAdd,and_true] at fHA_70
      go_wp2_with fail
      refine (HW0.out _ _ HA_70.out).mono ?_;rintro e wz ⟨hBz,⟨A9,c9,rfl,hR9⟩⟩
      have HBZ:=bz HB_70 hBz
      have HRZ:=zq hR9
      clear hBz hR9
      go_wp2_with fail
      go_ret
      exact ⟨HBZ.out,by rw [HE.out];exact ⟨A9,c9,rfl,HRZ.out⟩⟩
   ·skip
    have HE:=zq (HL3.out.trans (if_pos rfl))
    clear HL3
    go_wp2_with fail
    refine (HIN.out _).mono ?_;rintro e w12 ⟨xa,xc,rfl,hB,hN⟩
    have HB12_:=bz HB11_ hB
    have HN12_:=zq hN.tms
    clear hB hN
    go_wp2_with fail
    refine (HTH.out _ _ _ _ HN12_.out).mono ?_;rintro e wt ⟨hBt,⟨At,ct,rfl,hTt⟩⟩
    exact ⟨rfl,HB12_.out.trans (hBt.mono HB12_.out.size),by rw [HE.out];exact ⟨At,ct,rfl,hTt⟩⟩
  ·skip
   have HE:=zq (HL.out.trans (if_pos rfl))
   clear HL HVL HNN
   go_wp2_with fail
   rename_i K9 hK9
   refine region_last (w0:=w11) [rPure [] [0] (fun | [v]=>v=.slice (some ⟨b,off,none⟩) 2 cap | _=>False),
     rVal [] [1] (fun | [v]=>v=.agg #[.func (.func fe) #[] #[],.func (.func fc) #[] #[]] | _=>False),
     rPure [] [2] (fun | [v]=>v=.slice (some ⟨b,off,none⟩) 2 cap | _=>False),
     rPure [2] [3] (fun | [v]=>v=.pointer (some ⟨b,off,none⟩) | _=>False),
     rPure [2,3] [4] (fun | [v]=>v=.pointer (some ⟨b,off+2,none⟩) | _=>False),
     rVal [2,3,4] [5] (fun | [v]=>v=.string t.name | _=>False),
     rTm [1,2,3,4,5] 6 w11.heap.size T,
     rOne [1,2,3,4,5,6] 7 w11.heap.size T,
     rLast (List.range 8) [8] (fun _=>True),
     rPure (List.range 9) [9,8] (fun | [v,u]=>v=u | _=>False)]
     [some 28,some 29,some 30,some 31,some 32,some 33,some 34,some 35,some 36,some 4] (fun _=>True) (w11.heap.size) 8 (tWith w [[t,T]]) (by kernel_rfl) (Nat.le_refl _) (by kernel_rfl) (by kernel_rfl) ⟨by decide,rfl⟩ (fun j o ho=>?srv9) (fun val Y hv HF=>?fin9)
   case srv9=>
     have hlt:j<10:=(Array.getElem?_eq_some_iff.1 ho).1
     rcases (show j=0∨j=1∨j=2∨j=3∨j=4∨j=5∨j=6∨j=7∨j=8∨j=9 by omega) with rfl | rfl | rfl | rfl | rfl | rfl | rfl | rfl | rfl | rfl
     ·cases ho
      refine srv_pure rfl rfl (fun val E hE hA=>?_)
      have e0:=hE.t 0 (.slice (some ⟨b,off,none⟩) 2 cap) rfl
      exact ⟨.slice (some ⟨b,off,none⟩) 2 cap,fun X=>by simp [execOp,go_sem,e0],rfl⟩
     ·cases ho
      refine srv_val rfl rfl (fun _ _ _=>trivial) (fun val E X hE hB hA=>?_)
      have e3:=hE.t 3 (.pointer (some ⟨w.heap.size,0,none⟩)) rfl
      have HX:=(HW_11.out.call hB).all0
      simp only [bkAll,Nat.zero_add,Nat.reduceAdd,and_true] at HX
      exact ⟨.agg #[.func (.func fe) #[] #[],.func (.func fc) #[] #[]],by simp [execOp,go_sem,e3,HX],rfl⟩
     ·cases ho
      refine srv_pure rfl rfl (fun val E hE hA=>?_)
      have e0:=hE.t 0 (.slice (some ⟨b,off,none⟩) 2 cap) rfl
      exact ⟨.slice (some ⟨b,off,none⟩) 2 cap,fun X=>by simp [execOp,go_sem,e0],rfl⟩
     ·cases ho
      refine srv_pure rfl rfl (fun val E hE hA=>?_)
      have e30:=hE.t 30 (val 2) rfl
      have h2:val 2=.slice (some ⟨b,off,none⟩) 2 cap:=hA 2 (oz rfl)
      exact ⟨.pointer (some ⟨b,off,none⟩),fun X=>by simp [execOp,go_sem,hE.c,e30,h2],rfl⟩
     ·cases ho
      refine srv_pure rfl rfl (fun val E hE hA=>?_)
      have e31:=hE.t 31 (val 3) rfl
      have h3:val 3=.pointer (some ⟨b,off,none⟩):=hA 3 (oz rfl)
      exact ⟨.pointer (some ⟨b,off+2,none⟩),fun X=>by simp [execOp,go_sem,e31,h3],rfl⟩
     ·cases ho
      refine srv_val rfl rfl (fun _ _ _=>trivial) (fun val E X hE hB hA=>?_)
      have e32:=hE.t 32 (val 4) rfl
      have h4:val 4=.pointer (some ⟨b,off+2,none⟩):=hA 4 (oz rfl)
      have HX:=(HA_11.out.keep hB).all
      simp only [rowsC,rowC,List.flatMap_cons,List.flatMap_nil,List.cons_append,List.nil_append,cellsAll,Nat.add_zero,Nat.zero_add,Nat.reduceAdd,and_true] at HX
      exact ⟨.string t.name,by simp [execOp,go_sem,e32,h4,HX],rfl⟩
     ·cases ho
      refine srv_cal rfl rfl fun val E X N hE hC hA hc=>?_
      have e29:=hE.t 29 (val 1) rfl
      have h1:val 1=.agg #[.func (.func fe) #[] #[],.func (.func fc) #[] #[]]:=hA 1 (oz rfl)
      have e33:=hE.t 33 (val 5) rfl
      have h5:val 5=.string t.name:=hA 5 (oz rfl)
      exact ⟨_,_,by simp [execOp,go_sem,hE.f,e29,h1,e33,h5] <;> rfl,(HWL.out X).mono fun e w' h=>by
       obtain ⟨a,c,he,hB,hN⟩:=h
       exact ⟨_,he,hB,⟨a,c,rfl⟩,fun N' _ h2=>⟨a,c,rfl,hN.keep (fun _ _=>rfl) (fun b hb=>⟨h2 b hb.1 hb.2,Nat.le_trans hC.bel.size hb.1⟩)⟩⟩⟩
     ·cases ho
      refine srv_mk rfl rfl fun val E X N hE hC hA hc=>?_
      obtain ⟨qa,qc,h6,ht⟩:∃qa qc,val 6=.agg #[.int .i64 T.kind,.int .i64 T.num,.string T.name,.slice qa T.args.length qc]∧TmsK (fun b=>N b∧w11.heap.size≤b) X qa T.args:=hc 6 (oz rfl) rfl
      have e34:=hE.t 34 (val 6) rfl
      have hal:=(Below.refl X.heap.size X).alloc (Nat.le_refl _) (.cells #[.int .i64 T.kind,.int .i64 T.num,.string T.name,.slice qa T.args.length qc] 32)
      exact ⟨.slice (some ⟨X.heap.size,0,none⟩) 1 1,X.alloc (.cells #[.int .i64 T.kind,.int .i64 T.num,.string T.name,.slice qa T.args.length qc] 32),by simp [execOp,go_sem,e34,h6],hal,⟨_,rfl⟩,fun N' h1 h2=>⟨_,qa,qc,rfl,h2 _ (Nat.le_refl _) (by simp),Bk.new X _ 32,ht.keep (fun b hb=>hal.block b (hC.lt b hb.1)) (fun b hb=>⟨h1 b hb.1,hb.2⟩)⟩⟩
     ·cases ho
      refine srv_last rfl rfl fun val E X N hE hC hA hc _=>?_
      obtain ⟨g,qa,qc,h7,hg,hb,ht⟩:∃g qa qc,val 7=.slice (some ⟨g,0,none⟩) 1 1∧N g∧Bk X g (rowC (T,qa,qc))∧TmsK (fun b=>N b∧w11.heap.size≤b) X qa T.args:=hc 7 (oz rfl) rfl
      have e28:=hE.t 28 (val 0) rfl
      have h0:val 0=.slice (some ⟨b,off,none⟩) 2 cap:=hA 0 (oz rfl)
      have e35:=hE.t 35 (val 7) rfl
      exact .inr (.inr ⟨_,_,X,by simp [execOp,go_sem,hE.f,hE.c,e28,h0,e35,h7] <;> rfl,(HWI.out X qa qc g (HA_11.out.keep hC.bel) (show Bk X g [_,_,_,_] from hb) (TmsK.at' ht)).mono fun e w' h=>by
       obtain ⟨hB,A9,c9,he,hr⟩:=h
       exact ⟨_,he,trivial,A9,c9,rfl,hr,(HB11_.out.trans (hC.bel.mono HB11_.out.size)).trans (hB.mono (HB11_.out.trans (hC.bel.mono HB11_.out.size)).size)⟩⟩)
     ·cases ho
      refine srv_pure rfl rfl (fun val E hE hA=>?_)
      have e36:=hE.t 36 (val 8) rfl
      exact ⟨val 8,fun X=>by simp [execOp,go_sem,e36],rfl⟩
   case fin9=>
    have h0:val 0=.slice (some ⟨b,off,none⟩) 2 cap:=hv 0 (by decide)
    have h1:val 1=.agg #[.func (.func fe) #[] #[],.func (.func fc) #[] #[]]:=hv 1 (by decide)
    have h2:val 2=.slice (some ⟨b,off,none⟩) 2 cap:=hv 2 (by decide)
    have h3:val 3=.pointer (some ⟨b,off,none⟩):=hv 3 (by decide)
    have h4:val 4=.pointer (some ⟨b,off+2,none⟩):=hv 4 (by decide)
    have h5:val 5=.string t.name:=hv 5 (by decide)
    obtain ⟨_,_,h6⟩:∃qa qc,val 6=.agg #[.int .i64 T.kind,.int .i64 T.num,.string T.name,.slice qa T.args.length qc]:=hv 6 (by decide)
    obtain ⟨_,h7⟩:∃g,val 7=.slice (some ⟨g,0,none⟩) 1 1:=hv 7 (by decide)
    obtain ⟨v9,h8⟩:∃v9,val 8=v9:=⟨_,rfl⟩
    have h9:val 9=val 8:=hv 9 (by decide)
    rw [h8] at h9
    obtain ⟨A9,c9,hv9,hr9,hb9⟩:∃A c,val 8=.slice A 1 c∧RowsAt Y A [[t,T]]∧Below w.heap.size w Y:=HF
    rw [h8] at hv9
    subst hv9
    refine hK9 _ _ ?_
    simp only [fillD,List.set_cons_zero,List.set_cons_succ,Nat.reduceAdd,Nat.zero_add,h0,h1,h2,h3,h4,h5,h6,h7,h8,h9]
    have HBZ:=zq hb9
    have HRZ:=zq hr9
    clear hv h0 h1 h2 h3 h4 h5 h6 h7 h8 h9 hK9 hr9 hb9
    go_wp2_with fail
    go_ret
    exact ⟨HBZ.out,by rw [HE.out];exact ⟨A9,c9,rfl,HRZ.out⟩⟩
theorem a_spelled0 (b off cap:Nat) (t u:Tm) (A U:Option Addr) (c d:Nat) (w:World) (ht:validT t=true) (hu:validT u=true) (hA:ArgsAt w b off [(t,A,c),(u,U,d)]) :
  Calls Tryz.prog 40 #[.slice (some ⟨b,off,none⟩) 2 cap,.agg #[.func (.func 74) #[] #[],.func (.func 76) #[] #[]]] w fun e w'=>Below w.heap.size w w'∧RAns w' e (spelledA false t u) :=
 a_spelledG false 74 76 (fun _ _=>rfl) (fun x xa xc X h1 h2=>b_char x xa xc X h1 h2) (fun s w h=>a_wlist0 s w h) b off cap t u A U c d w ht hu hA
theorem a_spelled1 (b off cap:Nat) (t u:Tm) (A U:Option Addr) (c d:Nat) (w:World) (ht:validT t=true) (hu:validT u=true) (hA:ArgsAt w b off [(t,A,c),(u,U,d)]) :
  Calls Tryz.prog 40 #[.slice (some ⟨b,off,none⟩) 2 cap,.agg #[.func (.func 77) #[] #[],.func (.func 78) #[] #[]]] w fun e w'=>Below w.heap.size w w'∧RAns w' e (spelledA true t u) :=
 a_spelledG true 77 78 (fun _ _=>rfl) (fun x xa xc X h1 h2=>b_code x xa xc X h1 h2) (fun s w h=>a_wlist1 s w h) b off cap t u A U c d w ht hu hA
end Go.Proofs.YtpokpgkjaifccaaGreatDoorRR
namespace Hb
open Go Go.RowKit
abbrev LR:=List Tm×Option Addr×Nat
def lrC (r:LR):Value:=.slice r.2.1 r.1.length r.2.2
structure OutR (lo:Nat) (e:TypeId) (w:World) (v:Value) (rs:List LR):Prop where
 own:w.ownsRow lo e 1 v rs.length (rs.map lrC)
 sub:∀r∈rs,TmsK (fun b=>lo≤b∧b<w.heap.size∧v.ownBlock≠some b) w r.2.1 r.1
theorem OutR.nul (lo:Nat) (e:TypeId) (w:World):OutR lo e w (.slice none 0 0) []:=⟨World.ownsRow_nil _ _ _ _,fun r hr=>absurd hr (by simp)⟩
theorem OutR.below {lo:Nat} {e:TypeId} {w w':World} {v:Value} {rs:List LR} (h:OutR lo e w v rs) (hB:Below w.heap.size w w'):OutR lo e w' v rs :=
 ⟨own_below h.own hB,fun r hr=>(h.sub r hr).keep (fun _ hb=>hB.block _ hb.2.1) (fun _ hb=>⟨hb.1,Nat.lt_of_lt_of_le hb.2.1 hB.size,hb.2.2⟩)⟩
theorem OutR.snoc {lo:Nat} {e:TypeId} {W w2:World} {v v':Value} {rs:List LR} (h:OutR lo e W v rs) (r:LR) (hr:TmsK (fun b=>lo≤b∧b<W.heap.size∧v.ownBlock≠some b) W r.2.1 r.1)
  (hown:w2.ownsRow lo e 1 v' (rs.length+1) (rs.map lrC++[lrC r])) (hg:W.grownBy w2 v.ownBlock) (hat:v'.ownBlock=v.ownBlock∨v'.ownBlock=some W.heap.size):OutR lo e w2 v' (rs++[r]) where
 own:=by rw [List.map_append,List.length_append];exact hown
 sub:=by
  have key:∀{A:Option Addr} {l:List Tm},TmsK (fun b=>lo≤b∧b<W.heap.size∧v.ownBlock≠some b) W A l→TmsK (fun b=>lo≤b∧b<w2.heap.size∧v'.ownBlock≠some b) w2 A l:=fun hk=>by
   refine hk.keep (fun b hb=>hg.block b hb.2.1 (fun e=>hb.2.2 e.symm)) (fun b hb=>⟨hb.1,Nat.lt_of_lt_of_le hb.2.1 hg.size,fun e=>?_⟩)
   rcases hat with h' | h'
   ·rw [h'] at e;exact hb.2.2 e
   ·rw [h'] at e;injection e with e;have:=hb.2.1;omega
  intro x hx
  rcases List.mem_append.1 hx with hx | hx
  ·exact key (h.sub x hx)
  ·rw [List.mem_singleton] at hx;subst hx;exact key hr
theorem OutR.rows {lo:Nat} {e:TypeId} {w:World} {v:Value} {rs:List LR} (h:OutR lo e w v rs):∃A cap,v=.slice A rs.length cap∧RowsAt w A (rs.map (·.1)):=by
 rcases h.own.2 with ⟨hv,h0⟩ | ⟨g,cap,cur,hv,hg,hh,hn,hm,rest⟩
 ·have:rs=[]:=List.eq_nil_of_length_eq_zero h0
  subst this
  exact ⟨_,_,hv,fun j hj=>absurd hj (by simp)⟩
 ·refine ⟨some ⟨g,0,none⟩,cap,hv,fun j hj=>?_⟩
  rw [List.length_map] at hj
  have hc:=h.own.cells (g:=g) (by rw [hv];rfl) j (lrC rs[j]) (by rw [List.getElem?_map,List.getElem?_eq_getElem hj];rfl)
  rw [addr_add] at hc
  rw [List.getElem_map]
  exact ⟨g,0,rs[j].2.1,rs[j].2.2,rfl,(Array.getElem?_eq_some_iff.1 hh).1,hc,(h.sub _ (List.getElem_mem hj)).keep (fun _ _=>rfl) (fun b hb=>hb.2.1)⟩
theorem TmsK.leafs {K:Nat→Prop} {w:World} {g o:Nat} {l:List Tm} (h:TmsK K w (some ⟨g,o,none⟩) l) (hl:∀x∈l,x.args=[]):TmsK (fun b=>b=g) w (some ⟨g,o,none⟩) l:=by
 cases h with
 | mk A l F C hm hc hs=>
  refine .mk _ l F C hm (fun j hj=>?_) (fun j hj=>?_)
  ·obtain ⟨b,off,e,hb,c0,c1,c2,c3⟩:=hc j hj
   have eb:b=g:=by injection e with e;injection e with e _ _;exact e.symm
   exact ⟨b,off,e,eb,c0,c1,c2,c3⟩
  ·rw [hl _ (List.getElem_mem hj)];exact TmsK.nil
end Hb
namespace Go.Proofs.YtpokpgkjaifccaaGreatDoorRR
open Go.RowKit Hb Go.Shelf
set_option maxRecDepth 100000
theorem infoRowA:(Tryz.prog.info? 30).map (fun i=>(i.zero,i.size,i.bytes))=some (some (.slice none 0 0),1,24):=by kernel_rfl
theorem wpList_app_row {w:World} {ops:Array Oper} {rest:List Oper} {o:Oper} {a:Act} {Q:Exit→Act→World→Prop} (hgd:o.guard=none) (s x:Operand)
  (ho:o.op=.call { callee:=.builtin .append,args:=#[s,x],argTypes:=#[61,61] }) (lo:Nat) (wl:World) (v:Value) (rs:List LR) (hs:a.eval s=v) (hO:OutR lo 30 w v rs) (hB:Below lo wl w) (hlo:lo≤w.heap.size)
  (g:Nat) (r:LR) (hx:a.eval x=.slice (some ⟨g,0,none⟩) 1 1) (hg:Bk w g [lrC r]) (hr:TmsK (fun b=>lo≤b∧b<w.heap.size∧v.ownBlock≠some b) w r.2.1 r.1) (hn:rs.length≤100000)
  (h:∀v' w',Hid (OutR lo 30 w' v' (rs++[r]))→Hid (Below lo wl w')→wpList Tryz.prog ops Q rest (a.put o.dst v') w'):wpList Tryz.prog ops Q (o::rest) a w:=by
 obtain ⟨i,hi,hz0,hz1,hz2⟩:=info_parts infoRowA
 refine wpList_append_own_at _ hgd s x 61 ho lo 30 i _ 1 24 Tryz.underlying61 hi hz0 hz1 hz2 rfl (by decide) v rs.length (rs.map lrC) hs hO.own ⟨g,0,none⟩ 1 1 [lrC r] hx rfl ?_ (by intro u hu;rw [List.mem_singleton] at hu;subst hu;rfl) (by unfold maxLen;omega) (by omega) hlo ?_
 ·intro j u hu
  rw [addr_add]
  match j,hu with
  | 0,hu=>exact hg.c 0 u hu
 ·intro v' w' hown hgr _ hat
  exact h v' w' (zq (hO.snoc r hr hown hgr hat)) (zq (hB.grown hgr hlo (fun k hk=>(hO.own.lt k hk).1)))
end Go.Proofs.YtpokpgkjaifccaaGreatDoorRR
