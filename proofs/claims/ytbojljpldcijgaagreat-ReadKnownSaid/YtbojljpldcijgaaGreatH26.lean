/- Parts of the proof. -/
import Derived.Test.YtbojljpldcijgaaGreatH01
import Derived.Test.YtbojljpldcijgaaGreatH24
import Derived.Test.YtbojljpldcijgaaGreatH25
namespace Hb
open Go Go.RowKit
def vpRd (t:Tm) (nm sg:List (List UInt8×Nat)) (e2 w2 er:Int):List Value→Prop | [v]=>∃A cap NA nc SA sc,v=.tuple #[.agg #[.int .i64 t.kind,.int .i64 t.num,.string t.name,.slice A t.args.length cap,.slice NA nm.length nc,.slice SA sg.length sc,.int .i64 e2],.int .i64 w2,.int .i64 er] | _=>False
def vcRd (t:Tm) (nm sg:List (List UInt8×Nat)) (e2 w2 er:Int):List Value→(Nat→Prop)→World→Prop | [v],N,X=>∃A cap NA nc SA sc,v=.tuple #[.agg #[.int .i64 t.kind,.int .i64 t.num,.string t.name,.slice A t.args.length cap,.slice NA nm.length nc,.slice SA sg.length sc,.int .i64 e2],.int .i64 w2,.int .i64 er]∧TmsK N X A t.args∧NmAt N X NA nm∧NmAt N X SA sg | _,_,_=>False
def rRd (D:List Nat) (j:Nat) (t:Tm) (nm sg:List (List UInt8×Nat)) (e2 w2 er:Int):ROp:=rCall D [j] (vpRd t nm sg e2 w2 er) (vcRd t nm sg e2 w2 er) fun vs _ _ _ _ h hk hN _=>match vs,h with | [_],⟨A,cap,NA,nc,SA,sc,e,h1,h2,h3⟩=>⟨A,cap,NA,nc,SA,sc,e,h1.keep hk hN,h2.keep hk hN,h3.keep hk hN⟩
theorem sliceS {a n:Nat} (h:a≤n):(0:Int)≤(a:Int)∧(a:Int)≤(n:Int):=⟨by omega,by omega⟩
theorem wrapS {x y:Int} (h:0≤x∧x≤16384) (hy:0≤y∧y≤16384):IntKind.i64.wrap (x+y)=x+y:=IntWalk.i64_in _ (by omega)
theorem drop_data (s:ByteArray) (k:Nat):(s.extract k s.size).data.toList=s.data.toList.drop k:=by
 simp
 exact List.take_of_length_le (by simp)
end Hb
namespace Go.Proofs.YtbojljpldcijgaaGreat
open Go.RowKit Hb
set_option maxRecDepth 100000
set_option linter.unusedSimpArgs false
attribute [local go_sem] Oper.semAt_some
set_option maxHeartbeats 6400000 in
theorem law_place (text:ByteArray) (at_:Int) (OA:Option Addr) (on oc:Nat) (q u:Int) (c d:Bool) (CA:Option Addr) (cn cc:Nat) (ol:List OpR) (cl:List (Int×Int)) (w:World) (hO:Tab w OA on oc ol) (hcl:cn=cl.length) (hcn:cn≤maxLen) (hC:Pairs w CA cl) (hs:text.size≤maxLen):Calls Tryz.prog 5 #[.string text,.int .i64 at_,.agg #[.slice OA on oc,.int .i64 q,.int .i64 u,.bool c,.bool d,.slice CA cn cc]] w fun e w'=>e=.returned (.bool true)∧Below w.heap.size w w':=by
 have HAW:=zq (fun W=>l_awake W)
 have HB0:=zq ((Below.refl w.heap.size w).alloc (Nat.le_refl _) (.cells #[.slice OA on oc,.int .i64 q,.int .i64 u,.bool c,.bool d,.slice CA cn cc] 27))
 by_cases c1:at_<0
 ·clear hO hcl hcn hC hs
  go_enter Tryz.func5,Tryz.ntmps5
  go_wp2_with fail
  refine (HAW.out _).mono ?_;rintro e wz ⟨rfl,hB⟩
  have HBZ:=bz HB0 hB
  clear hB HB0
  go_wp2_with fail
  go_ret
  exact ⟨rfl,HBZ.out⟩
 by_cases c2:(text.size:Int)<at_
 ·clear hO hcl hcn hC hs
  go_enter Tryz.func5,Tryz.ntmps5
  go_wp2_with fail
  refine (HAW.out _).mono ?_;rintro e wz ⟨rfl,hB⟩
  have HBZ:=bz HB0 hB
  clear hB HB0
  go_wp2_with fail
  go_ret
  exact ⟨rfl,HBZ.out⟩
 by_cases c3:(16384:Int)<(text.size:Int)
 ·clear hO hcl hcn hC hs
  go_enter Tryz.func5,Tryz.ntmps5
  go_wp2_with fail
  refine (HAW.out _).mono ?_;rintro e wz ⟨rfl,hB⟩
  have HBZ:=bz HB0 hB
  clear hB HB0
  go_wp2_with fail
  go_ret
  exact ⟨rfl,HBZ.out⟩
 obtain ⟨a,rfl⟩:∃a:Nat,at_=a:=⟨at_.toNat,by omega⟩
 have hal:a≤text.size:=by omega
 have hsz:text.size≤16384:=by omega
 have HAL:=zq hal
 have HAM:Hid ((0:Int)≤a∧(a:Int)≤16384):=zq ⟨by omega,by omega⟩
 obtain ⟨T2,HT2⟩:=lz (α:=ByteArray) (text.extract a text.size)
 have hd2:T2.data.toList=text.data.toList.drop a:=by rw [HT2.out];exact drop_data text a
 obtain ⟨t,nm,sg,e1,e2,w1,w2,er,hr1,hr2,hp1,hp2,hp3,hp4,hp5,hp6⟩:=place_sum text.data.toList a ⟨ol,q,u,c,d,cl⟩ (by rw [size_data];exact hal) (by rw [size_data];exact hsz)
 have HC1:Hid (∀X,Below w.heap.size w X→Calls Tryz.prog 11 #[.string text,.int .i64 (a:Int),.agg #[.slice OA on oc,.int .i64 q,.int .i64 u,.bool c,.bool d,.slice CA cn cc]] X fun e w'=>∃A cap NA nc SA sc,e=.returned (.tuple #[.agg #[.int .i64 t.kind,.int .i64 t.num,.string t.name,.slice A t.args.length cap,.slice NA nm.length nc,.slice SA sg.length sc,.int .i64 e1],.int .i64 w1,.int .i64 er])∧Below X.heap.size X w'∧TmsK (fun b=>X.heap.size≤b∧b<w'.heap.size) w' A t.args∧NmAt (fun b=>X.heap.size≤b∧b<w'.heap.size) w' NA nm∧NmAt (fun b=>X.heap.size≤b∧b<w'.heap.size) w' SA sg):=zq fun X hX=>by
  have h:=rd_Term text a OA on oc q u c d CA cn cc ol cl X (hO.below hX) hcl hcn (hC.below hX) hs
  rw [hr1] at h
  exact h
 have HC2:Hid (∀X,Below w.heap.size w X→Calls Tryz.prog 11 #[.string T2,.int .i64 0,.agg #[.slice OA on oc,.int .i64 q,.int .i64 u,.bool c,.bool d,.slice CA cn cc]] X fun e w'=>∃A cap NA nc SA sc,e=.returned (.tuple #[.agg #[.int .i64 t.kind,.int .i64 t.num,.string t.name,.slice A t.args.length cap,.slice NA nm.length nc,.slice SA sg.length sc,.int .i64 e2],.int .i64 w2,.int .i64 er])∧Below X.heap.size X w'∧TmsK (fun b=>X.heap.size≤b∧b<w'.heap.size) w' A t.args∧NmAt (fun b=>X.heap.size≤b∧b<w'.heap.size) w' NA nm∧NmAt (fun b=>X.heap.size≤b∧b<w'.heap.size) w' SA sg):=zq fun X hX=>by
  have h:=rd_Term T2 0 OA on oc q u c d CA cn cc ol cl X (hO.below hX) hcl hcn (hC.below hX) (by rw [HT2.out];simp;omega)
  rw [hd2,hr2] at h
  exact h
 have HFW:=zq (read_few text.data.toList a ⟨ol,q,u,c,d,cl⟩)
 rw [hr1] at HFW
 have HP1:=zq hp1
 have HP2:=zq hp2
 have HP3:=zq hp3
 have HP4:=zq hp4
 have HP5:=zq hp5
 have HP6:=zq hp6
 have HK0:=zq (Bk.new w [.slice OA on oc,.int .i64 q,.int .i64 u,.bool c,.bool d,.slice CA cn cc] 27)
 clear hO hcl hcn hC hs hd2 hr1 hr2 hp1 hp2 hp3 hp4 hp5 hp6 hsz hal
 go_enter Tryz.func5,Tryz.ntmps5
 go_wp2_with fail
 refine (HC1.out _ HB0.out).mono ?_;rintro e x1 ⟨A,cap,NA,nc,SA,sc,rfl,hB,h1,h2,h3⟩
 have HB1:=bz HB0 hB
 have HK1:=zq (HK0.out.call hB)
 have HRA:=zq (⟨h1.keep (fun _ _=>rfl) fun _ hb=>hb.2,h2.keep (fun _ _=>rfl) fun _ hb=>hb.2,h3.keep (fun _ _=>rfl) fun _ hb=>hb.2⟩:RdAt x1 ⟨t,nm,sg,e1,w1,er⟩ A NA SA)
 clear hB h1 h2 h3 HB0 HK0 HC1
 obtain ⟨x2,HX2⟩:=lz (x1.alloc (.cells #[.int .i64 t.kind,.int .i64 t.num,.string t.name,.slice A t.args.length cap,.slice NA nm.length nc,.slice SA sg.length sc,.int .i64 e1] 33))
 obtain ⟨g2,HG2⟩:=lz (x1.heap.size)
 have hB:Below x1.heap.size x1 x2:=by rw [HX2.out];exact (Below.refl _ _).alloc (Nat.le_refl _) _
 have HQ2:Hid (Bk x2 g2 [.int .i64 t.kind,.int .i64 t.num,.string t.name,.slice A t.args.length cap,.slice NA nm.length nc,.slice SA sg.length sc,.int .i64 e1]):=zq (by rw [HX2.out,HG2.out];exact Bk.new x1 [.int .i64 t.kind,.int .i64 t.num,.string t.name,.slice A t.args.length cap,.slice NA nm.length nc,.slice SA sg.length sc,.int .i64 e1] 33)
 have HGW:Hid (w.heap.size<g2):=zq (by rw [HG2.out];exact HK1.out.lt)
 have HB2:=bz HB1 hB
 have HK2:=zq (HK1.out.call hB)
 have HR2:=zq (HRA.out.below hB)
 go_upto_region 4 with fail
 rw [←HX2.out,←HG2.out]
 clear hB HB1 HK1 HRA HX2 HG2
 rename_i K9 hK9
 refine region_own (w0:=x2) [rPure [] [0] (fun|[v]=>v=.string text|_=>False),
  rPure [] [1] (fun|[v]=>v=.int .i64 (a:Int)|_=>False),
  rPure [0,1] [2] (fun|[v]=>v=.string T2|_=>False),
  rVal [] [3] (fun|[v]=>v=.agg #[.slice OA on oc,.int .i64 q,.int .i64 u,.bool c,.bool d,.slice CA cn cc]|_=>False),
  rRd (List.range 4) 4 t nm sg e2 w2 er,
  rPure (List.range 5) [5,4] (fun | [v,u]=>v=u|_=>False),
  rPure (List.range 6) [6,5] (fun | [v,u]=>v=tupC u 0|_=>False),
  rPure (List.range 6) [7,5] (fun | [v,u]=>v=tupC u 1|_=>False),
  rPure (List.range 6) [8,5] (fun | [v,u]=>v=tupC u 2|_=>False),
  rBox [] [.int .i64 0,.int .i64 0,.string ⟨#[]⟩,.slice none 0 0,.slice none 0 0,.slice none 0 0,.int .i64 0] 10,
  rStore [0,1,2,3,4,5,6,9] [6] 9 (fun|[v]=>contV v | _=>[]),
  rPure [0,1,2,3,4,5,6,7,9,10] [11,7] (fun | [v,u]=>v=u|_=>False),
  rPure (List.range 12) [12,8] (fun | [v,u]=>v=u|_=>False)]
  [some 36,some 37,some 38,some 39,some 40,some 35,some 41,some 42,some 43,some 10,none,some 11,some 12] (fun _=>True) (x2.heap.size) (by kernel_rfl) (Nat.le_refl _) (by kernel_rfl) (by kernel_rfl) (by kernel_rfl) (fun j o ho=>?srv) (fun val Y N hv HF=>?fin)
 case srv=>
  have hlt:j<13:=(Array.getElem?_eq_some_iff.1 ho).1
  rcases (show j=0∨j=1∨j=2∨j=3∨j=4∨j=5∨j=6∨j=7∨j=8∨j=9∨j=10∨j=11∨j=12 by omega) with rfl|rfl|rfl|rfl|rfl|rfl|rfl|rfl|rfl|rfl|rfl|rfl|rfl
  ·cases ho
   refine srv_pure rfl rfl (fun val E hE hA=>?_)
   have e0:=hE.t 0 (.string text) rfl
   exact ⟨.string text,fun X=>by simp [execOp,go_sem,e0],rfl⟩
  ·cases ho
   refine srv_pure rfl rfl (fun val E hE hA=>?_)
   have e1:=hE.t 1 (.int .i64 (a:Int)) rfl
   exact ⟨.int .i64 (a:Int),fun X=>by simp [execOp,go_sem,e1],rfl⟩
  ·cases ho
   refine srv_pure rfl rfl (fun val E hE hA=>?_)
   have e36:=hE.t 36 (val 0) rfl
   have h0:val 0=.string text:=hA 0 (oz rfl)
   have e37:=hE.t 37 (val 1) rfl
   have h1:val 1=.int .i64 (a:Int):=hA 1 (oz rfl)
   have hx1:=(sliceS HAL.out).1
   have hx2:=(sliceS HAL.out).2
   have hx3:text.extract a text.size=T2:=HT2.out.symm
   exact ⟨.string T2,fun X=>by simp [execOp,go_sem,e36,h0,e37,h1,hx1,hx2,hx3],rfl⟩
  ·cases ho
   refine srv_val rfl rfl (fun _ _ _=>trivial) (fun val E X hE hB hA=>?_)
   have e5:=hE.t 5 (.pointer (some ⟨w.heap.size,0,none⟩)) rfl
   have hk0:=(HK2.out.call hB).c 0 _ rfl
   have hk1:=(HK2.out.call hB).c 1 _ rfl
   have hk2:=(HK2.out.call hB).c 2 _ rfl
   have hk3:=(HK2.out.call hB).c 3 _ rfl
   have hk4:=(HK2.out.call hB).c 4 _ rfl
   have hk5:=(HK2.out.call hB).c 5 _ rfl
   exact ⟨.agg #[.slice OA on oc,.int .i64 q,.int .i64 u,.bool c,.bool d,.slice CA cn cc],by simp [execOp,go_sem,e5,hk0,hk1,hk2,hk3,hk4,hk5],rfl⟩
  ·cases ho
   refine srv_cal rfl rfl fun val E X N hE hC hA hc=>?_
   have e38:=hE.t 38 (val 2) rfl
   have e39:=hE.t 39 (val 3) rfl
   have h2:val 2=.string T2:=hA 2 (oz rfl)
   have h3:val 3=.agg #[.slice OA on oc,.int .i64 q,.int .i64 u,.bool c,.bool d,.slice CA cn cc]:=hA 3 (oz rfl)
   exact ⟨_,_,by simp [execOp,go_sem,hE.f,hE.c,e38,e39,h2,h3] <;> rfl,(HC2.out X (HB2.out.trans (hC.bel.mono HB2.out.size))).mono fun e w' h=>by
    obtain ⟨A,cap,NA,nc,SA,sc,he,hB,h1,h2,h3⟩:=h
    exact ⟨_,he,hB,⟨A,cap,NA,nc,SA,sc,rfl⟩,fun N' _ hn=>⟨A,cap,NA,nc,SA,sc,rfl,h1.keep (fun _ _=>rfl) fun b hb=>hn b hb.1 hb.2,h2.keep (fun _ _=>rfl) fun b hb=>hn b hb.1 hb.2,h3.keep (fun _ _=>rfl) fun b hb=>hn b hb.1 hb.2⟩⟩⟩
  ·cases ho
   refine srv_pure rfl rfl (fun val E hE hA=>?_)
   have e40:=hE.t 40 (val 4) rfl
   obtain ⟨A4,cap4,NA4,nc4,SA4,sc4,h4⟩:∃A4 cap4 NA4 nc4 SA4 sc4,val 4=.tuple #[.agg #[.int .i64 t.kind,.int .i64 t.num,.string t.name,.slice A4 t.args.length cap4,.slice NA4 nm.length nc4,.slice SA4 sg.length sc4,.int .i64 e2],.int .i64 w2,.int .i64 er]:=hA 4 (oz rfl)
   exact ⟨val 4,fun X=>by simp [execOp,go_sem,e40,h4],rfl⟩
  ·cases ho
   refine srv_pure rfl rfl (fun val E hE hA=>?_)
   have e35:=hE.t 35 (val 5) rfl
   obtain ⟨A4,cap4,NA4,nc4,SA4,sc4,h4⟩:∃A4 cap4 NA4 nc4 SA4 sc4,val 4=.tuple #[.agg #[.int .i64 t.kind,.int .i64 t.num,.string t.name,.slice A4 t.args.length cap4,.slice NA4 nm.length nc4,.slice SA4 sg.length sc4,.int .i64 e2],.int .i64 w2,.int .i64 er]:=hA 4 (oz rfl)
   have h5:val 5=val 4:=hA 5 (oz rfl)
   rw [h4] at h5
   exact ⟨tupC (val 5) 0,fun X=>by simp [execOp,go_sem,e35,h5,tupC],rfl⟩
  ·cases ho
   refine srv_pure rfl rfl (fun val E hE hA=>?_)
   have e35:=hE.t 35 (val 5) rfl
   obtain ⟨A4,cap4,NA4,nc4,SA4,sc4,h4⟩:∃A4 cap4 NA4 nc4 SA4 sc4,val 4=.tuple #[.agg #[.int .i64 t.kind,.int .i64 t.num,.string t.name,.slice A4 t.args.length cap4,.slice NA4 nm.length nc4,.slice SA4 sg.length sc4,.int .i64 e2],.int .i64 w2,.int .i64 er]:=hA 4 (oz rfl)
   have h5:val 5=val 4:=hA 5 (oz rfl)
   rw [h4] at h5
   exact ⟨tupC (val 5) 1,fun X=>by simp [execOp,go_sem,e35,h5,tupC],rfl⟩
  ·cases ho
   refine srv_pure rfl rfl (fun val E hE hA=>?_)
   have e35:=hE.t 35 (val 5) rfl
   obtain ⟨A4,cap4,NA4,nc4,SA4,sc4,h4⟩:∃A4 cap4 NA4 nc4 SA4 sc4,val 4=.tuple #[.agg #[.int .i64 t.kind,.int .i64 t.num,.string t.name,.slice A4 t.args.length cap4,.slice NA4 nm.length nc4,.slice SA4 sg.length sc4,.int .i64 e2],.int .i64 w2,.int .i64 er]:=hA 4 (oz rfl)
   have h5:val 5=val 4:=hA 5 (oz rfl)
   rw [h4] at h5
   exact ⟨tupC (val 5) 2,fun X=>by simp [execOp,go_sem,e35,h5,tupC],rfl⟩
  ·cases ho
   exact srv_box rfl (fun _=>trivial) (trivial) 33 fun E X=>by simp [execOp,go_sem]
  ·cases ho
   refine srv_store rfl rfl (fun _=>trivial) fun val E X b hE hA hb hk=>?_
   have e10:=hE.t 10 (val 9) rfl
   have e41:=hE.t 41 (val 6) rfl
   obtain ⟨A4,cap4,NA4,nc4,SA4,sc4,h4⟩:∃A4 cap4 NA4 nc4 SA4 sc4,val 4=.tuple #[.agg #[.int .i64 t.kind,.int .i64 t.num,.string t.name,.slice A4 t.args.length cap4,.slice NA4 nm.length nc4,.slice SA4 sg.length sc4,.int .i64 e2],.int .i64 w2,.int .i64 er]:=hA 4 (oz rfl)
   have h5:val 5=val 4:=hA 5 (oz rfl)
   rw [h4] at h5
   have h6:val 6=tupC (val 5) 0:=hA 6 (oz rfl)
   rw [h5] at h6
   have z0:=hk.c 0 (.int .i64 0) rfl
   have f0:=hk.f 0
   have z1:=hk.c 1 (.int .i64 0) rfl
   have f1:=hk.f 1
   have z2:=hk.c 2 (.string ⟨#[]⟩) rfl
   have f2:=hk.f 2
   have z3:=hk.c 3 (.slice none 0 0) rfl
   have f3:=hk.f 3
   have z4:=hk.c 4 (.slice none 0 0) rfl
   have f4:=hk.f 4
   have z5:=hk.c 5 (.slice none 0 0) rfl
   have f5:=hk.f 5
   have z6:=hk.c 6 (.int .i64 0) rfl
   have f6:=hk.f 6
   exact ⟨(((((((X.setCell ⟨b,0,none⟩ (.int .i64 t.kind)).setCell ⟨b,1,none⟩ (.int .i64 t.num)).setCell ⟨b,2,none⟩ (.string t.name)).setCell ⟨b,3,none⟩ (.slice A4 t.args.length cap4)).setCell ⟨b,4,none⟩ (.slice NA4 nm.length nc4)).setCell ⟨b,5,none⟩ (.slice SA4 sg.length sc4)).setCell ⟨b,6,none⟩ (.int .i64 e2)),[.int .i64 t.kind,.int .i64 t.num,.string t.name,.slice A4 t.args.length cap4,.slice NA4 nm.length nc4,.slice SA4 sg.length sc4,.int .i64 e2],by simp [execOp,go_sem,hb,e10,e41,h6,z0,f0,z1,f1,z2,f2,z3,f3,z4,f4,z5,f5,z6,f6,tupC],((((((((PutTo.start hk).more 0 (.int .i64 t.kind)).more 1 (.int .i64 t.num)).more 2 (.string t.name)).more 3 (.slice A4 t.args.length cap4)).more 4 (.slice NA4 nm.length nc4)).more 5 (.slice SA4 sg.length sc4)).more 6 (.int .i64 e2)),(show contV (val 6)=_ by rw [h6];rfl),trivial⟩
  ·cases ho
   refine srv_pure rfl rfl (fun val E hE hA=>?_)
   have e42:=hE.t 42 (val 7) rfl
   obtain ⟨A4,cap4,NA4,nc4,SA4,sc4,h4⟩:∃A4 cap4 NA4 nc4 SA4 sc4,val 4=.tuple #[.agg #[.int .i64 t.kind,.int .i64 t.num,.string t.name,.slice A4 t.args.length cap4,.slice NA4 nm.length nc4,.slice SA4 sg.length sc4,.int .i64 e2],.int .i64 w2,.int .i64 er]:=hA 4 (oz rfl)
   have h5:val 5=val 4:=hA 5 (oz rfl)
   rw [h4] at h5
   have h7:val 7=tupC (val 5) 1:=hA 7 (oz rfl)
   rw [h5] at h7
   exact ⟨val 7,fun X=>by simp [execOp,go_sem,e42,h7],rfl⟩
  ·cases ho
   refine srv_pure rfl rfl (fun val E hE hA=>?_)
   have e43:=hE.t 43 (val 8) rfl
   obtain ⟨A4,cap4,NA4,nc4,SA4,sc4,h4⟩:∃A4 cap4 NA4 nc4 SA4 sc4,val 4=.tuple #[.agg #[.int .i64 t.kind,.int .i64 t.num,.string t.name,.slice A4 t.args.length cap4,.slice NA4 nm.length nc4,.slice SA4 sg.length sc4,.int .i64 e2],.int .i64 w2,.int .i64 er]:=hA 4 (oz rfl)
   have h5:val 5=val 4:=hA 5 (oz rfl)
   rw [h4] at h5
   have h8:val 8=tupC (val 5) 2:=hA 8 (oz rfl)
   rw [h5] at h8
   exact ⟨val 8,fun X=>by simp [execOp,go_sem,e43,h8],rfl⟩
 case fin=>
  have h0:val 0=.string text:=hv 0 (by decide)
  have h1:val 1=.int .i64 (a:Int):=hv 1 (by decide)
  have h2:val 2=.string T2:=hv 2 (by decide)
  have h3:val 3=.agg #[.slice OA on oc,.int .i64 q,.int .i64 u,.bool c,.bool d,.slice CA cn cc]:=hv 3 (by decide)
  obtain ⟨A4,cap4,NA4,nc4,SA4,sc4,h4,ht4,hn4,hs4⟩:∃A4 cap4 NA4 nc4 SA4 sc4,val 4=.tuple #[.agg #[.int .i64 t.kind,.int .i64 t.num,.string t.name,.slice A4 t.args.length cap4,.slice NA4 nm.length nc4,.slice SA4 sg.length sc4,.int .i64 e2],.int .i64 w2,.int .i64 er]∧TmsK N Y A4 t.args∧NmAt N Y NA4 nm∧NmAt N Y SA4 sg:=HF.vcs 4 (by decide) rfl
  have h5:val 5=val 4:=hv 5 (by decide)
  rw [h4] at h5
  have h6:val 6=tupC (val 5) 0:=hv 6 (by decide)
  rw [h5] at h6
  replace h6:val 6=.agg #[.int .i64 t.kind,.int .i64 t.num,.string t.name,.slice A4 t.args.length cap4,.slice NA4 nm.length nc4,.slice SA4 sg.length sc4,.int .i64 e2]:=h6
  have h7:val 7=tupC (val 5) 1:=hv 7 (by decide)
  rw [h5] at h7
  replace h7:val 7=.int .i64 w2:=h7
  have h8:val 8=tupC (val 5) 2:=hv 8 (by decide)
  rw [h5] at h8
  replace h8:val 8=.int .i64 er:=h8
  have h11:val 11=val 7:=hv 11 (by decide)
  rw [h7] at h11
  have h12:val 12=val 8:=hv 12 (by decide)
  rw [h8] at h12
  obtain ⟨g3,hb9,hl9,hk9,hn9⟩:=HF.at_box 9 (by decide) rfl
  have hk9:Bk Y g3 (contV (val 6)):=hk9
  rw [h6] at hk9
  have HQ3:Hid (Bk Y g3 [.int .i64 t.kind,.int .i64 t.num,.string t.name,.slice A4 t.args.length cap4,.slice NA4 nm.length nc4,.slice SA4 sg.length sc4,.int .i64 e2]):=zq hk9
  have HB3:=zq (HB2.out.trans (HF.bel.mono HB2.out.size))
  have HQY:=zq (HQ2.out.call HF.bel)
  have HT4:=zq ht4
  have HN4:=zq hn4
  have HS4:=zq hs4
  have HNL:=zq (fun b (h:N b)=>HF.lt b h)
  have HNE:=zq hn9
  have HFB:=zq HF.bel
  have HLE:=zq hl9
  have HGN:Hid (g2<g3):=zq (Nat.lt_of_lt_of_le HQ2.out.lt hl9)
  refine hK9 _ _ ?_
  simp only [fillD,List.set_cons_zero,List.set_cons_succ,Nat.reduceAdd,Nat.zero_add,hb9,h0,h1,h2,h3,h4,h5,h6,h7,h8,h11,h12]
  clear hv HF hK9 hb9 hk9 ht4 hn4 hs4 h0 h1 h2 h3 h4 h5 h6 h7 h8 h11 h12 HK2 HQ2 HC2 HT2 HAL hl9 hn9 HB2
  have hne:(er != er)=false:=by simp
  by_cases e1:er=1
  ·obtain ⟨q1,q2⟩:=HP1.out e1
   subst q1 q2 e1
   clear hne
   go_wp2_with fail
   refine (HAW.out _).mono ?_;rintro e wz ⟨rfl,hB⟩
   have HBZ:=bz HB3 hB
   clear hB HB3
   go_wp2_with fail
   go_ret
   exact ⟨rfl,HBZ.out⟩
  by_cases e0:er=0
  rotate_left
  ·have q1:=HP2.out e0 e1
   have hw:=wrapS HP4.out HAM.out
   subst q1
   have b0:(er != 0)=true:=by simpa using e0
   go_wp2_with fail
   refine (HAW.out _).mono ?_;rintro e wz ⟨rfl,hB⟩
   have HBZ:=bz HB3 hB
   clear hB HB3
   go_wp2_with fail
   go_ret
   exact ⟨rfl,HBZ.out⟩
  have q1:=HP3.out e0
  have hw:=wrapS HP5.out HAM.out
  clear hne e1
  subst e0
  have hq3:=HQ3.out.all0
  simp only [bkAll,Nat.zero_add,Nat.reduceAdd,and_true] at hq3
  have hl3:=HQ3.out.lt
  obtain ⟨W9,HW9⟩:=lz (Y.setCell ⟨g3,6,none⟩ (.int .i64 (e2+(a:Int))))
  have HBX:Hid (Below w.heap.size w W9):=zq (by rw [HW9.out];exact HB3.out.setCell (p:=⟨g3,6,none⟩) (by have:=HGN.out;have:=HGW.out;show w.heap.size≤g3;omega) _)
  have HQ9:Hid (Bk W9 g3 [.int .i64 t.kind,.int .i64 t.num,.string t.name,.slice A4 t.args.length cap4,.slice NA4 nm.length nc4,.slice SA4 sg.length sc4,.int .i64 (e2+(a:Int))]):=zq (by rw [HW9.out];exact HQ3.out.set 6 _)
  have HQR:Hid (Bk W9 g2 [.int .i64 t.kind,.int .i64 t.num,.string t.name,.slice A t.args.length cap,.slice NA nm.length nc,.slice SA sg.length sc,.int .i64 (e2+(a:Int))]):=zq (by rw [HW9.out,←q1];exact HQY.out.keeps (heap_setCell_other _ _ _ _ (by have:=HGN.out;show g2≠g3;omega)))
  have HR9:Hid (RdAt W9 ⟨t,nm,sg,e2+(a:Int),w1,0⟩ A NA SA):=zq (by
   rw [HW9.out,←q1]
   exact HR2.out.below (HFB.out.setCell (p:=⟨g3,6,none⟩) HLE.out _))
  have HR8:Hid (RdAt W9 ⟨t,nm,sg,e2+(a:Int),w2,0⟩ A4 NA4 SA4):=zq (by
   rw [HW9.out]
   have hk:∀b,N b→(Y.setCell ⟨g3,6,none⟩ (.int .i64 (e2+(a:Int)))).heap[b]? = Y.heap[b]?:=fun b hb=>heap_setCell_other _ _ _ _ (HNE.out b hb)
   have hs:∀b,N b→b<(Y.setCell ⟨g3,6,none⟩ (.int .i64 (e2+(a:Int)))).heap.size:=fun b hb=>by simpa using HNL.out b hb
   exact ⟨HT4.out.keep hk hs,HN4.out.keep hk hs,HS4.out.keep hk hs⟩)
  have HSM:=zq (r10_same ⟨t,nm,sg,e2+(a:Int),w1,0⟩ ⟨t,nm,sg,e2+(a:Int),w2,0⟩ A NA SA A4 NA4 SA4 cap nc sc cap4 nc4 sc4 W9 HR9.out HR8.out HFW.out.1 HFW.out.2)
  have hsd:sameRd ⟨t,nm,sg,e2+(a:Int),w1,0⟩ ⟨t,nm,sg,e2+(a:Int),w2,0⟩=true:=by
   unfold sameRd;rw [same_refl HP6.out,decide_eq_true rfl,decide_eq_true rfl];simp
  rw [hsd] at HSM
  go_upto_region 12 with fail
  rw [←HW9.out]
  clear hq3 hl3 hw q1 hsd HW9 HQ3 HQY HB3 HR2 HT4 HN4 HS4 HR9 HR8 HNE HNL HFB HLE HP1 HP2 HP3 HP4 HP5 HP6
  have hq3:=HQ9.out.all0
  simp only [bkAll,Nat.zero_add,Nat.reduceAdd,and_true] at hq3
  have hq2:=HQR.out.all0
  simp only [bkAll,Nat.zero_add,Nat.reduceAdd,and_true] at hq2
  go_wp2_with fail
  refine HSM.out.mono ?_;rintro e wy ⟨rfl,hB⟩
  have HBY:=bz HBX hB
  clear hB HBX
  go_wp2_with fail
  refine (HAW.out _).mono ?_;rintro e wz ⟨rfl,hB⟩
  have HBZ:=bz HBY hB
  clear hB HBY
  go_wp2_with fail
  go_ret
  exact ⟨rfl,HBZ.out⟩
end Go.Proofs.YtbojljpldcijgaaGreat
