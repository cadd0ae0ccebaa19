/- Parts of the proof. -/
import Derived.Test.YtbojljpldcijgaaGreatH01
import Derived.Test.YtbojljpldcijgaaGreatH21
import Derived.Test.YtbojljpldcijgaaGreatH12
import Derived.Test.YtbojljpldcijgaaGreatH05
import Derived.Test.YtbojljpldcijgaaGreatH13
import Derived.Test.YtbojljpldcijgaaGreatH02
import Derived.Test.YtbojljpldcijgaaGreatH17
namespace Go.Proofs.YtbojljpldcijgaaGreat
open Go.RowKit Hb Go.Shelf
set_option maxRecDepth 100000
theorem f_start (w:World):Calls Tryz.prog 23 #[] w fun e w'=>∃g cap,e=.returned (.agg #[.slice (some ⟨g,0,none⟩) 41 cap,.int .i64 1,.int .i64 1,.bool false,.bool false,.slice none 0 0])∧Below w.heap.size w w'∧Tab w' (some ⟨g,0,none⟩) 41 cap defL:=by
 have HB0:Hid (Below w.heap.size w (w.alloc (.cells #[.slice none 0 0,.int .i64 0,.int .i64 0,.bool false,.bool false,.slice none 0 0] 27))):=zq ((Below.refl _ _).alloc (Nat.le_refl _) _)
 have HK0:Hid (Bk (w.alloc (.cells #[.slice none 0 0,.int .i64 0,.int .i64 0,.bool false,.bool false,.slice none 0 0] 27)) w.heap.size [.slice none 0 0,.int .i64 0,.int .i64 0,.bool false,.bool false,.slice none 0 0]):=zq (Bk.new w [.slice none 0 0,.int .i64 0,.int .i64 0,.bool false,.bool false,.slice none 0 0] 27)
 go_enter Tryz.func23,Tryz.ntmps23
 go_wp2_with fail
 refine (ops_default sort_said _).mono ?_;rintro e w1 ⟨g,cap,rfl,hB1,hT1⟩
 have HB1:=bz HB0 hB1
 have HK1:=zq (HK0.out.call hB1)
 have HT1:=zq hT1
 clear hB1 HB0 HK0 hT1
 go_wp2_with fail
 refine (f_default _).mono ?_;rintro e w2 ⟨rfl,hB2⟩
 have HB2:=bz HB1 hB2
 have HK2:=zq (HK1.out.call hB2)
 have HT2:=zq (HT1.out.below hB2)
 clear hB2 HB1 HK1 HT1
 unfold flV flDef
 dsimp only
 have x0:w2.cell? ⟨w.heap.size,0,none⟩=some (.slice none 0 0):=HK2.out.c 0 _ rfl
 have f0:=HK2.out.f 0
 have x1:w2.cell? ⟨w.heap.size,1,none⟩=some (.int .i64 0):=HK2.out.c 1 _ rfl
 have f1:=HK2.out.f 1
 have x2:w2.cell? ⟨w.heap.size,2,none⟩=some (.int .i64 0):=HK2.out.c 2 _ rfl
 have f2:=HK2.out.f 2
 have x3:w2.cell? ⟨w.heap.size,3,none⟩=some (.bool false):=HK2.out.c 3 _ rfl
 have f3:=HK2.out.f 3
 have x4:w2.cell? ⟨w.heap.size,4,none⟩=some (.bool false):=HK2.out.c 4 _ rfl
 have f4:=HK2.out.f 4
 have x5:w2.cell? ⟨w.heap.size,5,none⟩=some (.slice none 0 0):=HK2.out.c 5 _ rfl
 have f5:=HK2.out.f 5
 have HK3:Hid (Bk ((((((w2.setCell ⟨w.heap.size,0,none⟩ (.slice (some ⟨g,0,none⟩) 41 cap)).setCell ⟨w.heap.size,1,none⟩ (.int .i64 1)).setCell ⟨w.heap.size,2,none⟩ (.int .i64 1)).setCell ⟨w.heap.size,3,none⟩ (.bool false)).setCell ⟨w.heap.size,4,none⟩ (.bool false)).setCell ⟨w.heap.size,5,none⟩ (.slice none 0 0)) w.heap.size [.slice (some ⟨g,0,none⟩) 41 cap,.int .i64 1,.int .i64 1,.bool false,.bool false,.slice none 0 0]):=zq ((((((HK2.out.set 0 (.slice (some ⟨g,0,none⟩) 41 cap)).set 1 (.int .i64 1)).set 2 (.int .i64 1)).set 3 (.bool false)).set 4 (.bool false)).set 5 (.slice none 0 0))
 have HB3:Hid (Below w.heap.size w ((((((w2.setCell ⟨w.heap.size,0,none⟩ (.slice (some ⟨g,0,none⟩) 41 cap)).setCell ⟨w.heap.size,1,none⟩ (.int .i64 1)).setCell ⟨w.heap.size,2,none⟩ (.int .i64 1)).setCell ⟨w.heap.size,3,none⟩ (.bool false)).setCell ⟨w.heap.size,4,none⟩ (.bool false)).setCell ⟨w.heap.size,5,none⟩ (.slice none 0 0))):=zq ((((((HB2.out.setCell (p:=⟨_,_,none⟩) (Nat.le_refl _) _).setCell (p:=⟨_,_,none⟩) (Nat.le_refl _) _).setCell (p:=⟨_,_,none⟩) (Nat.le_refl _) _).setCell (p:=⟨_,_,none⟩) (Nat.le_refl _) _).setCell (p:=⟨_,_,none⟩) (Nat.le_refl _) _).setCell (p:=⟨_,_,none⟩) (Nat.le_refl _) _)
 have HT3:Hid (Tab ((((((w2.setCell ⟨w.heap.size,0,none⟩ (.slice (some ⟨g,0,none⟩) 41 cap)).setCell ⟨w.heap.size,1,none⟩ (.int .i64 1)).setCell ⟨w.heap.size,2,none⟩ (.int .i64 1)).setCell ⟨w.heap.size,3,none⟩ (.bool false)).setCell ⟨w.heap.size,4,none⟩ (.bool false)).setCell ⟨w.heap.size,5,none⟩ (.slice none 0 0)) (some ⟨g,0,none⟩) 41 cap defL):=zq (tab_boxes (L:=[(w.heap.size,[.slice none 0 0,.int .i64 0,.int .i64 0,.bool false,.bool false,.slice none 0 0])]) ⟨by kernel_rfl,HT2.out,fun _=>.inr ⟨_,rfl⟩⟩ ⟨fun x hx=>by rw [List.mem_singleton.1 hx];exact HK2.out,by simp⟩ (fun x hx=>by
  rw [List.mem_singleton.1 hx]
  intro i s x
  rcases i with _ | _ | _ | _ | _ | _ | i <;> simp) (by simp) (fun k hk=>by
  have hne:=hk _ (List.mem_singleton.2 rfl)
  rw [heap_setCell_other _ _ _ _ hne,heap_setCell_other _ _ _ _ hne,heap_setCell_other _ _ _ _ hne,heap_setCell_other _ _ _ _ hne,heap_setCell_other _ _ _ _ hne,heap_setCell_other _ _ _ _ hne]))
 obtain ⟨wz,HWZ⟩:=lz (((((((w2.setCell ⟨w.heap.size,0,none⟩ (.slice (some ⟨g,0,none⟩) 41 cap)).setCell ⟨w.heap.size,1,none⟩ (.int .i64 1)).setCell ⟨w.heap.size,2,none⟩ (.int .i64 1)).setCell ⟨w.heap.size,3,none⟩ (.bool false)).setCell ⟨w.heap.size,4,none⟩ (.bool false)).setCell ⟨w.heap.size,5,none⟩ (.slice none 0 0)))
 rw [←HWZ.out] at HK3 HB3 HT3
 clear HB2 HK2 HT2
 go_wp2_with fail
 rw [←HWZ.out]
 have y0:wz.cell? ⟨w.heap.size,0,none⟩=some (.slice (some ⟨g,0,none⟩) 41 cap):=HK3.out.c 0 _ rfl
 have y1:wz.cell? ⟨w.heap.size,1,none⟩=some (.int .i64 1):=HK3.out.c 1 _ rfl
 have y2:wz.cell? ⟨w.heap.size,2,none⟩=some (.int .i64 1):=HK3.out.c 2 _ rfl
 have y3:wz.cell? ⟨w.heap.size,3,none⟩=some (.bool false):=HK3.out.c 3 _ rfl
 have y4:wz.cell? ⟨w.heap.size,4,none⟩=some (.bool false):=HK3.out.c 4 _ rfl
 have y5:wz.cell? ⟨w.heap.size,5,none⟩=some (.slice none 0 0):=HK3.out.c 5 _ rfl
 exact bodyPost_ret (v:=.agg #[.slice (some ⟨g,0,none⟩) 41 cap,.int .i64 1,.int .i64 1,.bool false,.bool false,.slice none 0 0]) (by simp [results,Tryz.results23,go_sem,y0,y1,y2,y3,y4,y5]) rfl ⟨g,cap,rfl,HB3.out,HT3.out⟩
set_option maxHeartbeats 800000 in
theorem ops_validM (A:Option Addr) (n cap:Nat) (l:List OpR) (w:World) (hn:n=l.length) (hp:OpsAt w A l) :
  Calls Tryz.prog 50 #[.slice A n cap] w fun e w'=>e=.returned (.bool (opsValid l))∧Below w.heap.size w w':=by
 by_cases c1:100<n
 ·have b1:decide ((100:Int)<n)=true:=by simp;omega
  have HV:=zq (opsValid_long l (by omega))
  clear hn hp c1
  go_enter Tryz.func50,Tryz.ntmps50
  go_wp2_with fail
  go_ret
  exact ⟨ret_bool HV.out.symm,Below.refl _ _⟩
 ·exact ops_valid A n cap l w hn (by omega) hp
set_option maxHeartbeats 1600000 in
theorem f_validSyntaxL (OA:Option Addr) (on oc:Nat) (q u:Int) (c d:Bool) (CA:Option Addr) (cn cc:Nat) (l:List OpR) (cl:List (Int×Int)) (w:World) (hO:Tab w OA on oc l) (hcl:cn=cl.length) (hcn:cn≤maxLen) (hC:Pairs w CA cl) :
  Calls Tryz.prog 31 #[.agg #[.slice OA on oc,.int .i64 q,.int .i64 u,.bool c,.bool d,.slice CA cn cc]] w fun e w'=>e=.returned (.bool (opsValid l&&(flOk ⟨q,u,c,d⟩&&pvalid cl)))∧Below w.heap.size w w':=by
 have HO:=zq hO
 have HCL:=zq hcl
 have HCN:=zq hcn
 have HC:=zq hC
 have HB0:Hid (Below w.heap.size w (w.alloc (.cells #[.slice OA on oc,.int .i64 q,.int .i64 u,.bool c,.bool d,.slice CA cn cc] 27))):=zq ((Below.refl _ _).alloc (Nat.le_refl _) _)
 have HK0:Hid (Bk (w.alloc (.cells #[.slice OA on oc,.int .i64 q,.int .i64 u,.bool c,.bool d,.slice CA cn cc] 27)) w.heap.size [.slice OA on oc,.int .i64 q,.int .i64 u,.bool c,.bool d,.slice CA cn cc]):=zq (Bk.new w [.slice OA on oc,.int .i64 q,.int .i64 u,.bool c,.bool d,.slice CA cn cc] 27)
 have HV:=zq (fun W=>f_valid ⟨q,u,c,d⟩ W)
 obtain ⟨b0,HB0E⟩:=lz (opsValid l)
 obtain ⟨b1,HB1E⟩:=lz (flOk ⟨q,u,c,d⟩)
 obtain ⟨b2,HB2E⟩:=lz (pvalid cl)
 rw [←HB0E.out,←HB1E.out,←HB2E.out]
 rw [←HB1E.out] at HV
 unfold flV at HV
 have HOV:Hid (∀W,Below w.heap.size w W→Calls Tryz.prog 50 #[.slice OA on oc] W fun e w'=>e=.returned (.bool b0)∧Below W.heap.size W w'):=zq fun W hW=>by
  have:=ops_validM OA on oc l W HO.out.len (HO.out.ops.below hW)
  rwa [←HB0E.out] at this
 have HCV:Hid (∀W,Below w.heap.size w W→Calls Tryz.prog 52 #[.slice CA cn cc] W fun e w'=>e=.returned (.bool b2)∧Below W.heap.size W w'):=zq fun W hW=>by
  have:=chars_valid CA cn cc cl W HCL.out HCN.out (HC.out.below hW)
  rwa [←HB2E.out] at this
 clear hO hcl hcn hC HB0E HB1E HB2E
 go_enter Tryz.func31,Tryz.ntmps31
 go_wp2_with fail
 refine (HOV.out _ HB0.out).mono ?_;rintro e w1 ⟨rfl,hB1⟩
 have HB1:=bz HB0 hB1
 have HK1:=zq (HK0.out.call hB1)
 clear hB1 HB0 HK0
 have x0:w1.cell? ⟨w.heap.size,0,none⟩=some (.slice OA on oc):=HK1.out.c 0 _ rfl
 have x1:w1.cell? ⟨w.heap.size,1,none⟩=some (.int .i64 q):=HK1.out.c 1 _ rfl
 have x2:w1.cell? ⟨w.heap.size,2,none⟩=some (.int .i64 u):=HK1.out.c 2 _ rfl
 have x3:w1.cell? ⟨w.heap.size,3,none⟩=some (.bool c):=HK1.out.c 3 _ rfl
 have x4:w1.cell? ⟨w.heap.size,4,none⟩=some (.bool d):=HK1.out.c 4 _ rfl
 have x5:w1.cell? ⟨w.heap.size,5,none⟩=some (.slice CA cn cc):=HK1.out.c 5 _ rfl
 cases b0
 ·go_wp2_with fail
  go_ret
  exact ⟨rfl,HB1.out⟩
 go_wp2_with fail
 refine (HV.out _).mono ?_;rintro e w2 ⟨rfl,hB2⟩
 have HB2:=bz HB1 hB2
 have HK2:=zq (HK1.out.call hB2)
 clear hB2 HB1 HK1 x0 x1 x2 x3 x4 x5
 have x0:w2.cell? ⟨w.heap.size,0,none⟩=some (.slice OA on oc):=HK2.out.c 0 _ rfl
 have x1:w2.cell? ⟨w.heap.size,1,none⟩=some (.int .i64 q):=HK2.out.c 1 _ rfl
 have x2:w2.cell? ⟨w.heap.size,2,none⟩=some (.int .i64 u):=HK2.out.c 2 _ rfl
 have x3:w2.cell? ⟨w.heap.size,3,none⟩=some (.bool c):=HK2.out.c 3 _ rfl
 have x4:w2.cell? ⟨w.heap.size,4,none⟩=some (.bool d):=HK2.out.c 4 _ rfl
 have x5:w2.cell? ⟨w.heap.size,5,none⟩=some (.slice CA cn cc):=HK2.out.c 5 _ rfl
 cases b1
 ·go_wp2_with fail
  go_ret
  exact ⟨rfl,HB2.out⟩
 go_wp2_with fail
 refine (HCV.out _ HB2.out).mono ?_;rintro e w3 ⟨rfl,hB3⟩
 have HB3:=bz HB2 hB3
 go_wp2_with fail
 go_ret
 exact ⟨rfl,HB3.out⟩
end Go.Proofs.YtbojljpldcijgaaGreat
namespace Hb
open Go Go.RowKit
structure Sy where
 P:List OpR
 q:Int
 u:Int
 c:Bool
 d:Bool
 C:List (Int×Int)
def Sy.ok (s:Sy):Bool:=opsValid s.P&&(flOk ⟨s.q,s.u,s.c,s.d⟩&&pvalid s.C)
def Sy.conv (s:Sy):List (Int×Int):=if s.c=true then s.C else []
structure RdR where
 t:Tm
 names:List (List UInt8×Nat)
 singles:List (List UInt8×Nat)
 end_:Int
 where_:Int
 err:Int
def rdErr (k:Int) (e:Int):RdR:=⟨.mk 0 0 ⟨#[]⟩ [],[],[],0,k,e⟩
def sglV (v:VS):List (List UInt8×Nat):=v.m.filter fun p=>v.o.count p.2==1
def readOk (E:RE) (t:Tm) (m:Nat):RdR :=
 if validT t=true then ⟨t,(vsAt E.T m).m,sglV (vsAt E.T m),(E.at m).r.end_,0,0⟩ else rdErr (E.at 0).r.at_ 2
def readT (E:RE):RdR :=
 match wholeG E with
 | .error k=>rdErr (E.at k).r.at_ 7
 | .ok (t,m)=>readOk E t m
def badArgs (L:List UInt8) (at_:Int) (s:Sy):Bool:=decide (16384<L.length)||(decide (at_<0)||(decide ((L.length:Int)<at_) || !s.ok))
def toksOf (L:List UInt8) (at_:Int) (s:Sy):AllR:=allR (cvt (convT s.conv) L) L at_.toNat
def readS (L:List UInt8) (at_:Int) (s:Sy):RdR :=
 if badArgs L at_ s=true then rdErr 0 1
 else if ¬(toksOf L at_ s).err=0 then rdErr (toksOf L at_ s).where_ (toksOf L at_ s).err
 else readT ⟨(toksOf L at_ s).l,s.P,s.q⟩
def NmAt (K:Nat→Prop) (w:World) (A:Option Addr) (m:List (List UInt8×Nat)):Prop :=
 m.length≤maxLen∧∀j (h:j<m.length),∃b off,A=some ⟨b,off,none⟩∧K b∧w.cell? ⟨b,off+j * 2,none⟩=some (.string ⟨m[j].1.toArray⟩)∧w.cell? ⟨b,off+j * 2+1,none⟩=some (.int .i64 (m[j].2:Int))
theorem NmAt.keep {K K':Nat→Prop} {w w':World} {A:Option Addr} {m:List (List UInt8×Nat)} (h:NmAt K w A m) (hB:∀b,K b→w'.heap[b]? = w.heap[b]?) (hK:∀b,K b→K' b):NmAt K' w' A m:=⟨h.1,fun j hj=>by
 obtain ⟨b,off,e,hb,c0,c1⟩:=h.2 j hj
 have hw:∀o,w'.cell? ⟨b,o,none⟩=w.cell? ⟨b,o,none⟩:=fun o=>World.cell?_of_block (hB b hb)
 exact ⟨b,off,e,hK b hb,(hw _).trans c0,(hw _).trans c1⟩⟩
theorem NmAt.nil {K:Nat→Prop} {w:World} {A:Option Addr}:NmAt K w A []:=⟨by decide,fun j h=>absurd h (by simp)⟩
theorem nmCells_get:∀(m:List (List UInt8×Nat)) (j:Nat) (h:j<m.length),(nmCells m)[j * 2]? = some (.string ⟨m[j].1.toArray⟩)∧(nmCells m)[j * 2+1]? = some (.int .i64 (m[j].2:Int))
 | p::l,0,_=>⟨rfl,rfl⟩
 | p::l,j+1,h=>by
  have:=nmCells_get l j (by simpa using h)
  have e:nmCells (p::l)=.string ⟨p.1.toArray⟩::.int .i64 (p.2:Int)::nmCells l:=rfl
  rw [e,show (j+1) * 2=j * 2+2 by omega,show j * 2+2+1=j * 2+1+2 by omega]
  exact this
theorem NmAt.own {w:World} {base e:Nat} {A:Option Addr} {n cap:Nat} {m:List (List UInt8×Nat)} (h:w.ownsRow base e 2 (.slice A n cap) m.length (nmCells m)):n=m.length∧NmAt (fun b=>base≤b∧b<w.heap.size) w A m:=by
 have hl:=h.1
 rcases h.2 with ⟨hv,h0⟩ | ⟨g,c2,cur,hv,hg,hh,hn,hm,rest⟩
 ·have:m=[]:=List.eq_nil_of_length_eq_zero h0
  subst this
  injection hv with _ hv _
  exact ⟨hv,NmAt.nil⟩
 ·injection hv with hA hn2 _
  subst hA
  refine ⟨hn2,by omega,fun j hj=>?_⟩
  obtain ⟨p0,p1⟩:=nmCells_get m j hj
  have hc:∀k u,(nmCells m)[k]? = some u→w.cell? ⟨g,0+k,none⟩=some u:=fun k u hu=>by
   have:=h.cells (g:=g) rfl k u hu
   rw [addr_add] at this
   exact this
  exact ⟨g,0,rfl,⟨hg,(Array.getElem?_eq_some_iff.1 hh).1⟩,hc _ _ p0,hc _ _ p1⟩
def shR (a:Nat) (r:LexR):LexR:=if r.err=0 then ⟨r.kind,r.text,r.n,r.at_+a,r.end_+a,r.err⟩ else r
theorem shR_err (a:Nat) (r:LexR):(shR a r).err=r.err:=by unfold shR;split <;> rfl
theorem shR_kind (a:Nat) (r:LexR):(shR a r).kind=r.kind:=by unfold shR;split <;> rfl
theorem shR_text (a:Nat) (r:LexR):(shR a r).text=r.text:=by unfold shR;split <;> rfl
theorem shR_n (a:Nat) (r:LexR):(shR a r).n=r.n:=by unfold shR;split <;> rfl
theorem shR_bad (a:Nat) (e:Int) (h:¬e=0):shR a (errR e)=errR e:=if_neg h
theorem sh_named (a:Nat) (k:Int) (t:List UInt8) (x y x' y':Int) (hx:x'=x+a) (hy:y'=y+a):namedR k t x' y'=shR a (namedR k t x y):=by
 subst hx hy
 unfold namedR
 split
 ·rw [shR_bad _ _ (by decide)]
 ·rw [shR,if_pos rfl]
theorem sh_int (a:Nat) (base:Int) (t:List UInt8) (x y x' y':Int) (hx:x'=x+a) (hy:y'=y+a):intR base t x' y'=shR a (intR base t x y):=by
 subst hx hy
 unfold intR
 split
 ·rw [shR,if_pos rfl]
 ·rw [shR_bad _ _ (by decide)]
theorem sh_word (m:List UInt8) (a p:Nat):wordR m (a+p)=shR a (wordR (m.drop a) p):=by
 unfold wordR
 rw [rawAt_drop,List.drop_drop]
 exact sh_named _ _ _ _ _ _ _ (by omega) (by omega)
theorem sh_sym (m:List UInt8) (a p:Nat):symR m (a+p)=shR a (symR (m.drop a) p):=by
 unfold symR
 rw [rawAt_drop,rawAt_drop,List.drop_drop,Nat.add_assoc]
 split
 ·rw [shR,if_pos rfl]
  simp only [LexR.mk.injEq,true_and,and_true]
  omega
 ·exact sh_named _ _ _ _ _ _ _ (by omega) (by omega)
theorem sh_solo (m:List UInt8) (a p:Nat):soloR m (a+p)=shR a (soloR (m.drop a) p):=by
 unfold soloR
 rw [rawAt_drop,List.drop_drop]
 exact sh_named _ _ _ _ _ _ _ (by omega) (by omega)
theorem sh_base (m:List UInt8) (a p:Nat):numBase (m.drop a) p=numBase m (a+p):=by
 unfold numBase
 simp only [rawAt_drop,Nat.add_assoc]
theorem sh_num (m l:List UInt8) (a p:Nat):numR m l (a+p)=shR a (numR (m.drop a) (l.drop a) p):=by
 unfold numR
 rw [sh_base]
 simp only [rawAt_drop,List.drop_drop,Nat.add_assoc]
 split
 ·cases quotedS (l.drop (a+(p+2))) 39 with
  | none=>rw [shR_bad _ _ (by decide)]
  | some ck=>
   obtain ⟨c,k⟩:=ck
   rw [shR,if_pos rfl]
   simp only [LexR.mk.injEq,true_and,and_true]
   omega
 split
 ·exact sh_int _ _ _ _ _ _ _ (by omega) (by omega)
 ·exact sh_int _ _ _ _ _ _ _ (by omega) (by omega)
theorem sh_quote (m l:List UInt8) (a p:Nat):quoteR m l (a+p)=shR a (quoteR (m.drop a) (l.drop a) p):=by
 unfold quoteR
 simp only [rawAt_drop,List.drop_drop,Nat.add_assoc]
 split
 ·cases item (l.drop (a+(p+1))) 34 with
  | none=>exact (shR_bad _ _ (by decide)).symm
  | some x=>
   unfold strRes
   rw [shR,if_pos rfl]
   simp only [LexR.mk.injEq,true_and,and_true]
   omega
 split
 ·cases item (l.drop (a+(p+1))) 39 with
  | none=>exact (shR_bad _ _ (by decide)).symm
  | some x=>exact sh_named _ _ _ _ _ _ _ (by omega) (by omega)
 ·rw [shR_bad _ _ (by decide)]
theorem sh_tok (m l:List UInt8) (a p:Nat):tokR m l (a+p)=shR a (tokR (m.drop a) (l.drop a) p):=by
 unfold tokR
 simp only [rawAt_drop,←Nat.add_assoc]
 split
 ·rw [shR_bad _ _ (by decide)]
 split
 ·exact sh_word _ _ _
 split
 ·exact sh_num _ _ _ _
 split
 ·exact sh_sym _ _ _
 split
 ·exact sh_solo _ _ _
 split
 ·exact sh_quote _ _ _ _
 ·rw [shR_bad _ _ (by decide)]
def shN (a:Nat) (t:NextR):NextR:=⟨shR a t.r,t.lay,if t.r.err=0 then t.where_ else t.where_+a⟩
theorem sh_next (m l:List UInt8) (a b:Nat) (ha:a≤l.length):nextR m l (a+b)=shN a (nextR (m.drop a) (l.drop a) b):=by
 unfold nextR
 simp only [List.drop_drop,List.length_drop,Nat.add_assoc]
 obtain ⟨k,hk⟩:∃k,b+skipN (m.drop (a+b))=k:=⟨_,rfl⟩
 rw [hk]
 have hs:=sh_tok m l a k
 have hb:a+b<a+k↔b<k:=by omega
 by_cases h1:k=l.length-a
 ·rw [if_pos h1,if_pos (by omega)]
  unfold shN
  rw [shR_bad _ _ (by decide),if_neg (show ¬(⟨errR 14,false,(k:Int)⟩:NextR).r.err=0 by show ¬(14:Int)=0;decide)]
  simp only [NextR.mk.injEq,true_and]
  omega
 ·rw [if_neg h1,if_neg (by omega),hs,shR_err]
  split
  ·rename_i h2
   unfold shN
   rw [if_pos h2]
   simp only [hb]
  ·rename_i h2
   unfold shN
   rw [shR_bad _ _ h2]
   simp only [NextR.mk.injEq,true_and]
   rw [if_neg (show ¬(errR (tokR (m.drop a) (l.drop a) k).err).err=0 from h2)]
   omega
def shA (a:Nat) (r:AllR):AllR:=⟨r.l.map (shN a),if r.err=0 then r.where_ else r.where_+a,r.err⟩
theorem allF_fuel (m l:List UInt8) (hl:m.length=l.length):∀(f g:Nat) (b:Nat) (acc:List NextR),b≤l.length→l.length+1≤f+b→l.length+1≤g+b→allF f m l b acc=allF g m l b acc
 | 0,_,_,_,h,h1,_=>by omega
 | _+1,0,_,_,h,_,h2=>by omega
 | f+1,g+1,b,acc,h,h1,h2=>by
  rw [allF_succ,allF_succ]
  split
  ·rfl
  split
  ·rfl
  rename_i he
  obtain ⟨p,e,_,h3,h4,h5,h6,_⟩:=next_end m l hl b h (by simpa using he)
  split
  ·rfl
  ·rw [h4,Int.toNat_natCast]
   exact allF_fuel m l hl f g e _ h6 (by omega) (by omega)
theorem sh_all (m l:List UInt8) (hl:m.length=l.length) (a:Nat) (ha:a≤l.length):∀(f b:Nat) (acc:List NextR),a+b≤l.length→l.length+1≤f+(a+b)→allF f m l (a+b) (acc.map (shN a))=shA a (allF f (m.drop a) (l.drop a) b acc)
 | 0,_,_,h,h1=>by omega
 | f+1,b,acc,h,h1=>by
  have hl2:(m.drop a).length=(l.drop a).length:=by rw [List.length_drop,List.length_drop,hl]
  have hb:b≤(l.drop a).length:=by rw [List.length_drop];omega
  have hne:=next_end (m.drop a) (l.drop a) hl2 b hb
  rw [allF_succ,allF_succ,sh_next m l a b ha]
  obtain ⟨t,ht⟩:∃t,nextR (m.drop a) (l.drop a) b=t:=⟨_,rfl⟩
  rw [ht] at hne ⊢
  have e1:(shN a t).r.err=t.r.err:=shR_err _ _
  have e2:(shN a t).r.kind=t.r.kind:=shR_kind _ _
  rw [e1,e2]
  simp only [ne_eq,List.map_eq_nil_iff]
  split
  ·rename_i h2
   have e4:(shN a t).where_=t.where_+a:=if_neg (by rw [h2.1];decide)
   rw [e4];rfl
  split
  ·rename_i h2
   have e4:(shN a t).where_=t.where_+a:=if_neg h2
   rw [e4]
   unfold shA
   simp only [List.map_nil]
   rw [if_neg h2]
  rename_i h2
  have h2:t.r.err=0:=by simpa using h2
  obtain ⟨p,e,_,h3,h4,h5,h6,_⟩:=hne h2
  split
  ·unfold shA
   simp only [List.map_append,List.map_cons,List.map_nil,if_pos]
  ·have e5:(shN a t).r.end_=e+a:=by
    have:(shR a t.r).end_=t.r.end_+a:=by unfold shR;rw [if_pos h2]
    rw [←h4];exact this
   rw [List.length_drop] at h6
   have e6:((e:Int)+a).toNat=a+e:=by omega
   rw [e5,h4,e6,Int.toNat_natCast,←List.map_singleton (f:=shN a),←List.map_append]
   exact sh_all m l hl a ha f e (acc++[t]) (by omega) (by omega)
theorem sh_toks (L:List UInt8) (a:Nat) (s:Sy) (ha:a≤L.length):toksOf L a s=shA a (toksOf (L.drop a) 0 s):=by
 unfold toksOf allR
 have hc:(cvt (convT s.conv) L).drop a=cvt (convT s.conv) (L.drop a):=by unfold cvt;rw [List.map_drop]
 have h:=sh_all (cvt (convT s.conv) L) L (cvt_len _ _) a ha (L.length+1) 0 [] (by omega) (by omega)
 rw [Nat.add_zero,hc] at h
 rw [show (a:Int).toNat=a from rfl]
 refine h.trans ?_
 rw [show ((0:Int)).toNat=0 from rfl]
 rw [allF_fuel _ _ (cvt_len _ _) (L.length+1) ((L.drop a).length+1) 0 [] (Nat.zero_le _) (by rw [List.length_drop];omega) (by omega)]
structure Like (E F:RE):Prop where
 P:F.P=E.P
 q:F.q=E.q
 len:F.T.length=E.T.length
 k:∀n,(F.at n).r.kind=(E.at n).r.kind
 x:∀n,(F.at n).r.text=(E.at n).r.text
 n:∀n,(F.at n).r.n=(E.at n).r.n
 y:∀n,(F.at n).lay=(E.at n).lay
 v:∀n,vsAt F.T n=vsAt E.T n
section
variable {E F:RE} (h:Like E F)
include h
theorem Like.isP (n:Nat) (s:List UInt8):isP (F.at n) s=isP (E.at n) s:=by unfold Hb.isP;rw [h.k,h.x]
theorem Like.isNam (n:Nat):isNam (F.at n)=isNam (E.at n):=by unfold Hb.isNam;rw [h.k]
theorem Like.opn (n:Nat):opn (F.at n)=opn (E.at n):=by unfold Hb.opn;rw [h.isP,h.y]
theorem Like.txt (n:Nat):(F.at n).txt=(E.at n).txt:=by unfold NextR.txt;rw [h.x]
theorem Like.alone (n:Nat):aloneG F n=aloneG E n:=by unfold aloneG;simp only [h.k,h.x,h.isNam,h.opn,h.txt,h.P]
theorem Like.minus (k n:Nat):minusG F (F.at k) n=minusG E (E.at k) n:=by unfold minusG;simp only [h.k,h.x,h.y]
theorem Like.pre (k:Nat) (most:Int) (n:Nat):preG F (F.at k) most n=preG E (E.at k) most n:=by unfold preG;simp only [h.P,h.txt,h.alone]
theorem Like.row (S:PT):∀(k n:Nat),rowG F S k n=rowG E S k n
 | 0,_=>rfl
 | k+1,n=>by
  unfold rowG
  cases S 999 n with
  | error e=>rfl
  | ok x=>
   obtain ⟨t,_,m⟩:=x
   simp only [h.isP,Like.row S k]
theorem Like.rowX (S:PT) (n:Nat):rowX F S n=rowX E S n:=by unfold Hb.rowX;rw [h.len,h.row]
theorem Like.need {α:Type} (s:List UInt8) (n:Nat) (a:α):needG F s n a=needG E s n a:=by unfold needG;rw [h.isP]
theorem Like.comp (S:PT) (s:ByteArray) (n:Nat):compG F S s n=compG E S s n:=by unfold compG;simp only [h.opn,h.rowX,h.need]
theorem Like.nmd (S:PT) (k:Nat) (most:Int) (n:Nat):nmdG F S (F.at k) most n=nmdG E S (E.at k) most n:=by unfold nmdG;simp only [h.txt,h.comp,h.minus,h.n,h.pre,h.P]
theorem Like.empty (S:PT) (s:ByteArray) (n:Nat):emptyG F S s n=emptyG E S s n:=by unfold emptyG;simp only [h.comp]
theorem Like.tail (S:PT) (n:Nat):tailG F S n=tailG E S n:=by unfold tailG;simp only [h.isP]
theorem Like.list (S:PT) (n:Nat):listG F S n=listG E S n:=by unfold listG;simp only [h.rowX,h.tail,h.need]
theorem Like.par (S:PT) (s:List UInt8) (G:Tm→Tm) (n:Nat):parG F S s G n=parG E S s G n:=by unfold parG;simp only [h.need]
theorem Like.brk (S:PT) (s:List UInt8) (n:Nat):brkG F S s n=brkG E S s n:=by unfold brkG;simp only [h.par,h.isP,h.empty,h.list]
theorem Like.isBrk (n:Nat):isBrk (F.at n)=isBrk (E.at n):=by unfold Hb.isBrk;simp only [h.isP]
theorem Like.opd (S:PT) (most:Int) (n:Nat):opdG F S most n=opdG E S most n:=by unfold opdG;simp only [h.k,h.n,h.v,h.x,h.q,h.isBrk,h.brk,h.isNam,h.nmd]
theorem Like.opr (n:Nat):oprG F n=oprG E n:=by unfold oprG;simp only [h.isNam,h.isP,h.txt,h.P]
theorem Like.loop (S:PT) (most:Int):∀(k:Nat) (t:Tm) (prec:Int) (n:Nat),loopG F S most k t prec n=loopG E S most k t prec n
 | 0,_,_,_=>rfl
 | k+1,t,prec,n=>by unfold loopG;simp only [h.opr,Like.loop S most k]
theorem Like.trm (S:PT) (most:Int) (n:Nat):trmG F S most n=trmG E S most n:=by unfold trmG;simp only [h.opd,h.len,h.loop]
theorem Like.trmF:∀(f:Nat),trmF F f=trmF E f
 | 0=>rfl
 | f+1=>by funext most n;unfold Hb.trmF;rw [Like.trmF f,h.trm]
theorem Like.whole:wholeG F=wholeG E:=by unfold wholeG;simp only [h.len,h.trmF,h.k]
end
theorem sh_v (a:Nat):∀(T:List NextR),((T.map (shN a)).filter isV).map (fun t=>t.r.text)=(T.filter isV).map (fun t=>t.r.text)
 | []=>rfl
 | t::T=>by
  have e:isV (shN a t)=isV t:=by unfold isV shN;simp only [shR_kind]
  rw [List.map_cons,List.filter_cons,List.filter_cons,e]
  split
  ·rw [List.map_cons,List.map_cons,sh_v a T,show (shN a t).r.text=t.r.text from shR_text _ _]
  ·exact sh_v a T
theorem vsOf_texts (T:List NextR):vsOf T=((T.filter isV).map (fun t=>t.r.text)).foldl (fun v x=>v.step x) vs0:=by
 unfold vsOf;rw [List.foldl_map]
theorem vsOf_sh (a:Nat) (T:List NextR):vsOf (T.map (shN a))=vsOf T:=by rw [vsOf_texts,vsOf_texts,sh_v]
theorem tokA_sh (a:Nat) (T:List NextR) (n:Nat) (h:0<T.length):tokA (T.map (shN a)) n=shN a (tokA T n):=by
 unfold tokA
 rw [List.length_map]
 have hl:min n (T.length-1)<T.length:=by omega
 rw [List.getD_eq_getElem?_getD,List.getD_eq_getElem?_getD,List.getElem?_map,List.getElem?_eq_getElem hl];rfl
theorem like_sh (a:Nat) (T:List NextR) (P:List OpR) (q:Int):Like ⟨T,P,q⟩ ⟨T.map (shN a),P,q⟩:=by
 have hv:∀n,vsAt (T.map (shN a)) n=vsAt T n:=fun n=>by unfold vsAt;rw [←List.map_take,vsOf_sh]
 rcases Nat.eq_zero_or_pos T.length with h0 | h0
 ·have:T=[]:=List.eq_nil_of_length_eq_zero h0
  subst this
  exact ⟨rfl,rfl,rfl,fun _=>rfl,fun _=>rfl,fun _=>rfl,fun _=>rfl,hv⟩
 ·have ht:=fun n=>tokA_sh a T n h0
  exact ⟨rfl,rfl,List.length_map _,fun n=>by unfold RE.at;rw [ht];exact shR_kind _ _,fun n=>by unfold RE.at;rw [ht];exact shR_text _ _,fun n=>by unfold RE.at;rw [ht];exact shR_n _ _,fun n=>by unfold RE.at;rw [ht];rfl,hv⟩
theorem named_not1 (kind:Int) (t:List UInt8) (a e:Int):¬(namedR kind t a e).err=1:=by
 unfold namedR;split
 ·show ¬(2:Int)=1;decide
 ·show ¬(0:Int)=1;decide
theorem int_not1 (base:Int) (t:List UInt8) (a e:Int):¬(intR base t a e).err=1:=by
 unfold intR;split
 ·show ¬(0:Int)=1;decide
 ·show ¬(7:Int)=1;decide
theorem tok_not1 (m l:List UInt8) (p:Nat):¬(tokR m l p).err=1:=by
 unfold tokR
 split
 ·show ¬(7:Int)=1;decide
 split
 ·exact named_not1 _ _ _ _
 split
 ·unfold numR
  split
  ·cases quotedS (l.drop (p+2)) 39 with
   | none=>show ¬(7:Int)=1;decide
   | some ck=>show ¬(0:Int)=1;decide
  split
  ·exact int_not1 _ _ _ _
  ·exact int_not1 _ _ _ _
 split
 ·unfold symR
  split
  ·show ¬(0:Int)=1;decide
  ·exact named_not1 _ _ _ _
 split
 ·exact named_not1 _ _ _ _
 split
 ·unfold quoteR
  split
  ·cases item (l.drop (p+1)) 34 with
   | none=>show ¬(7:Int)=1;decide
   | some x=>show ¬(0:Int)=1;decide
  split
  ·cases item (l.drop (p+1)) 39 with
   | none=>show ¬(7:Int)=1;decide
   | some x=>exact named_not1 _ _ _ _
  ·show ¬(7:Int)=1;decide
 ·show ¬(7:Int)=1;decide
theorem next_not1 (m l:List UInt8) (a:Nat):¬(nextR m l a).r.err=1:=by
 unfold nextR
 simp only
 split
 ·show ¬(14:Int)=1;decide
 split
 ·exact tok_not1 _ _ _
 ·exact tok_not1 _ _ _
theorem all_not1 (m l:List UInt8):∀(f a:Nat) (acc:List NextR),¬(allF f m l a acc).err=1
 | 0,_,_=>by show ¬(99:Int)=1;decide
 | f+1,a,acc=>by
  rw [allF_succ]
  split
  ·show ¬(7:Int)=1;decide
  split
  ·exact next_not1 _ _ _
  split
  ·show ¬(0:Int)=1;decide
  ·exact all_not1 m l f _ _
theorem all_ok (m l:List UInt8):∀(f a:Nat) (acc:List NextR),(∀t∈acc,t.r.err=0)→∀t∈(allF f m l a acc).l,t.r.err=0
 | 0,_,_,_,t,h=>by cases h
 | f+1,a,acc,ha,t,h=>by
  rw [allF_succ] at h
  split at h
  ·cases h
  split at h
  ·cases h
  rename_i he
  have he:(nextR m l a).r.err=0:=by simpa using he
  have hx:∀t∈acc++[nextR m l a],t.r.err=0:=fun t ht=>by
   rcases List.mem_append.1 ht with ht | ht
   ·exact ha t ht
   ·rw [List.mem_singleton.1 ht];exact he
  split at h
  ·exact hx t h
  ·exact all_ok m l f _ _ hx t h
def shD (a:Nat) (r:RdR):RdR:=if r.err=0 then ⟨r.t,r.names,r.singles,r.end_+a,r.where_,r.err⟩ else if r.err=1 then r else ⟨r.t,r.names,r.singles,r.end_,r.where_+a,r.err⟩
theorem bad_at (L:List UInt8) (a:Nat) (s:Sy) (ha:a≤L.length) (hL:L.length≤16384):badArgs L a s=!s.ok:=by
 unfold badArgs
 rw [decide_eq_false (by omega),decide_eq_false (by omega),decide_eq_false (by omega)];rfl
theorem tok_sh_at (a:Nat) (T:List NextR) (hp:0<T.length) (he:∀t∈T,t.r.err=0) (n:Nat):(tokA (T.map (shN a)) n).r.at_=(tokA T n).r.at_+a∧(tokA (T.map (shN a)) n).r.end_=(tokA T n).r.end_+a:=by
 rw [tokA_sh a T n hp]
 have hm:tokA T n∈T:=by
  unfold tokA
  have hl:min n (T.length-1)<T.length:=by omega
  rw [List.getD_eq_getElem?_getD,List.getElem?_eq_getElem hl];exact List.getElem_mem hl
 have h0:=he _ hm
 show (shR a (tokA T n).r).at_=_∧(shR a (tokA T n).r).end_=_
 unfold shR;rw [if_pos h0];exact ⟨rfl,rfl⟩
theorem place (L:List UInt8) (a:Nat) (s:Sy) (ha:a≤L.length) (hL:L.length≤16384):readS L a s=shD a (readS (L.drop a) 0 s):=by
 have hb1:=bad_at L a s ha hL
 have hb2:badArgs (L.drop a) 0 s=!s.ok:=bad_at (L.drop a) 0 s (Nat.zero_le _) (by rw [List.length_drop];omega)
 have hd:=all_ok (cvt (convT s.conv) (L.drop a)) (L.drop a) ((L.drop a).length+1) 0 [] (fun _ h=>by cases h)
 have h1:=all_not1 (cvt (convT s.conv) (L.drop a)) (L.drop a) ((L.drop a).length+1) 0 []
 have hin:badArgs (L.drop a) 0 s=false→(toksOf (L.drop a) 0 s).err=0→0<(toksOf (L.drop a) 0 s).l.length:=fun h1 h2=>(allR_toks _ _ (cvt_len _ _) _ (Nat.zero_le _) h2).pos
 unfold readS
 rw [hb1,hb2] at *
 rw [sh_toks L a s ha]
 obtain ⟨A,hA⟩:∃A,toksOf (L.drop a) 0 s=A:=⟨_,rfl⟩
 have hd:∀t∈A.l,t.r.err=0:=by rw [←hA];exact hd
 have h1:¬A.err=1:=by rw [←hA];exact h1
 rw [hA] at hin ⊢
 have e1:(shA a A).err=A.err:=rfl
 rw [e1]
 split
 ·rfl
 rename_i hok
 split
 ·rename_i h2
  unfold shD rdErr
  simp only [if_neg h2,if_neg h1]
  have e2:(shA a A).where_=A.where_+a:=if_neg h2
  rw [e2]
 rename_i h2
 have h2:A.err=0:=by simpa using h2
 have hp:=hin (by simpa using hok) h2
 have hl:=like_sh a A.l s.P s.q
 have hk:=hl.whole
 have hat:=tok_sh_at a A.l hp hd
 unfold readT
 rw [show (shA a A).l=A.l.map (shN a) from rfl,hk]
 cases wholeG ⟨A.l,s.P,s.q⟩ with
 | error k=>
  simp only [RE.at]
  rw [(hat k).1];rfl
 | ok x=>
  obtain ⟨t,m⟩:=x
  simp only [readOk,RE.at]
  rw [hl.v m,(hat m).2,(hat 0).1]
  split
  ·rfl
  ·rfl
end Hb
