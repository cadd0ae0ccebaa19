/- Parts of the proof. -/
import Derived.Test.YtpokpgkjaifccaaGreatDoorRRH01
import Derived.Test.YtpokpgkjaifccaaGreatDoorRRH15
namespace Hb
open Go Go.RowKit
theorem leaf_args {t:Tm} (hv:validT t=true) (h:¬t.kind=3):t.args=[]:=by
 have h2:=((validT_iff t).1 hv).2
 rw [Tm.allOk_eq,Bool.and_eq_true] at h2
 have h1:=h2.1
 unfold nodeOk at h1
 split at h1
 ·simp at h1;exact h1.2
 ·split at h1
  ·simp at h1;exact h1.2
  ·split at h1
   ·simp at h1;exact h1.2
   ·cases h1
def catK (t u m:Tm) (k:Nat):Bool:=!((t.kind==2 && !(t.name.toList==(m.name.extract 0 k).toList))||(u.kind==2 && !(u.name.toList==(m.name.extract k m.name.size).toList)))
def catRow (m:Tm) (k:Nat):List Tm:=[atomT (m.name.extract 0 k),atomT (m.name.extract k m.name.size),m]
def catL (t u m:Tm) (n:Nat):List (List Tm):=((List.range n).filter (catK t u m)).map (catRow m)
theorem catL_snoc (t u m:Tm) (k:Nat):catL t u m (k+1)=catL t u m k++(if catK t u m k=true then [catRow m k] else []):=by
 unfold catL
 rw [List.range_succ,List.filter_append,List.map_append]
 congr 1
 cases h:catK t u m k <;> simp [h]
theorem catL_len (t u m:Tm) (n:Nat):(catL t u m n).length≤n:=by
 unfold catL
 rw [List.length_map]
 have:=List.length_filter_le (catK t u m) (List.range n)
 rwa [List.length_range] at this
def concatA (t u m:Tm):RA:=orB ([t,u,m].findSome? atomB) (if (m.kind==0&&(t.kind==0||u.kind==0))=true then .ball biT else if (t.kind==2&&u.kind==2)=true then .ok [[t,u,atomT (t.name++u.name)]] else .ok (catL t u m (m.name.size+1)))
theorem measW (k n:Nat) (z:Int) (hz:z=(k:Int)+1) (h:k<n):n-(intOf (.int .i64 z)).toNat<n-(intOf (.int .i64 (k:Int))).toNat:=by
 subst hz
 simp only [intOf]
 omega
theorem atomB_none {t:Tm} (h:atomB t=none):t.kind=0∨t.kind=2:=by
 unfold atomB at h
 split at h
 ·assumption
 ·cases h
end Hb
namespace Go.Proofs.YtpokpgkjaifccaaGreatDoorRR
open Go.RowKit Hb Go.Shelf
set_option maxRecDepth 100000
set_option linter.unusedSimpArgs false
set_option maxHeartbeats 12800000 in
set_option maxHeartbeats 1600000 in
theorem a_concat (b off cap:Nat) (t u m:Tm) (A U M:Option Addr) (c d f:Nat) (w:World) (ht:validT t=true) (hu:validT u=true) (hv:validT m=true) (hA:ArgsAt w b off [(t,A,c),(u,U,d),(m,M,f)]) :
  Calls Tryz.prog 48 #[.slice (some ⟨b,off,none⟩) 3 cap] w fun e w'=>Below w.heap.size w w'∧RAns w' e (concatA t u m):=by
 obtain ⟨tv,Htv⟩:=lz ((t.kind==0))
 obtain ⟨ta,Hta⟩:=lz ((t.kind==2))
 obtain ⟨uv,Huv⟩:=lz ((u.kind==0))
 obtain ⟨ua,Hua⟩:=lz ((u.kind==2))
 obtain ⟨vv,Hvv⟩:=lz ((m.kind==0))
 have HVT:Hid (∀W,Calls Tryz.prog 64 #[tmV t A c] W fun e w'=>e=.returned (.bool tv)∧Below W.heap.size W w'):=zq fun W=>by rw [Htv.out];exact a_isVar t A c W
 have HAT:Hid (∀W,Calls Tryz.prog 72 #[tmV t A c] W fun e w'=>e=.returned (.bool ta)∧Below W.heap.size W w'):=zq fun W=>by rw [Hta.out];exact a_isAtom t A c W
 have HVU:Hid (∀W,Calls Tryz.prog 64 #[tmV u U d] W fun e w'=>e=.returned (.bool uv)∧Below W.heap.size W w'):=zq fun W=>by rw [Huv.out];exact a_isVar u U d W
 have HAU:Hid (∀W,Calls Tryz.prog 72 #[tmV u U d] W fun e w'=>e=.returned (.bool ua)∧Below W.heap.size W w'):=zq fun W=>by rw [Hua.out];exact a_isAtom u U d W
 have HVV:Hid (∀W,Calls Tryz.prog 64 #[tmV m M f] W fun e w'=>e=.returned (.bool vv)∧Below W.heap.size W w'):=zq fun W=>by rw [Hvv.out];exact a_isVar m M f W
 have HIN:=zq (fun W=>b_inst W)
 have HTH:=zq (fun Q A c W h=>a_throw Q A c W h)
 have HCK:Hid (∀(x:Tm) a q W,TmsAt W.heap.size W a x.args→Calls Tryz.prog 67 #[tmV x a q] W fun e w'=>Below W.heap.size W w'∧Chk w' e (atomB x)):=zq fun x a q W h=>a_atomOrVar x a q W h
 have HTA2:Hid (∀(s:ByteArray) (_:s.size≤100) W,Calls Tryz.prog 75 #[.string s] W fun e w'=>∃a q,e=.returned (.agg #[.int .i64 2,.int .i64 0,.string s,.slice a 0 q])∧Below W.heap.size W w'):=zq fun s h W=>t_atom s h W
 have HNT:=zq (name_small ht)
 have HNU:=zq (name_small hu)
 have HNV:=zq (name_small hv)
 have HVL:=zq hv
 obtain ⟨J,HJ⟩:=lz (α:=Tm) (atomT (t.name++u.name))
 have HJC:Hid (J.kind=2∧J.num=0∧J.name=t.name++u.name∧J.args=[]):=zq (by rw [HJ.out];exact ⟨rfl,rfl,rfl,rfl⟩)
 have HWI:Hid (∀X qa qc g,ArgsAt X b off [(t,A,c),(u,U,d),(m,M,f)]→Bk X g [.int .i64 J.kind,.int .i64 J.num,.string J.name,.slice qa J.args.length qc]→TmsAt X.heap.size X qa J.args→Calls Tryz.prog 69 #[.slice (some ⟨b,off,none⟩) 3 cap,.int .i64 2,.slice (some ⟨g,0,none⟩) 1 1] X fun e w'=>Below X.heap.size X w'∧RAns w' e (.ok [[t,u,J]])):=zq fun X qa qc g h hb hx=>a_with1 b off cap 3 2 [(t,A,c),(u,U,d),(m,M,f)] J qa qc g X rfl (by decide) (by decide) h hb hx
 have HWW:Hid (∀(p q:ByteArray) X a1 c1 a2 c2,ArgsAt X b off [(t,A,c),(u,U,d),(m,M,f)]→Calls Tryz.prog 69 #[.slice (some ⟨b,off,none⟩) 3 cap,.int .i64 0,.slice (some ⟨X.heap.size,0,none⟩) 2 2] (X.alloc (.cells #[.int .i64 2,.int .i64 0,.string p,.slice a1 0 c1,.int .i64 2,.int .i64 0,.string q,.slice a2 0 c2] 32)) fun e w'=>∃g A' c' g2,e=.returned (.slice (some ⟨g,0,none⟩) 1 1)∧Below X.heap.size X w'∧Bk w' g [.slice A' 3 c']∧TmsAt w'.heap.size w' A' [atomT p,atomT q,m]∧A'=some ⟨g2,0,none⟩∧X.heap.size≤g2∧g2<w'.heap.size):=zq fun p q X a1 c1 a2 c2 h=>by
  have hb:=(Below.refl X.heap.size X).alloc (Nat.le_refl _) (.cells (rowsC [(atomT p,a1,c1),(atomT q,a2,c2)]).toArray 32)
  refine (a_with b off cap 3 0 2 X.heap.size 0 2 [(t,A,c),(u,U,d),(m,M,f)] [(atomT p,a1,c1),(atomT q,a2,c2)] _ rfl (by decide) rfl (by decide) (by decide) (h.keep hb) (ArgsAt.new X _ _ (fun r hr=>by
   simp only [List.mem_cons,List.mem_nil_iff,or_false] at hr
   rcases hr with rfl | rfl <;> exact TmsK.nil))).mono fun e w' ⟨g,A',c',he,hB,hk,ht,g2,h1,h2,h3⟩=>⟨g,A',c',g2,he,hb.trans (hB.mono (by simp)),hk,ht,h1,by simp at h2;omega,h3⟩
 obtain ⟨LA,HLA⟩:=lz (concatA t u m)
 have HL:Hid (LA=orB ([t,u,m].findSome? atomB) (if (vv&&(tv||uv))=true then .ball biT else if (ta&&ua)=true then .ok [[t,u,J]] else .ok (catL t u m (m.name.size+1)))):=zq (by rw [HLA.out,Hvv.out,Htv.out,Huv.out,Hta.out,Hua.out,HJ.out];rfl)
 have HCT:Hid (∀k,catK t u m k=!((ta && !(t.name.toList==(m.name.extract 0 k).toList))||(ua && !(u.name.toList==(m.name.extract k m.name.size).toList)))):=zq fun k=>by rw [Hta.out,Hua.out];rfl
 have HTMS:Hid (TmsAt w.heap.size w (some ⟨b,off,none⟩) [t,u,m]):=zq (hA.tms (by unfold maxLen;simp))
 have HAW:=zq hA
 rw [←HLA.out]
 clear ht hu hv hA HLA HJ Htv Hta Huv Hua Hvv
 unfold tmV at *
 have haw:=HAW.out.all
 simp only [rowsC,rowC,List.flatMap_cons,List.flatMap_nil,List.cons_append,List.nil_append,cellsAll,Nat.add_zero,Nat.zero_add,Nat.reduceAdd,and_true] at haw
 go_enter Tryz.func48,Tryz.ntmps48
 go_wp2_with fail
 clear haw
 obtain ⟨l,HLE⟩:=lz ([t,u,m])
 rw [←HLE.out] at HTMS HL
 have HLN:Hid (l.length=3):=zq (by rw [HLE.out];rfl)
 go_loopw [11] (fun i wr=>∃k:Nat,k≤3∧i=.int .i64 k∧Hid ((l.take k).findSome? atomB=none)∧Hid (Below w.heap.size w wr)) (fun i _=>3-(intOf i).toNat)
 case atStart=>exact ⟨0,by decide,rfl,zq rfl,zq (Below.refl _ _)⟩
 case round=>
  obtain ⟨k,hk,rfl,HFS,HBR⟩:=hrel
  have HM_30:=zq ((HTMS.out.keep HBR.out).mono HBR.out.size)
  by_cases hlt:k<3
  ·have hkl:k<l.length:=by rw [HLN.out];exact hlt
   obtain ⟨b2,off2,xa,xc,hA',hb2,q0,q1,q2,q3,hsx⟩:=HM_30.out.get k hkl
   obtain ⟨x,HX⟩:=lz (l[k])
   rw [←HX.out] at q0 q1 q2 q3 hsx
   have hbo:b2=b∧off2=off:=by injection hA' with h;injection h with h1 h2 _;exact ⟨h1.symm,h2.symm⟩
   obtain ⟨rfl,rfl⟩:=hbo
   have k0:(0:Int)≤(k:Int):=by omega
   have k1:(k:Int)<(3:Int):=by omega
   have hw2:wrap64 ((k:Int)+1)=(k:Int)+1:=IntWalk.wrap64_in _ (by omega)
   have hz:=(Below.refl wr.heap.size wr).alloc (Nat.le_refl _) (.cells #[.int .i64 x.kind,.int .i64 x.num,.string x.name,.slice xa x.args.length xc] 32)
   have HC1:Hid (∀X,Below wr.heap.size wr X→Calls Tryz.prog 67 #[.agg #[.int .i64 x.kind,.int .i64 x.num,.string x.name,.slice xa x.args.length xc]] X fun e w'=>Below X.heap.size X w'∧Chk w' e (atomB x)):=zq fun X hX=>HCK.out x xa xc X ((hsx.keep hX).mono hX.size)
   have HZ:=zq hz
   have HBZ0:=bz HBR hz
   clear hsx hz
   rcases hE:atomB x with _ | bb
   ·have HFS2:Hid ((l.take (k+1)).findSome? atomB=none):=zq (none_at _ hkl HFS.out (by rw [←HX.out];exact hE))
    rw [hE] at HC1
    clear hE HX HFS HM_30
    go_wp2_with fail
    refine (HC1.out _ HZ.out).mono ?_;rintro e w1 ⟨hB,rfl⟩
    have HB1:=bz HBZ0 hB
    clear hB HC1 HZ HBZ0 q0 q1 q2 q3
    go_wp2_with fail
    go_roundw
    case rel=>exact ⟨k+1,by omega,by go_num,HFS2,HB1⟩
    case measure=>simp [intOf] <;> omega
   ·have HE:Hid (LA=.ball bb):=zq (by rw [HL.out,some_at _ hkl HFS.out (by rw [←HX.out];exact hE)];rfl)
    rw [hE] at HC1
    clear hE HX HFS HM_30 HL
    go_wp2_with fail
    refine (HC1.out _ HZ.out).mono ?_;rintro e wt ⟨hBt,⟨At,ct,rfl,hTt⟩⟩
    exact ⟨rfl,HBZ0.out.trans (hBt.mono HBZ0.out.size),by rw [HE.out];exact ⟨At,ct,rfl,hTt⟩⟩
  ·have hk3:k=3:=by omega
   subst hk3
   rw [show ((3:Nat):Int)=3 from rfl]
   have hfs:l.findSome? atomB=none:=by have:=HFS.out;rwa [List.take_of_length_le (by rw [HLN.out];exact Nat.le_refl _)] at this
   have HL2:Hid (LA=if (vv&&(tv||uv))=true then .ball biT else if (ta&&ua)=true then .ok [[t,u,J]] else .ok (catL t u m (m.name.size+1))):=zq (by rw [HL.out,hfs];rfl)
   have hko:¬m.kind=3∧True:=by
    rw [HLE.out] at hfs
    simp only [List.findSome?_cons,List.findSome?_nil] at hfs
    cases h1:atomB t <;> rw [h1] at hfs <;> simp at hfs
    cases h2:atomB u <;> rw [h2] at hfs <;> simp at hfs
    cases h3:atomB m <;> rw [h3] at hfs <;> simp at hfs
    have:=atomB_none h3
    exact ⟨by omega,trivial⟩
   have HVA:=zq (leaf_args HVL.out hko.1)
   have HY_0:=zq (HAW.out.keep HBR.out)
   clear hfs HL HFS HM_30 HCK HTMS HLN HLE hko HVL HAW
   go_upto_region 6 with fail
   go_cut [33] from 18 to 32 (fun z wc=>z=.bool (vv&&(tv||uv))∧Hid (Below w.heap.size w wc)∧Hid (ArgsAt wc b off [(t,A,c),(u,U,d),(m,M,f)]))
   case first=>
    have fHY_0:=HY_0.out.all
    simp only [rowsC,rowC,List.flatMap_cons,List.flatMap_nil,List.cons_append,List.nil_append,cellsAll,Nat.add_zero,Nat.zero_add,Nat.reduceAdd,and_true] at fHY_0
    go_wp2_with fail
    refine (HVV.out _).mono ?_;rintro e w61 ⟨rfl,hB⟩
    clear fHY_0
    have HB61_:=bz HBR hB
    have HY_61:=zq (HY_0.out.keep hB)
    clear hB HBR HY_0 
    have fHY_61:=HY_61.out.all
    simp only [rowsC,rowC,List.flatMap_cons,List.flatMap_nil,List.cons_append,List.nil_append,cellsAll,Nat.add_zero,Nat.zero_add,Nat.reduceAdd,and_true] at fHY_61
    cases vv
    ·skip
     go_wp2_with fail
     go_meet
     exact ⟨rfl,HB61_,HY_61⟩
    ·skip
     go_wp2_with fail
     refine (HVT.out _).mono ?_;rintro e w62 ⟨rfl,hB⟩
     clear fHY_61
     have HB62_:=bz HB61_ hB
     have HY_62:=zq (HY_61.out.keep hB)
     clear hB HB61_ HY_61 
     have fHY_62:=HY_62.out.all
     simp only [rowsC,rowC,List.flatMap_cons,List.flatMap_nil,List.cons_append,List.nil_append,cellsAll,Nat.add_zero,Nat.zero_add,Nat.reduceAdd,and_true] at fHY_62
     cases tv
     ·skip
      go_wp2_with fail
      refine (HVU.out _).mono ?_;rintro e w63 ⟨rfl,hB⟩
      clear fHY_62
      have HB63_:=bz HB62_ hB
      have HY_63:=zq (HY_62.out.keep hB)
      clear hB HB62_ HY_62 
      have fHY_63:=HY_63.out.all
      simp only [rowsC,rowC,List.flatMap_cons,List.flatMap_nil,List.cons_append,List.nil_append,cellsAll,Nat.add_zero,Nat.zero_add,Nat.reduceAdd,and_true] at fHY_63
      cases uv
      ·skip
       go_wp2_with fail
       go_meet
       exact ⟨rfl,HB63_,HY_63⟩
      ·skip
       go_wp2_with fail
       go_meet
       exact ⟨rfl,HB63_,HY_63⟩
     ·skip
      go_wp2_with fail
      go_meet
      exact ⟨rfl,HB62_,HY_62⟩
   case rest=>
    obtain ⟨rfl,HB_6,HY_6⟩:=hcut
    clear HBR HY_0
    obtain ⟨y6,HYY⟩:=lz (wc)
    rw [←HYY.out] at HB_6 HY_6 ⊢
    clear HYY
    obtain ⟨z1,Hz1⟩:=lz ((vv&&(tv||uv)))
    rw [←Hz1.out] at HL2 ⊢
    cases z1
    ·skip
     have HL3:Hid (LA=if (ta&&ua)=true then .ok [[t,u,J]] else .ok (catL t u m (m.name.size+1))):=HL2
     clear HL2 Hz1 HIN HTH HVT HVU HVV
     go_upto_region 8 with fail
     go_cut [45] from 36 to 44 (fun z wc=>z=.bool (ta&&ua)∧Hid (Below w.heap.size w wc)∧Hid (ArgsAt wc b off [(t,A,c),(u,U,d),(m,M,f)]))
     case first=>
      have fHY_6:=HY_6.out.all
      simp only [rowsC,rowC,List.flatMap_cons,List.flatMap_nil,List.cons_append,List.nil_append,cellsAll,Nat.add_zero,Nat.zero_add,Nat.reduceAdd,and_true] at fHY_6
      go_wp2_with fail
      refine (HAT.out _).mono ?_;rintro e w81 ⟨rfl,hB⟩
      clear fHY_6
      have HB81_:=bz HB_6 hB
      have HY_81:=zq (HY_6.out.keep hB)
      clear hB HB_6 HY_6 
      have fHY_81:=HY_81.out.all
      simp only [rowsC,rowC,List.flatMap_cons,List.flatMap_nil,List.cons_append,List.nil_append,cellsAll,Nat.add_zero,Nat.zero_add,Nat.reduceAdd,and_true] at fHY_81
      cases ta
      ·skip
       go_wp2_with fail
       go_meet
       exact ⟨rfl,HB81_,HY_81⟩
      ·skip
       go_wp2_with fail
       refine (HAU.out _).mono ?_;rintro e w82 ⟨rfl,hB⟩
       clear fHY_81
       have HB82_:=bz HB81_ hB
       have HY_82:=zq (HY_81.out.keep hB)
       clear hB HB81_ HY_81 
       have fHY_82:=HY_82.out.all
       simp only [rowsC,rowC,List.flatMap_cons,List.flatMap_nil,List.cons_append,List.nil_append,cellsAll,Nat.add_zero,Nat.zero_add,Nat.reduceAdd,and_true] at fHY_82
       cases ua
       ·skip
        go_wp2_with fail
        go_meet
        exact ⟨rfl,HB82_,HY_82⟩
       ·skip
        go_wp2_with fail
        go_meet
        exact ⟨rfl,HB82_,HY_82⟩
     case rest=>
      obtain ⟨rfl,HB_8,HY_8⟩:=hcut
      clear HB_6 HY_6
      obtain ⟨y8,HYY⟩:=lz (wc)
      rw [←HYY.out] at HB_8 HY_8 ⊢
      clear HYY
      obtain ⟨z2,Hz2⟩:=lz ((ta&&ua))
      rw [←Hz2.out] at HL3 ⊢
      cases z2
      ·skip
       have HE:Hid (LA=.ok (catL t u m (m.name.size+1))):=HL3
       clear HL3 HWI HJC Hz2
       have hwN:wrap64 ((m.name.size:Int)+1)=(m.name.size:Int)+1:=IntWalk.wrap64_in _ (by have:=HNV.out;omega)
       obtain ⟨wl,HWLE⟩:=lz (y8)
       rw [←HWLE.out] at HB_8 HY_8 ⊢
       clear HWLE
       have fHY_8:=HY_8.out.all
       simp only [rowsC,rowC,List.flatMap_cons,List.flatMap_nil,List.cons_append,List.nil_append,cellsAll,Nat.add_zero,Nat.zero_add,Nat.reduceAdd,and_true] at fHY_8
       go_wp2_with fail
       rw [hwN]
       clear fHY_8
       go_loopw [5,65] (fun o i wr=>∃(k:Nat) (rs:List LR),k≤m.name.size+1∧i=.int .i64 k∧Hid (rs.map (fun r:LR=>r.1)=catL t u m k)∧Hid (OutR wl.heap.size 30 wr o rs)∧Hid (Below wl.heap.size wl wr)) (fun _ i _=>m.name.size+1-(intOf i).toNat)
       case atStart=>exact ⟨0,[],Nat.zero_le _,rfl,zq rfl,zq (OutR.nul _ _ _),zq (Below.refl _ _)⟩
       case round=>
        obtain ⟨k,rs,hk,rfl,HRS,HO_0,HBR⟩:=hrel
        obtain ⟨rv,hrv⟩:∃v,v=u5:=⟨_,rfl⟩
        subst hrv
        by_cases hlt:k<m.name.size+1
        ·have k0:(0:Int)≤(k:Int):=by omega
         have k1:(k:Int)<(m.name.size:Int)+1:=by omega
         have k2:(k:Int)≤(m.name.size:Int):=by omega
         have hw2:wrap64 ((k:Int)+1)=(k:Int)+1:=IntWalk.wrap64_in _ (by have:=HNV.out;omega)
         have HRL:Hid (rs.length≤100000):=zq (by
          have h1:=congrArg List.length HRS.out
          have h2:=catL_len t u m k
          have h3:=HNV.out
          rw [List.length_map] at h1
          omega)
         have HA_R:=zq (HY_8.out.keep HBR.out)
         go_wp2_with fail
         rename_i K9 hK9
         refine region_own (w0:=wr) [rPure [] [0] (fun | [v]=>v=.slice (some ⟨b,off,none⟩) 3 cap | _=>False),
           rPure [0] [1] (fun | [v]=>v=.pointer (some ⟨b,off+8,none⟩) | _=>False),
           rPure [0,1] [2] (fun | [v]=>v=.pointer (some ⟨b,off+8+2,none⟩) | _=>False),
           rVal (List.range 3) [3] (fun | [v]=>v=.string m.name | _=>False),
           rPure [] [4] (fun | [v]=>v=.int .i64 (k:Int) | _=>False),
           rPure (List.range 5) [5] (fun | [v]=>v=.string (m.name.extract 0 k) | _=>False),
           rPure [] [6] (fun | [v]=>v=.slice (some ⟨b,off,none⟩) 3 cap | _=>False),
           rPure [6] [7] (fun | [v]=>v=.pointer (some ⟨b,off+8,none⟩) | _=>False),
           rPure [6,7] [8] (fun | [v]=>v=.pointer (some ⟨b,off+8+2,none⟩) | _=>False),
           rVal [6,7,8] [9] (fun | [v]=>v=.string m.name | _=>False),
           rPure [] [10] (fun | [v]=>v=.int .i64 (k:Int) | _=>False),
           rPure [6,7,8,9,10] [11] (fun | [v]=>v=.string (m.name.extract k m.name.size) | _=>False),
           rPure (List.range 6) [12] (fun | [v]=>v=.string (m.name.extract 0 k) | _=>False),
           rPure (List.range 13) [13] (fun | [v]=>v=.string (m.name.extract k m.name.size) | _=>False)]
           [some 68,some 69,some 70,some 71,some 72,some 73,some 74,some 75,some 76,some 77,some 78,some 79,some 7,some 8] (fun _=>True) (wr.heap.size) (by kernel_rfl) (Nat.le_refl _) (by kernel_rfl) (by kernel_rfl) (by kernel_rfl) (fun j o ho=>?srv7) (fun val Y N hv HF=>?fin7)
         case srv7=>
           have hlt:j<14:=(Array.getElem?_eq_some_iff.1 ho).1
           rcases (show j=0∨j=1∨j=2∨j=3∨j=4∨j=5∨j=6∨j=7∨j=8∨j=9∨j=10∨j=11∨j=12∨j=13 by omega) with rfl | rfl | rfl | rfl | rfl | rfl | rfl | rfl | rfl | rfl | rfl | rfl | rfl | rfl
           ·cases ho
            refine srv_pure rfl rfl (fun val E hE hA=>?_)
            have e0:=hE.t 0 (.slice (some ⟨b,off,none⟩) 3 cap) rfl
            exact ⟨.slice (some ⟨b,off,none⟩) 3 cap,fun X=>by simp [execOp,go_sem,e0],rfl⟩
           ·cases ho
            refine srv_pure rfl rfl (fun val E hE hA=>?_)
            have e68:=hE.t 68 (val 0) rfl
            have h0:val 0=.slice (some ⟨b,off,none⟩) 3 cap:=hA 0 (oz rfl)
            exact ⟨.pointer (some ⟨b,off+8,none⟩),fun X=>by simp [execOp,go_sem,hE.c,e68,h0],rfl⟩
           ·cases ho
            refine srv_pure rfl rfl (fun val E hE hA=>?_)
            have e69:=hE.t 69 (val 1) rfl
            have h1:val 1=.pointer (some ⟨b,off+8,none⟩):=hA 1 (oz rfl)
            exact ⟨.pointer (some ⟨b,off+8+2,none⟩),fun X=>by simp [execOp,go_sem,e69,h1],rfl⟩
           ·cases ho
            refine srv_val rfl rfl (fun _ _ _=>trivial) (fun val E X hE hB hA=>?_)
            have e70:=hE.t 70 (val 2) rfl
            have h2:val 2=.pointer (some ⟨b,off+8+2,none⟩):=hA 2 (oz rfl)
            have HX:=(HA_R.out.keep hB).all
            simp only [rowsC,rowC,List.flatMap_cons,List.flatMap_nil,List.cons_append,List.nil_append,cellsAll,Nat.add_zero,Nat.zero_add,Nat.reduceAdd,and_true] at HX
            exact ⟨.string m.name,by simp [execOp,go_sem,e70,h2,HX],rfl⟩
           ·cases ho
            refine srv_pure rfl rfl (fun val E hE hA=>?_)
            have e6:=hE.t 6 (.int .i64 (k:Int)) rfl
            exact ⟨.int .i64 (k:Int),fun X=>by simp [execOp,go_sem,e6],rfl⟩
           ·cases ho
            refine srv_pure rfl rfl (fun val E hE hA=>?_)
            have e71:=hE.t 71 (val 3) rfl
            have h3:val 3=.string m.name:=hA 3 (oz rfl)
            have e72:=hE.t 72 (val 4) rfl
            have h4:val 4=.int .i64 (k:Int):=hA 4 (oz rfl)
            exact ⟨.string (m.name.extract 0 k),fun X=>by simp [execOp,go_sem,e71,h3,e72,h4,k0,k2],rfl⟩
           ·cases ho
            refine srv_pure rfl rfl (fun val E hE hA=>?_)
            have e0:=hE.t 0 (.slice (some ⟨b,off,none⟩) 3 cap) rfl
            exact ⟨.slice (some ⟨b,off,none⟩) 3 cap,fun X=>by simp [execOp,go_sem,e0],rfl⟩
           ·cases ho
            refine srv_pure rfl rfl (fun val E hE hA=>?_)
            have e74:=hE.t 74 (val 6) rfl
            have h6:val 6=.slice (some ⟨b,off,none⟩) 3 cap:=hA 6 (oz rfl)
            exact ⟨.pointer (some ⟨b,off+8,none⟩),fun X=>by simp [execOp,go_sem,hE.c,e74,h6],rfl⟩
           ·cases ho
            refine srv_pure rfl rfl (fun val E hE hA=>?_)
            have e75:=hE.t 75 (val 7) rfl
            have h7:val 7=.pointer (some ⟨b,off+8,none⟩):=hA 7 (oz rfl)
            exact ⟨.pointer (some ⟨b,off+8+2,none⟩),fun X=>by simp [execOp,go_sem,e75,h7],rfl⟩
           ·cases ho
            refine srv_val rfl rfl (fun _ _ _=>trivial) (fun val E X hE hB hA=>?_)
            have e76:=hE.t 76 (val 8) rfl
            have h8:val 8=.pointer (some ⟨b,off+8+2,none⟩):=hA 8 (oz rfl)
            have HX:=(HA_R.out.keep hB).all
            simp only [rowsC,rowC,List.flatMap_cons,List.flatMap_nil,List.cons_append,List.nil_append,cellsAll,Nat.add_zero,Nat.zero_add,Nat.reduceAdd,and_true] at HX
            exact ⟨.string m.name,by simp [execOp,go_sem,e76,h8,HX],rfl⟩
           ·cases ho
            refine srv_pure rfl rfl (fun val E hE hA=>?_)
            have e6:=hE.t 6 (.int .i64 (k:Int)) rfl
            exact ⟨.int .i64 (k:Int),fun X=>by simp [execOp,go_sem,e6],rfl⟩
           ·cases ho
            refine srv_pure rfl rfl (fun val E hE hA=>?_)
            have e77:=hE.t 77 (val 9) rfl
            have h9:val 9=.string m.name:=hA 9 (oz rfl)
            have e78:=hE.t 78 (val 10) rfl
            have h10:val 10=.int .i64 (k:Int):=hA 10 (oz rfl)
            exact ⟨.string (m.name.extract k m.name.size),fun X=>by simp [execOp,go_sem,e77,h9,e78,h10,k0,k2],rfl⟩
           ·cases ho
            refine srv_pure rfl rfl (fun val E hE hA=>?_)
            have e73:=hE.t 73 (val 5) rfl
            have h5:val 5=.string (m.name.extract 0 k):=hA 5 (oz rfl)
            exact ⟨.string (m.name.extract 0 k),fun X=>by simp [execOp,go_sem,e73,h5],rfl⟩
           ·cases ho
            refine srv_pure rfl rfl (fun val E hE hA=>?_)
            have e79:=hE.t 79 (val 11) rfl
            have h11:val 11=.string (m.name.extract k m.name.size):=hA 11 (oz rfl)
            exact ⟨.string (m.name.extract k m.name.size),fun X=>by simp [execOp,go_sem,e79,h11],rfl⟩
         case fin7=>
          have h0:val 0=.slice (some ⟨b,off,none⟩) 3 cap:=hv 0 (by decide)
          have h1:val 1=.pointer (some ⟨b,off+8,none⟩):=hv 1 (by decide)
          have h2:val 2=.pointer (some ⟨b,off+8+2,none⟩):=hv 2 (by decide)
          have h3:val 3=.string m.name:=hv 3 (by decide)
          have h4:val 4=.int .i64 (k:Int):=hv 4 (by decide)
          have h5:val 5=.string (m.name.extract 0 k):=hv 5 (by decide)
          have h6:val 6=.slice (some ⟨b,off,none⟩) 3 cap:=hv 6 (by decide)
          have h7:val 7=.pointer (some ⟨b,off+8,none⟩):=hv 7 (by decide)
          have h8:val 8=.pointer (some ⟨b,off+8+2,none⟩):=hv 8 (by decide)
          have h9:val 9=.string m.name:=hv 9 (by decide)
          have h10:val 10=.int .i64 (k:Int):=hv 10 (by decide)
          have h11:val 11=.string (m.name.extract k m.name.size):=hv 11 (by decide)
          have h12:val 12=.string (m.name.extract 0 k):=hv 12 (by decide)
          have h13:val 13=.string (m.name.extract k m.name.size):=hv 13 (by decide)
          refine hK9 _ _ ?_
          simp only [fillD,List.set_cons_zero,List.set_cons_succ,Nat.reduceAdd,Nat.zero_add,h0,h1,h2,h3,h4,h5,h6,h7,h8,h9,h10,h11,h12,h13]
          have HB_90:=zq (HBR.out.trans (HF.bel.mono HBR.out.size))
          have HO_90:=zq (HO_0.out.below HF.bel)
          have HY_90:=zq (HA_R.out.keep HF.bel)
          clear hv h0 h1 h2 h3 h4 h5 h6 h7 h8 h9 h10 h11 h12 h13 hK9 HF HBR HO_0 HA_R
          obtain ⟨p,HPE⟩:=lz ((m.name.extract 0 k))
          obtain ⟨q,HQE⟩:=lz ((m.name.extract k m.name.size))
          rw [←HPE.out,←HQE.out]
          have HCK2:Hid (catK t u m k=!((ta && !(t.name.toList==p.toList))||(ua && !(u.name.toList==q.toList)))):=zq (by rw [HPE.out,HQE.out];exact HCT.out k)
          have HROW:Hid (catRow m k=[atomT p,atomT q,m]):=zq (by rw [HPE.out,HQE.out];rfl)
          have HPS:Hid (p.size≤100):=zq (by rw [HPE.out];have:=HNV.out;simp;omega)
          have HQS:Hid (q.size≤100):=zq (by rw [HQE.out];have:=HNV.out;simp;omega)
          clear HPE HQE
          go_upto_region 15 with fail
          go_cut [105] from 80 to 104 (fun z wc=>z=.bool (!catK t u m k)∧Hid (Below wl.heap.size wl wc)∧Hid (ArgsAt wc b off [(t,A,c),(u,U,d),(m,M,f)])∧Hid (OutR wl.heap.size 30 wc rv rs))
          case first=>
           have fHY_90:=HY_90.out.all
           simp only [rowsC,rowC,List.flatMap_cons,List.flatMap_nil,List.cons_append,List.nil_append,cellsAll,Nat.add_zero,Nat.zero_add,Nat.reduceAdd,and_true] at fHY_90
           go_wp2_with fail
           refine (HAT.out _).mono ?_;rintro e w101 ⟨rfl,hB⟩
           clear fHY_90
           have HB101_:=bz HB_90 hB
           have HY_101:=zq (HY_90.out.keep hB)
           have HO_101:=zq (HO_90.out.below hB)
           clear hB HB_90 HY_90 HO_90 
           have fHY_101:=HY_101.out.all
           simp only [rowsC,rowC,List.flatMap_cons,List.flatMap_nil,List.cons_append,List.nil_append,cellsAll,Nat.add_zero,Nat.zero_add,Nat.reduceAdd,and_true] at fHY_101
           cases ta
           ·skip
            go_wp2_with fail
            refine (HAU.out _).mono ?_;rintro e w102 ⟨rfl,hB⟩
            clear fHY_101
            have HB102_:=bz HB101_ hB
            have HY_102:=zq (HY_101.out.keep hB)
            have HO_102:=zq (HO_101.out.below hB)
            clear hB HB101_ HY_101 HO_101 
            have fHY_102:=HY_102.out.all
            simp only [rowsC,rowC,List.flatMap_cons,List.flatMap_nil,List.cons_append,List.nil_append,cellsAll,Nat.add_zero,Nat.zero_add,Nat.reduceAdd,and_true] at fHY_102
            cases ua
            ·skip
             go_wp2_with fail
             go_meet
             exact ⟨congrArg Value.bool (by rw [HCK2.out];simp [bne]),HB102_,HY_102,HO_102⟩
            ·skip
             go_wp2_with fail
             go_meet
             exact ⟨congrArg Value.bool (by rw [HCK2.out];simp [bne]),HB102_,HY_102,HO_102⟩
           ·skip
            rcases hnm:(t.name.toList==p.toList)
            ·have hn1:¬t.name.toList=p.toList:=by simpa using hnm
             rw [hnm] at HCK2
             go_wp2_with fail
             go_meet
             exact ⟨congrArg Value.bool (by rw [HCK2.out];simp [bne]),HB101_,HY_101,HO_101⟩
            ·have hn1:t.name.toList=p.toList:=by simpa using hnm
             rw [hnm] at HCK2
             go_wp2_with fail
             refine (HAU.out _).mono ?_;rintro e w102 ⟨rfl,hB⟩
             clear fHY_101
             have HB102_:=bz HB101_ hB
             have HY_102:=zq (HY_101.out.keep hB)
             have HO_102:=zq (HO_101.out.below hB)
             clear hB HB101_ HY_101 HO_101 
             have fHY_102:=HY_102.out.all
             simp only [rowsC,rowC,List.flatMap_cons,List.flatMap_nil,List.cons_append,List.nil_append,cellsAll,Nat.add_zero,Nat.zero_add,Nat.reduceAdd,and_true] at fHY_102
             cases ua
             ·skip
              go_wp2_with fail
              go_meet
              exact ⟨congrArg Value.bool (by rw [HCK2.out];simp [bne]),HB102_,HY_102,HO_102⟩
             ·skip
              go_wp2_with fail
              go_meet
              exact ⟨congrArg Value.bool (by rw [HCK2.out];simp [bne]),HB102_,HY_102,HO_102⟩
          case rest=>
           obtain ⟨rfl,HB_15,HY_15,HO_15⟩:=hcut
           clear HB_90 HY_90 HO_90
           obtain ⟨y15,HYY⟩:=lz (wc)
           rw [←HYY.out] at HB_15 HY_15 HO_15 ⊢
           clear HYY HCK2
           obtain ⟨z3,Hz3⟩:=lz (catK t u m k)
           rw [←Hz3.out]
           have HSN:Hid (catL t u m (k+1)=catL t u m k++(if z3=true then [[atomT p,atomT q,m]] else [])):=zq (by rw [Hz3.out,catL_snoc,HROW.out])
           clear Hz3 HROW
           cases z3
           ·skip
            have HRS2:Hid (rs.map (fun r:LR=>r.1)=catL t u m (k+1)):=zq (by rw [HSN.out,HRS.out];simp)
            go_wp2_with fail
            go_roundw
            case rel=>exact ⟨k+1,rs,by omega,by go_num,HRS2,HO_15,HB_15⟩
            case measure=>exact measW k _ _ hw2 hlt
           ·skip
            have fHY_15:=HY_15.out.all
            simp only [rowsC,rowC,List.flatMap_cons,List.flatMap_nil,List.cons_append,List.nil_append,cellsAll,Nat.add_zero,Nat.zero_add,Nat.reduceAdd,and_true] at fHY_15
            go_wp2_with fail
            refine (HTA2.out p HPS.out _).mono ?_;rintro e w101 ⟨a1,c1,rfl,hB⟩
            clear fHY_15
            have HB101_:=bz HB_15 hB
            have HY_101:=zq (HY_15.out.keep hB)
            have HO_101:=zq (HO_15.out.below hB)
            clear hB HB_15 HY_15 HO_15 
            have fHY_101:=HY_101.out.all
            simp only [rowsC,rowC,List.flatMap_cons,List.flatMap_nil,List.cons_append,List.nil_append,cellsAll,Nat.add_zero,Nat.zero_add,Nat.reduceAdd,and_true] at fHY_101
            go_wp2_with fail
            refine (HTA2.out q HQS.out _).mono ?_;rintro e w102 ⟨a2,c2,rfl,hB⟩
            clear fHY_101
            have HB102_:=bz HB101_ hB
            have HY_102:=zq (HY_101.out.keep hB)
            have HO_102:=zq (HO_101.out.below hB)
            clear hB HB101_ HY_101 HO_101 
            have fHY_102:=HY_102.out.all
            simp only [rowsC,rowC,List.flatMap_cons,List.flatMap_nil,List.cons_append,List.nil_append,cellsAll,Nat.add_zero,Nat.zero_add,Nat.reduceAdd,and_true] at fHY_102
            go_wp2_with fail
            refine (HWW.out p q w102 a1 c1 a2 c2 HY_102.out).mono ?_;rintro e w103 ⟨g9,A9,c9,g2,rfl,hB,hk9,ht9,hA9,hg9,hg8⟩
            have HKR:=zq hk9
            have HTR:=zq ht9
            have hAE:=zq hA9
            have hLE:Hid (wl.heap.size≤w102.heap.size∧OutR wl.heap.size 30 w102 rv rs):=zq ⟨HB102_.out.size,HO_102.out⟩
            have hG2:=zq hg9
            clear hk9 ht9 hA9 hg9
            clear fHY_102
            have HB103_:=bz HB102_ hB
            have HY_103:=zq (HY_102.out.keep hB)
            have HO_103:=zq (HO_102.out.below hB)
            clear hB HB102_ HY_102 HO_102 
            have fHY_103:=HY_103.out.all
            simp only [rowsC,rowC,List.flatMap_cons,List.flatMap_nil,List.cons_append,List.nil_append,cellsAll,Nat.add_zero,Nat.zero_add,Nat.reduceAdd,and_true] at fHY_103
            have HLF:Hid (TmsK (fun b=>wl.heap.size≤b∧b<w103.heap.size∧rv.ownBlock≠some b) w103 A9 [atomT p,atomT q,m]):=zq (by
             have h1:=HTR.out
             rw [hAE.out] at h1 ⊢
             refine (TmsK.leafs h1 (fun x hx=>by
              simp only [List.mem_cons,List.mem_nil_iff,or_false] at hx
              rcases hx with rfl | rfl | rfl
              ·rfl
              ·rfl
              ·exact HVA.out)).keep (fun _ _=>rfl) (fun b hb=>?_)
             subst hb
             refine ⟨Nat.le_trans (hLE.out.1) hG2.out,hg8,fun e'=>?_⟩
             have:=(hLE.out.2.own.lt b e').2
             have:=hG2.out
             omega)
            go_wp2_with (at_builtin;go_must (refine wpList_app_row rfl _ _ rfl wl.heap.size wl rv rs rfl HO_103.out HB103_.out HB103_.out.size g9 ([atomT p,atomT q,m],A9,c9) rfl HKR.out HLF.out HRL.out ?_;intro v9 w9 HO9 HB9))
            have HRS2:Hid ((rs++[(([atomT p,atomT q,m],A9,c9):LR)]).map (fun r:LR=>r.1)=catL t u m (k+1)):=zq (by rw [HSN.out,List.map_append,HRS.out];simp)
            go_wp2_with fail
            go_roundw
            case rel=>exact ⟨k+1,_,by omega,by go_num,HRS2,HO9,HB9⟩
            case measure=>exact measW k _ _ hw2 hlt
        ·have hkn:k=m.name.size+1:=by omega
         subst hkn
         obtain ⟨A9,c9,hv9,hr9⟩:=HO_0.out.rows
         subst hv9
         have HLEN:Hid ((rs.map (fun r:LR=>r.1)).length=rs.length):=zq (by simp)
         rw [HRS.out] at hr9 HLEN
         have HRZ:=zq hr9
         have HBZ:=zq (HB_8.out.trans (HBR.out.mono HB_8.out.size))
         clear hr9 HBR HO_0 HRS
         go_wp2_with fail
         go_ret
         exact ⟨HBZ.out,by rw [HE.out];exact ⟨A9,c9,by rw [HLEN.out];rfl,HRZ.out⟩⟩
      ·skip
       have HE:Hid (LA=.ok [[t,u,J]]):=HL3
       clear HL3 HWW HCT
       go_wp2_with fail
       rename_i K9 hK9
       have hsz1:t.name.size+u.name.size≤9223372036854775807:=by have:=HNT.out;have:=HNU.out;omega
       refine region_last (w0:=y8) [rPure [] [0] (fun | [v]=>v=.slice (some ⟨b,off,none⟩) 3 cap | _=>False),
         rPure [] [1] (fun | [v]=>v=.slice (some ⟨b,off,none⟩) 3 cap | _=>False),
         rPure [1] [2] (fun | [v]=>v=.pointer (some ⟨b,off,none⟩) | _=>False),
         rPure [1,2] [3] (fun | [v]=>v=.pointer (some ⟨b,off+2,none⟩) | _=>False),
         rVal [1,2,3] [4] (fun | [v]=>v=.string t.name | _=>False),
         rPure [] [5] (fun | [v]=>v=.slice (some ⟨b,off,none⟩) 3 cap | _=>False),
         rPure [5] [6] (fun | [v]=>v=.pointer (some ⟨b,off+4,none⟩) | _=>False),
         rPure [5,6] [7] (fun | [v]=>v=.pointer (some ⟨b,off+4+2,none⟩) | _=>False),
         rVal [5,6,7] [8] (fun | [v]=>v=.string u.name | _=>False),
         rPure [1,2,3,4,5,6,7,8] [9] (fun | [v]=>v=.string (t.name++u.name) | _=>False),
         rPure [1,2,3,4,5,6,7,8,9] [10] (fun | [v]=>v=.agg #[.int .i64 2,.int .i64 0,.string (t.name++u.name),.slice none 0 0] | _=>False),
         rOne [1,2,3,4,5,6,7,8,9,10] 11 y8.heap.size J,
         rLast (List.range 12) [12] (fun _=>True),
         rPure (List.range 13) [13,12] (fun | [v,u]=>v=u | _=>False)]
         [some 46,some 47,some 48,some 49,some 50,some 51,some 52,some 53,some 54,some 55,some 56,some 57,some 58,some 2] (fun _=>True) (y8.heap.size) 12 (tWith w [[t,u,J]]) (by kernel_rfl) (Nat.le_refl _) (by kernel_rfl) (by kernel_rfl) ⟨by decide,rfl⟩ (fun j o ho=>?srv9) (fun val Y hv HF=>?fin9)
       case srv9=>
         have hlt:j<14:=(Array.getElem?_eq_some_iff.1 ho).1
         rcases (show j=0∨j=1∨j=2∨j=3∨j=4∨j=5∨j=6∨j=7∨j=8∨j=9∨j=10∨j=11∨j=12∨j=13 by omega) with rfl | rfl | rfl | rfl | rfl | rfl | rfl | rfl | rfl | rfl | rfl | rfl | rfl | rfl
         ·cases ho
          refine srv_pure rfl rfl (fun val E hE hA=>?_)
          have e0:=hE.t 0 (.slice (some ⟨b,off,none⟩) 3 cap) rfl
          exact ⟨.slice (some ⟨b,off,none⟩) 3 cap,fun X=>by simp [execOp,go_sem,e0],rfl⟩
         ·cases ho
          refine srv_pure rfl rfl (fun val E hE hA=>?_)
          have e0:=hE.t 0 (.slice (some ⟨b,off,none⟩) 3 cap) rfl
          exact ⟨.slice (some ⟨b,off,none⟩) 3 cap,fun X=>by simp [execOp,go_sem,e0],rfl⟩
         ·cases ho
          refine srv_pure rfl rfl (fun val E hE hA=>?_)
          have e47:=hE.t 47 (val 1) rfl
          have h1:val 1=.slice (some ⟨b,off,none⟩) 3 cap:=hA 1 (oz rfl)
          exact ⟨.pointer (some ⟨b,off,none⟩),fun X=>by simp [execOp,go_sem,hE.c,e47,h1],rfl⟩
         ·cases ho
          refine srv_pure rfl rfl (fun val E hE hA=>?_)
          have e48:=hE.t 48 (val 2) rfl
          have h2:val 2=.pointer (some ⟨b,off,none⟩):=hA 2 (oz rfl)
          exact ⟨.pointer (some ⟨b,off+2,none⟩),fun X=>by simp [execOp,go_sem,e48,h2],rfl⟩
         ·cases ho
          refine srv_val rfl rfl (fun _ _ _=>trivial) (fun val E X hE hB hA=>?_)
          have e49:=hE.t 49 (val 3) rfl
          have h3:val 3=.pointer (some ⟨b,off+2,none⟩):=hA 3 (oz rfl)
          have HX:=(HY_8.out.keep hB).all
          simp only [rowsC,rowC,List.flatMap_cons,List.flatMap_nil,List.cons_append,List.nil_append,cellsAll,Nat.add_zero,Nat.zero_add,Nat.reduceAdd,and_true] at HX
          exact ⟨.string t.name,by simp [execOp,go_sem,e49,h3,HX],rfl⟩
         ·cases ho
          refine srv_pure rfl rfl (fun val E hE hA=>?_)
          have e0:=hE.t 0 (.slice (some ⟨b,off,none⟩) 3 cap) rfl
          exact ⟨.slice (some ⟨b,off,none⟩) 3 cap,fun X=>by simp [execOp,go_sem,e0],rfl⟩
         ·cases ho
          refine srv_pure rfl rfl (fun val E hE hA=>?_)
          have e51:=hE.t 51 (val 5) rfl
          have h5:val 5=.slice (some ⟨b,off,none⟩) 3 cap:=hA 5 (oz rfl)
          exact ⟨.pointer (some ⟨b,off+4,none⟩),fun X=>by simp [execOp,go_sem,hE.c,e51,h5],rfl⟩
         ·cases ho
          refine srv_pure rfl rfl (fun val E hE hA=>?_)
          have e52:=hE.t 52 (val 6) rfl
          have h6:val 6=.pointer (some ⟨b,off+4,none⟩):=hA 6 (oz rfl)
          exact ⟨.pointer (some ⟨b,off+4+2,none⟩),fun X=>by simp [execOp,go_sem,e52,h6],rfl⟩
         ·cases ho
          refine srv_val rfl rfl (fun _ _ _=>trivial) (fun val E X hE hB hA=>?_)
          have e53:=hE.t 53 (val 7) rfl
          have h7:val 7=.pointer (some ⟨b,off+4+2,none⟩):=hA 7 (oz rfl)
          have HX:=(HY_8.out.keep hB).all
          simp only [rowsC,rowC,List.flatMap_cons,List.flatMap_nil,List.cons_append,List.nil_append,cellsAll,Nat.add_zero,Nat.zero_add,Nat.reduceAdd,and_true] at HX
          exact ⟨.string u.name,by simp [execOp,go_sem,e53,h7,HX],rfl⟩
         ·cases ho
          refine srv_pure rfl rfl (fun val E hE hA=>?_)
          have e50:=hE.t 50 (val 4) rfl
          have h4:val 4=.string t.name:=hA 4 (oz rfl)
          have e54:=hE.t 54 (val 8) rfl
          have h8:val 8=.string u.name:=hA 8 (oz rfl)
          exact ⟨.string (t.name++u.name),fun X=>by simp [execOp,go_sem,e50,h4,e54,h8,hsz1],rfl⟩
         ·cases ho
          refine srv_pure rfl rfl (fun val E hE hA=>?_)
          have e55:=hE.t 55 (val 9) rfl
          have h9:val 9=.string (t.name++u.name):=hA 9 (oz rfl)
          exact ⟨.agg #[.int .i64 2,.int .i64 0,.string (t.name++u.name),.slice none 0 0],fun X=>by simp [execOp,go_sem,hE.c,e55,h9],rfl⟩
         ·cases ho
          refine srv_mk rfl rfl fun val E X N hE hC hA hc=>?_
          have h10:val 10=.agg #[.int .i64 2,.int .i64 0,.string (t.name++u.name),.slice none 0 0]:=hA 10 (oz rfl)
          have e56:=hE.t 56 (val 10) rfl
          have hal:=(Below.refl X.heap.size X).alloc (Nat.le_refl _) (.cells #[.int .i64 2,.int .i64 0,.string (t.name++u.name),.slice none 0 0] 32)
          exact ⟨.slice (some ⟨X.heap.size,0,none⟩) 1 1,X.alloc (.cells #[.int .i64 2,.int .i64 0,.string (t.name++u.name),.slice none 0 0] 32),by simp [execOp,go_sem,e56,h10],hal,⟨_,rfl⟩,fun N' h1 h2=>⟨_,none,0,rfl,h2 _ (Nat.le_refl _) (by simp),(show Bk _ _ (rowC (J,none,0)) from by rw [show rowC (J,none,0)=[.int .i64 2,.int .i64 0,.string (t.name++u.name),.slice none 0 0] by unfold rowC;rw [HJC.out.1,HJC.out.2.1,HJC.out.2.2.1,HJC.out.2.2.2];rfl];exact Bk.new X _ 32),by rw [HJC.out.2.2.2];exact TmsK.nil⟩⟩
         ·cases ho
          refine srv_last rfl rfl fun val E X N hE hC hA hc _=>?_
          obtain ⟨g,qa,qc,h11,hg,hb,ht⟩:∃g qa qc,val 11=.slice (some ⟨g,0,none⟩) 1 1∧N g∧Bk X g (rowC (J,qa,qc))∧TmsK (fun b=>N b∧y8.heap.size≤b) X qa J.args:=hc 11 (oz rfl) rfl
          have e46:=hE.t 46 (val 0) rfl
          have h0:val 0=.slice (some ⟨b,off,none⟩) 3 cap:=hA 0 (oz rfl)
          have e57:=hE.t 57 (val 11) rfl
          exact .inr (.inr ⟨_,_,X,by simp [execOp,go_sem,hE.f,hE.c,e46,h0,e57,h11] <;> rfl,(HWI.out X qa qc g (HY_8.out.keep hC.bel) (show Bk X g [_,_,_,_] from hb) (TmsK.at' ht)).mono fun e w' h=>by
           obtain ⟨hB,A9,c9,he,hr⟩:=h
           exact ⟨_,he,trivial,A9,c9,rfl,hr,(HB_8.out.trans (hC.bel.mono HB_8.out.size)).trans (hB.mono (HB_8.out.trans (hC.bel.mono HB_8.out.size)).size)⟩⟩)
         ·cases ho
          refine srv_pure rfl rfl (fun val E hE hA=>?_)
          have e58:=hE.t 58 (val 12) rfl
          exact ⟨val 12,fun X=>by simp [execOp,go_sem,e58],rfl⟩
       case fin9=>
        have h0:val 0=.slice (some ⟨b,off,none⟩) 3 cap:=hv 0 (by decide)
        have h1:val 1=.slice (some ⟨b,off,none⟩) 3 cap:=hv 1 (by decide)
        have h2:val 2=.pointer (some ⟨b,off,none⟩):=hv 2 (by decide)
        have h3:val 3=.pointer (some ⟨b,off+2,none⟩):=hv 3 (by decide)
        have h4:val 4=.string t.name:=hv 4 (by decide)
        have h5:val 5=.slice (some ⟨b,off,none⟩) 3 cap:=hv 5 (by decide)
        have h6:val 6=.pointer (some ⟨b,off+4,none⟩):=hv 6 (by decide)
        have h7:val 7=.pointer (some ⟨b,off+4+2,none⟩):=hv 7 (by decide)
        have h8:val 8=.string u.name:=hv 8 (by decide)
        have h9:val 9=.string (t.name++u.name):=hv 9 (by decide)
        have h10:val 10=.agg #[.int .i64 2,.int .i64 0,.string (t.name++u.name),.slice none 0 0]:=hv 10 (by decide)
        obtain ⟨_,h11⟩:∃g,val 11=.slice (some ⟨g,0,none⟩) 1 1:=hv 11 (by decide)
        obtain ⟨v9,h12⟩:∃v9,val 12=v9:=⟨_,rfl⟩
        have h13:val 13=val 12:=hv 13 (by decide)
        rw [h12] at h13
        obtain ⟨A9,c9,hv9,hr9,hb9⟩:∃A c,val 12=.slice A 1 c∧RowsAt Y A [[t,u,J]]∧Below w.heap.size w Y:=HF
        rw [h12] at hv9
        subst hv9
        refine hK9 _ _ ?_
        simp only [fillD,List.set_cons_zero,List.set_cons_succ,Nat.reduceAdd,Nat.zero_add,h0,h1,h2,h3,h4,h5,h6,h7,h8,h9,h10,h11,h12,h13]
        have HBZ:=zq hb9
        have HRZ:=zq hr9
        clear hv h0 h1 h2 h3 h4 h5 h6 h7 h8 h9 h10 h11 h12 h13 hK9 hr9 hb9
        go_wp2_with fail
        go_ret
        exact ⟨HBZ.out,by rw [HE.out];exact ⟨A9,c9,rfl,HRZ.out⟩⟩
    ·skip
     have HE:Hid (LA=.ball biT):=HL2
     have fHY_6:=HY_6.out.all
     simp only [rowsC,rowC,List.flatMap_cons,List.flatMap_nil,List.cons_append,List.nil_append,cellsAll,Nat.add_zero,Nat.zero_add,Nat.reduceAdd,and_true] at fHY_6
     go_wp2_with fail
     refine (HIN.out _).mono ?_;rintro e w1 ⟨xa,xc,rfl,hB,hN⟩
     have HB1_:=bz HB_6 hB
     have HN1_:=zq hN.tms
     clear hB hN
     go_wp2_with fail
     refine (HTH.out _ _ _ _ HN1_.out).mono ?_;rintro e wt ⟨hBt,⟨At,ct,rfl,hTt⟩⟩
     exact ⟨rfl,HB1_.out.trans (hBt.mono HB1_.out.size),by rw [HE.out];exact ⟨At,ct,rfl,hTt⟩⟩
end Go.Proofs.YtpokpgkjaifccaaGreatDoorRR
