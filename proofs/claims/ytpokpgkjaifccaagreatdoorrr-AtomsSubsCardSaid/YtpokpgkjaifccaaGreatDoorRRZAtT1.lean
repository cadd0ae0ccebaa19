/- Atoms: reference 15's Sub; the law AtomsSubs. -/
import Derived.Test.YtpokpgkjaifccaaGreatDoorRRH01
import Derived.Test.YtpokpgkjaifccaaGreatDoorRRH30
import Derived.Laws.OwnMore
import Derived.Deep.AppendLies
import Derived.BigQuiet
import Derived.Deep.QuietTactic
namespace Hb
open Go Go.RowKit
theorem spN_len (n k:Nat) (hn:n≤100) (hk:k≤n) (j:Nat) (hj:j≤n+1-k):(spN n k j).length≤10201:=Nat.le_trans (spN_pre n k j hk hj).length_le (spansL_len n hn)
theorem spCs_at:∀(l:List (Nat×Nat)) (i:Nat) (h:i<l.length),(spCs l)[i * 2]? = some (.int .i64 (l[i]'h).1)∧(spCs l)[i * 2+1]? = some (.int .i64 (l[i]'h).2)
 | [],i,h=>by simp at h
 | x::l,0,h=>⟨rfl,rfl⟩
 | x::l,i+1,h=>by
  have:=spCs_at l i (by simpa using h)
  rw [show (i+1) * 2=i * 2+2 by omega,show i * 2+2+1=i * 2+1+2 by omega]
  exact this
theorem spansL_pos (n:Nat):0<(spansL n).length:=by
 have h:(0,0)∈spansL n:=by
  simp only [spansL,spRow,List.mem_flatMap,List.mem_map,List.mem_range,Prod.mk.injEq]
  exact ⟨0,by omega,0,by omega,rfl,rfl⟩
 exact List.length_pos_of_mem h
theorem span_at {w:World} {base e g n cap:Nat} {l:List (Nat×Nat)} (h:w.ownsRow base e 2 (.slice (some ⟨g,0,none⟩) n cap) n (spCs l)) (hn:n=l.length) (i:Nat) (hi:i<l.length) :
  w.cell? ⟨g,i * 2,none⟩=some (.int .i64 (l[i]'hi).1)∧w.cell? ⟨g,i * 2+1,none⟩=some (.int .i64 (l[i]'hi).2)∧∀j,w.frozen? ⟨g,j,none⟩=false :=
 ⟨(h.cellAt _ (by omega)).trans (spCs_at l i hi).1,(h.cellAt _ (by omega)).trans (spCs_at l i hi).2,fun j=>h.frozenAt j⟩
end Hb
namespace Go.Proofs.YtpokpgkjaifccaaGreatDoorRR
open Go.RowKit Hb Go.Shelf
set_option maxRecDepth 100000
set_option maxHeartbeats 2000000 in
theorem r15_Sub (s:ByteArray) (w:World) :
  Calls Tryz.prog 14 #[.string s] w fun e w'=>Below w.heap.size w w'∧if s.size≤100 then ∃v,e=.returned v∧w'.ownsRow w.heap.size 27 2 v (spansL s.size).length (spCs (spansL s.size)) else e=.returned (.slice none 0 0):=by
 obtain ⟨i0,hi0,hz0,hz1,hz2⟩:=info_parts infoSpan
 have HI:=zq hi0
 have HZ0:=zq hz0
 have HZ1:=zq hz1
 have HZ2:=zq hz2
 clear hi0 hz0 hz1 hz2
 by_cases hs:s.size≤100
 ·simp only [if_pos hs]
  obtain ⟨n,HN⟩:=lz (s.size)
  rw [←HN.out] at hs ⊢
  have h1:¬(100:Int)<(s.size:Int):=by rw [←HN.out];omega
  go_enter Tryz.func14,Tryz.ntmps14
  go_wp2_with fail
  go_loopw [3,4] (fun v i wr=>∃k:Nat,k≤n+1∧i=.int .i64 k∧Hid (wr.ownsRow w.heap.size 27 2 v (spN n k 0).length (spCs (spN n k 0)))∧Hid (Below w.heap.size w wr)) (fun _ i _=>n+1-(intOf i).toNat)
  case atStart=>exact ⟨0,Nat.zero_le _,rfl,zq (World.ownsRow_nil _ _ _ _),zq (Below.refl _ _)⟩
  case round=>
   obtain ⟨k,hk,rfl,HRK,HBK⟩:=hrel
   by_cases hlt:k<n+1
   ·have hw2:wrap64 ((k:Int)+1)=(k:Int)+1:=IntWalk.wrap64_in _ (by omega)
    have k0:(k:Int)≤(s.size:Int):=by rw [←HN.out];omega
    go_wp2_with fail
    go_loopw [3,5] (fun v h wi=>∃q:Nat,k≤q∧q≤n+1∧h=.int .i64 (q:Int)∧Hid (wi.ownsRow w.heap.size 27 2 v (spN n k (q-k)).length (spCs (spN n k (q-k))))∧Hid (Below w.heap.size w wi)) (fun _ h _=>n+1-(intOf h).toNat)
    case atStart=>exact ⟨k,Nat.le_refl _,by omega,rfl,by rw [Nat.sub_self];exact HRK,HBK⟩
    case round=>
     obtain ⟨q,hkq,hq,rfl,HRQ,HBQ⟩:=hrel
     obtain ⟨rv,hrv⟩:∃v,v=u3:=⟨_,rfl⟩
     subst hrv
     by_cases hlj:q<n+1
     ·have k1:(q:Int)≤(s.size:Int):=by rw [←HN.out];omega
      have hw3:wrap64 ((q:Int)+1)=(q:Int)+1:=IntWalk.wrap64_in _ (by omega)
      obtain ⟨L,HL⟩:=lz (spN n k (q-k))
      have HP1:Hid (L++[(k,q)]=spN n k (q+1-k)):=zq (by rw [HL.out,show q+1-k=q-k+1 by omega,spN_snoc,show k+(q-k)=q by omega])
      have HLL:Hid (L.length≤10201):=zq (by rw [HL.out];exact spN_len n k hs (by omega) _ (by omega))
      rw [←HL.out] at HRQ
      clear HL
      go_wp2_with (at_builtin;go_must (refine wpList_append_own _ rfl _ _ 24 rfl w.heap.size 27 i0 (.agg #[.int .i64 0,.int .i64 0]) 2 16 Tryz.underlying24 HI.out HZ0.out HZ1.out HZ2.out rfl (by decide) _ _ _ rfl (HRQ.out.alloc _) ⟨wr.heap.size,0,none⟩ 1 1 [.int .i64 k,.int .i64 q] rfl rfl (fun j u hu=>by rw [addr_add,Nat.zero_add];exact (Bk.new wr [.int .i64 k,.int .i64 q] 27).c j u hu) (fun u hu=>by simp at hu;rcases hu with rfl | rfl <;> rfl) (by have:=HLL.out;unfold maxLen;omega) (by have:=HLL.out;omega) (by have:=HBQ.out.size;simp;omega) ?_;intro v9 w9 hown9 hg9 _))
      have HR9:Hid (w9.ownsRow w.heap.size 27 2 v9 (spN n k (q+1-k)).length (spCs (spN n k (q+1-k)))):=zq (by rw [←HP1.out,spCs_snoc,List.length_append];exact hown9)
      have HB9:Hid (Below w.heap.size w w9):=zq ((HBQ.out.alloc HBQ.out.size _).grown hg9 (by have:=HBQ.out.size;simp;omega) (fun b hb=>by
       have hb':rv.ownBlock=some b:=hb
       rcases HRQ.out.2 with ⟨h,_⟩ | ⟨g,cap,cur,h,hg,_⟩
       ·rw [h] at hb';cases hb'
       ·rw [h] at hb';cases hb';exact hg))
      clear hown9 hg9
      go_wp2_with fail
      go_roundw
      case rel=>exact ⟨q+1,by omega,by omega,by go_num,HR9,HB9⟩
      case measure=>first | exact spM q _ _ rfl (by omega) | exact spM q _ _ hw3 (by omega)
     ·have hjn:q=n+1:=by omega
      subst hjn
      have k1:¬((n+1:Nat):Int)≤(s.size:Int):=by rw [←HN.out];omega
      have HJ4:=zq (show _ from HRQ.out)
      rw [spN_row] at HRQ
      go_wp2_with fail
      go_roundw
      case rel=>exact ⟨k+1,by omega,by go_num,HRQ,HBQ⟩
      case measure=>first | exact spM k _ _ rfl hlt | exact spM k _ _ hw2 hlt
   ·have hkn:k=n+1:=by omega
    subst hkn
    have k0:¬((n+1:Nat):Int)≤(s.size:Int):=by rw [←HN.out];omega
    rw [spN_end] at HRK
    go_wp2_with fail
    go_ret
    exact ⟨HBK.out,_,rfl,HRK.out⟩
 ·simp only [if_neg hs]
  have h1:(100:Int)<(s.size:Int):=by omega
  go_enter Tryz.func14,Tryz.ntmps14
  go_wp2_with fail
  go_ret
  exact ⟨Below.refl _ _,rfl⟩
theorem law_subs (s:ByteArray) (w:World) (hD:DoorOk w):Calls Tryz.prog 4 #[.string s] w fun e w'=>e=.returned (.bool true)∧Below w.heap.size w w':=by
 have HP:=zq (fun W=>a_Sub s W)
 have HR:=zq (fun W=>r15_Sub s W)
 have HA:=zq (fun W (h:Below w.heap.size w W)=>l_awake W (hD.below h))
 clear hD
 go_enter Tryz.func4,Tryz.ntmps4
 go_wp2_with fail
 refine (HP.out _).mono ?_;rintro e w1 ⟨hB,h1⟩
 have HB1:=zq hB
 by_cases hs:s.size≤100
 ·rw [if_pos hs] at h1
  obtain ⟨v1,rfl,hr1⟩:=h1
  have HR1:=zq hr1
  clear hB hr1
  go_wp2_with fail
  refine (HR.out _).mono ?_;rintro e w2 ⟨hB,h2⟩
  rw [if_pos hs] at h2
  obtain ⟨v2,rfl,hr2⟩:=h2
  have HB2:=bz HB1 hB
  have HR12:=zq (own_below HR1.out hB)
  have HR2:=zq hr2
  clear hB hr2 HB1
  obtain ⟨N,HN⟩:=lz ((spansL s.size).length)
  have HNS:=zq (spansL_len s.size hs)
  have HNP:=zq (spansL_pos s.size)
  obtain ⟨L,HL⟩:=lz (spansL s.size)
  rw [←HL.out] at HN HNS HNP HR12 HR2
  rw [←HN.out] at HNS HNP HR12 HR2
  obtain ⟨g1,c1,rfl,_,_⟩:=HR12.out.form HNP.out
  obtain ⟨g2,c2,rfl,_,_⟩:=HR2.out.form HNP.out
  have hNN:((N:Int)==(N:Int))=true:=by simp
  clear HR1 HP HR hs
  go_wp2_with fail
  go_loopw [5] (fun i wr=>∃k:Nat,k≤N∧i=.int .i64 k∧Hid (Below w2.heap.size w2 wr)) (fun i _=>N-(intOf i).toNat)
  case atStart=>exact ⟨0,Nat.zero_le _,rfl,zq (Below.refl _ _)⟩
  case round=>
   obtain ⟨k,hk,rfl,HBW⟩:=hrel
   by_cases hlt:k<N
   ·have k0:(k:Int)<(N:Int):=by omega
    have k1:(0:Int)≤(k:Int):=by omega
    have hw2:wrap64 ((k:Int)+1)=(k:Int)+1:=IntWalk.wrap64_in _ (by have:=HNS.out;omega)
    obtain ⟨x,HX⟩:=lz (L[k]'(by rw [←HN.out];exact hlt))
    obtain ⟨p0,p1,pf⟩:=span_at (own_below HR12.out HBW.out) HN.out k (by rw [←HN.out];exact hlt)
    obtain ⟨q0,q1,qf⟩:=span_at (own_below HR2.out HBW.out) HN.out k (by rw [←HN.out];exact hlt)
    rw [←HX.out] at p0 p1 q0 q1
    go_wp2_with fail
    go_quiet (fail)
    clear p0 p1 q0 q1 pf qf
    go_wp2_with fail
    go_roundw
    case rel=>exact ⟨k+1,hlt,by go_num,zq (bl_drewN HBW.out _)⟩
    case measure=>first | exact spM k _ _ rfl hlt | exact spM k _ _ hw2 hlt
   ·have hkn:k=N:=by omega
    subst hkn
    have k0:¬(k:Int)<(k:Int):=by omega
    have HBX:=zq (HB2.out.trans (HBW.out.mono HB2.out.size))
    go_wp2_with fail
    refine (HA.out _ HBX.out).mono ?_;rintro e w3 ⟨rfl,hB⟩
    have HB3:=bz HBX hB
    clear hB HBX
    go_wp2_with fail
    go_ret
    exact ⟨rfl,HB3.out⟩
 ·rw [if_neg hs] at h1
  subst h1
  clear hB
  go_wp2_with fail
  refine (HR.out _).mono ?_;rintro e w2 ⟨hB,h2⟩
  rw [if_neg hs] at h2
  subst h2
  have HB2:=bz HB1 hB
  clear hB HB1
  go_wp2_with fail
  go_loopw [5] (fun i wr=>i=.int .i64 0∧wr=w2) (fun i _=>0)
  case atStart=>exact ⟨rfl,rfl⟩
  case round=>
   obtain ⟨rfl,rfl⟩:=hrel
   go_wp2_with fail
   refine (HA.out _ HB2.out).mono ?_;rintro e w3 ⟨rfl,hB⟩
   have HB3:=bz HB2 hB
   clear hB HB2
   go_wp2_with fail
   go_ret
   exact ⟨rfl,HB3.out⟩
end Go.Proofs.YtpokpgkjaifccaaGreatDoorRR
