/- Parts of the proof. -/
import Derived.Test.YtpokpgkjaifccaaGreatDoorRRH01
import Derived.Test.YtpokpgkjaifccaaGreatDoorRRH16
import Derived.Test.YtpokpgkjaifccaaGreatDoorRRH04
import Derived.Shelf.Abstract
import Derived.Shelf.RegionOpen
import Derived.WalkKit
import Derived.OwnWalkIn
import Derived.TacticsInMore
import Derived.LoopNIn
import Derived.LoopIn
namespace Hb
open Go Go.RowKit
def spRow (k m:Nat):List (Nat×Nat):=(List.range m).map fun d=>(k,k+d)
def spN (n k j:Nat):List (Nat×Nat):=(List.range k).flatMap (fun lo=>spRow lo (n+1-lo))++spRow k j
def spansL (n:Nat):List (Nat×Nat):=(List.range (n+1)).flatMap fun lo=>spRow lo (n+1-lo)
theorem spN_end (n:Nat):spN n (n+1) 0=spansL n:=by simp [spN,spansL,spRow]
theorem spN_snoc (n k j:Nat):spN n k (j+1)=spN n k j++[(k,k+j)]:=by simp [spN,spRow,List.range_succ]
theorem spN_row (n k:Nat):spN n k (n+1-k)=spN n (k+1) 0:=by simp [spN,spRow,List.range_succ]
theorem range_split (a b:Nat):List.range (a+b)=List.range a++(List.range b).map (fun x=>a+x):=by rw [List.range_add]
theorem spN_pre (n k j:Nat) (hk:k≤n) (hj:j≤n+1-k):spN n k j <+: spansL n:=by
 have h1:spN n k j <+: spN n (k+1) 0:=by
  rw [←spN_row]
  obtain ⟨d,hd⟩:=Nat.exists_eq_add_of_le hj
  rw [hd]
  refine ⟨(List.range d).map (fun x=>(k,k+(j+x))),?_⟩
  simp [spN,spRow,range_split,List.map_append,List.map_map,Function.comp_def]
 refine h1.trans ?_
 obtain ⟨d,hd⟩:=Nat.exists_eq_add_of_le (show k+1≤n+1 by omega)
 refine ⟨((List.range d).map (fun x=>k+1+x)).flatMap (fun lo=>spRow lo (n+1-lo)),?_⟩
 unfold spansL spN
 rw [hd,range_split (k+1) d,List.flatMap_append]
 simp [spRow]
def KB (b:Nat) (W W':World):Prop:=W'.heap[b]? = W.heap[b]?
theorem KB.trans {b:Nat} {X Y Z:World} (h:KB b X Y) (k:KB b Y Z):KB b X Z:=Eq.trans k h
theorem KB.put {b:Nat} (W:World) (l:Nat) (o':Obj) (h:b≠l):KB b W (W.putObj l o'):=World.putObj_heap_other h
theorem KB.below {b B:Nat} {W W':World} (h:Below B W W') (hb:b<B):KB b W W':=h.block b hb
theorem spM (k n:Nat) (z:Int) (hz:z=(k:Int)+1) (h:k<n):n-(intOf (.int .i64 z)).toNat<n-(intOf (.int .i64 (k:Int))).toNat:=by
 subst hz
 simp only [intOf]
 omega
end Hb
namespace Go.Proofs.YtpokpgkjaifccaaGreatDoorRR
open Go.RowKit Hb Go.Shelf
attribute [local go_sem] Oper.semAt_some
set_option maxRecDepth 100000
theorem a_spans (n:Nat) (w:World):Calls Tryz.prog 28 #[.int .i64 n] w fun e w'=>e=.returned (.func (.func 51) #[] #[.pointer (some ⟨w.heap.size,0,none⟩)])∧w'=w.alloc (.cells #[.int .i64 n] 3):=by
 have hmf:∀(fn:Fn) (first cap:Array Value) (w:World),(Instr.makeFunc fn first cap).run Tryz.prog w=.ok (.func fn first cap) w:=fun _ _ _ _=>rfl
 go_enter Tryz.func28,Tryz.ntmps28
 go_wp2_with fail
 go_ret
 exact ⟨rfl,rfl⟩
set_option maxHeartbeats 2000000 in
theorem spans_stops (m n Bn:Nat) (w:World) (hn:n≤1000000) (hX:Bk w Bn [.int .i64 n]) :
  SeqX Fence.wide m Tryz.prog 51 #[.pointer (some ⟨Bn,0,none⟩)] (fun x:Nat×Nat=>#[.agg #[.int .i64 x.1,.int .i64 x.2]]) (fun _ _=>True) (KB Bn) (fun xs=>xs=spansL n) (fun pre=>pre <+: spansL n) w:=fun l J Jx W hW hJ hJx hY h0=>by
 have hX1:=zq (hX.call (hW.mono (Nat.le_refl _)))
 have HJ0:=zq h0
 have HN:=zq hn
 have c0:=hX1.out.c 0 _ rfl
 have hw1:wrap64 ((n:Int)+1)=(n:Int)+1:=IntWalk.wrap64_in _ (by omega)
 clear hX hn h0
 refine callsIn_of_wp Tryz.func51 rfl trivial ?_ rfl
 simp only [Tryz.ntmps51,List.size_toArray,List.length_cons,List.length_nil,Nat.reduceAdd,Nat.reduceSub,Array.replicate_succ,Array.replicate_zero,List.push_toArray,List.append_toArray,List.nil_append,List.cons_append]
 gi_wp2
 try rw [hw1]
 clear c0
 gi_loopw [7] (fun i wr=>∃k:Nat,k≤n+1∧i=.int .i64 k∧Hid (J (spN n k 0) wr)∧Hid (Bk wr Bn [.int .i64 n])) (fun i _=>n+1-(intOf i).toNat)
 case atStart=>exact ⟨0,Nat.zero_le _,rfl,HJ0,hX1⟩
 case round=>
  obtain ⟨k,hk,rfl,HJK,HBK⟩:=hrel
  by_cases hlt:k<n+1
  ·have hw2:wrap64 ((k:Int)+1)=(k:Int)+1:=IntWalk.wrap64_in _ (by have:=HN.out;omega)
   have k0:(k:Int)<(n:Int)+1:=by omega
   gi_wp2
   gi_loopw [4] (fun h wi=>∃q:Nat,k≤q∧q≤n+1∧h=.int .i64 (q:Int)∧Hid (J (spN n k (q-k)) wi)∧Hid (Bk wi Bn [.int .i64 n])) (fun h _=>n+1-(intOf h).toNat)
   case atStart=>exact ⟨k,Nat.le_refl _,by omega,rfl,by rw [Nat.sub_self];exact HJK,HBK⟩
   case round=>
    obtain ⟨q,hkq,hq,rfl,HJJ,HBJ⟩:=hrel
    have c1:=HBJ.out.c 0 _ rfl
    by_cases hlj:q<n+1
    ·have k1:(q:Int)≤(n:Int):=by omega
     have hw3:wrap64 ((q:Int)+1)=(q:Int)+1:=IntWalk.wrap64_in _ (by have:=HN.out;omega)
     have HP1:Hid (spN n k (q-k)++[(k,q)]=spN n k (q+1-k)):=zq (by rw [show q+1-k=q-k+1 by omega,spN_snoc,show k+(q-k)=q by omega])
     obtain ⟨fn,tmps,assign,body,hy,hR⟩:=hY (spN n k (q-k)) (k,q) _ HJJ.out trivial (by rw [HP1.out];exact spN_pre n k (q+1-k) (by omega) (by omega))
     dsimp only at hy
     gi_wp2
     refine ⟨fun h=>(by cases h),hR.mono ?_⟩
     rintro e W3 (⟨rfl,hJ3,hk3⟩ | ⟨rfl,hJx3⟩)
     ·have HJ3:Hid (J (spN n k (q+1-k)) W3):=zq (by rw [←HP1.out];exact hJ3)
      have HB3:=zq (HBJ.out.keeps hk3)
      have c2:=HB3.out.c 0 _ rfl
      clear hk3 hJ3 hR hy c1
      gi_wp2
      go_roundw
      case rel=>exact ⟨q+1,by omega,by omega,by go_num,HJ3,HB3⟩
      case measure=>exact spM q _ _ hw3 (by omega)
     ·gi_wp2
      refine bodyPost_ret (results_none rfl _ _ _) rfl ?_
      exact ⟨⟨_,rfl⟩,.inr ⟨_,by rw [HP1.out];exact spN_pre n k (q+1-k) (by omega) (by omega),hJx3⟩⟩
    ·have hjn:q=n+1:=by omega
     subst hjn
     have k1:¬((n+1:Nat):Int)≤(n:Int):=by omega
     have HJ4:=zq (show J (spN n (k+1) 0) _ from by rw [←spN_row];exact HJJ.out)
     gi_wp2
     go_roundw
     case rel=>exact ⟨k+1,by omega,by go_num,HJ4,HBJ⟩
     case measure=>exact spM k _ _ hw2 hlt
  ·have hkn:k=n+1:=by omega
   subst hkn
   gi_wp2
   go_end0
   exact ⟨⟨_,rfl⟩,.inl ⟨_,spN_end n,HJK.out⟩⟩
end Go.Proofs.YtpokpgkjaifccaaGreatDoorRR
