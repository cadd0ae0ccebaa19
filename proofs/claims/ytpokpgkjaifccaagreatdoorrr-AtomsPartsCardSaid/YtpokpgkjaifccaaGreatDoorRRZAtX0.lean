/- Atoms, plain: the parts of an atom (AtomsParts). -/
import Derived.Test.YtpokpgkjaifccaaGreatDoorRRH01
import Derived.Test.YtpokpgkjaifccaaGreatDoorRRH28
namespace Hb
open Go Go.RowKit
theorem spans_count:∀n:Nat,n<43→(spansL n).length=(n+1) * (n+2) / 2∧(spansL n).length≤1000:=by decide +kernel
theorem spans_memX {n:Nat} {x:Nat×Nat}:x∈spansL n↔x.1≤x.2∧x.2≤n:=by
 simp only [spansL,spRow,List.mem_flatMap,List.mem_map,List.mem_range]
 constructor
 ·rintro ⟨lo,h1,d,h2,rfl⟩
  exact ⟨by simp,by simp;omega⟩
 ·rintro ⟨h1,h2⟩
  exact ⟨x.1,by omega,x.2-x.1,by omega,by ext <;> simp;omega⟩
theorem spans_nodup (n:Nat):(spansL n).Nodup:=by
 unfold spansL List.Nodup
 rw [List.pairwise_flatMap]
 constructor
 ·intro lo _
  unfold spRow
  rw [List.pairwise_map]
  exact List.Pairwise.imp (fun h e=>by injection e;omega) (List.pairwise_lt_range (n:=n+1-lo))
 ·refine List.Pairwise.imp (fun {a b} h x hx y hy e=>?_) (List.pairwise_lt_range (n:=n+1))
  unfold spRow at hx hy
  obtain ⟨_,_,rfl⟩:=List.mem_map.1 hx
  obtain ⟨_,_,rfl⟩:=List.mem_map.1 hy
  injection e
  omega
theorem filter_only {l:List (Nat×Nat)} (hn:l.Nodup) (f:Nat×Nat→Bool) (x:Nat×Nat) (hx:x∈l) (h:∀y∈l,f y=true↔y=x):l.filter f=[x]:=by
 have e:l.filter f=l.filter (· == x):=List.filter_congr fun y hy=>by
  have:=h y hy
  rw [Bool.eq_iff_iff,this,beq_iff_eq]
 rw [e,List.filter_beq,List.Nodup.count hn,if_pos hx];rfl
theorem parts_nums (n a b:Nat) (hn:n≤42):∃lo lg hi:Nat,lo≤hi∧hi≤n∧lo+lg=hi∧(a:Int).tmod ((n:Int)+1)=lo∧wrap64 ((n:Int)-lo)=(n:Int)-lo∧wrap64 ((n:Int)-lo+1)=(n:Int)-lo+1∧(b:Int).tmod ((n:Int)-lo+1)=lg∧wrap64 ((lo:Int)+lg)=hi:=by
 have h1:=Nat.mod_lt a (show 0<n+1 by omega)
 have h2:=Nat.mod_lt b (show 0<n-a % (n+1)+1 by omega)
 have e1:(a:Int).tmod ((n:Int)+1)=((a % (n+1):Nat):Int):=by
  rw [Int.tmod_eq_emod_of_nonneg (Int.natCast_nonneg a)];rfl
 have e2:(b:Int).tmod ((n:Int)-((a % (n+1):Nat):Int)+1)=((b % (n-a % (n+1)+1):Nat):Int):=by
  rw [Int.tmod_eq_emod_of_nonneg (Int.natCast_nonneg b),show (n:Int)-((a % (n+1):Nat):Int)+1=((n-a % (n+1)+1:Nat):Int) by omega]
  rfl
 generalize hlo:a % (n+1)=lo at *
 generalize hlg:b % (n-lo+1)=lg at *
 clear hlo hlg
 refine ⟨lo,lg,lo+lg,by omega,by omega,rfl,e1,IntWalk.wrap64_in _ (by omega),IntWalk.wrap64_in _ (by omega),e2,?_⟩
 rw [IntWalk.wrap64_in _ (by omega)]
 omega
end Hb
namespace Go.Proofs.YtpokpgkjaifccaaGreatDoorRR
open Go.RowKit Hb Go.Shelf
set_option maxRecDepth 100000
def spanT (s:ByteArray) (x:Nat×Nat):Tm:=strT nSub (atomT s::subRow s x)
section
variable (s:ByteArray) (h:s.size≤42)
include h
theorem span_ok (x:Nat×Nat):validT (spanT s x)=true :=
 valid_sm (by decide) (by simp [subRow]) (by simp [subRow]) ⟨small_atom (by omega),small_int _,small_int _,small_int _,small_atom (by simp;omega),trivial⟩
theorem pt_fin {l:List Tm} {f:Nat×Nat→Bool} (hc:canonA (strT nSub l)=true) (hp:predA nSub l=some (.ok (((spansL s.size).filter f).map fun x=>atomT s::subRow s x))) :
  callA (strT nSub l)=.ok (((spansL s.size).filter f).map (spanT s)):=by
 rw [call_ok hc hp (by rw [List.length_map];exact Nat.le_trans (List.length_filter_le ..) (spans_count s.size (by omega)).2) (fun r hr=>by
  obtain ⟨x,_,rfl⟩:=List.mem_map.1 hr
  exact span_ok s h x),List.map_map]
 rfl
theorem pt_gives {l:List Tm} {f:Nat×Nat→Bool} (hc:canonA (strT nSub l)=true) (hp:predA nSub l=some (.ok (((spansL s.size).filter f).map fun x=>atomT s::subRow s x))) :
  givesB (strT nSub l) (((spansL s.size).filter f).map (spanT s))=true:=by
 unfold givesB
 rw [pt_fin s h hc hp]
 exact sameL_self _ fun x hx=>by
  obtain ⟨y,_,rfl⟩:=List.mem_map.1 hx
  exact span_ok s h y
omit h in
theorem pt_sub (p q r u:Tm) (hp:sizeB p=none) (hq:sizeB q=none) (hr:sizeB r=none) (hu:atomB u=none):predA nSub [atomT s,p,q,r,u]=some (.ok (((spansL s.size).filter fun x=>(p.kind==0||sameT p (intT x.1))&&((q.kind==0||sameT q (intT (x.2-x.1:Nat)))&&((r.kind==0||sameT r (intT (s.size-x.2:Nat)))&&(u.kind==0||sameT u (atomT (s.extract x.1 x.2)))))).map fun x=>atomT s::subRow s x)):=by
 have e:predA nSub [atomT s,p,q,r,u]=some (subA (atomT s) p q r u):=rfl
 rw [e]
 unfold subA
 have h1:([p,q,r]:List Tm).findSome? sizeB=none:=by simp [hp,hq,hr]
 have h2:atomB (atomT s)=none:=atomB_no (.inr rfl)
 rw [if_neg (show ¬(atomT s).kind=0 from (by decide:¬(2:Int)=0)),h1,h2,hu,subL_eq]
 simp only [fits4]
 rfl
omit h in
theorem sz_int {n:Int} (h:0≤n):sizeB (intT n)=none:=by
 unfold sizeB
 rw [if_neg (fun k=>k (.inr rfl)),if_neg (fun k=>by have:n<0:=k.2;omega)]
theorem pt_all:callA (strT nSub [atomT s,varT 0,varT 1,varT 2,varT 3])=.ok ((spansL s.size).map (spanT s)):=by
 have hc:canonA (strT nSub [atomT s,varT 0,varT 1,varT 2,varT 3])=true:=canon_goal (valid_sm (by decide) (by simp) (by simp) ⟨small_atom (by omega),small_var 0 (by decide) (by decide),small_var 1 (by decide) (by decide),small_var 2 (by decide) (by decide),small_var 3 (by decide) (by decide),trivial⟩) (g_atom _ (g_var (g_var (g_var (g_var (GArgs.nil _))))))
 have hp:=pt_sub s (varT 0) (varT 1) (varT 2) (varT 3) rfl rfl rfl rfl
 exact (pt_fin s h hc hp).trans (congrArg (fun z=>CA.ok (z.map (spanT s))) (List.filter_eq_self.2 fun x _=>rfl))
theorem pt_part (p:ByteArray) (hp:p.size≤100):givesB (strT nSub [atomT s,varT 0,varT 1,varT 2,atomT p]) (((spansL s.size).filter fun x=>decide (p=s.extract x.1 x.2)).map (spanT s))=true:=by
 have hc:canonA (strT nSub [atomT s,varT 0,varT 1,varT 2,atomT p])=true:=canon_goal (valid_sm (by decide) (by simp) (by simp) ⟨small_atom (by omega),small_var 0 (by decide) (by decide),small_var 1 (by decide) (by decide),small_var 2 (by decide) (by decide),small_atom hp,trivial⟩) (g_atom _ (g_var (g_var (g_var (g_atom _ (GArgs.nil _))))))
 have hs:=pt_sub s (varT 0) (varT 1) (varT 2) (atomT p) rfl rfl rfl rfl
 have e:(fun x:Nat×Nat=>((varT 0).kind==0||sameT (varT 0) (intT x.1))&&(((varT 1).kind==0||sameT (varT 1) (intT (x.2-x.1:Nat)))&&(((varT 2).kind==0||sameT (varT 2) (intT (s.size-x.2:Nat)))&&((atomT p).kind==0||sameT (atomT p) (atomT (s.extract x.1 x.2))))))=fun x=>decide (p=s.extract x.1 x.2):=by
  funext x
  show sameT (atomT p) (atomT (s.extract x.1 x.2))=_
  exact same_atom hp (by simp;omega)
 rw [e] at hs
 exact pt_gives s h hc hs
theorem pt_start (b:Int) (hb:0≤b):givesB (strT nSub [atomT s,intT b,varT 0,varT 1,varT 2]) (((spansL s.size).filter fun x=>decide (b=(x.1:Int))).map (spanT s))=true:=by
 have hc:canonA (strT nSub [atomT s,intT b,varT 0,varT 1,varT 2])=true:=canon_goal (valid_sm (by decide) (by simp) (by simp) ⟨small_atom (by omega),small_int b,small_var 0 (by decide) (by decide),small_var 1 (by decide) (by decide),small_var 2 (by decide) (by decide),trivial⟩) (g_atom _ (g_int _ (g_var (g_var (g_var (GArgs.nil _))))))
 have hs:=pt_sub s (intT b) (varT 0) (varT 1) (varT 2) (sz_int hb) rfl rfl rfl
 have e:(fun x:Nat×Nat=>((intT b).kind==0||sameT (intT b) (intT x.1))&&(((varT 0).kind==0||sameT (varT 0) (intT (x.2-x.1:Nat)))&&(((varT 1).kind==0||sameT (varT 1) (intT (s.size-x.2:Nat)))&&((varT 2).kind==0||sameT (varT 2) (atomT (s.extract x.1 x.2))))))=fun x=>decide (b=(x.1:Int)):=by
  funext x
  show (sameT (intT b) (intT x.1)&&true)=_
  rw [same_int,Bool.and_true]
 rw [e] at hs
 exact pt_gives s h hc hs
theorem pt_len (q:Int) (hq:0≤q):givesB (strT nSub [atomT s,varT 0,intT q,varT 1,varT 2]) (((spansL s.size).filter fun x=>decide (q=((x.2-x.1:Nat):Int))).map (spanT s))=true:=by
 have hc:canonA (strT nSub [atomT s,varT 0,intT q,varT 1,varT 2])=true:=canon_goal (valid_sm (by decide) (by simp) (by simp) ⟨small_atom (by omega),small_var 0 (by decide) (by decide),small_int q,small_var 1 (by decide) (by decide),small_var 2 (by decide) (by decide),trivial⟩) (g_atom _ (g_var (g_int _ (g_var (g_var (GArgs.nil _))))))
 have hs:=pt_sub s (varT 0) (intT q) (varT 1) (varT 2) rfl (sz_int hq) rfl rfl
 have e:(fun x:Nat×Nat=>((varT 0).kind==0||sameT (varT 0) (intT x.1))&&(((intT q).kind==0||sameT (intT q) (intT (x.2-x.1:Nat)))&&(((varT 1).kind==0||sameT (varT 1) (intT (s.size-x.2:Nat)))&&((varT 2).kind==0||sameT (varT 2) (atomT (s.extract x.1 x.2))))))=fun x=>decide (q=((x.2-x.1:Nat):Int)):=by
  funext x
  show (sameT (intT q) (intT (x.2-x.1:Nat))&&true)=_
  rw [same_int,Bool.and_true]
 rw [e] at hs
 exact pt_gives s h hc hs
theorem pt_one (b q : Nat) (hq : b + q ≤ s.size) : givesB (strT nSub [atomT s, intT b, intT q, intT ((s.size : Int) - b - q), atomT (s.extract b (b + q))]) [strT nSub [atomT s, intT b, intT q, intT ((s.size : Int) - b - q), atomT (s.extract b (b + q))]] = true := by
  have hr : (s.size : Int) - b - q = ((s.size - (b + q) : Nat) : Int) := by omega
  have hx : (s.extract b (b + q)).size ≤ 100 := by simp; omega
  rw [hr]
  have hc : canonA (strT nSub [atomT s, intT b, intT q, intT ((s.size - (b + q) : Nat) : Int), atomT (s.extract b (b + q))]) = true := canon_goal (valid_sm (by decide) (by simp) (by simp) ⟨small_atom (by omega), small_int _, small_int _, small_int _, small_atom hx, trivial⟩) (g_atom _ (g_int _ (g_int _ (g_int _ (g_atom _ (GArgs.nil _))))))
  have hs := pt_sub s (intT b) (intT q) (intT ((s.size - (b + q) : Nat) : Int)) (atomT (s.extract b (b + q))) (sz_int (by omega)) (sz_int (by omega)) (sz_int (by omega)) rfl
  have := pt_gives s h hc hs
  rw [filter_only (spans_nodup _) _ (b, b + q) (spans_memX.2 ⟨by simp, hq⟩) (fun y hy => by
    obtain ⟨h1, h2⟩ := spans_memX.1 hy
    obtain ⟨y1, y2⟩ := y
    simp only [] at h1 h2 ⊢
    show ((sameT (intT b) (intT y1)) && ((sameT (intT q) (intT (y2 - y1 : Nat))) && ((sameT (intT ((s.size - (b + q) : Nat) : Int)) (intT (s.size - y2 : Nat))) && (sameT (atomT (s.extract b (b + q))) (atomT (s.extract y1 y2)))))) = true ↔ _
    rw [same_int, same_int, same_int, same_atom hx (by simp; omega)]
    simp only [Bool.and_eq_true, decide_eq_true_eq, Prod.mk.injEq]
    constructor
    · rintro ⟨e1, e2, e3, _⟩
      omega
    · rintro ⟨rfl, rfl⟩
      exact ⟨rfl, by omega, rfl, rfl⟩)] at this
  have e : spanT s (b, b + q) = strT nSub [atomT s, intT b, intT q, intT ((s.size - (b + q) : Nat) : Int), atomT (s.extract b (b + q))] := by
    unfold spanT subRow
    rw [show b + q - b = q by omega]
  rw [List.map_cons, List.map_nil, e] at this
  exact this
end
end Go.Proofs.YtpokpgkjaifccaaGreatDoorRR
