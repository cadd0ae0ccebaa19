/- Atoms, plain: concatenation and division (AtomsJoined). -/
import Derived.Test.YtpokpgkjaifccaaGreatDoorRRH01
import Derived.Test.YtpokpgkjaifccaaGreatDoorRRH28
namespace Hb
open Go Go.RowKit
theorem filter_one (f:Nat→Bool) (k0 n:Nat) (h0:k0<n) (h:∀k,k<n→(f k=true↔k=k0)):(List.range n).filter f=[k0]:=by
 induction n with
 | zero=>omega
 | succ n ih=>
  rw [List.range_succ,List.filter_append]
  by_cases e:k0=n
  ·subst e
   have h1:(List.range k0).filter f=[]:=List.filter_eq_nil_iff.2 fun k hk c=>by
    have hk:=List.mem_range.1 hk
    have:=(h k (by omega)).1 c
    omega
   have h2:f k0=true:=(h k0 (by omega)).2 rfl
   rw [h1,List.filter_cons_of_pos h2];rfl
  ·have h2:¬f n=true:=fun c=>e ((h n (by omega)).1 c).symm
   rw [ih (by omega) fun k hk=>h k (by omega),List.filter_cons_of_neg h2];rfl
theorem ext_take (s:ByteArray) (k:Nat):(s.extract 0 k).data.toList=s.data.toList.take k:=by simp
theorem ext_drop (s:ByteArray) (k:Nat):(s.extract k s.size).data.toList=s.data.toList.drop k:=by
 simp
 exact List.take_of_length_le (by simp)
theorem cat_list (p q:ByteArray):(p++q).data.toList=p.data.toList++q.data.toList:=by simp
theorem ext_left (p q:ByteArray):(p++q).extract 0 p.size=p:=by
 apply ByteArray.ext
 apply Array.toList_inj.1
 rw [ext_take,cat_list,List.take_left' (by simp)]
theorem ext_right (p q:ByteArray):(p++q).extract p.size (p++q).size=q:=by
 apply ByteArray.ext
 apply Array.toList_inj.1
 rw [ext_drop,cat_list,List.drop_left' (by simp)]
theorem cat_l (p q:ByteArray) (k:Nat) (hk:k<(p++q).size+1):(p.toList==((p++q).extract 0 k).toList)=true↔k=p.size:=by
 rw [beq_iff_eq,tl_data,tl_data,ext_take]
 constructor
 ·intro h
  have:=congrArg List.length h
  rw [List.length_take] at this
  have e1:p.data.toList.length=p.size:=by simp
  have e2:(p++q).data.toList.length=(p++q).size:=by simp
  omega
 ·rintro rfl
  rw [cat_list,List.take_left' (by simp)]
theorem cat_r (p q:ByteArray) (k:Nat) (hk:k<(p++q).size+1):(q.toList==((p++q).extract k (p++q).size).toList)=true↔k=p.size:=by
 rw [beq_iff_eq,tl_data,tl_data,ext_drop]
 constructor
 ·intro h
  have:=congrArg List.length h
  rw [List.length_drop] at this
  have e1:q.data.toList.length=q.size:=by simp
  have e2:(p++q).data.toList.length=(p++q).size:=by simp
  have e3:(p++q).size=p.size+q.size:=ByteArray.size_append
  omega
 ·rintro rfl
  rw [cat_list,List.drop_left' (by simp)]
end Hb
namespace Go.Proofs.YtpokpgkjaifccaaGreatDoorRR
open Go.RowKit Hb Go.Shelf
set_option maxRecDepth 100000
theorem one_row' {s:ByteArray} {r:List Tm} (h:validT (strT s r)=true):∀x∈[r],validT (strT s x)=true:=fun x hx=>by rw [List.mem_singleton] at hx;subst hx;exact h
section
variable (p q:ByteArray) (h:(p++q).size≤100)
include h
theorem jn_szl:p.size≤100∧q.size≤100:=by have:=ByteArray.size_append (a:=p) (b:=q);omega
theorem jn_row:validT (strT nCat [atomT p,atomT q,atomT (p++q)])=true:=valid_sm (by decide) (by simp) (by simp) ⟨small_atom (jn_szl p q h).1,small_atom (jn_szl p q h).2,small_atom h,trivial⟩
theorem jn1:givesB (strT nCat [atomT p,atomT q,varT 0]) [strT nCat [atomT p,atomT q,atomT (p++q)]]=true :=
 gives_of (rows:=[[atomT p,atomT q,atomT (p++q)]]) (canon_goal (valid_sm (by decide) (by simp) (by simp) ⟨small_atom (jn_szl p q h).1,small_atom (jn_szl p q h).2,small_var 0 (by decide) (by decide),trivial⟩) (g_atom _ (g_atom _ (g_var (GArgs.nil _))))) (by rfl) (by simp) (one_row' (jn_row p q h))
omit h in
theorem jn_cat2:concatA (atomT p) (varT 0) (atomT (p++q))=.ok [[atomT p,atomT q,atomT (p++q)]]:=by
 have e:concatA (atomT p) (varT 0) (atomT (p++q))=.ok (catL (atomT p) (varT 0) (atomT (p++q)) ((p++q).size+1)):=rfl
 rw [e]
 unfold catL
 rw [filter_one _ p.size _ (by have:=ByteArray.size_append (a:=p) (b:=q);omega) fun k hk=>by
  rw [←cat_l p q k hk]
  show (!((true && !(p.toList==((p++q).extract 0 k).toList))||false))=true↔_
  simp]
 show RA.ok [[atomT ((p++q).extract 0 p.size),atomT ((p++q).extract p.size (p++q).size),atomT (p++q)]]=_
 rw [ext_left,ext_right]
omit h in
theorem jn_cat3:concatA (varT 0) (atomT q) (atomT (p++q))=.ok [[atomT p,atomT q,atomT (p++q)]]:=by
 have e:concatA (varT 0) (atomT q) (atomT (p++q))=.ok (catL (varT 0) (atomT q) (atomT (p++q)) ((p++q).size+1)):=rfl
 rw [e]
 unfold catL
 rw [filter_one _ p.size _ (by have:=ByteArray.size_append (a:=p) (b:=q);omega) fun k hk=>by
  rw [←cat_r p q k hk]
  show (!(false||(true && !(q.toList==((p++q).extract k (p++q).size).toList))))=true↔_
  simp]
 show RA.ok [[atomT ((p++q).extract 0 p.size),atomT ((p++q).extract p.size (p++q).size),atomT (p++q)]]=_
 rw [ext_left,ext_right]
theorem jn2:givesB (strT nCat [atomT p,varT 0,atomT (p++q)]) [strT nCat [atomT p,atomT q,atomT (p++q)]]=true :=
 gives_of (rows:=[[atomT p,atomT q,atomT (p++q)]]) (canon_goal (valid_sm (by decide) (by simp) (by simp) ⟨small_atom (jn_szl p q h).1,small_var 0 (by decide) (by decide),small_atom h,trivial⟩) (g_atom _ (g_var (g_atom _ (GArgs.nil _))))) (by rw [←jn_cat2];rfl) (by simp) (one_row' (jn_row p q h))
theorem jn3:givesB (strT nCat [varT 0,atomT q,atomT (p++q)]) [strT nCat [atomT p,atomT q,atomT (p++q)]]=true :=
 gives_of (rows:=[[atomT p,atomT q,atomT (p++q)]]) (canon_goal (valid_sm (by decide) (by simp) (by simp) ⟨small_var 0 (by decide) (by decide),small_atom (jn_szl p q h).2,small_atom h,trivial⟩) (g_var (g_atom _ (g_atom _ (GArgs.nil _))))) (by rw [←jn_cat3];rfl) (by simp) (one_row' (jn_row p q h))
end
theorem jn4 (s:ByteArray) (h:s.size≤100):givesB (strT nLen [atomT s,varT 0]) [strT nLen [atomT s,intT s.size]]=true :=
 gives_of (rows:=[[atomT s,intT s.size]]) (canon_goal (valid_sm (by decide) (by simp) (by simp) ⟨small_atom h,small_var 0 (by decide) (by decide),trivial⟩) (g_atom _ (g_var (GArgs.nil _)))) (by rfl) (by simp)
  (one_row' (valid_sm (by decide) (by simp) (by simp) ⟨small_atom h,small_int _,trivial⟩))
section
variable {p q pq:ByteArray} (e:p++q=pq) (h:pq.size≤100)
include e h
theorem jo1:givesB (strT nCat [atomT p,atomT q,varT 0]) [strT nCat [atomT p,atomT q,atomT pq]]=true:=by subst e;exact jn1 p q h
theorem jo2:givesB (strT nCat [atomT p,varT 0,atomT pq]) [strT nCat [atomT p,atomT q,atomT pq]]=true:=by subst e;exact jn2 p q h
theorem jo3:givesB (strT nCat [varT 0,atomT q,atomT pq]) [strT nCat [atomT p,atomT q,atomT pq]]=true:=by subst e;exact jn3 p q h
theorem jo4:givesB (strT nLen [atomT pq,varT 0]) [strT nLen [atomT pq,intT ((p.size:Int)+(q.size:Int))]]=true:=by
 have h1:(p.size:Int)+(q.size:Int)=(pq.size:Int):=by rw [←e,ByteArray.size_append];omega
 rw [h1];exact jn4 pq h
end
def divT (s:ByteArray) (k:Nat):Tm:=strT nCat [atomT (s.extract 0 k),atomT (s.extract k s.size),atomT s]
theorem div_ok (s:ByteArray) (h:s.size≤100) (k:Nat):validT (divT s k)=true :=
 valid_sm (by decide) (by simp) (by simp) ⟨small_atom (by simp;omega),small_atom (by simp;omega),small_atom h,trivial⟩
theorem jn5 (s:ByteArray) (h:s.size≤100):callA (strT nCat [varT 0,varT 1,atomT s])=.ok ((List.range (s.size+1)).map (divT s)):=by
 have hp:predA nCat [varT 0,varT 1,atomT s]=some (.ok ((List.range (s.size+1)).map (catRow (atomT s)))):=by
  show some (concatA (varT 0) (varT 1) (atomT s))=_
  have e:concatA (varT 0) (varT 1) (atomT s)=.ok (catL (varT 0) (varT 1) (atomT s) (s.size+1)):=rfl
  rw [e]
  unfold catL
  have e2:(List.range (s.size+1)).filter (catK (varT 0) (varT 1) (atomT s))=List.range (s.size+1):=List.filter_eq_self.2 fun k _=>rfl
  rw [e2]
 have hc:canonA (strT nCat [varT 0,varT 1,atomT s])=true:=canon_goal (valid_sm (by decide) (by simp) (by simp) ⟨small_var 0 (by decide) (by decide),small_var 1 (by decide) (by decide),small_atom h,trivial⟩) (g_var (g_var (g_atom _ (GArgs.nil _))))
 rw [call_ok hc hp (by simp;omega) fun r hr=>by
  obtain ⟨k,hk,rfl⟩:=List.mem_map.1 hr
  exact div_ok s h k,List.map_map]
 rfl
theorem div_nov (s:ByteArray) (n:Nat):NoV ((List.range n).map (divT s)):=NoV.of fun x hx=>by
 obtain ⟨k,_,rfl⟩:=List.mem_map.1 hx
 exact ⟨(by decide:¬(3:Int)=0),NoV.leaf fun y hy=>by
  simp only [divT,strT,Tm.args,List.mem_cons,List.mem_nil_iff,or_false] at hy
  rcases hy with rfl | rfl | rfl <;> exact ⟨(by decide:¬(2:Int)=0),rfl⟩⟩
end Go.Proofs.YtpokpgkjaifccaaGreatDoorRR
