/- Atoms, plain: characters and codes there and back, integers' texts (AtomsBack, AtomsDigits). -/
import Derived.Test.YtpokpgkjaifccaaGreatDoorRRH01
import Derived.Test.YtpokpgkjaifccaaGreatDoorRRZAtV0
namespace Hb
open Go Go.RowKit
theorem ba_list (s:ByteArray):(⟨s.data.toList.toArray⟩:ByteArray)=s:=by
 apply ByteArray.ext;simp
theorem ba_len (s:ByteArray):s.data.toList.length=s.size:=by simp
end Hb
namespace Go.Proofs.YtpokpgkjaifccaaGreatDoorRR
open Go.RowKit Hb Go.Shelf
set_option maxRecDepth 100000
theorem sp_size (c:Bool):(if c then nCodes else nChars).size≤100:=by cases c <;> decide
theorem nu_size (c:Bool):(if c then nNumCo else nNumCh).size≤100:=by cases c <;> decide
theorem one_row {s:ByteArray} {r:List Tm} (h:validT (strT s r)=true):∀x∈[r],validT (strT s x)=true:=fun x hx=>by rw [List.mem_singleton] at hx;subst hx;exact h
theorem bk_sp1 (c:Bool) (s:ByteArray) (hs:s.size≤100):givesB (strT (if c then nCodes else nChars) [atomT s,varT 0]) [strT (if c then nCodes else nChars) [atomT s,textT c s.data.toList]]=true :=
 gives_of (rows:=[[atomT s,textT c s.data.toList]]) (canon_goal (valid_sm (sp_size c) (by simp) (by simp) ⟨small_atom hs,small_var 0 (by decide) (by decide),trivial⟩) (g_atom _ (g_var (GArgs.nil _)))) (p_spell1 c s) (by simp)
  (one_row (valid_sm (sp_size c) (by simp) (by simp) ⟨small_atom hs,small_text c (by rw [ba_len];omega),trivial⟩))
theorem bk_sp2 (c:Bool) (s:ByteArray) (hs:s.size≤100):givesB (strT (if c then nCodes else nChars) [varT 0,textT c s.data.toList]) [strT (if c then nCodes else nChars) [atomT s,textT c s.data.toList]]=true :=
 gives_of (rows:=[[atomT s,textT c s.data.toList]]) (canon_goal (valid_sm (sp_size c) (by simp) (by simp) ⟨small_var 0 (by decide) (by decide),small_text c (by rw [ba_len];omega),trivial⟩) (g_var (g_text _ _ (GArgs.nil _)))) (by rw [p_spell2,ba_list]) (by simp)
  (one_row (valid_sm (sp_size c) (by simp) (by simp) ⟨small_atom hs,small_text c (by rw [ba_len];omega),trivial⟩))
theorem bk_long (s:ByteArray) (hs:s.size=101):callA (strT nCodes [varT 0,textT true s.data.toList])=.err 2:=by
 have hc:canonA (strT nCodes [varT 0,textT true s.data.toList])=true:=canon_goal (valid_sm (sp_size true) (by simp) (by simp) ⟨small_var 0 (by decide) (by decide),small_text true (by rw [ba_len];omega),trivial⟩) (g_var (g_text _ _ (GArgs.nil _)))
 have hp:predA nCodes [varT 0,textT true s.data.toList]=some (.ok [[atomT s,textT true s.data.toList]]):=by
  have:=p_spell2 true s.data.toList
  rw [ba_list] at this
  exact this
 have hv:validT (.mk 3 0 nCodes [atomT s,textT true s.data.toList])=false:=by
  rw [Bool.eq_false_iff]
  intro h
  have h2:=((validT_iff _).1 h).2
  rw [Tm.allOk_eq,Bool.and_eq_true] at h2
  have h3:=List.all_eq_true.1 h2.2 (atomT s) (List.mem_cons_self ..)
  rw [Tm.allOk_eq,Bool.and_eq_true] at h3
  have h4:(((0:Int)==0)&&decide (s.size≤100)&&(([]:List Tm).length==0))=true:=h3.1
  rw [decide_eq_false (by omega)] at h4
  cases h4
 unfold callA
 rw [hc,if_neg (by simp),if_neg (by simp [strT,Tm.kind])]
 show ansA nCodes (predA nCodes [varT 0,textT true s.data.toList])=_
 rw [hp]
 show finA nCodes [[atomT s,textT true s.data.toList]]=_
 unfold finA
 rw [if_neg (by simp),if_neg (by simp [hv])]
theorem fm_list (m:Int):(fmA m).data.toList=Lib.itoa m:=rfl
theorem fm_len (m:Int) (hm:I64 m):(fmA m).size≤21:=Lib.itoa_length_le m hm.1 hm.2
theorem bk_n1 (c:Bool) (m:Int) (hm:I64 m):givesB (strT (if c then nNumCo else nNumCh) [intT m,varT 0]) [strT (if c then nNumCo else nNumCh) [intT m,textT c (fmA m).data.toList]]=true :=
 gives_of (rows:=[[intT m,textT c (fmA m).data.toList]]) (canon_goal (valid_sm (nu_size c) (by simp) (by simp) ⟨small_int m,small_var 0 (by decide) (by decide),trivial⟩) (g_int _ (g_var (GArgs.nil _)))) (p_num2 c m) (by simp)
  (one_row (valid_sm (nu_size c) (by simp) (by simp) ⟨small_int m,small_text c (by rw [ba_len];have:=fm_len m hm;omega),trivial⟩))
theorem num_gives (c:Bool) (m:Int) (l:List UInt8) (hl:l.length≤119) (h:integerA ⟨l.toArray⟩=.inr m):givesB (strT (if c then nNumCo else nNumCh) [varT 0,textT c l]) [strT (if c then nNumCo else nNumCh) [intT m,textT c l]]=true :=
 gives_of (rows:=[[intT m,textT c l]]) (canon_goal (valid_sm (nu_size c) (by simp) (by simp) ⟨small_var 0 (by decide) (by decide),small_text c hl,trivial⟩) (g_var (g_text _ _ (GArgs.nil _)))) (by rw [p_num,h];rfl) (by simp)
  (one_row (valid_sm (nu_size c) (by simp) (by simp) ⟨small_int m,small_text c hl,trivial⟩))
theorem bk_n2 (c:Bool) (m:Int) (hm:I64 m):givesB (strT (if c then nNumCo else nNumCh) [varT 0,textT c (fmA m).data.toList]) [strT (if c then nNumCo else nNumCh) [intT m,textT c (fmA m).data.toList]]=true :=
 num_gives c m _ (by rw [ba_len];have:=fm_len m hm;omega) (by
  have:=int_text m hm 0 (by decide) [] (by simp) noDec_nil
  rw [if_pos rfl,List.append_nil,List.replicate_zero,List.nil_append] at this
  exact this)
theorem dg_gives (m:Int) (hm:I64 m) (k:Nat) (hk:k≤5) (B:ByteArray) (hB:B.data.toList=List.replicate k 32++Lib.itoa m):givesB (strT nNumCo [varT 0,textT true B.data.toList]) [strT nNumCo [intT m,textT true B.data.toList]]=true :=
 num_gives true m _ (by rw [hB];have:=fm_len m hm;have e:(fmA m).size=(Lib.itoa m).length:=rfl;simp;omega) (by
  have:=int_text m hm k hk [] (by simp) noDec_nil
  rw [if_pos rfl,List.append_nil] at this
  rw [hB];exact this)
theorem dg_raises (m:Int) (hm:I64 m) (k:Nat) (hk:k≤5) (c:UInt8) (hr:NoDec [c]) (B:ByteArray) (hB:B.data.toList=List.replicate k 32++(Lib.itoa m++[c])) (n:Int) (hn:n=(k:Int)+((fmA m).size:Int)) :
  raisesB (strT nNumCo [varT 0,textT true B.data.toList]) (strT sSynE [intT n])=true∧∀b,callA (strT nNumCo [varT 0,textT true B.data.toList])=.ball b→NoV b.args :=
 num_raise true B.data.toList n (by rw [hB];have:=fm_len m hm;have e:(fmA m).size=(Lib.itoa m).length:=rfl;simp;omega) (by
  have:=int_text m hm k hk [c] (by simp) hr
  rw [if_neg (by simp)] at this
  rw [hB,hn];exact this)
theorem dg_gap (m:Int) (hm:I64 m) (hneg:m<0) (k:Nat) (hk:k≤5) (B:ByteArray) (hB:B.data.toList=List.replicate k 32++(45::32::(Lib.itoa m).drop 1)) :
  raisesB (strT nNumCo [varT 0,textT true B.data.toList]) (strT sSynE [intT ((k:Int)+2)])=true∧∀b,callA (strT nNumCo [varT 0,textT true B.data.toList])=.ball b→NoV b.args:=by
 have hlen:=Lib.itoa_length_le m hm.1 hm.2
 obtain ⟨u,rfl⟩:∃u:Nat,m=-(u:Int):=⟨m.natAbs,by omega⟩
 have hu:u≤9223372036854775808:=by have:=hm.1;omega
 rw [Lib.itoa_neg u (by omega)] at hB hlen
 rw [List.drop_succ_cons,List.drop_zero] at hB
 refine num_raise true B.data.toList _ (by rw [hB];simp at hlen ⊢;omega) ?_
 have h:=int_gap u k B.data.toList hB (by rw [hB];simp at hlen ⊢;omega) hu
 exact h
theorem wfI {n:Int} (h:(Lit.int .i64 n).wf=true):I64 n:=by
 unfold Lit.wf at h;rw [Bool.and_eq_true,decide_eq_true_iff,decide_eq_true_iff] at h;exact h
theorem wfB {n:Int} (h:(Lit.int .u8 n).wf=true):∃b:UInt8,n=(b.toNat:Int):=by
 unfold Lit.wf at h;rw [Bool.and_eq_true,decide_eq_true_iff,decide_eq_true_iff] at h
 have h:(0:Int)≤n∧n≤255:=h
 refine ⟨n.toNat.toUInt8,?_⟩
 have e:n.toNat.toUInt8.toNat=n.toNat % 256:=rfl
 rw [e]
 omega
end Go.Proofs.YtpokpgkjaifccaaGreatDoorRR
