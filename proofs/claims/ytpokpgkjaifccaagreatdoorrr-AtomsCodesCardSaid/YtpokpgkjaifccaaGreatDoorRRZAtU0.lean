/- Atoms: what char_code answers, for any byte and any number (AtomsCodes). -/
import Derived.Test.YtpokpgkjaifccaaGreatDoorRRH01
import Derived.Test.YtpokpgkjaifccaaGreatDoorRRH28
namespace Hb
open Go Go.RowKit
theorem u8_back (b:UInt8):((b.toNat:Int)).toNat.toUInt8=b:=by
 rw [Int.toNat_natCast]
 exact UInt8.ofNat_toNat
def sRepE:ByteArray:=⟨#[114,101,112,114,101,115,101,110,116,97,116,105,111,110,95,101,114,114,111,114]⟩
def sChC:ByteArray:=⟨#[99,104,97,114,97,99,116,101,114,95,99,111,100,101]⟩
end Hb
namespace Go.Proofs.YtpokpgkjaifccaaGreatDoorRR
open Go.RowKit Hb Go.Shelf
set_option maxRecDepth 100000
theorem p_code1 (b:UInt8):charCodeA (atomT ⟨#[b]⟩) (varT 0)=.ok [[atomT ⟨#[b]⟩,intT (b.toNat:Int)]]:=by
 unfold charCodeA
 rw [if_neg (by rw [show badC (atomT ⟨#[b]⟩)=false from rfl];decide),if_neg (by decide),if_neg (by decide),if_neg (by rw [show ((atomT ⟨#[b]⟩).kind==0)=false from rfl];decide),if_pos (by rw [show ((atomT ⟨#[b]⟩).kind==2)=true from rfl])]
 rfl
theorem code1 (b:UInt8):givesB (strT nCode [atomT ⟨#[b]⟩,varT 0]) [strT nCode [atomT ⟨#[b]⟩,intT (b.toNat:Int)]]=true :=
 gives_of (rows:=[[atomT ⟨#[b]⟩,intT (b.toNat:Int)]]) (canon_goal (valid_sm (by decide) (by simp) (by simp) ⟨small_atom (show (1:Nat)≤100 by decide),small_var 0 (by decide) (by decide),trivial⟩) (g_atom _ (g_var (GArgs.nil _)))) (by rw [←p_code1 b];rfl) (by simp)
  (fun r hr=>by rw [List.mem_singleton] at hr;subst hr;exact valid_sm (by decide) (by simp) (by simp) ⟨small_atom (show (1:Nat)≤100 by decide),small_int _,trivial⟩)
theorem p_code2 (m:Int) (h0:0≤m) (h1:m≤255):charCodeA (varT 0) (intT m)=.ok [[atomT ⟨#[m.toNat.toUInt8]⟩,intT m]]:=by
 have hr:badR (intT m)=false:=by
  show ((1:Int)==1&&(decide (m<0)||decide (255<m)))=false
  simp;omega
 unfold charCodeA
 rw [if_neg (by decide),if_neg (by rw [show badN (intT m)=false from rfl];decide),if_neg (by rw [hr];decide),if_neg (by rw [show ((intT m).kind==0)=false from rfl];decide),if_neg (by decide)]
 rfl
theorem code2 (m:Int) (h0:0≤m) (h1:m≤255):givesB (strT nCode [varT 0,intT m]) [strT nCode [atomT ⟨#[m.toNat.toUInt8]⟩,intT m]]=true :=
 gives_of (rows:=[[atomT ⟨#[m.toNat.toUInt8]⟩,intT m]]) (canon_goal (valid_sm (by decide) (by simp) (by simp) ⟨small_var 0 (by decide) (by decide),small_int m,trivial⟩) (g_var (g_int _ (GArgs.nil _)))) (by rw [←p_code2 m h0 h1];rfl) (by simp)
  (fun r hr=>by rw [List.mem_singleton] at hr;subst hr;exact valid_sm (by decide) (by simp) (by simp) ⟨small_atom (show (1:Nat)≤100 by decide),small_int _,trivial⟩)
theorem code2b (b:UInt8):givesB (strT nCode [varT 0,intT (b.toNat:Int)]) [strT nCode [atomT ⟨#[b]⟩,intT (b.toNat:Int)]]=true:=by
 have h:=code2 (b.toNat:Int) (by omega) (by have:=b.toNat_lt;omega)
 rw [u8_back] at h
 exact h
theorem rep_ball:brT=strT nError [strT sRepE [atomT sChC],nilA]∧validT (strT nError [strT sRepE [atomT sChC],nilA])=true∧NoV (strT nError [strT sRepE [atomT sChC],nilA]).args:=by
 have h1:validT (strT sRepE [atomT sChC])=true:=valid_sm (by decide) (by simp) (by simp) ⟨small_atom (by decide),trivial⟩
 have h2:validT (strT nError [strT sRepE [atomT sChC],nilA])=true:=by
  refine valid_sm (by decide) (by simp) (by simp) ⟨⟨((validT_iff _).1 h1).2,?_⟩,small_atom (by decide),trivial⟩
  rw [Tm.nodes_eq]
  show 1+([atomT sChC].map Tm.nodes).sum≤240
  simp only [List.map_cons,List.map_nil,List.sum_cons,List.sum_nil,(leaf_atom (s:=sChC) (by decide)).nodes]
  decide
 exact ⟨ball_struct (by simp) h1 h2,h2,nov_ball (NoV.cons (by decide:¬(2:Int)=0) NoV.nil NoV.nil)⟩
theorem code3 (m:Int) (h:m<0∨255<m):raisesB (strT nCode [varT 0,intT m]) (strT sRepE [atomT sChC])=true∧∀b,callA (strT nCode [varT 0,intT m])=.ball b→NoV b.args:=by
 have hr:badR (intT m)=true:=by
  show ((1:Int)==1&&(decide (m<0)||decide (255<m)))=true
  simp;omega
 have hc:callA (strT nCode [varT 0,intT m])=.ball brT:=call_ball (canon_goal (valid_sm (by decide) (by simp) (by simp) ⟨small_var 0 (by decide) (by decide),small_int m,trivial⟩) (g_var (g_int _ (GArgs.nil _)))) (by
  show (some (charCodeA (varT 0) (intT m)):Option RA)=_
  unfold charCodeA
  rw [if_neg (by decide),if_neg (by rw [show badN (intT m)=false from rfl];decide),if_pos hr])
 exact ⟨raises_call hc rep_ball.1 (by rw [rep_ball.1];exact rep_ball.2.1),call_nov hc (by rw [rep_ball.1];exact rep_ball.2.2)⟩
end Go.Proofs.YtpokpgkjaifccaaGreatDoorRR
