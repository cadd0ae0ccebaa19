/- Flags: ValidSyntax, for tables of any length. Flags: a goal whose arguments are variables is valid and canonical. -/
import Derived.Test.YtfkhcpeahdkafaaGreatH15
import Derived.Test.YtfkhcpeahdkafaaGreatH17
namespace Go.Proofs.YtfkhcpeahdkafaaGreat
open Go.RowKit Hb Go.Shelf
set_option maxRecDepth 100000
set_option maxHeartbeats 800000 in
theorem ops_validM (A : Option Addr) (n cap : Nat) (l : List OpR) (w : World) (hn : n = l.length) (hp : OpsAt w A l) :
  Calls Tryz.prog 56 #[.slice A n cap] w fun e w' => e = .returned (.bool (opsValid l)) ∧ Below w.heap.size w w' := by
 by_cases c1 : 100 < n
 ·have b1 : decide ((100 : Int) < n) = true := by simp; omega
  have HV := Lib.hid (opsValid_long l (by omega))
  clear hn hp c1
  go_enter Tryz.func56, Tryz.ntmps56
  go_wp2_with fail
  go_ret
  exact ⟨ret_bool HV.out.symm, Below.refl _ _⟩
 ·exact ops_valid A n cap l w hn (by omega) hp
set_option maxHeartbeats 1600000 in
theorem f_validSyntaxL (OA : Option Addr) (on oc : Nat) (q u : Int) (c d : Bool) (CA : Option Addr) (cn cc : Nat) (l : List OpR) (cl : List (Int × Int)) (w : World) (hO : Tab w OA on oc l) (hcl : cn = cl.length) (hcn : cn ≤ maxLen) (hC : Pairs w CA cl) :
  Calls Tryz.prog 23 #[.agg #[.slice OA on oc, .int .i64 q, .int .i64 u, .bool c, .bool d, .slice CA cn cc]] w fun e w' => e = .returned (.bool (opsValid l && (flOk ⟨q, u, c, d⟩ && pvalid cl))) ∧ Below w.heap.size w w' := by
 have HO := Lib.hid hO
 have HCL := Lib.hid hcl
 have HCN := Lib.hid hcn
 have HC := Lib.hid hC
 have HB0 : Hid (Below w.heap.size w (w.alloc (.cells #[.slice OA on oc, .int .i64 q, .int .i64 u, .bool c, .bool d, .slice CA cn cc] 43))) := Lib.hid ((Below.refl _ _).alloc (Nat.le_refl _) _)
 have HK0 : Hid (Bk (w.alloc (.cells #[.slice OA on oc, .int .i64 q, .int .i64 u, .bool c, .bool d, .slice CA cn cc] 43)) w.heap.size [.slice OA on oc, .int .i64 q, .int .i64 u, .bool c, .bool d, .slice CA cn cc]) := Lib.hid (Bk.new w [.slice OA on oc, .int .i64 q, .int .i64 u, .bool c, .bool d, .slice CA cn cc] 43)
 have HV := Lib.hid (fun W => f_valid ⟨q, u, c, d⟩ W)
 obtain ⟨b0, HB0E⟩ : ∃ b, Hid (b = opsValid l) := ⟨_, Lib.hid rfl⟩
 obtain ⟨b1, HB1E⟩ : ∃ b, Hid (b = flOk ⟨q, u, c, d⟩) := ⟨_, Lib.hid rfl⟩
 obtain ⟨b2, HB2E⟩ : ∃ b, Hid (b = pvalid cl) := ⟨_, Lib.hid rfl⟩
 rw [← HB0E.out, ← HB1E.out, ← HB2E.out]
 rw [← HB1E.out] at HV
 unfold flV at HV
 have HOV : Hid (∀ W, Below w.heap.size w W → Calls Tryz.prog 56 #[.slice OA on oc] W fun e w' => e = .returned (.bool b0) ∧ Below W.heap.size W w') := Lib.hid fun W hW => by
  have := ops_validM OA on oc l W HO.out.len (HO.out.ops.below hW)
  rwa [← HB0E.out] at this
 have HCV : Hid (∀ W, Below w.heap.size w W → Calls Tryz.prog 57 #[.slice CA cn cc] W fun e w' => e = .returned (.bool b2) ∧ Below W.heap.size W w') := Lib.hid fun W hW => by
  have := chars_valid CA cn cc cl W HCL.out HCN.out (HC.out.below hW)
  rwa [← HB2E.out] at this
 clear hO hcl hcn hC HB0E HB1E HB2E
 go_enter Tryz.func23, Tryz.ntmps23
 go_wp2_with fail
 refine (HOV.out _ HB0.out).mono ?_; rintro e w1 ⟨rfl, hB1⟩
 have HB1 := Lib.hid (HB0.out.trans (hB1.mono HB0.out.size))
 have HK1 := Lib.hid (HK0.out.call hB1)
 clear hB1 HB0 HK0
 have x0 : w1.cell? ⟨w.heap.size, 0, none⟩ = some (.slice OA on oc) := HK1.out.c 0 _ rfl
 have x1 : w1.cell? ⟨w.heap.size, 1, none⟩ = some (.int .i64 q) := HK1.out.c 1 _ rfl
 have x2 : w1.cell? ⟨w.heap.size, 2, none⟩ = some (.int .i64 u) := HK1.out.c 2 _ rfl
 have x3 : w1.cell? ⟨w.heap.size, 3, none⟩ = some (.bool c) := HK1.out.c 3 _ rfl
 have x4 : w1.cell? ⟨w.heap.size, 4, none⟩ = some (.bool d) := HK1.out.c 4 _ rfl
 have x5 : w1.cell? ⟨w.heap.size, 5, none⟩ = some (.slice CA cn cc) := HK1.out.c 5 _ rfl
 cases b0
 ·go_wp2_with fail
  go_ret
  exact ⟨rfl, HB1.out⟩
 go_wp2_with fail
 refine (HV.out _).mono ?_; rintro e w2 ⟨rfl, hB2⟩
 have HB2 := Lib.hid (HB1.out.trans (hB2.mono HB1.out.size))
 have HK2 := Lib.hid (HK1.out.call hB2)
 clear hB2 HB1 HK1 x0 x1 x2 x3 x4 x5
 have x0 : w2.cell? ⟨w.heap.size, 0, none⟩ = some (.slice OA on oc) := HK2.out.c 0 _ rfl
 have x1 : w2.cell? ⟨w.heap.size, 1, none⟩ = some (.int .i64 q) := HK2.out.c 1 _ rfl
 have x2 : w2.cell? ⟨w.heap.size, 2, none⟩ = some (.int .i64 u) := HK2.out.c 2 _ rfl
 have x3 : w2.cell? ⟨w.heap.size, 3, none⟩ = some (.bool c) := HK2.out.c 3 _ rfl
 have x4 : w2.cell? ⟨w.heap.size, 4, none⟩ = some (.bool d) := HK2.out.c 4 _ rfl
 have x5 : w2.cell? ⟨w.heap.size, 5, none⟩ = some (.slice CA cn cc) := HK2.out.c 5 _ rfl
 cases b1
 ·go_wp2_with fail
  go_ret
  exact ⟨rfl, HB2.out⟩
 go_wp2_with fail
 refine (HCV.out _ HB2.out).mono ?_; rintro e w3 ⟨rfl, hB3⟩
 have HB3 := Lib.hid (HB2.out.trans (hB3.mono HB2.out.size))
 go_wp2_with fail
 go_ret
 exact ⟨rfl, HB3.out⟩
end Go.Proofs.YtfkhcpeahdkafaaGreat
namespace Hb
open Go Go.RowKit
def varL (n : Nat) : List Tm := (List.range n).map fun (i : Nat) => .mk 0 (i : Int) ⟨#[]⟩ []
def goalV (s : ByteArray) (n : Nat) : Tm := .mk 3 0 s (varL n)
theorem varL_len (n : Nat) : (varL n).length = n := by simp [varL]
theorem varL_snoc (n : Nat) : varL (n + 1) = varL n ++ [.mk 0 (n : Int) ⟨#[]⟩ []] := by simp [varL, List.range_succ]
theorem varL_nodes (n : Nat) : ((varL n).map Tm.nodes).sum = n := by
 induction n with
 | zero => rfl
 | succ n ih =>
  rw [varL_snoc, List.map_append, List.sum_append, ih]
  simp only [List.map_cons, List.map_nil, List.sum_cons, List.sum_nil]
  rw [Tm.nodes_eq]
  simp [Tm.args]
theorem goalV_valid {s : ByteArray} {n : Nat} (h1 : 1 ≤ n) (h8 : n ≤ 8) (hs : s.size ≤ 100) : validT (goalV s n) = true := by
 unfold validT
 rw [Bool.and_eq_true, decide_eq_true_iff]
 constructor
 ·rw [Tm.nodes_eq]
  show 1 + ((varL n).map Tm.nodes).sum ≤ 2000
  rw [varL_nodes]; omega
 ·rw [Tm.allOk_eq, Bool.and_eq_true]
  constructor
  ·have e : nodeOk (goalV s n) = (((0 : Int) == 0) && decide (s.size ≤ 100) && decide (0 < (varL n).length) && decide ((varL n).length ≤ 8)) := rfl
   rw [e, varL_len, decide_eq_true hs, decide_eq_true (show 0 < n by omega), decide_eq_true h8]
   rfl
  ·rw [List.all_eq_true]
   intro x hx
   obtain ⟨i, hi, rfl⟩ := List.mem_map.1 hx
   have := List.mem_range.1 hi
   rw [Tm.allOk_eq]
   have h0 : (⟨#[]⟩ : ByteArray).toList = [] := by kernel_rfl
   have e : nodeOk (.mk 0 (i : Int) ⟨#[]⟩ []) = (decide ((0 : Int) ≤ i) && decide ((i : Int) ≤ 1099511627776) && ((⟨#[]⟩ : ByteArray).toList == []) && (([] : List Tm).length == 0)) := rfl
   rw [e, h0, decide_eq_true (show (0 : Int) ≤ i by omega), decide_eq_true (show (i : Int) ≤ 1099511627776 by omega)]
   rfl
theorem accL_var (n : Nat) : accL (varL n) [] = (List.range n).map Int.ofNat := by
 induction n with
 | zero => rfl
 | succ n ih =>
  rw [varL_snoc, accL_snoc, ih, varsT_eq]
  have hn : (n : Int) ∉ (List.range n).map Int.ofNat := by
   intro h
   obtain ⟨i, hi, e⟩ := List.mem_map.1 h
   have := List.mem_range.1 hi
   have e' : (i : Int) = n := e
   omega
  show varH _ _ = _
  unfold varH
  rw [if_pos ⟨rfl, hn⟩, List.range_succ, List.map_append]
  rfl
theorem posI_var (n i : Nat) (h : i < n) : posI ((List.range n).map Int.ofNat) (i : Int) = i := by
 induction n with
 | zero => omega
 | succ n ih =>
  rw [List.range_succ, List.map_append]
  by_cases c : i < n
  ·show posI ((List.range n).map Int.ofNat ++ [Int.ofNat n]) (i : Int) = i
   rw [posI_pre (show (i : Int) ∈ (List.range n).map Int.ofNat from List.mem_map.2 ⟨i, List.mem_range.2 c, rfl⟩)]
   exact ih c
  ·have e : i = n := by omega
   subst e
   have hn : (i : Int) ∉ (List.range i).map Int.ofNat := by
    intro h
    obtain ⟨k, hi, e⟩ := List.mem_map.1 h
    have := List.mem_range.1 hi
    have e' : (k : Int) = i := e
    omega
   show posI ((List.range i).map Int.ofNat ++ [(i : Int)]) (i : Int) = i
   rw [posI_new hn]
   simp
theorem goalV_can {s : ByteArray} {n : Nat} (h1 : 1 ≤ n) (h8 : n ≤ 8) (hs : s.size ≤ 100) : canT (goalV s n) = goalV s n := by
 unfold canT
 rw [if_pos (goalV_valid h1 h8 hs), varsT_eq]
 have e0 : varH (goalV s n) [] = [] := by unfold varH; rw [if_neg]; intro h; exact absurd (show (3 : Int) = 0 from h.1) (by decide)
 rw [e0]
 show ren (posI (accL (varL n) [])) (goalV s n) = goalV s n
 rw [accL_var, ren_eq]
 show Tm.mk 3 (if (3 : Int) = 0 then _ else 0) s ((varL n).map _) = Tm.mk 3 0 s (varL n)
 rw [if_neg (by decide)]
 congr 1
 unfold varL
 rw [List.map_map]
 apply List.map_congr_left
 intro i hi
 have hi := List.mem_range.1 hi
 show ren _ (Tm.mk 0 (i : Int) ⟨#[]⟩ []) = _
 rw [ren_eq]
 show Tm.mk 0 (if (0 : Int) = 0 then posI _ (i : Int) else _) ⟨#[]⟩ ([].map _) = _
 rw [if_pos rfl, posI_var n i hi]
 rfl
end Hb
