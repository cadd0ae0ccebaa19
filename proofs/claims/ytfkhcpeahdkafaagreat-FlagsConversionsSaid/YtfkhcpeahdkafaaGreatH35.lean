/- Reference 01: Convert, over a valid table. Reference 08: ValidSyntax, for tables of any length. -/
import Derived.Test.YtfkhcpeahdkafaaGreatH34
import Derived.Test.YtfkhcpeahdkafaaGreatH26
import Derived.Test.YtfkhcpeahdkafaaGreatH25
import Derived.Test.YtfkhcpeahdkafaaGreatH16
import Derived.Test.YtfkhcpeahdkafaaGreatH11
namespace Go.Proofs.YtfkhcpeahdkafaaGreat
open Go.RowKit Hb Go.Shelf
set_option maxRecDepth 100000
set_option maxHeartbeats 1600000 in
theorem r1_convert (A : Option Addr) (n cap : Nat) (l : List (Int × Int)) (c : Int) (w : World) (hn : n = l.length) (hm : n ≤ 400) (hp : Pairs w A l) (hv : pvalid l = true) (h0 : 0 ≤ c) (h1 : c ≤ 255) :
  Calls Tryz.prog 41 #[.slice A n cap, .int .i64 c] w fun e w' => e = .returned (.int .i64 (convT l c)) ∧ Below w.heap.size w w' := by
 have HP := Lib.hid hp
 have HN := Lib.hid hn
 have HV := Lib.hid hv
 have HC := Lib.hid (ref_cvalid A n cap l w hn (by unfold maxLen; omega) hp)
 have HI := Lib.hid (show isCh c = true from (isCh_iff c).2 ⟨h0, h1⟩)
 obtain ⟨z, HZ⟩ : ∃ z, Hid (z = convT l c) := ⟨_, Lib.hid rfl⟩
 rw [← HZ.out]
 clear hn hp hv
 go_enter Tryz.func41, Tryz.ntmps41
 go_wp2_with fail
 refine HC.out.mono ?_; rintro e w1 ⟨rfl, hB1⟩; rw [HV.out]
 have HB1 := Lib.hid hB1
 have HP1 := Lib.hid (HP.out.below hB1)
 clear hB1 HC HP
 go_wp2_with fail
 refine (ref_is_of c true HI.out _).mono ?_; rintro e w2 ⟨rfl, rfl⟩
 go_wp2_with fail
 go_loopw [5] (fun i wr => ∃ k : Nat, k ≤ n ∧ i = .int .i64 k ∧ Hid (Below w1.heap.size w1 wr) ∧ Hid (∀ j, j < k → ¬ prF l j = c)) (fun i _ => n - (intOf i).toNat)
 case atStart => exact ⟨0, Nat.zero_le _, rfl, Lib.hid (Below.refl _ _), Lib.hid fun j hj => (by omega)⟩
 case round =>
  obtain ⟨k, hk, rfl, HB, HM⟩ := hrel
  by_cases hlt : k < n
  ·have hkl : k < l.length := by have := HN.out; omega
   obtain ⟨b, off, rfl, hb, c1, c2⟩ := (HP1.out.below HB.out) k hkl
   rw [prF_get _ _ hkl] at c1
   rw [prT_get _ _ hkl] at c2
   have hk0 : (0 : Int) ≤ (k : Int) := by omega
   have hk1 : (k : Int) < (n : Int) := by omega
   have hk2 : (k : Int) + 1 ≤ 400 := by omega
   by_cases hf : prF l k = c
   ·have HE : Hid (prT l k = z) := Lib.hid (by
     rw [HZ.out]
     exact (convT_hit l c c k hkl hf fun j hj hj2 e => by
      have := sorted l HV.out k j hj hj2
      omega).symm)
    have t1 : (prF l k == c) = true := by simp [hf]
    go_wp2_with fail
    go_ret
    exact ⟨by rw [← HE.out]; rfl, HB1.out.trans (HB.out.mono HB1.out.size)⟩
   ·have t1 : (prF l k == c) = false := by simp [hf]
    have HM2 : Hid (∀ j, j < k + 1 → ¬ prF l j = c) := Lib.hid fun j hj => by
     by_cases h : j = k
     ·rw [h]; exact hf
     ·exact HM.out j (by omega)
    clear hf
    go_wp2_with fail
    go_roundw
    case rel => exact ⟨k + 1, by omega, by go_num, HB, HM2⟩
    case measure => simp [intOf] <;> omega
  ·have hkn : k = n := by omega
   subst hkn
   have HE : Hid (z = c) := Lib.hid (by
    rw [HZ.out]
    exact convT_miss l c c fun j hj => HM.out j (by have := HN.out; omega))
   go_wp2_with fail
   go_ret
   exact ⟨by rw [HE.out]; rfl, HB1.out.trans (HB.out.mono HB1.out.size)⟩
end Go.Proofs.YtfkhcpeahdkafaaGreat
namespace Go.Proofs.YtfkhcpeahdkafaaGreat
open Go.RowKit Hb Go.Shelf
set_option maxRecDepth 100000
set_option maxHeartbeats 800000 in
theorem ref_validM (A : Option Addr) (n cap : Nat) (l : List OpR) (w : World) (hn : n = l.length) (hp : OpsAt w A l) :
  Calls Tryz.prog 58 #[.slice A n cap] w fun e w' => e = .returned (.bool (opsValid l)) ∧ Below w.heap.size w w' := by
 by_cases c1 : 100 < n
 ·have b1 : decide ((100 : Int) < n) = true := by simp; omega
  have HV := Lib.hid (opsValid_long l (by omega))
  clear hn hp c1
  go_enter Tryz.func58, Tryz.ntmps58
  go_wp2_with fail
  go_ret
  exact ⟨ret_bool HV.out.symm, Below.refl _ _⟩
 ·exact ref_valid A n cap l w hn (by omega) hp
set_option maxHeartbeats 1600000 in
theorem r8_validSyntax (OA : Option Addr) (on oc : Nat) (q u : Int) (c d : Bool) (CA : Option Addr) (cn cc : Nat) (l : List OpR) (cl : List (Int × Int)) (w : World) (hO : Tab w OA on oc l) (hcl : cn = cl.length) (hcn : cn ≤ maxLen) (hC : Pairs w CA cl) :
  Calls Tryz.prog 24 #[.agg #[.slice OA on oc, .int .i64 q, .int .i64 u, .bool c, .bool d, .slice CA cn cc]] w fun e w' => e = .returned (.bool (opsValid l && (flOk ⟨q, u, c, d⟩ && pvalid cl))) ∧ Below w.heap.size w w' := by
 have HO := Lib.hid hO
 have HCL := Lib.hid hcl
 have HCN := Lib.hid hcn
 have HC := Lib.hid hC
 have HB0 : Hid (Below w.heap.size w (w.alloc (.cells #[.slice OA on oc, .int .i64 q, .int .i64 u, .bool c, .bool d, .slice CA cn cc] 43))) := Lib.hid ((Below.refl _ _).alloc (Nat.le_refl _) _)
 have HK0 : Hid (Bk (w.alloc (.cells #[.slice OA on oc, .int .i64 q, .int .i64 u, .bool c, .bool d, .slice CA cn cc] 43)) w.heap.size [.slice OA on oc, .int .i64 q, .int .i64 u, .bool c, .bool d, .slice CA cn cc]) := Lib.hid (Bk.new w [.slice OA on oc, .int .i64 q, .int .i64 u, .bool c, .bool d, .slice CA cn cc] 43)
 have HV := Lib.hid (fun W => r8_valid ⟨q, u, c, d⟩ W)
 obtain ⟨b0, HB0E⟩ : ∃ b, Hid (b = opsValid l) := ⟨_, Lib.hid rfl⟩
 obtain ⟨b1, HB1E⟩ : ∃ b, Hid (b = flOk ⟨q, u, c, d⟩) := ⟨_, Lib.hid rfl⟩
 obtain ⟨b2, HB2E⟩ : ∃ b, Hid (b = pvalid cl) := ⟨_, Lib.hid rfl⟩
 rw [← HB0E.out, ← HB1E.out, ← HB2E.out]
 rw [← HB1E.out] at HV
 dsimp only at HV
 have HOV : Hid (∀ W, Below w.heap.size w W → Calls Tryz.prog 58 #[.slice OA on oc] W fun e w' => e = .returned (.bool b0) ∧ Below W.heap.size W w') := Lib.hid fun W hW => by
  have := ref_validM OA on oc l W HO.out.len (HO.out.ops.below hW)
  rwa [← HB0E.out] at this
 have HCV : Hid (∀ W, Below w.heap.size w W → Calls Tryz.prog 59 #[.slice CA cn cc] W fun e w' => e = .returned (.bool b2) ∧ Below W.heap.size W w') := Lib.hid fun W hW => by
  have := ref_cvalid CA cn cc cl W HCL.out HCN.out (HC.out.below hW)
  rwa [← HB2E.out] at this
 clear hO hcl hcn hC HB0E HB1E HB2E
 go_enter Tryz.func24, Tryz.ntmps24
 go_wp2_with fail
 refine (HOV.out _ HB0.out).mono ?_; rintro e w1 ⟨rfl, hB1⟩
 have HB1 := Lib.hid (HB0.out.trans (hB1.mono HB0.out.size))
 have HK1 := Lib.hid (HK0.out.call hB1)
 clear hB1 HB0 HK0
 have x0 : w1.cell? ⟨w.heap.size, 0, none⟩ = some (.slice OA on oc) := HK1.out.c 0 _ rfl
 have x1 : w1.cell? ⟨w.heap.size, 1, none⟩ = some (.int .i64 q) := HK1.out.c 1 _ rfl
 have x2 : w1.cell? ⟨w.heap.size, 2, none⟩ = some (.int .i64 u) := HK1.out.c 2 _ rfl
 have x3 : w1.cell? ⟨w.heap.size, 3, none⟩ = some (.bool c) := HK1.out.c 3 _ rfl
 have x4 : w1.cell? ⟨w.heap.size, 4, none⟩ = some (.bool d) := HK1.out.c 4 _ rfl
 have x5 : w1.cell? ⟨w.heap.size, 5, none⟩ = some (.slice CA cn cc) := HK1.out.c 5 _ rfl
 cases b0
 ·go_wp2_with fail
  go_ret
  exact ⟨rfl, HB1.out⟩
 go_wp2_with fail
 refine (HV.out _).mono ?_; rintro e w2 ⟨rfl, hB2⟩
 have HB2 := Lib.hid (HB1.out.trans (hB2.mono HB1.out.size))
 have HK2 := Lib.hid (HK1.out.call hB2)
 clear hB2 HB1 HK1 x0 x1 x2 x3 x4 x5
 have x0 : w2.cell? ⟨w.heap.size, 0, none⟩ = some (.slice OA on oc) := HK2.out.c 0 _ rfl
 have x1 : w2.cell? ⟨w.heap.size, 1, none⟩ = some (.int .i64 q) := HK2.out.c 1 _ rfl
 have x2 : w2.cell? ⟨w.heap.size, 2, none⟩ = some (.int .i64 u) := HK2.out.c 2 _ rfl
 have x3 : w2.cell? ⟨w.heap.size, 3, none⟩ = some (.bool c) := HK2.out.c 3 _ rfl
 have x4 : w2.cell? ⟨w.heap.size, 4, none⟩ = some (.bool d) := HK2.out.c 4 _ rfl
 have x5 : w2.cell? ⟨w.heap.size, 5, none⟩ = some (.slice CA cn cc) := HK2.out.c 5 _ rfl
 cases b1
 ·go_wp2_with fail
  go_ret
  exact ⟨rfl, HB2.out⟩
 go_wp2_with fail
 refine (HCV.out _ HB2.out).mono ?_; rintro e w3 ⟨rfl, hB3⟩
 have HB3 := Lib.hid (HB2.out.trans (hB3.mono HB2.out.size))
 go_wp2_with fail
 go_ret
 exact ⟨rfl, HB3.out⟩
end Go.Proofs.YtfkhcpeahdkafaaGreat
