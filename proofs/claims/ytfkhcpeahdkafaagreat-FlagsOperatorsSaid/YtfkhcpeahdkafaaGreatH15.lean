/- Flags: ValidSyntax, Start. -/
import Derived.Test.YtfkhcpeahdkafaaGreatH10
import Derived.Test.YtfkhcpeahdkafaaGreatH11
import Derived.Test.YtfkhcpeahdkafaaGreatH07
namespace Go.Proofs.YtfkhcpeahdkafaaGreat
open Go.RowKit Hb Go.Shelf
set_option maxRecDepth 100000
set_option maxHeartbeats 1600000 in
theorem f_validSyntax (OA : Option Addr) (on oc : Nat) (q u : Int) (c d : Bool) (CA : Option Addr) (cn cc : Nat) (l : List OpR) (cl : List (Int × Int)) (w : World) (hO : Tab w OA on oc l) (hon : on ≤ 400) (hcl : cn = cl.length) (hcn : cn ≤ maxLen) (hC : Pairs w CA cl) :
  Calls Tryz.prog 23 #[.agg #[.slice OA on oc, .int .i64 q, .int .i64 u, .bool c, .bool d, .slice CA cn cc]] w fun e w' => e = .returned (.bool (opsValid l && (flOk ⟨q, u, c, d⟩ && pvalid cl))) ∧ Below w.heap.size w w' := by
 have HO := Lib.hid hO
 have HON := Lib.hid hon
 have HCL := Lib.hid hcl
 have HCN := Lib.hid hcn
 have HC := Lib.hid hC
 have HB0 : Hid (Below w.heap.size w (w.alloc (.cells #[.slice OA on oc, .int .i64 q, .int .i64 u, .bool c, .bool d, .slice CA cn cc] 43))) := Lib.hid ((Below.refl _ _).alloc (Nat.le_refl _) _)
 have HK0 : Hid (Bk (w.alloc (.cells #[.slice OA on oc, .int .i64 q, .int .i64 u, .bool c, .bool d, .slice CA cn cc] 43)) w.heap.size [.slice OA on oc, .int .i64 q, .int .i64 u, .bool c, .bool d, .slice CA cn cc]) := Lib.hid (Bk.new w [.slice OA on oc, .int .i64 q, .int .i64 u, .bool c, .bool d, .slice CA cn cc] 43)
 have HV := Lib.hid (fun W => f_valid ⟨q, u, c, d⟩ W)
 obtain ⟨b0, HB0E⟩ : ∃ b, Hid (b = opsValid l) := ⟨_, Lib.hid rfl⟩
 obtain ⟨b1, HB1E⟩ : ∃ b, Hid (b = flOk ⟨q, u, c, d⟩) := ⟨_, Lib.hid rfl⟩
 obtain ⟨b2, HB2E⟩ : ∃ b, Hid (b = pvalid cl) := ⟨_, Lib.hid rfl⟩
 rw [← HB0E.out, ← HB1E.out, ← HB2E.out]
 rw [← HB1E.out] at HV
 unfold flV at HV
 have HOV : Hid (∀ W, Below w.heap.size w W → Calls Tryz.prog 56 #[.slice OA on oc] W fun e w' => e = .returned (.bool b0) ∧ Below W.heap.size W w') := Lib.hid fun W hW => by
  have := ops_valid OA on oc l W HO.out.len HON.out (HO.out.ops.below hW)
  rwa [← HB0E.out] at this
 have HCV : Hid (∀ W, Below w.heap.size w W → Calls Tryz.prog 57 #[.slice CA cn cc] W fun e w' => e = .returned (.bool b2) ∧ Below W.heap.size W w') := Lib.hid fun W hW => by
  have := chars_valid CA cn cc cl W HCL.out HCN.out (HC.out.below hW)
  rwa [← HB2E.out] at this
 clear hO hon hcl hcn hC HB0E HB1E HB2E
 go_enter Tryz.func23, Tryz.ntmps23
 go_wp2_with fail
 refine (HOV.out _ HB0.out).mono ?_; rintro e w1 ⟨rfl, hB1⟩
 have HB1 := Lib.hid (HB0.out.trans (hB1.mono HB0.out.size))
 have HK1 := Lib.hid (HK0.out.call hB1)
 clear hB1 HB0 HK0
 have x0 : w1.cell? ⟨w.heap.size, 0, none⟩ = some (.slice OA on oc) := HK1.out.c 0 _ rfl
 have x1 : w1.cell? ⟨w.heap.size, 1, none⟩ = some (.int .i64 q) := HK1.out.c 1 _ rfl
 have x2 : w1.cell? ⟨w.heap.size, 2, none⟩ = some (.int .i64 u) := HK1.out.c 2 _ rfl
 have x3 : w1.cell? ⟨w.heap.size, 3, none⟩ = some (.bool c) := HK1.out.c 3 _ rfl
 have x4 : w1.cell? ⟨w.heap.size, 4, none⟩ = some (.bool d) := HK1.out.c 4 _ rfl
 have x5 : w1.cell? ⟨w.heap.size, 5, none⟩ = some (.slice CA cn cc) := HK1.out.c 5 _ rfl
 cases b0
 ·go_wp2_with fail
  go_ret
  exact ⟨rfl, HB1.out⟩
 go_wp2_with fail
 refine (HV.out _).mono ?_; rintro e w2 ⟨rfl, hB2⟩
 have HB2 := Lib.hid (HB1.out.trans (hB2.mono HB1.out.size))
 have HK2 := Lib.hid (HK1.out.call hB2)
 clear hB2 HB1 HK1 x0 x1 x2 x3 x4 x5
 have x0 : w2.cell? ⟨w.heap.size, 0, none⟩ = some (.slice OA on oc) := HK2.out.c 0 _ rfl
 have x1 : w2.cell? ⟨w.heap.size, 1, none⟩ = some (.int .i64 q) := HK2.out.c 1 _ rfl
 have x2 : w2.cell? ⟨w.heap.size, 2, none⟩ = some (.int .i64 u) := HK2.out.c 2 _ rfl
 have x3 : w2.cell? ⟨w.heap.size, 3, none⟩ = some (.bool c) := HK2.out.c 3 _ rfl
 have x4 : w2.cell? ⟨w.heap.size, 4, none⟩ = some (.bool d) := HK2.out.c 4 _ rfl
 have x5 : w2.cell? ⟨w.heap.size, 5, none⟩ = some (.slice CA cn cc) := HK2.out.c 5 _ rfl
 cases b1
 ·go_wp2_with fail
  go_ret
  exact ⟨rfl, HB2.out⟩
 go_wp2_with fail
 refine (HCV.out _ HB2.out).mono ?_; rintro e w3 ⟨rfl, hB3⟩
 have HB3 := Lib.hid (HB2.out.trans (hB3.mono HB2.out.size))
 go_wp2_with fail
 go_ret
 exact ⟨rfl, HB3.out⟩
theorem f_start (w : World) : Calls Tryz.prog 26 #[] w fun e w' => ∃ g cap, e = .returned (.agg #[.slice (some ⟨g, 0, none⟩) 41 cap, .int .i64 1, .int .i64 1, .bool false, .bool false, .slice none 0 0]) ∧ Below w.heap.size w w' ∧ Tab w' (some ⟨g, 0, none⟩) 41 cap defL := by
 have HB0 : Hid (Below w.heap.size w (w.alloc (.cells #[.slice none 0 0, .int .i64 0, .int .i64 0, .bool false, .bool false, .slice none 0 0] 43))) := Lib.hid ((Below.refl _ _).alloc (Nat.le_refl _) _)
 have HK0 : Hid (Bk (w.alloc (.cells #[.slice none 0 0, .int .i64 0, .int .i64 0, .bool false, .bool false, .slice none 0 0] 43)) w.heap.size [.slice none 0 0, .int .i64 0, .int .i64 0, .bool false, .bool false, .slice none 0 0]) := Lib.hid (Bk.new w [.slice none 0 0, .int .i64 0, .int .i64 0, .bool false, .bool false, .slice none 0 0] 43)
 go_enter Tryz.func26, Tryz.ntmps26
 go_wp2_with fail
 refine (ops_default sort_said _).mono ?_; rintro e w1 ⟨g, cap, rfl, hB1, hT1⟩
 have HB1 := Lib.hid (HB0.out.trans (hB1.mono HB0.out.size))
 have HK1 := Lib.hid (HK0.out.call hB1)
 have HT1 := Lib.hid hT1
 clear hB1 HB0 HK0 hT1
 go_wp2_with fail
 refine (f_default _).mono ?_; rintro e w2 ⟨rfl, hB2⟩
 have HB2 := Lib.hid (HB1.out.trans (hB2.mono HB1.out.size))
 have HK2 := Lib.hid (HK1.out.call hB2)
 have HT2 := Lib.hid (HT1.out.below hB2)
 clear hB2 HB1 HK1 HT1
 unfold flV flDef
 dsimp only
 have x0 : w2.cell? ⟨w.heap.size, 0, none⟩ = some (.slice none 0 0) := HK2.out.c 0 _ rfl
 have f0 := HK2.out.f 0
 have x1 : w2.cell? ⟨w.heap.size, 1, none⟩ = some (.int .i64 0) := HK2.out.c 1 _ rfl
 have f1 := HK2.out.f 1
 have x2 : w2.cell? ⟨w.heap.size, 2, none⟩ = some (.int .i64 0) := HK2.out.c 2 _ rfl
 have f2 := HK2.out.f 2
 have x3 : w2.cell? ⟨w.heap.size, 3, none⟩ = some (.bool false) := HK2.out.c 3 _ rfl
 have f3 := HK2.out.f 3
 have x4 : w2.cell? ⟨w.heap.size, 4, none⟩ = some (.bool false) := HK2.out.c 4 _ rfl
 have f4 := HK2.out.f 4
 have x5 : w2.cell? ⟨w.heap.size, 5, none⟩ = some (.slice none 0 0) := HK2.out.c 5 _ rfl
 have f5 := HK2.out.f 5
 have HK3 : Hid (Bk ((((((w2.setCell ⟨w.heap.size, 0, none⟩ (.slice (some ⟨g, 0, none⟩) 41 cap)).setCell ⟨w.heap.size, 1, none⟩ (.int .i64 1)).setCell ⟨w.heap.size, 2, none⟩ (.int .i64 1)).setCell ⟨w.heap.size, 3, none⟩ (.bool false)).setCell ⟨w.heap.size, 4, none⟩ (.bool false)).setCell ⟨w.heap.size, 5, none⟩ (.slice none 0 0)) w.heap.size [.slice (some ⟨g, 0, none⟩) 41 cap, .int .i64 1, .int .i64 1, .bool false, .bool false, .slice none 0 0]) := Lib.hid ((((((HK2.out.set 0 (.slice (some ⟨g, 0, none⟩) 41 cap)).set 1 (.int .i64 1)).set 2 (.int .i64 1)).set 3 (.bool false)).set 4 (.bool false)).set 5 (.slice none 0 0))
 have HB3 : Hid (Below w.heap.size w ((((((w2.setCell ⟨w.heap.size, 0, none⟩ (.slice (some ⟨g, 0, none⟩) 41 cap)).setCell ⟨w.heap.size, 1, none⟩ (.int .i64 1)).setCell ⟨w.heap.size, 2, none⟩ (.int .i64 1)).setCell ⟨w.heap.size, 3, none⟩ (.bool false)).setCell ⟨w.heap.size, 4, none⟩ (.bool false)).setCell ⟨w.heap.size, 5, none⟩ (.slice none 0 0))) := Lib.hid ((((((HB2.out.setCell (p := ⟨_, _, none⟩) (Nat.le_refl _) _).setCell (p := ⟨_, _, none⟩) (Nat.le_refl _) _).setCell (p := ⟨_, _, none⟩) (Nat.le_refl _) _).setCell (p := ⟨_, _, none⟩) (Nat.le_refl _) _).setCell (p := ⟨_, _, none⟩) (Nat.le_refl _) _).setCell (p := ⟨_, _, none⟩) (Nat.le_refl _) _)
 have HT3 : Hid (Tab ((((((w2.setCell ⟨w.heap.size, 0, none⟩ (.slice (some ⟨g, 0, none⟩) 41 cap)).setCell ⟨w.heap.size, 1, none⟩ (.int .i64 1)).setCell ⟨w.heap.size, 2, none⟩ (.int .i64 1)).setCell ⟨w.heap.size, 3, none⟩ (.bool false)).setCell ⟨w.heap.size, 4, none⟩ (.bool false)).setCell ⟨w.heap.size, 5, none⟩ (.slice none 0 0)) (some ⟨g, 0, none⟩) 41 cap defL) := Lib.hid (tab_boxes (L := [(w.heap.size, [.slice none 0 0, .int .i64 0, .int .i64 0, .bool false, .bool false, .slice none 0 0])]) ⟨by kernel_rfl, HT2.out, fun _ => .inr ⟨_, rfl⟩⟩ ⟨fun x hx => by rw [List.mem_singleton.1 hx]; exact HK2.out, by simp⟩ (fun x hx => by
  rw [List.mem_singleton.1 hx]
  intro i s x
  rcases i with _ | _ | _ | _ | _ | _ | i <;> simp) (by simp) (fun k hk => by
  have hne := hk _ (List.mem_singleton.2 rfl)
  rw [heap_setCell_other _ _ _ _ hne, heap_setCell_other _ _ _ _ hne, heap_setCell_other _ _ _ _ hne, heap_setCell_other _ _ _ _ hne, heap_setCell_other _ _ _ _ hne, heap_setCell_other _ _ _ _ hne]))
 obtain ⟨wz, HWZ⟩ : ∃ wz, Hid (wz = ((((((w2.setCell ⟨w.heap.size, 0, none⟩ (.slice (some ⟨g, 0, none⟩) 41 cap)).setCell ⟨w.heap.size, 1, none⟩ (.int .i64 1)).setCell ⟨w.heap.size, 2, none⟩ (.int .i64 1)).setCell ⟨w.heap.size, 3, none⟩ (.bool false)).setCell ⟨w.heap.size, 4, none⟩ (.bool false)).setCell ⟨w.heap.size, 5, none⟩ (.slice none 0 0))) := ⟨_, Lib.hid rfl⟩
 rw [← HWZ.out] at HK3 HB3 HT3
 clear HB2 HK2 HT2
 go_wp2_with fail
 rw [← HWZ.out]
 have y0 : wz.cell? ⟨w.heap.size, 0, none⟩ = some (.slice (some ⟨g, 0, none⟩) 41 cap) := HK3.out.c 0 _ rfl
 have y1 : wz.cell? ⟨w.heap.size, 1, none⟩ = some (.int .i64 1) := HK3.out.c 1 _ rfl
 have y2 : wz.cell? ⟨w.heap.size, 2, none⟩ = some (.int .i64 1) := HK3.out.c 2 _ rfl
 have y3 : wz.cell? ⟨w.heap.size, 3, none⟩ = some (.bool false) := HK3.out.c 3 _ rfl
 have y4 : wz.cell? ⟨w.heap.size, 4, none⟩ = some (.bool false) := HK3.out.c 4 _ rfl
 have y5 : wz.cell? ⟨w.heap.size, 5, none⟩ = some (.slice none 0 0) := HK3.out.c 5 _ rfl
 exact bodyPost_ret (v := .agg #[.slice (some ⟨g, 0, none⟩) 41 cap, .int .i64 1, .int .i64 1, .bool false, .bool false, .slice none 0 0]) (by simp [results, Tryz.results26, go_sem, y0, y1, y2, y3, y4, y5]) rfl ⟨g, cap, rfl, HB3.out, HT3.out⟩
end Go.Proofs.YtfkhcpeahdkafaaGreat
