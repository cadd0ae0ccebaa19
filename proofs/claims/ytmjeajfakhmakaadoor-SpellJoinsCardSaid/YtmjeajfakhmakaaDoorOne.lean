/- The law's helper one. -/
import Derived.Test.YtmjeajfakhmakaaDoorBuild
import Derived.Test.YtmjeajfakhmakaaDoorTopJ
import Derived.Test.YtmjeajfakhmakaaDoorSame
import Derived.RegionTactic
import Derived.BigRegion
namespace Go.Proofs.YtmjeajfakhmakaaDoor
open Go.RowKit Hb
set_option maxRecDepth 100000

/-- The helper's answer. -/
def oneTup (r : NextR) (ok : Bool) : Value := .tuple #[.agg #[.int .i64 r.r.kind, .string ⟨r.r.text.toArray⟩, .int .i64 r.r.n, .int .i64 r.r.at_, .int .i64 r.r.end_, .bool r.lay], .bool ok]
set_option maxHeartbeats 1600000 in
theorem law_one (s : ByteArray) (w : World) (hs : s.size ≤ 16384) :
    Calls Tryd.prog 29 #[.string s] w fun e w' => e = .returned (oneTup (nextTop s.data.toList 0 []) (oneB (nextTop s.data.toList 0 []) s.data.toList)) ∧ Below w.heap.size w w' := by
  have HN := Lib.hid (fun w' => token_next s 0 none 0 0 [] w' rfl (by decide) (by unfold maxLen; omega) (Pairs.nil _ _))
  have HO := Lib.hid (show oneB (nextTop s.data.toList 0 []) s.data.toList = (decide ((nextTop s.data.toList 0 []).r.err = 0) && (decide ((nextTop s.data.toList 0 []).r.at_ = 0) && (decide ((nextTop s.data.toList 0 []).r.end_ = s.size) && !decide ((nextTop s.data.toList 0 []).r.kind = 7)))) by unfold oneB; rw [size_data])
  generalize hr : nextTop s.data.toList 0 [] = r at *
  clear hr
  obtain ⟨⟨k, t, nn, at_, en, er⟩, ly, wh⟩ := r
  simp only [] at HO
  have hA := (Below.refl w.heap.size w).alloc (Nat.le_refl _) tokZero
  have hsz0 : w.heap.size < (w.alloc tokZero).heap.size := by simp
  have T0 : Tok6 (w.alloc tokZero) w.heap.size := by
    obtain ⟨t0, t1, t2, t3, t4, t5, t6⟩ := tok_cells (Below.refl (w.alloc tokZero).heap.size (w.alloc tokZero)) hsz0
    exact ⟨t6, _, _, _, _, _, _, t0, t1, t2, t3, t4, t5⟩
  by_cases d1 : er = 0
  all_goals by_cases d2 : at_ = 0
  all_goals by_cases d3 : en = s.size
  all_goals by_cases d4 : k = 7
  all_goals
    have f1 : (er == 0) = decide (er = 0) := by rw [Bool.eq_iff_iff]; simp
    have f2 : (at_ == 0) = decide (at_ = 0) := by rw [Bool.eq_iff_iff]; simp
    have f3 : (en == s.size) = decide (en = s.size) := by rw [Bool.eq_iff_iff]; simp
    have f4 : (k != 7) = !decide (k = 7) := by rw [Bool.eq_iff_iff]; simp
    first | rw [decide_eq_true d1] at f1 | rw [decide_eq_false d1] at f1
    first | rw [decide_eq_true d2] at f2 | rw [decide_eq_false d2] at f2
    first | rw [decide_eq_true d3] at f3 | rw [decide_eq_false d3] at f3
    first | rw [decide_eq_true d4] at f4 | rw [decide_eq_false d4] at f4
    simp only [Bool.not_true, Bool.not_false] at f4
    have hv := HO.out
    first | rw [decide_eq_true d1] at hv | rw [decide_eq_false d1] at hv
    first | rw [decide_eq_true d2] at hv | rw [decide_eq_false d2] at hv
    first | rw [decide_eq_true d3] at hv | rw [decide_eq_false d3] at hv
    first | rw [decide_eq_true d4] at hv | rw [decide_eq_false d4] at hv
    have HV := Lib.hid hv
    clear hv HO
  all_goals
    clear d1 d2 d3 d4
    go_enter Tryd.func29, Tryd.ntmps29
    go_wp2_with fail
    refine (HN.out _).mono ?_; rintro e w1 ⟨he, hB1⟩
    unfold GivesN nxtTup at he; subst he
    have hl2 : w.heap.size < w1.heap.size := Nat.lt_of_lt_of_le hsz0 hB1.size
    have hs1 := hB1.size
    go_wp2_with fail
    have hw1 := hB1.alloc hs1 (.cells #[.int .i64 k, .string ⟨t.toArray⟩, .int .i64 nn, .int .i64 at_, .int .i64 en, .bool ly] 36)
    have u0 : (w1.alloc (.cells #[.int .i64 k, .string ⟨t.toArray⟩, .int .i64 nn, .int .i64 at_, .int .i64 en, .bool ly] 36)).cell? ⟨w1.heap.size, 0, none⟩ = some (.int .i64 k) := World.cell?_alloc_new _ _ _ 0
    have u1 : (w1.alloc (.cells #[.int .i64 k, .string ⟨t.toArray⟩, .int .i64 nn, .int .i64 at_, .int .i64 en, .bool ly] 36)).cell? ⟨w1.heap.size, 1, none⟩ = some (.string ⟨t.toArray⟩) := World.cell?_alloc_new _ _ _ 1
    have u2 : (w1.alloc (.cells #[.int .i64 k, .string ⟨t.toArray⟩, .int .i64 nn, .int .i64 at_, .int .i64 en, .bool ly] 36)).cell? ⟨w1.heap.size, 2, none⟩ = some (.int .i64 nn) := World.cell?_alloc_new _ _ _ 2
    have u3 : (w1.alloc (.cells #[.int .i64 k, .string ⟨t.toArray⟩, .int .i64 nn, .int .i64 at_, .int .i64 en, .bool ly] 36)).cell? ⟨w1.heap.size, 3, none⟩ = some (.int .i64 at_) := World.cell?_alloc_new _ _ _ 3
    have u4 : (w1.alloc (.cells #[.int .i64 k, .string ⟨t.toArray⟩, .int .i64 nn, .int .i64 at_, .int .i64 en, .bool ly] 36)).cell? ⟨w1.heap.size, 4, none⟩ = some (.int .i64 en) := World.cell?_alloc_new _ _ _ 4
    have u5 : (w1.alloc (.cells #[.int .i64 k, .string ⟨t.toArray⟩, .int .i64 nn, .int .i64 at_, .int .i64 en, .bool ly] 36)).cell? ⟨w1.heap.size, 5, none⟩ = some (.bool ly) := World.cell?_alloc_new _ _ _ 5
    obtain ⟨t6, v0, v1, v2, v3, v4, v5, t0, t1, t2, t3, t4, t5⟩ := (T0.below hw1 hsz0)
    have hlt2 : w1.heap.size < (w1.alloc (.cells #[.int .i64 k, .string ⟨t.toArray⟩, .int .i64 nn, .int .i64 at_, .int .i64 en, .bool ly] 36)).heap.size := by simp
    generalize w1.alloc (.cells #[.int .i64 k, .string ⟨t.toArray⟩, .int .i64 nn, .int .i64 at_, .int .i64 en, .bool ly] 36) = W at *
    generalize w1.heap.size = g1 at *
    have hne : w.heap.size ≠ g1 := by omega
    have hne2 : g1 ≠ w.heap.size := by omega
    generalize hg0 : w.heap.size = g0 at *
    go_region
    go_wp2_with fail
    have hfin : Below w.heap.size w ((((((W.setCell ⟨g0, 0, none⟩ (.int .i64 k)).setCell ⟨g0, 1, none⟩ (.string ⟨t.toArray⟩)).setCell ⟨g0, 2, none⟩ (.int .i64 nn)).setCell ⟨g0, 3, none⟩ (.int .i64 at_)).setCell ⟨g0, 4, none⟩ (.int .i64 en)).setCell ⟨g0, 5, none⟩ (.bool ly)).drew := by
      rw [hg0]; exact (below_sets (hA.trans (hw1.mono (Nat.le_of_lt hsz0))) (Nat.le_refl _) _ _ _ _ _ _).drew
    first
      | exact bodyPost_ret (v := oneTup ⟨⟨k, t, nn, at_, en, er⟩, ly, wh⟩ true) (by simp [oneTup, results, Tryd.results29, go_sem, t0, t1, t2, t3, t4, t5]) rfl ⟨by rw [HV.out]; rfl, hfin⟩
      | exact bodyPost_ret (v := oneTup ⟨⟨k, t, nn, at_, en, er⟩, ly, wh⟩ false) (by simp [oneTup, results, Tryd.results29, go_sem, t0, t1, t2, t3, t4, t5]) rfl ⟨by rw [HV.out]; rfl, hfin⟩
end Go.Proofs.YtmjeajfakhmakaaDoor
