/- The law TokenNext. -/
import Derived.Test.YtmjeajfakhmakaaRefC
import Derived.Test.YtmjeajfakhmakaaClone
import Derived.Test.YtmjeajfakhmakaaAwake
namespace Go.Proofs.Ytmjeajfakhmakaa
open Go.RowKit Hb
set_option maxRecDepth 100000

set_option maxHeartbeats 1600000 in
theorem law_next (s : ByteArray) (at_ : Int) (A : Option Addr) (n cap : Nat) (l : List (Int × Int)) (w : World) (hn : n = l.length) (hm : n ≤ maxLen) (hs : s.size ≤ maxLen) (hp : Pairs w A l) (hA : n = 0 → (Value.slice A n cap = .slice none 0 0 ∨ ∃ ad, A = some ad)) :
    Calls Try.prog 4 #[.string s, .int .i64 at_, .slice A n cap] w fun e w' => e = .returned (.bool true) ∧ Below w.heap.size w w' := by
  by_cases c1 : 400 < s.size
  · have b1 : decide ((400 : Int) < s.size) = true := by simp; omega
    clear hp hn hs c1 hA
    go_enter Try.func4, Try.ntmps4
    go_wp2_with fail
    refine (law_awake _).mono ?_; rintro e w1 ⟨rfl, hB1⟩
    go_wp2_with fail
    go_ret
    exact ⟨rfl, hB1⟩
  have b1 : decide ((400 : Int) < s.size) = false := by simp; omega
  by_cases c2 : 400 < n
  · have b2 : decide ((400 : Int) < n) = true := by simp; omega
    clear hp hn hs c1 hA
    go_enter Try.func4, Try.ntmps4
    go_wp2_with fail
    refine (law_awake _).mono ?_; rintro e w1 ⟨rfl, hB1⟩
    go_wp2_with fail
    go_ret
    exact ⟨rfl, hB1⟩
  have b2 : decide ((400 : Int) < n) = false := by simp; omega
  have HC := Lib.hid (ref_clone A n cap l w hn (by omega) hp hA)
  have HN := Lib.hid hn
  have HP := Lib.hid hp
  have HT := Lib.hid (fun A' cap' w' h => token_next s at_ A' n cap' l w' hn hm hs h)
  have HR := Lib.hid (fun w' h => ref_next s at_ A n cap l w' hn hm h)
  generalize hr : nextTop s.data.toList at_ l = r at *
  clear hr hn hp hA
  go_enter Try.func4, Try.ntmps4
  go_wp2_with fail
  refine HC.out.mono ?_; rintro e w1 ⟨A', cap', rfl, hB1, hP1⟩
  have HP1 := Lib.hid hP1
  clear hP1
  go_wp2_with fail
  refine (HT.out A' cap' _ HP1.out).mono ?_; rintro e w2 ⟨he, hB2⟩
  unfold GivesN nxtTup at he; subst he
  have hs1 := hB1.size
  have hs2 := hB2.size
  have hX2 : Below w1.heap.size w1 (w2.alloc (.cells #[.int .i64 r.r.kind, .string ⟨r.r.text.toArray⟩, .int .i64 r.r.n, .int .i64 r.r.at_, .int .i64 r.r.end_, .bool r.lay] 32)) := hB2.alloc hs2 _
  have HP2 := Lib.hid (HP.out.below (hB1.trans (hX2.mono hs1)))
  have HQ2 := Lib.hid (HP1.out.below hX2)
  have hlt : w2.heap.size < (w2.alloc (.cells #[.int .i64 r.r.kind, .string ⟨r.r.text.toArray⟩, .int .i64 r.r.n, .int .i64 r.r.at_, .int .i64 r.r.end_, .bool r.lay] 32)).heap.size := by simp
  go_wp2_with fail
  refine (HR.out _ HP2.out).mono ?_; rintro e w3 ⟨he, hB3⟩
  unfold GivesN nxtTup at he; subst he
  have t0 : w3.cell? ⟨w2.heap.size, 0, none⟩ = some (.int .i64 r.r.kind) := (hB3.cell (p := ⟨w2.heap.size, 0, none⟩) hlt).trans ((World.cell?_alloc_new w2 _ _ 0).trans rfl)
  have t1 : w3.cell? ⟨w2.heap.size, 1, none⟩ = some (.string ⟨r.r.text.toArray⟩) := (hB3.cell (p := ⟨w2.heap.size, 1, none⟩) hlt).trans ((World.cell?_alloc_new w2 _ _ 1).trans rfl)
  have t2 : w3.cell? ⟨w2.heap.size, 2, none⟩ = some (.int .i64 r.r.n) := (hB3.cell (p := ⟨w2.heap.size, 2, none⟩) hlt).trans ((World.cell?_alloc_new w2 _ _ 2).trans rfl)
  have t3 : w3.cell? ⟨w2.heap.size, 3, none⟩ = some (.int .i64 r.r.at_) := (hB3.cell (p := ⟨w2.heap.size, 3, none⟩) hlt).trans ((World.cell?_alloc_new w2 _ _ 3).trans rfl)
  have t4 : w3.cell? ⟨w2.heap.size, 4, none⟩ = some (.int .i64 r.r.end_) := (hB3.cell (p := ⟨w2.heap.size, 4, none⟩) hlt).trans ((World.cell?_alloc_new w2 _ _ 4).trans rfl)
  have t5 : w3.cell? ⟨w2.heap.size, 5, none⟩ = some (.bool r.lay) := (hB3.cell (p := ⟨w2.heap.size, 5, none⟩) hlt).trans ((World.cell?_alloc_new w2 _ _ 5).trans rfl)
  have hB13 : Below w1.heap.size w1 w3 := hX2.trans (hB3.mono hX2.size)
  have hs3 := hB13.size
  have hl3 : w2.heap.size < w3.heap.size := Nat.lt_of_lt_of_le hlt hB3.size
  have hX3 : ∀ o, Below w1.heap.size w1 (w3.alloc o) := fun o => hB13.alloc hs3 o
  have HQ3 := Lib.hid (fun o => HP1.out.below (hX3 o))
  have HP3 := Lib.hid (fun o => HP.out.below (hB1.trans ((hX3 o).mono hs1)))
  have HS := Lib.hid (fun w' h1 h2 => ref_same_pairs A' A n cap' cap l w' HN.out hm h1 h2)
  have hBw : Below w.heap.size w w3 := hB1.trans (hB13.mono hs1)
  clear hB1 hB2 hB3 hX2 HC HT HR hX3 hB13 hlt HP2 HQ2
  go_wp2_with fail
  refine (HS.out _ (HQ3.out _) (HP3.out _)).mono ?_; rintro e w4 ⟨rfl, hB4⟩
  have hBz : Below w.heap.size w w4 := (hBw.alloc hBw.size _).trans (hB4.mono (by simp; have := hBw.size; omega))
  clear hB4 HQ3 HP3
  go_wp2_with fail
  refine (law_awake _).mono ?_; rintro e w5 ⟨rfl, hB5⟩
  go_wp2_with fail
  go_ret
  exact ⟨rfl, hBz.trans (hB5.mono hBz.size)⟩
end Go.Proofs.Ytmjeajfakhmakaa
