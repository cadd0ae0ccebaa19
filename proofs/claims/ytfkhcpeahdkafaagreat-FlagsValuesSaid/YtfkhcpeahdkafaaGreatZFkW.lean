/- Flags: the law FlagsKeeps. -/
import Derived.Test.YtfkhcpeahdkafaaGreatZFkS
namespace Hb
open Go Go.RowKit
/-- The names of the flags lie in a block. -/
def NmAt (W : World) (g : Nat) : Prop := g < W.heap.size ∧ ∀ j, j < 9 → W.cell? ⟨g, j, none⟩ = some (.string (fN j))
theorem NmAt.below {W W' : World} {g : Nat} (h : NmAt W g) (hB : Below W.heap.size W W') : NmAt W' g := ⟨Nat.lt_of_lt_of_le h.1 hB.size, fun j hj => (hB.cell (p := ⟨g, j, none⟩) h.1).trans (h.2 j hj)⟩
theorem nm_own {e b : Nat} {w : World} {v : Value} (h : OwnS e b w v fNmL) : ∃ g cap, v = .slice (some ⟨g, 0, none⟩) 9 cap ∧ NmAt w g := by
  have h' : w.ownsRow b e 1 v 9 (fNmL.map Value.string) := h
  rcases h'.2 with ⟨_, h0⟩ | ⟨g, cap, cur, rfl, _⟩
  · cases h0
  · refine ⟨g, cap, rfl, (h'.lt g rfl).2, fun j hj => ?_⟩
    rw [h'.cellAt j (by omega)]
    rcases (show j = 0 ∨ j = 1 ∨ j = 2 ∨ j = 3 ∨ j = 4 ∨ j = 5 ∨ j = 6 ∨ j = 7 ∨ j = 8 by omega) with rfl | rfl | rfl | rfl | rfl | rfl | rfl | rfl | rfl <;> rfl
end Hb
namespace Go.Proofs.YtfkhcpeahdkafaaGreat
open Go.RowKit Hb
set_option maxRecDepth 100000
set_option maxHeartbeats 6400000 in
theorem law_keeps (f : FlR) (s : ByteArray) (t : Tm) (A : Option Addr) (cap : Nat) (w : World) (hT : TmsAt w.heap.size w A t.args) : Calls Tryz.prog 6 #[flV f, .string s, tmV t A cap] w fun e w' => e = .returned (.bool true) ∧ Below w.heap.size w w' := by
  have HTA := Lib.hid hT
  have HST : Hid (∀ W, Below w.heap.size w W → Calls Tryz.prog 20 #[.agg #[.int .i64 f.q, .int .i64 f.u, .bool f.c, .bool f.d], .string s, .agg #[.int .i64 t.kind, .int .i64 t.num, .string t.name, .slice A t.args.length cap]] W fun e w' => e = .returned (.tuple #[flV (setF f s t), .int .i64 (setE f s t)]) ∧ Below W.heap.size W w') := Lib.hid fun W hW => f_set f s t A cap W ((HTA.out.keep hW).mono hW.size)
  have HGF : Hid (∀ (x : ByteArray) W, Calls Tryz.prog 16 #[.agg #[.int .i64 f.q, .int .i64 f.u, .bool f.c, .bool f.d], .string x] W fun e w' => ∃ A' c', e = .returned (.tuple #[tmV (getT f x) A' c', .int .i64 (getE f x)]) ∧ Below W.heap.size W w') := Lib.hid fun x W => f_get f x W
  have HB0 : Hid (Below w.heap.size w ((w.alloc (.cells #[.int .i64 f.q, .int .i64 f.u, .bool f.c, .bool f.d] 23)).alloc (.cells #[.int .i64 t.kind, .int .i64 t.num, .string t.name, .slice A t.args.length cap] 26))) := Lib.hid (((Below.refl _ w).alloc (Nat.le_refl _) _).alloc (by simp) _)
  have HK0 : Hid (Bk ((w.alloc (.cells #[.int .i64 f.q, .int .i64 f.u, .bool f.c, .bool f.d] 23)).alloc (.cells #[.int .i64 t.kind, .int .i64 t.num, .string t.name, .slice A t.args.length cap] 26)) w.heap.size [.int .i64 f.q, .int .i64 f.u, .bool f.c, .bool f.d]) := Lib.hid ((Bk.new w [.int .i64 f.q, .int .i64 f.u, .bool f.c, .bool f.d] 23).al _)
  have hsz : (w.alloc (.cells #[.int .i64 f.q, .int .i64 f.u, .bool f.c, .bool f.d] 23)).heap.size = w.heap.size + 1 := by simp
  have HK1 : Hid (Bk ((w.alloc (.cells #[.int .i64 f.q, .int .i64 f.u, .bool f.c, .bool f.d] 23)).alloc (.cells #[.int .i64 t.kind, .int .i64 t.num, .string t.name, .slice A t.args.length cap] 26)) (w.heap.size + 1) [.int .i64 t.kind, .int .i64 t.num, .string t.name, .slice A t.args.length cap]) := Lib.hid (by
    have := Bk.new (w.alloc (.cells #[.int .i64 f.q, .int .i64 f.u, .bool f.c, .bool f.d] 23)) [.int .i64 t.kind, .int .i64 t.num, .string t.name, .slice A t.args.length cap] 26
    rw [hsz] at this
    exact this)
  clear hT hsz
  unfold flV tmV
  go_enter Tryz.func6, Tryz.ntmps6
  go_wp2_with fail
  refine (law_example _).mono ?_; rintro e w1 ⟨rfl, hB1⟩
  have HB1 := Lib.hid (HB0.out.trans (hB1.mono HB0.out.size))
  have HK0b := Lib.hid (HK0.out.call hB1)
  have HK1b := Lib.hid (HK1.out.call hB1)
  clear hB1 HB0 HK0 HK1
  have a0 := HK0b.out.c 0 (.int .i64 f.q) rfl
  have a1 := HK0b.out.c 1 (.int .i64 f.u) rfl
  have a2 := HK0b.out.c 2 (.bool f.c) rfl
  have a3 := HK0b.out.c 3 (.bool f.d) rfl
  have b0 := HK1b.out.c 0 (.int .i64 t.kind) rfl
  have b1 := HK1b.out.c 1 (.int .i64 t.num) rfl
  have b2 := HK1b.out.c 2 (.string t.name) rfl
  have b3 := HK1b.out.c 3 (.slice A t.args.length cap) rfl
  have l0 := HK0b.out.lt
  have l1 := HK1b.out.lt
  go_wp2_with fail
  refine (HST.out _ HB1.out).mono ?_; rintro e w2 ⟨rfl, hB2⟩
  have HB2 := Lib.hid (HB1.out.trans (hB2.mono HB1.out.size))
  have HK0c := Lib.hid (HK0b.out.call hB2)
  have HK1c := Lib.hid (HK1b.out.call hB2)
  clear hB2 HB1 HK0b HK1b a0 a1 a2 a3 b0 b1 b2 b3 l0 l1
  have HKP : Hid (setE f s t = 0 → Kept f s t) := Lib.hid fun h => set_kept h
  obtain ⟨g, HGE⟩ : ∃ g, Hid (g = setF f s t) := ⟨_, Lib.hid rfl⟩
  rw [← HGE.out]
  obtain ⟨E, HE⟩ : ∃ E, Hid (E = setE f s t) := ⟨_, Lib.hid rfl⟩
  rw [← HE.out] at HKP ⊢
  have HB3 := Lib.hid (HB2.out.alloc HB2.out.size (.cells #[.int .i64 g.q, .int .i64 g.u, .bool g.c, .bool g.d] 23))
  have HK03 := Lib.hid (HK0c.out.al (.cells #[.int .i64 g.q, .int .i64 g.u, .bool g.c, .bool g.d] 23))
  have HK13 := Lib.hid (HK1c.out.al (.cells #[.int .i64 g.q, .int .i64 g.u, .bool g.c, .bool g.d] 23))
  have HK73 := Lib.hid (Bk.new w2 [.int .i64 g.q, .int .i64 g.u, .bool g.c, .bool g.d] 23)
  unfold flV
  by_cases hE : E = 0
  · have HKE := Lib.hid (HKP.out hE)
    subst hE
    clear HKP HST HE HB2 HK0c HK1c
    have h7 : w2.alloc (.cells [.int .i64 g.q, .int .i64 g.u, .bool g.c, .bool g.d].toArray 23) = w2.alloc (.cells #[.int .i64 g.q, .int .i64 g.u, .bool g.c, .bool g.d] 23) := rfl
    rw [h7] at HK73
    clear h7
    obtain ⟨vv, HVV⟩ : ∃ vv, Hid (vv = getT g s) := ⟨_, Lib.hid rfl⟩
    have HVA : Hid (vv.args = []) := Lib.hid (by rw [HVV.out]; exact getT_args g s)
    have HG1 : Hid (∀ W, Calls Tryz.prog 16 #[.agg #[.int .i64 g.q, .int .i64 g.u, .bool g.c, .bool g.d], .string s] W fun e w' => ∃ A5 c5, e = .returned (.tuple #[.agg #[.int .i64 vv.kind, .int .i64 vv.num, .string vv.name, .slice A5 0 c5], .int .i64 0]) ∧ Below W.heap.size W w') := Lib.hid fun W => by
      have := f_get g s W
      have he := HKE.out.e
      rw [← HGE.out] at he
      rw [he, ← HVV.out] at this
      simp only [tmV, HVA.out, List.length_nil] at this
      exact this
    have HSM : Hid (∀ W A5 c5, Below w.heap.size w W → Calls Tryz.prog 18 #[.agg #[.int .i64 vv.kind, .int .i64 vv.num, .string vv.name, .slice A5 0 c5], .agg #[.int .i64 t.kind, .int .i64 t.num, .string t.name, .slice A t.args.length cap]] W fun e w' => e = .returned (.bool true) ∧ Below W.heap.size W w') := Lib.hid fun W A5 c5 hW => by
      have := law_same vv t A5 A c5 cap W (by rw [HVA.out]; exact TmsK.nil) ((HTA.out.keep hW).mono hW.size)
      have hv := HKE.out.v
      rw [← HGE.out, ← HVV.out] at hv
      rw [hv] at this
      simp only [tmV, HVA.out, List.length_nil] at this
      exact this
    have HVD : Hid (∀ W, Calls Tryz.prog 12 #[.agg #[.int .i64 g.q, .int .i64 g.u, .bool g.c, .bool g.d]] W fun e w' => e = .returned (.bool true) ∧ Below W.heap.size W w') := Lib.hid fun W => by
      have := f_valid g W
      have hv := HKE.out.okg
      rw [← HGE.out] at hv
      rwa [hv] at this
    go_wp2_with fail
    refine (HG1.out _).mono ?_; rintro e w4 ⟨A5, c5, rfl, hB4⟩
    have HB4 := Lib.hid ((HB3.out.trans (hB4.mono HB3.out.size)).alloc (HB3.out.trans (hB4.mono HB3.out.size)).size (.cells #[.int .i64 vv.kind, .int .i64 vv.num, .string vv.name, .slice A5 0 c5] 26))
    have HK04 := Lib.hid ((HK03.out.call hB4).al (.cells #[.int .i64 vv.kind, .int .i64 vv.num, .string vv.name, .slice A5 0 c5] 26))
    have HK14 := Lib.hid ((HK13.out.call hB4).al (.cells #[.int .i64 vv.kind, .int .i64 vv.num, .string vv.name, .slice A5 0 c5] 26))
    have HK74 := Lib.hid ((HK73.out.call hB4).al (.cells #[.int .i64 vv.kind, .int .i64 vv.num, .string vv.name, .slice A5 0 c5] 26))
    have HB4w := Lib.hid (HB3.out.trans (hB4.mono HB3.out.size))
    have HK14w := Lib.hid (HK13.out.call hB4)
    clear hB4 HB3 HK03 HK13 HK73
    have b0 := HK14w.out.c 0 (.int .i64 t.kind) rfl
    have b1 := HK14w.out.c 1 (.int .i64 t.num) rfl
    have b2 := HK14w.out.c 2 (.string t.name) rfl
    have b3 := HK14w.out.c 3 (.slice A t.args.length cap) rfl
    have l1 := HK14w.out.lt
    go_wp2_with fail
    refine (HSM.out _ _ _ HB4.out).mono ?_; rintro e w5 ⟨rfl, hB5⟩
    have HB5 := Lib.hid (HB4.out.trans (hB5.mono HB4.out.size))
    have HK05 := Lib.hid (HK04.out.call hB5)
    have HK15 := Lib.hid (HK14.out.call hB5)
    have HK75 := Lib.hid (HK74.out.call hB5)
    clear hB5 HB4 HK04 HK14 HK74 HB4w HK14w l1 b0 b1 b2 b3
    have b0 := HK75.out.c 0 (.int .i64 g.q) rfl
    have b1 := HK75.out.c 1 (.int .i64 g.u) rfl
    have b2 := HK75.out.c 2 (.bool g.c) rfl
    have b3 := HK75.out.c 3 (.bool g.d) rfl
    have l7 := HK75.out.lt
    go_wp2_with fail
    refine (HVD.out _).mono ?_; rintro e w6 ⟨rfl, hB6⟩
    have HB6 := Lib.hid (HB5.out.trans (hB6.mono HB5.out.size))
    have HK06 := Lib.hid (HK05.out.call hB6)
    have HK16 := Lib.hid (HK15.out.call hB6)
    have HK76 := Lib.hid (HK75.out.call hB6)
    clear hB6 HB5 HK05 HK15 HK75 l7 b0 b1 b2 b3
    go_wp2_with fail
    refine (f_names _).mono ?_; rintro e w7 ⟨nv, rfl, hB7, hO7⟩
    obtain ⟨ng, nc, rfl, hN7⟩ := nm_own hO7
    have HB7 := Lib.hid (HB6.out.trans (hB7.mono HB6.out.size))
    have HK07 := Lib.hid (HK06.out.call hB7)
    have HK17 := Lib.hid (HK16.out.call hB7)
    have HK77 := Lib.hid (HK76.out.call hB7)
    have HN7 := Lib.hid hN7
    clear hB7 HB6 HK06 HK16 HK76 hO7 hN7
    go_wp2_with fail
    go_loopw [12] (fun i wr => ∃ k : Nat, k ≤ 9 ∧ i = .int .i64 k ∧ Hid (Below w.heap.size w wr) ∧ Hid (Bk wr w.heap.size [.int .i64 f.q, .int .i64 f.u, .bool f.c, .bool f.d]) ∧ Hid (Bk wr (w.heap.size + 1) [.int .i64 t.kind, .int .i64 t.num, .string t.name, .slice A t.args.length cap]) ∧ Hid (Bk wr w2.heap.size [.int .i64 g.q, .int .i64 g.u, .bool g.c, .bool g.d]) ∧ Hid (NmAt wr ng)) (fun i _ => 9 - (intOf i).toNat)
    case atStart => exact ⟨0, by omega, rfl, HB7, HK07, HK17, HK77, HN7⟩
    case round =>
      obtain ⟨k, hk, rfl, HBR, HK0R, HK1R, HK7R, HNR⟩ := hrel
      by_cases hlt : k < 9
      · have hk0 : (0 : Int) ≤ (k : Int) := by omega
        have hk1 : (k : Int) < 9 := by omega
        go_wp2_with fail
        rename_i K12 hK12
        obtain ⟨nmk, HNK⟩ : ∃ nmk, Hid (nmk = fN k) := ⟨_, Lib.hid rfl⟩
        obtain ⟨ft, HFT⟩ : ∃ ft, Hid (ft = getT f nmk) := ⟨_, Lib.hid rfl⟩
        obtain ⟨gt, HGT⟩ : ∃ gt, Hid (gt = getT g nmk) := ⟨_, Lib.hid rfl⟩
        have HFA : Hid (ft.args = []) := Lib.hid (by rw [HFT.out]; exact getT_args f nmk)
        have HGA : Hid (gt.args = []) := Lib.hid (by rw [HGT.out]; exact getT_args g nmk)
        have HGFk : Hid (∀ X, Calls Tryz.prog 16 #[.agg #[.int .i64 f.q, .int .i64 f.u, .bool f.c, .bool f.d], .string nmk] X fun e w' => ∃ v, e = .returned v ∧ ((∃ A' c', v = Value.tuple #[.agg #[.int .i64 ft.kind, .int .i64 ft.num, .string ft.name, .slice A' 0 c'], .int .i64 0]) ∧ Below X.heap.size X w')) := Lib.hid fun X => (f_get f nmk X).mono fun e w' h => by
          obtain ⟨A', c', he, hB⟩ := h
          rw [HNK.out, HKE.out.ef k hlt, ← HNK.out, ← HFT.out] at he
          simp only [tmV, HFA.out, List.length_nil] at he
          exact ⟨_, he, ⟨A', c', rfl⟩, hB⟩
        have HGGk : Hid (∀ X, Calls Tryz.prog 16 #[.agg #[.int .i64 g.q, .int .i64 g.u, .bool g.c, .bool g.d], .string nmk] X fun e w' => ∃ v, e = .returned v ∧ ((∃ A' c', v = Value.tuple #[.agg #[.int .i64 gt.kind, .int .i64 gt.num, .string gt.name, .slice A' 0 c'], .int .i64 0]) ∧ Below X.heap.size X w')) := Lib.hid fun X => (f_get g nmk X).mono fun e w' h => by
          obtain ⟨A', c', he, hB⟩ := h
          have hg := HKE.out.eg k hlt
          rw [← HGE.out, ← HNK.out] at hg
          rw [hg, ← HGT.out] at he
          simp only [tmV, HGA.out, List.length_nil] at he
          exact ⟨_, he, ⟨A', c', rfl⟩, hB⟩
        have HSMk : Hid (¬ nmk.toList = s.toList → ∀ X A' c' A'' c'', Calls Tryz.prog 18 #[.agg #[.int .i64 ft.kind, .int .i64 ft.num, .string ft.name, .slice A' 0 c'], .agg #[.int .i64 gt.kind, .int .i64 gt.num, .string gt.name, .slice A'' 0 c'']] X fun e w' => e = .returned (.bool true) ∧ Below X.heap.size X w') := Lib.hid fun hne X A' c' A'' c'' => by
          have := law_same ft gt A' A'' c' c'' X (by rw [HFA.out]; exact TmsK.nil) (by rw [HGA.out]; exact TmsK.nil)
          have hv := HKE.out.vs k hlt (by rw [← HNK.out]; exact hne)
          rw [← HGE.out, ← HNK.out, ← HFT.out, ← HGT.out] at hv
          rw [hv] at this
          simp only [tmV, HFA.out, HGA.out, List.length_nil] at this
          exact this
        have p0 := HK0R.out.c 0 (.int .i64 f.q) rfl
        have p1 := HK0R.out.c 1 (.int .i64 f.u) rfl
        have p2 := HK0R.out.c 2 (.bool f.c) rfl
        have p3 := HK0R.out.c 3 (.bool f.d) rfl
        have lf := HK0R.out.lt
        have lnp := HNR.out.1
        have nmp : wr.cell? ⟨ng, k, none⟩ = some (.string nmk) := by rw [HNK.out]; exact HNR.out.2 k hlt
        refine wp_region_any (by kernel_rfl) ?_
        refine wpAny_inv (fun S a X => ∃ x63 x57 x64 e, a = (⟨#[.agg #[.int .i64 f.q, .int .i64 f.u, .bool f.c, .bool f.d], .string s, .agg #[.int .i64 t.kind, .int .i64 t.num, .string t.name, .slice A t.args.length cap], .pointer (some ⟨w.heap.size, 0, none⟩), undef, .pointer (some ⟨w.heap.size + 1, 0, none⟩), u6, .pointer (some ⟨w2.heap.size, 0, none⟩), .int .i64 0, .pointer (some ⟨w4.heap.size, 0, none⟩), .int .i64 0, .slice (some ⟨ng, 0, none⟩) 9 nc, .int .i64 k, if S 9 = true then .pointer (some ⟨e, 0, none⟩) else u13, if S 11 = true then .int .i64 0 else u14, u15, u16, undef, undef, undef, .bool true, .bool false, .tuple #[.agg #[.int .i64 g.q, .int .i64 g.u, .bool g.c, .bool g.d], .int .i64 0], .agg #[.int .i64 f.q, .int .i64 f.u, .bool f.c, .bool f.d], .string s, .agg #[.int .i64 t.kind, .int .i64 t.num, .string t.name, .slice A t.args.length cap], .tuple #[.agg #[.int .i64 g.q, .int .i64 g.u, .bool g.c, .bool g.d], .int .i64 0], .agg #[.int .i64 g.q, .int .i64 g.u, .bool g.c, .bool g.d], .int .i64 0, .int .i64 0, .bool true, .tuple #[.agg #[.int .i64 vv.kind, .int .i64 vv.num, .string vv.name, .slice A5 0 c5], .int .i64 0], .agg #[.int .i64 g.q, .int .i64 g.u, .bool g.c, .bool g.d], .string s, .tuple #[.agg #[.int .i64 vv.kind, .int .i64 vv.num, .string vv.name, .slice A5 0 c5], .int .i64 0], .agg #[.int .i64 vv.kind, .int .i64 vv.num, .string vv.name, .slice A5 0 c5], .int .i64 0, .int .i64 0, .bool false, .bool false, .agg #[.int .i64 vv.kind, .int .i64 vv.num, .string vv.name, .slice A5 0 c5], .agg #[.int .i64 t.kind, .int .i64 t.num, .string t.name, .slice A t.args.length cap], .bool true, .bool false, .bool false, .bool false, .agg #[.int .i64 g.q, .int .i64 g.u, .bool g.c, .bool g.d], .bool true, .bool false, .bool false, .slice (some ⟨ng, 0, none⟩) 9 nc, .int .i64 k, .slice (some ⟨ng, 0, none⟩) 9 nc, .int .i64 9, .bool true, u55, u56, if S 6 = true then x57 else u57, if S 0 = true then .agg #[.int .i64 f.q, .int .i64 f.u, .bool f.c, .bool f.d] else u58, if S 1 = true then .slice (some ⟨ng, 0, none⟩) 9 nc else u59, if S 2 = true then .int .i64 k else u60, if S 3 = true then .pointer (some ⟨ng, k, none⟩) else u61, if S 4 = true then .string nmk else u62, if S 5 = true then x63 else u63, if S 7 = true then x64 else u64, if S 8 = true then .int .i64 0 else u65, u66, u67, u68, u69, u70, u71, u72, u73, u74, u75, u76, u77, u78, u79, u80, u81, u82, u83, u84, u85, u86, u87, u88, u89, u90, u91, u92, u93, u94, undef, undef, undef, undef, undef, undef, undef, undef, undef, undef, undef, undef, undef, undef, undef, undef, undef, undef, undef, undef, undef, undef, undef, undef, undef, undef], []⟩ : Act) ∧ Below wr.heap.size wr X ∧ (S 5 = true → (∃ A' c', x63 = Value.tuple #[.agg #[.int .i64 ft.kind, .int .i64 ft.num, .string ft.name, .slice A' 0 c'], .int .i64 0])) ∧ (S 6 = true → (∃ A' c', x57 = Value.tuple #[.agg #[.int .i64 ft.kind, .int .i64 ft.num, .string ft.name, .slice A' 0 c'], .int .i64 0])) ∧ (S 7 = true → (∃ A' c', x64 = Value.agg #[.int .i64 ft.kind, .int .i64 ft.num, .string ft.name, .slice A' 0 c'])) ∧ (S 9 = true → wr.heap.size ≤ e ∧ (S 10 = false → Bk X e [.int .i64 0, .int .i64 0, .string ⟨#[]⟩, .slice none 0 0]) ∧ (S 10 = true → ∃ A' c', Bk X e [.int .i64 ft.kind, .int .i64 ft.num, .string ft.name, .slice A' 0 c'])) ∧ (S 10 = true → S 9 = true)) (by kernel_rfl) ?step ?fin 12 (fun _ => false) _ _ (by decide) ⟨undef, undef, undef, 0, rfl, (Below.refl _ wr).drew, fun h => (by cases h), fun h => (by cases h), fun h => (by cases h), fun h => (by cases h), fun h => (by cases h)⟩
        case step =>
          rintro S j o a X ho hs hp ⟨x63, x57, x64, e, rfl, hB, h5, h6, h7, h9, i10⟩
          have hlt : j < 12 := (Array.getElem?_eq_some_iff.1 ho).1
          rcases (show j = 0 ∨ j = 1 ∨ j = 2 ∨ j = 3 ∨ j = 4 ∨ j = 5 ∨ j = 6 ∨ j = 7 ∨ j = 8 ∨ j = 9 ∨ j = 10 ∨ j = 11 by omega) with rfl | rfl | rfl | rfl | rfl | rfl | rfl | rfl | rfl | rfl | rfl | rfl
          · injection ho with ho
            subst ho
            have y0 : X.cell? ⟨w.heap.size, 0, none⟩ = some (.int .i64 f.q) := (hB.cell (p := ⟨_, 0, none⟩) lf).trans p0
            have y1 : X.cell? ⟨w.heap.size, 1, none⟩ = some (.int .i64 f.u) := (hB.cell (p := ⟨_, 1, none⟩) lf).trans p1
            have y2 : X.cell? ⟨w.heap.size, 2, none⟩ = some (.bool f.c) := (hB.cell (p := ⟨_, 2, none⟩) lf).trans p2
            have y3 : X.cell? ⟨w.heap.size, 3, none⟩ = some (.bool f.d) := (hB.cell (p := ⟨_, 3, none⟩) lf).trans p3
            rw [if_pos (show Region.wanted _ _ = true from rfl)]
            refine wp_val (v := .agg #[.int .i64 f.q, .int .i64 f.u, .bool f.c, .bool f.d]) (w' := X) ?_ ⟨x63, x57, x64, e, rfl, hB, h5, h6, h7, h9, i10⟩
            simp [execOp, go_sem, Act.eval, y0, y1, y2, y3]
          · injection ho with ho
            subst ho
            rw [if_pos (show Region.wanted _ _ = true from rfl)]
            refine wp_val (v := .slice (some ⟨ng, 0, none⟩) 9 nc) (w' := X) ?_ ⟨x63, x57, x64, e, rfl, hB, h5, h6, h7, h9, i10⟩
            simp [execOp, go_sem, Act.eval]
          · injection ho with ho
            subst ho
            rw [if_pos (show Region.wanted _ _ = true from rfl)]
            refine wp_val (v := .int .i64 k) (w' := X) ?_ ⟨x63, x57, x64, e, rfl, hB, h5, h6, h7, h9, i10⟩
            simp [execOp, go_sem, Act.eval]
          · injection ho with ho
            subst ho
            have s1 : S 1 = true := hp ⟨1, .data⟩ (by simp) rfl
            have s2 : S 2 = true := hp ⟨2, .data⟩ (by simp) rfl
            rw [if_pos (show Region.wanted _ _ = true from rfl)]
            refine wp_val (v := .pointer (some ⟨ng, k, none⟩)) (w' := X) ?_ ⟨x63, x57, x64, e, rfl, hB, h5, h6, h7, h9, i10⟩
            simp [execOp, go_sem, Act.eval, s1, s2, hk0, hk1]
          · injection ho with ho
            subst ho
            have s3 : S 3 = true := hp ⟨3, .data⟩ (by simp) rfl
            have yn : X.cell? ⟨ng, k, none⟩ = some (.string nmk) := (hB.cell (p := ⟨ng, k, none⟩) lnp).trans nmp
            rw [if_pos (show Region.wanted _ _ = true from rfl)]
            refine wp_val (v := .string nmk) (w' := X) ?_ ⟨x63, x57, x64, e, rfl, hB, h5, h6, h7, h9, i10⟩
            simp [execOp, go_sem, Act.eval, s3, yn]
          · injection ho with ho
            subst ho
            have s0 : S 0 = true := hp ⟨0, .data⟩ (by simp) rfl
            have s4 : S 4 = true := hp ⟨4, .data⟩ (by simp) rfl
            rw [if_pos (show Region.wanted _ _ = true from rfl)]
            refine wp_cal ?_ (HGFk.out X) (fun v w' hR => ?_)
            · simp [execOp, go_sem, Act.eval, s0, s4]
              try rfl
            · obtain ⟨hv, hB'⟩ := hR
              exact ⟨v, x57, x64, e, rfl, hB.trans (hB'.mono hB.size), fun _ => hv, h6, h7, fun h => ⟨(h9 h).1, fun q => ((h9 h).2.1 q).call hB', fun q => (by obtain ⟨A', c', hb⟩ := (h9 h).2.2 q; exact ⟨A', c', hb.call hB'⟩)⟩, i10⟩
          · injection ho with ho
            subst ho
            have s5 : S 5 = true := hp ⟨5, .data⟩ (by simp) rfl
            obtain ⟨A9, c9, hx⟩ := h5 s5
            subst hx
            rw [if_pos (show Region.wanted _ _ = true from rfl)]
            refine wp_val (v := .tuple #[.agg #[.int .i64 ft.kind, .int .i64 ft.num, .string ft.name, .slice A9 0 c9], .int .i64 0]) (w' := X) ?_ ⟨_, _, x64, e, rfl, hB, fun _ => ⟨A9, c9, rfl⟩, fun _ => ⟨A9, c9, rfl⟩, h7, h9, i10⟩
            simp [execOp, go_sem, Act.eval, s5]
          · injection ho with ho
            subst ho
            have s6 : S 6 = true := hp ⟨6, .data⟩ (by simp) rfl
            obtain ⟨A9, c9, hx⟩ := h6 s6
            subst hx
            rw [if_pos (show Region.wanted _ _ = true from rfl)]
            refine wp_val (v := .agg #[.int .i64 ft.kind, .int .i64 ft.num, .string ft.name, .slice A9 0 c9]) (w' := X) ?_ ⟨x63, _, _, e, rfl, hB, h5, fun _ => ⟨A9, c9, rfl⟩, fun _ => ⟨A9, c9, rfl⟩, h9, i10⟩
            simp [execOp, go_sem, Act.eval, s6]
          · injection ho with ho
            subst ho
            have s6 : S 6 = true := hp ⟨6, .data⟩ (by simp) rfl
            obtain ⟨A9, c9, hx⟩ := h6 s6
            subst hx
            rw [if_pos (show Region.wanted _ _ = true from rfl)]
            refine wp_val (v := .int .i64 0) (w' := X) ?_ ⟨x63, _, x64, e, rfl, hB, h5, fun _ => ⟨A9, c9, rfl⟩, h7, h9, i10⟩
            simp [execOp, go_sem, Act.eval, s6]
          · injection ho with ho
            subst ho
            rw [if_pos (show Region.wanted _ _ = true from rfl)]
            refine wp_val (v := .pointer (some ⟨X.heap.size, 0, none⟩)) (w' := X.alloc (.cells #[.int .i64 0, .int .i64 0, .string ⟨#[]⟩, .slice none 0 0] 26)) ?_ ⟨x63, x57, x64, X.heap.size, rfl, hB.alloc hB.size _, h5, h6, h7, fun _ => ⟨hB.size, fun _ => Bk.new X [.int .i64 0, .int .i64 0, .string ⟨#[]⟩, .slice none 0 0] 26, fun q => absurd (i10 q) (by rw [hs]; simp)⟩, fun _ => rfl⟩
            simp [execOp, go_sem]
          · injection ho with ho
            subst ho
            have s7 : S 7 = true := hp ⟨7, .data⟩ (by simp) rfl
            have s9 : S 9 = true := hp ⟨9, .data⟩ (by simp) rfl
            rw [if_pos (show Region.wanted _ _ = true from rfl)]
            have hk := (h9 s9).2.1 hs
            obtain ⟨A9, c9, hx⟩ := h7 s7
            subst hx
            have z0 := hk.c 0 (.int .i64 0) rfl
            have f0 := hk.f 0
            have z1 := hk.c 1 (.int .i64 0) rfl
            have f1 := hk.f 1
            have z2 := hk.c 2 (.string ⟨#[]⟩) rfl
            have f2 := hk.f 2
            have z3 := hk.c 3 (.slice none 0 0) rfl
            have f3 := hk.f 3
            refine wp_skp (w' := ((((X.setCell ⟨e, 0, none⟩ (.int .i64 ft.kind)).setCell ⟨e, 1, none⟩ (.int .i64 ft.num)).setCell ⟨e, 2, none⟩ (.string ft.name)).setCell ⟨e, 3, none⟩ (.slice A9 0 c9))) ?_ ⟨x63, x57, _, e, rfl, ((((hB.setCell (p := ⟨_, _, none⟩) (h9 s9).1 _).setCell (p := ⟨_, _, none⟩) (h9 s9).1 _).setCell (p := ⟨_, _, none⟩) (h9 s9).1 _).setCell (p := ⟨_, _, none⟩) (h9 s9).1 _), h5, h6, fun _ => ⟨A9, c9, rfl⟩, fun _ => ⟨(h9 s9).1, fun q => absurd (show true = false from q) (by simp), fun _ => ⟨A9, c9, ((((hk.set 0 (.int .i64 ft.kind)).set 1 (.int .i64 ft.num)).set 2 (.string ft.name)).set 3 (.slice A9 0 c9))⟩⟩, fun _ => s9⟩
            simp [execOp, go_sem, Act.eval, s9, s7, z0, z1, z2, z3, f0, f1, f2, f3]
          · injection ho with ho
            subst ho
            have s8 : S 8 = true := hp ⟨8, .data⟩ (by simp) rfl
            rw [if_pos (show Region.wanted _ _ = true from rfl)]
            refine wp_val (v := .int .i64 0) (w' := X) ?_ ⟨x63, x57, x64, e, rfl, hB, h5, h6, h7, h9, i10⟩
            simp [execOp, go_sem, Act.eval, s8]
        case fin =>
          rintro S a W1 hall ⟨x63, x57, x64, e12, rfl, hB, h5, h6, h7, h9, -⟩
          have s0 : S 0 = true := hall 0 (show 0 < 12 by omega)
          have s1 : S 1 = true := hall 1 (show 1 < 12 by omega)
          have s2 : S 2 = true := hall 2 (show 2 < 12 by omega)
          have s3 : S 3 = true := hall 3 (show 3 < 12 by omega)
          have s4 : S 4 = true := hall 4 (show 4 < 12 by omega)
          have s5 : S 5 = true := hall 5 (show 5 < 12 by omega)
          have s6 : S 6 = true := hall 6 (show 6 < 12 by omega)
          have s7 : S 7 = true := hall 7 (show 7 < 12 by omega)
          have s8 : S 8 = true := hall 8 (show 8 < 12 by omega)
          have s9 : S 9 = true := hall 9 (show 9 < 12 by omega)
          have s10 : S 10 = true := hall 10 (show 10 < 12 by omega)
          have s11 : S 11 = true := hall 11 (show 11 < 12 by omega)
          obtain ⟨A12, c12, hb12⟩ := (h9 s9).2.2 s10
          obtain ⟨Aa12, ca12, hx5⟩ := h5 s5
          obtain ⟨Ab12, cb12, hx6⟩ := h6 s6
          obtain ⟨Ac12, cc12, hx7⟩ := h7 s7
          subst hx5 hx6 hx7
          have HX12 := Lib.hid hb12
          have HBB12 := Lib.hid hB
          refine hK12 _ _ ?_
          simp only [s0, s1, s2, s3, s4, s5, s6, s7, s8, s9, s11, if_true]
          clear hall h5 h6 h7 h9 hB hb12 hK12 s0 s1 s2 s3 s4 s5 s6 s7 s8 s9 s10 s11
          have HK0S := Lib.hid (HK0R.out.call HBB12.out)
          have HK1S := Lib.hid (HK1R.out.call HBB12.out)
          have HK7S := Lib.hid (HK7R.out.call HBB12.out)
          have HNS := Lib.hid (HNR.out.below HBB12.out)
          have HBS := Lib.hid (HBR.out.trans (HBB12.out.mono HBR.out.size))
          have HX12b := HX12
          clear HK0R HK1R HK7R HNR HBR HBB12 HX12b p0 p1 p2 p3 lf lnp nmp HGFk
          have q0 := HK7S.out.c 0 (.int .i64 g.q) rfl
          have q1 := HK7S.out.c 1 (.int .i64 g.u) rfl
          have q2 := HK7S.out.c 2 (.bool g.c) rfl
          have q3 := HK7S.out.c 3 (.bool g.d) rfl
          have lg := HK7S.out.lt
          have lnq := HNS.out.1
          have nmq : W1.cell? ⟨ng, k, none⟩ = some (.string nmk) := by rw [HNK.out]; exact HNS.out.2 k hlt
          go_wp2_with fail
          rename_i K13 hK13
          refine wp_region_any (by kernel_rfl) ?_
          refine wpAny_inv (fun S a X => ∃ x63 x57 x64 e, a = (⟨#[.agg #[.int .i64 f.q, .int .i64 f.u, .bool f.c, .bool f.d], .string s, .agg #[.int .i64 t.kind, .int .i64 t.num, .string t.name, .slice A t.args.length cap], .pointer (some ⟨w.heap.size, 0, none⟩), undef, .pointer (some ⟨w.heap.size + 1, 0, none⟩), u6, .pointer (some ⟨w2.heap.size, 0, none⟩), .int .i64 0, .pointer (some ⟨w4.heap.size, 0, none⟩), .int .i64 0, .slice (some ⟨ng, 0, none⟩) 9 nc, .int .i64 k, .pointer (some ⟨e12, 0, none⟩), .int .i64 0, if S 9 = true then .pointer (some ⟨e, 0, none⟩) else u15, if S 11 = true then .int .i64 0 else u16, undef, undef, undef, .bool true, .bool false, .tuple #[.agg #[.int .i64 g.q, .int .i64 g.u, .bool g.c, .bool g.d], .int .i64 0], .agg #[.int .i64 f.q, .int .i64 f.u, .bool f.c, .bool f.d], .string s, .agg #[.int .i64 t.kind, .int .i64 t.num, .string t.name, .slice A t.args.length cap], .tuple #[.agg #[.int .i64 g.q, .int .i64 g.u, .bool g.c, .bool g.d], .int .i64 0], .agg #[.int .i64 g.q, .int .i64 g.u, .bool g.c, .bool g.d], .int .i64 0, .int .i64 0, .bool true, .tuple #[.agg #[.int .i64 vv.kind, .int .i64 vv.num, .string vv.name, .slice A5 0 c5], .int .i64 0], .agg #[.int .i64 g.q, .int .i64 g.u, .bool g.c, .bool g.d], .string s, .tuple #[.agg #[.int .i64 vv.kind, .int .i64 vv.num, .string vv.name, .slice A5 0 c5], .int .i64 0], .agg #[.int .i64 vv.kind, .int .i64 vv.num, .string vv.name, .slice A5 0 c5], .int .i64 0, .int .i64 0, .bool false, .bool false, .agg #[.int .i64 vv.kind, .int .i64 vv.num, .string vv.name, .slice A5 0 c5], .agg #[.int .i64 t.kind, .int .i64 t.num, .string t.name, .slice A t.args.length cap], .bool true, .bool false, .bool false, .bool false, .agg #[.int .i64 g.q, .int .i64 g.u, .bool g.c, .bool g.d], .bool true, .bool false, .bool false, .slice (some ⟨ng, 0, none⟩) 9 nc, .int .i64 k, .slice (some ⟨ng, 0, none⟩) 9 nc, .int .i64 9, .bool true, u55, u56, .tuple #[.agg #[.int .i64 ft.kind, .int .i64 ft.num, .string ft.name, .slice Ab12 0 cb12], .int .i64 0], .agg #[.int .i64 f.q, .int .i64 f.u, .bool f.c, .bool f.d], .slice (some ⟨ng, 0, none⟩) 9 nc, .int .i64 k, .pointer (some ⟨ng, k, none⟩), .string nmk, .tuple #[.agg #[.int .i64 ft.kind, .int .i64 ft.num, .string ft.name, .slice Aa12 0 ca12], .int .i64 0], .agg #[.int .i64 ft.kind, .int .i64 ft.num, .string ft.name, .slice Ac12 0 cc12], .int .i64 0, if S 6 = true then x57 else u66, if S 0 = true then .agg #[.int .i64 g.q, .int .i64 g.u, .bool g.c, .bool g.d] else u67, if S 1 = true then .slice (some ⟨ng, 0, none⟩) 9 nc else u68, if S 2 = true then .int .i64 k else u69, if S 3 = true then .pointer (some ⟨ng, k, none⟩) else u70, if S 4 = true then .string nmk else u71, if S 5 = true then x63 else u72, if S 7 = true then x64 else u73, if S 8 = true then .int .i64 0 else u74, u75, u76, u77, u78, u79, u80, u81, u82, u83, u84, u85, u86, u87, u88, u89, u90, u91, u92, u93, u94, undef, undef, undef, undef, undef, undef, undef, undef, undef, undef, undef, undef, undef, undef, undef, undef, undef, undef, undef, undef, undef, undef, undef, undef, undef, undef], []⟩ : Act) ∧ Below W1.heap.size W1 X ∧ (S 5 = true → (∃ A' c', x63 = Value.tuple #[.agg #[.int .i64 gt.kind, .int .i64 gt.num, .string gt.name, .slice A' 0 c'], .int .i64 0])) ∧ (S 6 = true → (∃ A' c', x57 = Value.tuple #[.agg #[.int .i64 gt.kind, .int .i64 gt.num, .string gt.name, .slice A' 0 c'], .int .i64 0])) ∧ (S 7 = true → (∃ A' c', x64 = Value.agg #[.int .i64 gt.kind, .int .i64 gt.num, .string gt.name, .slice A' 0 c'])) ∧ (S 9 = true → W1.heap.size ≤ e ∧ (S 10 = false → Bk X e [.int .i64 0, .int .i64 0, .string ⟨#[]⟩, .slice none 0 0]) ∧ (S 10 = true → ∃ A' c', Bk X e [.int .i64 gt.kind, .int .i64 gt.num, .string gt.name, .slice A' 0 c'])) ∧ (S 10 = true → S 9 = true)) (by kernel_rfl) ?step ?fin 12 (fun _ => false) _ _ (by decide) ⟨undef, undef, undef, 0, rfl, (Below.refl _ W1).drew, fun h => (by cases h), fun h => (by cases h), fun h => (by cases h), fun h => (by cases h), fun h => (by cases h)⟩
          case step =>
            rintro S j o a X ho hs hp ⟨x63, x57, x64, e, rfl, hB, h5, h6, h7, h9, i10⟩
            have hlt : j < 12 := (Array.getElem?_eq_some_iff.1 ho).1
            rcases (show j = 0 ∨ j = 1 ∨ j = 2 ∨ j = 3 ∨ j = 4 ∨ j = 5 ∨ j = 6 ∨ j = 7 ∨ j = 8 ∨ j = 9 ∨ j = 10 ∨ j = 11 by omega) with rfl | rfl | rfl | rfl | rfl | rfl | rfl | rfl | rfl | rfl | rfl | rfl
            · injection ho with ho
              subst ho
              have y0 : X.cell? ⟨w2.heap.size, 0, none⟩ = some (.int .i64 g.q) := (hB.cell (p := ⟨_, 0, none⟩) lg).trans q0
              have y1 : X.cell? ⟨w2.heap.size, 1, none⟩ = some (.int .i64 g.u) := (hB.cell (p := ⟨_, 1, none⟩) lg).trans q1
              have y2 : X.cell? ⟨w2.heap.size, 2, none⟩ = some (.bool g.c) := (hB.cell (p := ⟨_, 2, none⟩) lg).trans q2
              have y3 : X.cell? ⟨w2.heap.size, 3, none⟩ = some (.bool g.d) := (hB.cell (p := ⟨_, 3, none⟩) lg).trans q3
              rw [if_pos (show Region.wanted _ _ = true from rfl)]
              refine wp_val (v := .agg #[.int .i64 g.q, .int .i64 g.u, .bool g.c, .bool g.d]) (w' := X) ?_ ⟨x63, x57, x64, e, rfl, hB, h5, h6, h7, h9, i10⟩
              simp [execOp, go_sem, Act.eval, y0, y1, y2, y3]
            · injection ho with ho
              subst ho
              rw [if_pos (show Region.wanted _ _ = true from rfl)]
              refine wp_val (v := .slice (some ⟨ng, 0, none⟩) 9 nc) (w' := X) ?_ ⟨x63, x57, x64, e, rfl, hB, h5, h6, h7, h9, i10⟩
              simp [execOp, go_sem, Act.eval]
            · injection ho with ho
              subst ho
              rw [if_pos (show Region.wanted _ _ = true from rfl)]
              refine wp_val (v := .int .i64 k) (w' := X) ?_ ⟨x63, x57, x64, e, rfl, hB, h5, h6, h7, h9, i10⟩
              simp [execOp, go_sem, Act.eval]
            · injection ho with ho
              subst ho
              have s1 : S 1 = true := hp ⟨1, .data⟩ (by simp) rfl
              have s2 : S 2 = true := hp ⟨2, .data⟩ (by simp) rfl
              rw [if_pos (show Region.wanted _ _ = true from rfl)]
              refine wp_val (v := .pointer (some ⟨ng, k, none⟩)) (w' := X) ?_ ⟨x63, x57, x64, e, rfl, hB, h5, h6, h7, h9, i10⟩
              simp [execOp, go_sem, Act.eval, s1, s2, hk0, hk1]
            · injection ho with ho
              subst ho
              have s3 : S 3 = true := hp ⟨3, .data⟩ (by simp) rfl
              have yn : X.cell? ⟨ng, k, none⟩ = some (.string nmk) := (hB.cell (p := ⟨ng, k, none⟩) lnq).trans nmq
              rw [if_pos (show Region.wanted _ _ = true from rfl)]
              refine wp_val (v := .string nmk) (w' := X) ?_ ⟨x63, x57, x64, e, rfl, hB, h5, h6, h7, h9, i10⟩
              simp [execOp, go_sem, Act.eval, s3, yn]
            · injection ho with ho
              subst ho
              have s0 : S 0 = true := hp ⟨0, .data⟩ (by simp) rfl
              have s4 : S 4 = true := hp ⟨4, .data⟩ (by simp) rfl
              rw [if_pos (show Region.wanted _ _ = true from rfl)]
              refine wp_cal ?_ (HGGk.out X) (fun v w' hR => ?_)
              · simp [execOp, go_sem, Act.eval, s0, s4]
                try rfl
              · obtain ⟨hv, hB'⟩ := hR
                exact ⟨v, x57, x64, e, rfl, hB.trans (hB'.mono hB.size), fun _ => hv, h6, h7, fun h => ⟨(h9 h).1, fun q => ((h9 h).2.1 q).call hB', fun q => (by obtain ⟨A', c', hb⟩ := (h9 h).2.2 q; exact ⟨A', c', hb.call hB'⟩)⟩, i10⟩
            · injection ho with ho
              subst ho
              have s5 : S 5 = true := hp ⟨5, .data⟩ (by simp) rfl
              obtain ⟨A9, c9, hx⟩ := h5 s5
              subst hx
              rw [if_pos (show Region.wanted _ _ = true from rfl)]
              refine wp_val (v := .tuple #[.agg #[.int .i64 gt.kind, .int .i64 gt.num, .string gt.name, .slice A9 0 c9], .int .i64 0]) (w' := X) ?_ ⟨_, _, x64, e, rfl, hB, fun _ => ⟨A9, c9, rfl⟩, fun _ => ⟨A9, c9, rfl⟩, h7, h9, i10⟩
              simp [execOp, go_sem, Act.eval, s5]
            · injection ho with ho
              subst ho
              have s6 : S 6 = true := hp ⟨6, .data⟩ (by simp) rfl
              obtain ⟨A9, c9, hx⟩ := h6 s6
              subst hx
              rw [if_pos (show Region.wanted _ _ = true from rfl)]
              refine wp_val (v := .agg #[.int .i64 gt.kind, .int .i64 gt.num, .string gt.name, .slice A9 0 c9]) (w' := X) ?_ ⟨x63, _, _, e, rfl, hB, h5, fun _ => ⟨A9, c9, rfl⟩, fun _ => ⟨A9, c9, rfl⟩, h9, i10⟩
              simp [execOp, go_sem, Act.eval, s6]
            · injection ho with ho
              subst ho
              have s6 : S 6 = true := hp ⟨6, .data⟩ (by simp) rfl
              obtain ⟨A9, c9, hx⟩ := h6 s6
              subst hx
              rw [if_pos (show Region.wanted _ _ = true from rfl)]
              refine wp_val (v := .int .i64 0) (w' := X) ?_ ⟨x63, _, x64, e, rfl, hB, h5, fun _ => ⟨A9, c9, rfl⟩, h7, h9, i10⟩
              simp [execOp, go_sem, Act.eval, s6]
            · injection ho with ho
              subst ho
              rw [if_pos (show Region.wanted _ _ = true from rfl)]
              refine wp_val (v := .pointer (some ⟨X.heap.size, 0, none⟩)) (w' := X.alloc (.cells #[.int .i64 0, .int .i64 0, .string ⟨#[]⟩, .slice none 0 0] 26)) ?_ ⟨x63, x57, x64, X.heap.size, rfl, hB.alloc hB.size _, h5, h6, h7, fun _ => ⟨hB.size, fun _ => Bk.new X [.int .i64 0, .int .i64 0, .string ⟨#[]⟩, .slice none 0 0] 26, fun q => absurd (i10 q) (by rw [hs]; simp)⟩, fun _ => rfl⟩
              simp [execOp, go_sem]
            · injection ho with ho
              subst ho
              have s7 : S 7 = true := hp ⟨7, .data⟩ (by simp) rfl
              have s9 : S 9 = true := hp ⟨9, .data⟩ (by simp) rfl
              rw [if_pos (show Region.wanted _ _ = true from rfl)]
              have hk := (h9 s9).2.1 hs
              obtain ⟨A9, c9, hx⟩ := h7 s7
              subst hx
              have z0 := hk.c 0 (.int .i64 0) rfl
              have f0 := hk.f 0
              have z1 := hk.c 1 (.int .i64 0) rfl
              have f1 := hk.f 1
              have z2 := hk.c 2 (.string ⟨#[]⟩) rfl
              have f2 := hk.f 2
              have z3 := hk.c 3 (.slice none 0 0) rfl
              have f3 := hk.f 3
              refine wp_skp (w' := ((((X.setCell ⟨e, 0, none⟩ (.int .i64 gt.kind)).setCell ⟨e, 1, none⟩ (.int .i64 gt.num)).setCell ⟨e, 2, none⟩ (.string gt.name)).setCell ⟨e, 3, none⟩ (.slice A9 0 c9))) ?_ ⟨x63, x57, _, e, rfl, ((((hB.setCell (p := ⟨_, _, none⟩) (h9 s9).1 _).setCell (p := ⟨_, _, none⟩) (h9 s9).1 _).setCell (p := ⟨_, _, none⟩) (h9 s9).1 _).setCell (p := ⟨_, _, none⟩) (h9 s9).1 _), h5, h6, fun _ => ⟨A9, c9, rfl⟩, fun _ => ⟨(h9 s9).1, fun q => absurd (show true = false from q) (by simp), fun _ => ⟨A9, c9, ((((hk.set 0 (.int .i64 gt.kind)).set 1 (.int .i64 gt.num)).set 2 (.string gt.name)).set 3 (.slice A9 0 c9))⟩⟩, fun _ => s9⟩
              simp [execOp, go_sem, Act.eval, s9, s7, z0, z1, z2, z3, f0, f1, f2, f3]
            · injection ho with ho
              subst ho
              have s8 : S 8 = true := hp ⟨8, .data⟩ (by simp) rfl
              rw [if_pos (show Region.wanted _ _ = true from rfl)]
              refine wp_val (v := .int .i64 0) (w' := X) ?_ ⟨x63, x57, x64, e, rfl, hB, h5, h6, h7, h9, i10⟩
              simp [execOp, go_sem, Act.eval, s8]
          case fin =>
            rintro S a W2 hall ⟨x63, x57, x64, e13, rfl, hB, h5, h6, h7, h9, -⟩
            have s0 : S 0 = true := hall 0 (show 0 < 12 by omega)
            have s1 : S 1 = true := hall 1 (show 1 < 12 by omega)
            have s2 : S 2 = true := hall 2 (show 2 < 12 by omega)
            have s3 : S 3 = true := hall 3 (show 3 < 12 by omega)
            have s4 : S 4 = true := hall 4 (show 4 < 12 by omega)
            have s5 : S 5 = true := hall 5 (show 5 < 12 by omega)
            have s6 : S 6 = true := hall 6 (show 6 < 12 by omega)
            have s7 : S 7 = true := hall 7 (show 7 < 12 by omega)
            have s8 : S 8 = true := hall 8 (show 8 < 12 by omega)
            have s9 : S 9 = true := hall 9 (show 9 < 12 by omega)
            have s10 : S 10 = true := hall 10 (show 10 < 12 by omega)
            have s11 : S 11 = true := hall 11 (show 11 < 12 by omega)
            obtain ⟨A13, c13, hb13⟩ := (h9 s9).2.2 s10
            obtain ⟨Aa13, ca13, hx5⟩ := h5 s5
            obtain ⟨Ab13, cb13, hx6⟩ := h6 s6
            obtain ⟨Ac13, cc13, hx7⟩ := h7 s7
            subst hx5 hx6 hx7
            have HX13 := Lib.hid hb13
            have HBB13 := Lib.hid hB
            refine hK13 _ _ ?_
            simp only [s0, s1, s2, s3, s4, s5, s6, s7, s8, s9, s11, if_true]
            clear hall h5 h6 h7 h9 hB hb13 hK13 s0 s1 s2 s3 s4 s5 s6 s7 s8 s9 s10 s11
            have HK0U := Lib.hid (HK0S.out.call HBB13.out)
            have HK1U := Lib.hid (HK1S.out.call HBB13.out)
            have HK7U := Lib.hid (HK7S.out.call HBB13.out)
            have HNU := Lib.hid (HNS.out.below HBB13.out)
            have HBU := Lib.hid (HBS.out.trans (HBB13.out.mono HBS.out.size))
            have HX12u := Lib.hid (HX12.out.call HBB13.out)
            clear HK0S HK1S HK7S HNS HBS HBB13 HX12 q0 q1 q2 q3 lg lnq nmq HGGk
            have nm3 : W2.cell? ⟨ng, k, none⟩ = some (.string nmk) := by rw [HNK.out]; exact HNU.out.2 k hlt
            have r0 := HX12u.out.c 0 (.int .i64 ft.kind) rfl
            have r1 := HX12u.out.c 1 (.int .i64 ft.num) rfl
            have r2 := HX12u.out.c 2 (.string ft.name) rfl
            have r3 := HX12u.out.c 3 (.slice A12 0 c12) rfl
            have v0 := HX13.out.c 0 (.int .i64 gt.kind) rfl
            have v1 := HX13.out.c 1 (.int .i64 gt.num) rfl
            have v2 := HX13.out.c 2 (.string gt.name) rfl
            have v3 := HX13.out.c 3 (.slice A13 0 c13) rfl
            by_cases hne : nmk.toList = s.toList
            · go_wp2_with fail
              go_roundw
              case rel => exact ⟨k + 1, by omega, by go_num, HBU, HK0U, HK1U, HK7U, HNU⟩
              case measure => simp [intOf] <;> omega
            · have HSN := Lib.hid (HSMk.out hne)
              go_wp2_with fail
              refine (HSN.out _ _ _ _ _).mono ?_; rintro e w9 ⟨rfl, hB9⟩
              have HB9 := Lib.hid hB9
              clear hB9
              have HK0V := Lib.hid (HK0U.out.call HB9.out)
              have HK1V := Lib.hid (HK1U.out.call HB9.out)
              have HK7V := Lib.hid (HK7U.out.call HB9.out)
              have HNV := Lib.hid (HNU.out.below HB9.out)
              have HBV := Lib.hid (HBU.out.trans (HB9.out.mono HBU.out.size))
              clear HK0U HK1U HK7U HNU HBU HB9
              go_wp2_with fail
              go_roundw
              case rel => exact ⟨k + 1, by omega, by go_num, HBV, HK0V, HK1V, HK7V, HNV⟩
              case measure => simp [intOf] <;> omega
      · have hk9 : k = 9 := by omega
        subst hk9
        have HKO : Hid (getE f s = 0 → setE f s (getT f s) = 5 ∨ (setE f s (getT f s) = 0 ∧ setF f s (getT f s) = f)) := Lib.hid fun h => set_own h
        obtain ⟨ov, HOV⟩ : ∃ ov, Hid (ov = getT f s) := ⟨_, Lib.hid rfl⟩
        have HOA : Hid (ov.args = []) := Lib.hid (by rw [HOV.out]; exact getT_args f s)
        obtain ⟨d, HDE⟩ : ∃ d, Hid (d = getE f s) := ⟨_, Lib.hid rfl⟩
        have HGO : Hid (∀ X, Calls Tryz.prog 16 #[.agg #[.int .i64 f.q, .int .i64 f.u, .bool f.c, .bool f.d], .string s] X fun e w' => ∃ A' c', e = .returned (.tuple #[.agg #[.int .i64 ov.kind, .int .i64 ov.num, .string ov.name, .slice A' 0 c'], .int .i64 d]) ∧ Below X.heap.size X w') := Lib.hid fun X => (HGF.out s X).mono fun e w' h => by
          obtain ⟨A', c', he, hB⟩ := h
          rw [← HOV.out, ← HDE.out] at he
          simp only [tmV, HOA.out, List.length_nil] at he
          exact ⟨A', c', he, hB⟩
        have HSO : Hid (∀ X A' c', Calls Tryz.prog 20 #[.agg #[.int .i64 f.q, .int .i64 f.u, .bool f.c, .bool f.d], .string s, .agg #[.int .i64 ov.kind, .int .i64 ov.num, .string ov.name, .slice A' 0 c']] X fun e w' => e = .returned (.tuple #[flV (setF f s ov), .int .i64 (setE f s ov)]) ∧ Below X.heap.size X w') := Lib.hid fun X A' c' => by
          have := f_set f s ov A' c' X (by rw [HOA.out]; exact TmsK.nil)
          simp only [tmV, HOA.out, List.length_nil] at this
          exact this
        rw [← HOV.out, ← HDE.out] at HKO
        clear HDE HOV
        have t0 := HK0R.out.c 0 (.int .i64 f.q) rfl
        have t1 := HK0R.out.c 1 (.int .i64 f.u) rfl
        have t2 := HK0R.out.c 2 (.bool f.c) rfl
        have t3 := HK0R.out.c 3 (.bool f.d) rfl
        have lt0 := HK0R.out.lt
        go_wp2_with fail
        refine (HGO.out _).mono ?_; rintro e wa ⟨Ao, co, rfl, hBa⟩
        have HBa := Lib.hid (HBR.out.trans (hBa.mono HBR.out.size))
        have HK0a := Lib.hid (HK0R.out.call hBa)
        clear hBa t0 t1 t2 t3 lt0 HGO
        have t0 := HK0a.out.c 0 (.int .i64 f.q) rfl
        have t1 := HK0a.out.c 1 (.int .i64 f.u) rfl
        have t2 := HK0a.out.c 2 (.bool f.c) rfl
        have t3 := HK0a.out.c 3 (.bool f.d) rfl
        have lt0 := HK0a.out.lt
        have hBb := HBa.out.alloc HBa.out.size (.cells #[.int .i64 ov.kind, .int .i64 ov.num, .string ov.name, .slice Ao 0 co] 26)
        have HBb := Lib.hid hBb
        clear hBb
        by_cases hd : d = 0
        · have hko := HKO.out hd
          subst hd
          clear HKO
          rcases hko with h5 | ⟨h0, hf⟩
          · rw [h5] at HSO
            obtain ⟨gx, HGX⟩ : ∃ gx, Hid (gx = setF f s ov) := ⟨_, Lib.hid rfl⟩
            rw [← HGX.out] at HSO
            clear h5 HGX
            unfold flV at HSO
            go_wp2_with fail
            refine (HSO.out _ _ _).mono ?_; rintro e wb ⟨rfl, hBc⟩
            have HBc := Lib.hid ((HBb.out.trans (hBc.mono HBb.out.size)).alloc (HBb.out.trans (hBc.mono HBb.out.size)).size (.cells #[.int .i64 gx.q, .int .i64 gx.u, .bool gx.c, .bool gx.d] 23))
            clear hBc
            go_wp2_with fail
            go_ret
            exact ⟨rfl, HBc.out⟩
          · rw [h0, hf] at HSO
            clear h0 hf
            unfold flV at HSO
            go_wp2_with fail
            refine (HSO.out _ _ _).mono ?_; rintro e wb ⟨rfl, hBc⟩
            have HBc := Lib.hid ((HBb.out.trans (hBc.mono HBb.out.size)).alloc (HBb.out.trans (hBc.mono HBb.out.size)).size (.cells #[.int .i64 f.q, .int .i64 f.u, .bool f.c, .bool f.d] 23))
            have HK0b := Lib.hid ((HK0a.out.al (.cells #[.int .i64 ov.kind, .int .i64 ov.num, .string ov.name, .slice Ao 0 co] 26)).call hBc)
            clear hBc t0 t1 t2 t3 lt0
            have t0 := HK0b.out.c 0 (.int .i64 f.q) rfl
            have t1 := HK0b.out.c 1 (.int .i64 f.u) rfl
            have t2 := HK0b.out.c 2 (.bool f.c) rfl
            have t3 := HK0b.out.c 3 (.bool f.d) rfl
            have lt0 := HK0b.out.lt
            go_wp2_with fail
            go_ret
            exact ⟨ret_bool (by simp), HBc.out⟩
        · clear HKO
          go_wp2_with fail
          go_ret
          exact ⟨rfl, HBb.out⟩
  · clear HKP HE
    have HKO : Hid (getE f s = 0 → setE f s (getT f s) = 5 ∨ (setE f s (getT f s) = 0 ∧ setF f s (getT f s) = f)) := Lib.hid fun h => set_own h
    obtain ⟨ov, HOV⟩ : ∃ ov, Hid (ov = getT f s) := ⟨_, Lib.hid rfl⟩
    have HOA : Hid (ov.args = []) := Lib.hid (by rw [HOV.out]; exact getT_args f s)
    obtain ⟨d, HDE⟩ : ∃ d, Hid (d = getE f s) := ⟨_, Lib.hid rfl⟩
    have HGO : Hid (∀ X, Calls Tryz.prog 16 #[.agg #[.int .i64 f.q, .int .i64 f.u, .bool f.c, .bool f.d], .string s] X fun e w' => ∃ A' c', e = .returned (.tuple #[.agg #[.int .i64 ov.kind, .int .i64 ov.num, .string ov.name, .slice A' 0 c'], .int .i64 d]) ∧ Below X.heap.size X w') := Lib.hid fun X => (HGF.out s X).mono fun e w' h => by
      obtain ⟨A', c', he, hB⟩ := h
      rw [← HOV.out, ← HDE.out] at he
      simp only [tmV, HOA.out, List.length_nil] at he
      exact ⟨A', c', he, hB⟩
    have HSO : Hid (∀ X A' c', Calls Tryz.prog 20 #[.agg #[.int .i64 f.q, .int .i64 f.u, .bool f.c, .bool f.d], .string s, .agg #[.int .i64 ov.kind, .int .i64 ov.num, .string ov.name, .slice A' 0 c']] X fun e w' => e = .returned (.tuple #[flV (setF f s ov), .int .i64 (setE f s ov)]) ∧ Below X.heap.size X w') := Lib.hid fun X A' c' => by
      have := f_set f s ov A' c' X (by rw [HOA.out]; exact TmsK.nil)
      simp only [tmV, HOA.out, List.length_nil] at this
      exact this
    rw [← HOV.out, ← HDE.out] at HKO
    clear HDE HOV
    have t0 := HK0c.out.c 0 (.int .i64 f.q) rfl
    have t1 := HK0c.out.c 1 (.int .i64 f.u) rfl
    have t2 := HK0c.out.c 2 (.bool f.c) rfl
    have t3 := HK0c.out.c 3 (.bool f.d) rfl
    have lt0 := HK0c.out.lt
    go_wp2_with fail
    refine (HGO.out _).mono ?_; rintro e wa ⟨Ao, co, rfl, hBa⟩
    have HBa := Lib.hid (HB3.out.trans (hBa.mono HB3.out.size))
    have HK0a := Lib.hid (HK03.out.call hBa)
    clear hBa t0 t1 t2 t3 lt0 HGO
    have t0 := HK0a.out.c 0 (.int .i64 f.q) rfl
    have t1 := HK0a.out.c 1 (.int .i64 f.u) rfl
    have t2 := HK0a.out.c 2 (.bool f.c) rfl
    have t3 := HK0a.out.c 3 (.bool f.d) rfl
    have lt0 := HK0a.out.lt
    have hBb := HBa.out.alloc HBa.out.size (.cells #[.int .i64 ov.kind, .int .i64 ov.num, .string ov.name, .slice Ao 0 co] 26)
    have HBb := Lib.hid hBb
    clear hBb
    by_cases hd : d = 0
    · have hko := HKO.out hd
      subst hd
      clear HKO
      rcases hko with h5 | ⟨h0, hf⟩
      · rw [h5] at HSO
        obtain ⟨gx, HGX⟩ : ∃ gx, Hid (gx = setF f s ov) := ⟨_, Lib.hid rfl⟩
        rw [← HGX.out] at HSO
        clear h5 HGX
        unfold flV at HSO
        go_wp2_with fail
        refine (HSO.out _ _ _).mono ?_; rintro e wb ⟨rfl, hBc⟩
        have HBc := Lib.hid ((HBb.out.trans (hBc.mono HBb.out.size)).alloc (HBb.out.trans (hBc.mono HBb.out.size)).size (.cells #[.int .i64 gx.q, .int .i64 gx.u, .bool gx.c, .bool gx.d] 23))
        clear hBc
        go_wp2_with fail
        go_ret
        exact ⟨rfl, HBc.out⟩
      · rw [h0, hf] at HSO
        clear h0 hf
        unfold flV at HSO
        go_wp2_with fail
        refine (HSO.out _ _ _).mono ?_; rintro e wb ⟨rfl, hBc⟩
        have HBc := Lib.hid ((HBb.out.trans (hBc.mono HBb.out.size)).alloc (HBb.out.trans (hBc.mono HBb.out.size)).size (.cells #[.int .i64 f.q, .int .i64 f.u, .bool f.c, .bool f.d] 23))
        have HK0b := Lib.hid ((HK0a.out.al (.cells #[.int .i64 ov.kind, .int .i64 ov.num, .string ov.name, .slice Ao 0 co] 26)).call hBc)
        clear hBc t0 t1 t2 t3 lt0
        have t0 := HK0b.out.c 0 (.int .i64 f.q) rfl
        have t1 := HK0b.out.c 1 (.int .i64 f.u) rfl
        have t2 := HK0b.out.c 2 (.bool f.c) rfl
        have t3 := HK0b.out.c 3 (.bool f.d) rfl
        have lt0 := HK0b.out.lt
        go_wp2_with fail
        go_ret
        exact ⟨ret_bool (by simp), HBc.out⟩
    · clear HKO
      go_wp2_with fail
      go_ret
      exact ⟨rfl, HBb.out⟩
end Go.Proofs.YtfkhcpeahdkafaaGreat
