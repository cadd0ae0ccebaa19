/- Balls: Struct, raise, Inst. Flags: Has, and its reference. Flags: what a predicate hands back; raise. Contracts: Clone and Same of tables. -/
import Derived.Test.YtfkhcpeahdkafaaGreatH17
import Derived.Test.YtfkhcpeahdkafaaGreatH07
import Derived.Test.YtfkhcpeahdkafaaGreatH15
import Derived.Test.YtfkhcpeahdkafaaGreatH11
import Derived.Laws.AppendOwnNone
namespace Hb
open Go Go.RowKit
def structT (s : ByteArray) (l : List Tm) : Tm := if l = [] then atomT s else cloneT (.mk 3 0 s l)
def ballT (s : ByteArray) (l : List Tm) : Tm := structT ⟨#[101, 114, 114, 111, 114]⟩ [structT s l, atomT ⟨#[91, 93]⟩]
theorem structT_cons {s : ByteArray} {l : List Tm} (h : l ≠ []) : structT s l = cloneT (.mk 3 0 s l) := if_neg h
theorem structT_nil (s : ByteArray) : structT s [] = atomT s := rfl
end Hb
namespace Go.Proofs.YtfkhcpeahdkafaaGreat
open Go.RowKit Hb
set_option maxRecDepth 100000
set_option maxHeartbeats 1600000 in
theorem t_struct (s : ByteArray) (A : Option Addr) (cap : Nat) (l : List Tm) (w : World) (hs : s.size ≤ 100) (hT : TmsAt w.heap.size w A l) : Calls Tryz.prog 159 #[.string s, .slice A l.length cap] w fun e w' => ∃ A' c', e = .returned (tmV (structT s l) A' c') ∧ Below w.heap.size w w' ∧ NewT w w' A' (structT s l).args := by
 have HB0 : Hid (Below w.heap.size w (w.alloc (.cells #[.int .i64 0, .int .i64 0, .string ⟨#[]⟩, .slice none 0 0] 26))) := Lib.hid ((Below.refl _ _).alloc (Nat.le_refl _) _)
 have HK0 : Hid (Bk (w.alloc (.cells #[.int .i64 0, .int .i64 0, .string ⟨#[]⟩, .slice none 0 0] 26)) w.heap.size [.int .i64 0, .int .i64 0, .string ⟨#[]⟩, .slice none 0 0]) := Lib.hid (Bk.new w [.int .i64 0, .int .i64 0, .string ⟨#[]⟩, .slice none 0 0] 26)
 have hlt0 : w.heap.size < (w.alloc (.cells #[.int .i64 0, .int .i64 0, .string ⟨#[]⟩, .slice none 0 0] 26)).heap.size := by simp
 by_cases hl : l = []
 ·subst hl
  rw [structT_nil]
  obtain ⟨at_, HAT⟩ : ∃ at_, Hid (at_ = atomT s) := ⟨_, Lib.hid rfl⟩
  have HA := Lib.hid (fun W => t_atom s hs W)
  rw [← HAT.out] at HA ⊢
  have HAA : Hid (at_.args = []) := Lib.hid (by rw [HAT.out]; rfl)
  clear hT hs
  rw [List.length_nil]
  go_enter Tryz.func159, Tryz.ntmps159
  go_wp2_with fail
  refine (HA.out _).mono ?_; rintro e w1 ⟨A1, c1, rfl, hB1⟩
  have HB1 := Lib.hid (HB0.out.trans (hB1.mono HB0.out.size))
  have HK1 := Lib.hid (HK0.out.call hB1)
  have HN9 : Hid (TmsK (fun b => w.heap.size < b ∧ b < w1.heap.size) w1 A1 at_.args) := Lib.hid (by rw [HAA.out]; exact TmsK.nil)
  clear hB1 HB0 HK0 hlt0 HA
  unfold tmV
  have z0 := HK1.out.c 0 (.int .i64 0) rfl
  have f0 := HK1.out.f 0
  have z1 := HK1.out.c 1 (.int .i64 0) rfl
  have f1 := HK1.out.f 1
  have z2 := HK1.out.c 2 (.string ⟨#[]⟩) rfl
  have f2 := HK1.out.f 2
  have z3 := HK1.out.c 3 (.slice none 0 0) rfl
  have f3 := HK1.out.f 3
  have hk1 : Bk ((((w1.setCell ⟨w.heap.size, 0, none⟩ (.int .i64 at_.kind)).setCell ⟨w.heap.size, 1, none⟩ (.int .i64 at_.num)).setCell ⟨w.heap.size, 2, none⟩ (.string at_.name)).setCell ⟨w.heap.size, 3, none⟩ (.slice A1 at_.args.length c1)) w.heap.size [.int .i64 at_.kind, .int .i64 at_.num, .string at_.name, .slice A1 at_.args.length c1] := ((((HK1.out.set 0 (.int .i64 at_.kind)).set 1 (.int .i64 at_.num)).set 2 (.string at_.name)).set 3 (.slice A1 at_.args.length c1))
  have hb1 : Below w.heap.size w ((((w1.setCell ⟨w.heap.size, 0, none⟩ (.int .i64 at_.kind)).setCell ⟨w.heap.size, 1, none⟩ (.int .i64 at_.num)).setCell ⟨w.heap.size, 2, none⟩ (.string at_.name)).setCell ⟨w.heap.size, 3, none⟩ (.slice A1 at_.args.length c1)) := ((((HB1.out.setCell (p := ⟨w.heap.size, _, none⟩) (Nat.le_refl _) _).setCell (p := ⟨w.heap.size, _, none⟩) (Nat.le_refl _) _).setCell (p := ⟨w.heap.size, _, none⟩) (Nat.le_refl _) _).setCell (p := ⟨w.heap.size, _, none⟩) (Nat.le_refl _) _)
  have hn1 : NewT w ((((w1.setCell ⟨w.heap.size, 0, none⟩ (.int .i64 at_.kind)).setCell ⟨w.heap.size, 1, none⟩ (.int .i64 at_.num)).setCell ⟨w.heap.size, 2, none⟩ (.string at_.name)).setCell ⟨w.heap.size, 3, none⟩ (.slice A1 at_.args.length c1)) A1 at_.args := HN9.out.keep (fun b hb => setg_other _ _ _ _ _ _ (by have := hb.1; omega)) (fun b hb => ⟨Nat.le_of_lt hb.1, by simpa using hb.2⟩)
  obtain ⟨wz, HWZ⟩ : ∃ wz, Hid (wz = ((((w1.setCell ⟨w.heap.size, 0, none⟩ (.int .i64 at_.kind)).setCell ⟨w.heap.size, 1, none⟩ (.int .i64 at_.num)).setCell ⟨w.heap.size, 2, none⟩ (.string at_.name)).setCell ⟨w.heap.size, 3, none⟩ (.slice A1 at_.args.length c1))) := ⟨_, Lib.hid rfl⟩
  rw [← HWZ.out] at hk1 hb1 hn1
  have HK9 := Lib.hid hk1
  have HB9 := Lib.hid hb1
  have HNN := Lib.hid hn1
  clear hk1 hb1 hn1
  go_wp2_with fail
  rw [← HWZ.out]
  have m0 := HK9.out.c 0 (.int .i64 at_.kind) rfl
  have m1 := HK9.out.c 1 (.int .i64 at_.num) rfl
  have m2 := HK9.out.c 2 (.string at_.name) rfl
  have m3 := HK9.out.c 3 (.slice A1 at_.args.length c1) rfl
  exact bodyPost_ret (v := .agg #[.int .i64 at_.kind, .int .i64 at_.num, .string at_.name, .slice A1 at_.args.length c1]) (by simp [results, Tryz.results159, go_sem, m0, m1, m2, m3]) rfl ⟨A1, c1, rfl, HB9.out, HNN.out⟩
 ·rw [structT_cons hl]
  obtain ⟨st, HST⟩ : ∃ st, Hid (st = cloneT (.mk 3 0 s l)) := ⟨_, Lib.hid rfl⟩
  obtain ⟨n, HN⟩ : ∃ n, Hid (n = l.length) := ⟨_, Lib.hid rfl⟩
  have hn : 0 < n := by rw [HN.out]; exact List.length_pos_iff.2 hl
  have HC : Hid (∀ W, Below w.heap.size w W → Calls Tryz.prog 137 #[.agg #[.int .i64 3, .int .i64 0, .string s, .slice A n cap]] W fun e w' => ∃ A' c', e = .returned (tmV st A' c') ∧ Below W.heap.size W w' ∧ NewT W w' A' st.args) := Lib.hid fun W hW => by
   have := t_clone (.mk 3 0 s l) A cap W ((hT.keep hW).mono hW.size)
   rw [← HST.out] at this
   rw [HN.out]
   exact this
  rw [← HST.out, ← HN.out]
  clear hT hs hl HST HN
  go_enter Tryz.func159, Tryz.ntmps159
  go_wp2_with fail
  refine (HC.out _ HB0.out).mono ?_; rintro e w1 ⟨A1, c1, rfl, hB1, hN1⟩
  have HB1 := Lib.hid (HB0.out.trans (hB1.mono HB0.out.size))
  have HK1 := Lib.hid (HK0.out.call hB1)
  have HN9 : Hid (TmsK (fun b => w.heap.size < b ∧ b < w1.heap.size) w1 A1 st.args) := Lib.hid (hN1.keep (fun _ _ => rfl) (fun b hb => ⟨Nat.lt_of_lt_of_le hlt0 hb.1, hb.2⟩))
  clear hB1 hN1 HB0 HK0 hlt0 HC
  unfold tmV
  have z0 := HK1.out.c 0 (.int .i64 0) rfl
  have f0 := HK1.out.f 0
  have z1 := HK1.out.c 1 (.int .i64 0) rfl
  have f1 := HK1.out.f 1
  have z2 := HK1.out.c 2 (.string ⟨#[]⟩) rfl
  have f2 := HK1.out.f 2
  have z3 := HK1.out.c 3 (.slice none 0 0) rfl
  have f3 := HK1.out.f 3
  have hk1 : Bk ((((w1.setCell ⟨w.heap.size, 0, none⟩ (.int .i64 st.kind)).setCell ⟨w.heap.size, 1, none⟩ (.int .i64 st.num)).setCell ⟨w.heap.size, 2, none⟩ (.string st.name)).setCell ⟨w.heap.size, 3, none⟩ (.slice A1 st.args.length c1)) w.heap.size [.int .i64 st.kind, .int .i64 st.num, .string st.name, .slice A1 st.args.length c1] := ((((HK1.out.set 0 (.int .i64 st.kind)).set 1 (.int .i64 st.num)).set 2 (.string st.name)).set 3 (.slice A1 st.args.length c1))
  have hb1 : Below w.heap.size w ((((w1.setCell ⟨w.heap.size, 0, none⟩ (.int .i64 st.kind)).setCell ⟨w.heap.size, 1, none⟩ (.int .i64 st.num)).setCell ⟨w.heap.size, 2, none⟩ (.string st.name)).setCell ⟨w.heap.size, 3, none⟩ (.slice A1 st.args.length c1)) := ((((HB1.out.setCell (p := ⟨w.heap.size, _, none⟩) (Nat.le_refl _) _).setCell (p := ⟨w.heap.size, _, none⟩) (Nat.le_refl _) _).setCell (p := ⟨w.heap.size, _, none⟩) (Nat.le_refl _) _).setCell (p := ⟨w.heap.size, _, none⟩) (Nat.le_refl _) _)
  have hn1 : NewT w ((((w1.setCell ⟨w.heap.size, 0, none⟩ (.int .i64 st.kind)).setCell ⟨w.heap.size, 1, none⟩ (.int .i64 st.num)).setCell ⟨w.heap.size, 2, none⟩ (.string st.name)).setCell ⟨w.heap.size, 3, none⟩ (.slice A1 st.args.length c1)) A1 st.args := HN9.out.keep (fun b hb => setg_other _ _ _ _ _ _ (by have := hb.1; omega)) (fun b hb => ⟨Nat.le_of_lt hb.1, by simpa using hb.2⟩)
  obtain ⟨wz, HWZ⟩ : ∃ wz, Hid (wz = ((((w1.setCell ⟨w.heap.size, 0, none⟩ (.int .i64 st.kind)).setCell ⟨w.heap.size, 1, none⟩ (.int .i64 st.num)).setCell ⟨w.heap.size, 2, none⟩ (.string st.name)).setCell ⟨w.heap.size, 3, none⟩ (.slice A1 st.args.length c1))) := ⟨_, Lib.hid rfl⟩
  rw [← HWZ.out] at hk1 hb1 hn1
  have HK9 := Lib.hid hk1
  have HB9 := Lib.hid hb1
  have HNN := Lib.hid hn1
  clear hk1 hb1 hn1
  go_wp2_with fail
  rw [← HWZ.out]
  have m0 := HK9.out.c 0 (.int .i64 st.kind) rfl
  have m1 := HK9.out.c 1 (.int .i64 st.num) rfl
  have m2 := HK9.out.c 2 (.string st.name) rfl
  have m3 := HK9.out.c 3 (.slice A1 st.args.length c1) rfl
  exact bodyPost_ret (v := .agg #[.int .i64 st.kind, .int .i64 st.num, .string st.name, .slice A1 st.args.length c1]) (by simp [results, Tryz.results159, go_sem, m0, m1, m2, m3]) rfl ⟨A1, c1, rfl, HB9.out, HNN.out⟩
set_option maxHeartbeats 1600000 in
theorem b_raise (s : ByteArray) (A : Option Addr) (cap : Nat) (l : List Tm) (w : World) (hs : s.size ≤ 100) (hT : TmsAt w.heap.size w A l) : Calls Tryz.prog 195 #[.string s, .slice A l.length cap] w fun e w' => ∃ A' c', e = .returned (tmV (ballT s l) A' c') ∧ Below w.heap.size w w' ∧ NewT w w' A' (ballT s l).args := by
 have HB0 : Hid (Below w.heap.size w (w.alloc (.cells #[.int .i64 0, .int .i64 0, .string ⟨#[]⟩, .slice none 0 0] 26))) := Lib.hid ((Below.refl _ _).alloc (Nat.le_refl _) _)
 have HK0 : Hid (Bk (w.alloc (.cells #[.int .i64 0, .int .i64 0, .string ⟨#[]⟩, .slice none 0 0] 26)) w.heap.size [.int .i64 0, .int .i64 0, .string ⟨#[]⟩, .slice none 0 0]) := Lib.hid (Bk.new w [.int .i64 0, .int .i64 0, .string ⟨#[]⟩, .slice none 0 0] 26)
 have hlt0 : w.heap.size < (w.alloc (.cells #[.int .i64 0, .int .i64 0, .string ⟨#[]⟩, .slice none 0 0] 26)).heap.size := by simp
 obtain ⟨x, HX⟩ : ∃ x, Hid (x = structT s l) := ⟨_, Lib.hid rfl⟩
 obtain ⟨y, HY⟩ : ∃ y, Hid (y = ballT s l) := ⟨_, Lib.hid rfl⟩
 have HYX : Hid (y = structT ⟨#[101, 114, 114, 111, 114]⟩ [x, atomT ⟨#[91, 93]⟩]) := Lib.hid (by rw [HY.out, HX.out]; rfl)
 have HS1 : Hid (∀ W, Below w.heap.size w W → Calls Tryz.prog 159 #[.string s, .slice A l.length cap] W fun e w' => ∃ A' c', e = .returned (tmV x A' c') ∧ Below W.heap.size W w' ∧ NewT W w' A' x.args) := Lib.hid fun W hW => by
  have := t_struct s A cap l W hs ((hT.keep hW).mono hW.size)
  rwa [← HX.out] at this
 have HA1 : Hid (∀ W, Calls Tryz.prog 85 #[.string ⟨#[91, 93]⟩] W fun e w' => ∃ A' c', e = .returned (.agg #[.int .i64 2, .int .i64 0, .string ⟨#[91, 93]⟩, .slice A' 0 c']) ∧ Below W.heap.size W w') := Lib.hid fun W => t_atom ⟨#[91, 93]⟩ (by decide) W
 rw [← HY.out]
 generalize l.length = n at *
 clear hT hs HX HY
 go_enter Tryz.func195, Tryz.ntmps195
 go_wp2_with fail
 refine (HS1.out _ HB0.out).mono ?_; rintro e w1 ⟨A1, c1, rfl, hB1, hN1⟩
 have HB1 := Lib.hid (HB0.out.trans (hB1.mono HB0.out.size))
 have HK1 := Lib.hid (HK0.out.call hB1)
 have HN1 : Hid (TmsK (fun b => w.heap.size < b ∧ b < w1.heap.size) w1 A1 x.args) := Lib.hid (hN1.keep (fun _ _ => rfl) (fun b hb => ⟨Nat.lt_of_lt_of_le hlt0 hb.1, hb.2⟩))
 clear hB1 hN1 HB0 HK0 hlt0 HS1
 unfold tmV
 go_wp2_with fail
 refine (HA1.out _).mono ?_; rintro e w2 ⟨A2, c2, rfl, hB2⟩
 have HB2 := Lib.hid (HB1.out.trans (hB2.mono HB1.out.size))
 have HK2 := Lib.hid (HK1.out.call hB2)
 have HN2 : Hid (TmsAt w2.heap.size w2 A1 x.args) := Lib.hid (TmsK.at' (HN1.out.keep (K' := fun _ => True) (fun b hb => hB2.block b hb.2) (fun _ _ => trivial)))
 clear hB2 HB1 HK1 HN1 HA1
 have HS2 : Hid (Calls Tryz.prog 159 #[.string ⟨#[101, 114, 114, 111, 114]⟩, .slice (some ⟨w2.heap.size, 0, none⟩) 2 2] (w2.alloc (.cells #[.int .i64 x.kind, .int .i64 x.num, .string x.name, .slice A1 x.args.length c1, .int .i64 2, .int .i64 0, .string ⟨#[91, 93]⟩, .slice A2 0 c2] 26)) fun e w' => ∃ A' c', e = .returned (tmV y A' c') ∧ Below (w2.alloc (.cells #[.int .i64 x.kind, .int .i64 x.num, .string x.name, .slice A1 x.args.length c1, .int .i64 2, .int .i64 0, .string ⟨#[91, 93]⟩, .slice A2 0 c2] 26)).heap.size (w2.alloc (.cells #[.int .i64 x.kind, .int .i64 x.num, .string x.name, .slice A1 x.args.length c1, .int .i64 2, .int .i64 0, .string ⟨#[91, 93]⟩, .slice A2 0 c2] 26)) w' ∧ NewT (w2.alloc (.cells #[.int .i64 x.kind, .int .i64 x.num, .string x.name, .slice A1 x.args.length c1, .int .i64 2, .int .i64 0, .string ⟨#[91, 93]⟩, .slice A2 0 c2] 26)) w' A' y.args) := Lib.hid (by
  have hr := TmsK.rows (K := fun b => b < w2.heap.size + 1) (w := w2) (rs := [(x, A1, c1), (atomT ⟨#[91, 93]⟩, A2, c2)]) (e := 26) (by omega) (by simp [maxLen]) (fun r hr => by
   simp only [List.mem_cons, List.mem_nil_iff, or_false] at hr
   rcases hr with rfl | rfl
   ·exact (HN2.out.keep ((Below.refl w2.heap.size w2).alloc (Nat.le_refl _) _)).mono (by omega)
   ·exact TmsK.nil)
  have := t_struct ⟨#[101, 114, 114, 111, 114]⟩ _ 2 _ _ (by decide) (TmsK.at' hr)
  rw [show ([(x, A1, c1), (atomT ⟨#[91, 93]⟩, A2, c2)] : List TR).map (fun r : TR => r.1) = [x, atomT ⟨#[91, 93]⟩] from rfl, ← HYX.out] at this
  exact this)
 go_wp2_with fail
 refine HS2.out.mono ?_; rintro e w3 ⟨A3, c3, rfl, hB3, hN3⟩
 have hB23 : Below w2.heap.size w2 w3 := ((Below.refl w2.heap.size w2).alloc (Nat.le_refl _) _).trans (hB3.mono (by simp))
 have HB3 := Lib.hid (HB2.out.trans (hB23.mono HB2.out.size))
 have HK3 := Lib.hid (HK2.out.call hB23)
 have hlt2 := HK2.out.lt
 have HN9 : Hid (TmsK (fun b => w.heap.size < b ∧ b < w3.heap.size) w3 A3 y.args) := Lib.hid (hN3.keep (fun _ _ => rfl) (fun b hb => ⟨by have := hb.1; rw [World.size_alloc] at this; omega, hb.2⟩))
 clear hB3 hN3 hB23 HB2 HK2 HN2 HS2 hlt2 HYX
 unfold tmV
 have z0 := HK3.out.c 0 (.int .i64 0) rfl
 have f0 := HK3.out.f 0
 have z1 := HK3.out.c 1 (.int .i64 0) rfl
 have f1 := HK3.out.f 1
 have z2 := HK3.out.c 2 (.string ⟨#[]⟩) rfl
 have f2 := HK3.out.f 2
 have z3 := HK3.out.c 3 (.slice none 0 0) rfl
 have f3 := HK3.out.f 3
 have hk1 : Bk ((((w3.setCell ⟨w.heap.size, 0, none⟩ (.int .i64 y.kind)).setCell ⟨w.heap.size, 1, none⟩ (.int .i64 y.num)).setCell ⟨w.heap.size, 2, none⟩ (.string y.name)).setCell ⟨w.heap.size, 3, none⟩ (.slice A3 y.args.length c3)) w.heap.size [.int .i64 y.kind, .int .i64 y.num, .string y.name, .slice A3 y.args.length c3] := ((((HK3.out.set 0 (.int .i64 y.kind)).set 1 (.int .i64 y.num)).set 2 (.string y.name)).set 3 (.slice A3 y.args.length c3))
 have hb1 : Below w.heap.size w ((((w3.setCell ⟨w.heap.size, 0, none⟩ (.int .i64 y.kind)).setCell ⟨w.heap.size, 1, none⟩ (.int .i64 y.num)).setCell ⟨w.heap.size, 2, none⟩ (.string y.name)).setCell ⟨w.heap.size, 3, none⟩ (.slice A3 y.args.length c3)) := ((((HB3.out.setCell (p := ⟨w.heap.size, _, none⟩) (Nat.le_refl _) _).setCell (p := ⟨w.heap.size, _, none⟩) (Nat.le_refl _) _).setCell (p := ⟨w.heap.size, _, none⟩) (Nat.le_refl _) _).setCell (p := ⟨w.heap.size, _, none⟩) (Nat.le_refl _) _)
 have hn1 : NewT w ((((w3.setCell ⟨w.heap.size, 0, none⟩ (.int .i64 y.kind)).setCell ⟨w.heap.size, 1, none⟩ (.int .i64 y.num)).setCell ⟨w.heap.size, 2, none⟩ (.string y.name)).setCell ⟨w.heap.size, 3, none⟩ (.slice A3 y.args.length c3)) A3 y.args := HN9.out.keep (fun b hb => setg_other _ _ _ _ _ _ (by have := hb.1; omega)) (fun b hb => ⟨Nat.le_of_lt hb.1, by simpa using hb.2⟩)
 obtain ⟨wz, HWZ⟩ : ∃ wz, Hid (wz = ((((w3.setCell ⟨w.heap.size, 0, none⟩ (.int .i64 y.kind)).setCell ⟨w.heap.size, 1, none⟩ (.int .i64 y.num)).setCell ⟨w.heap.size, 2, none⟩ (.string y.name)).setCell ⟨w.heap.size, 3, none⟩ (.slice A3 y.args.length c3))) := ⟨_, Lib.hid rfl⟩
 rw [← HWZ.out] at hk1 hb1 hn1
 have HK9 := Lib.hid hk1
 have HB9 := Lib.hid hb1
 have HNN := Lib.hid hn1
 clear hk1 hb1 hn1
 go_wp2_with fail
 rw [← HWZ.out]
 have m0 := HK9.out.c 0 (.int .i64 y.kind) rfl
 have m1 := HK9.out.c 1 (.int .i64 y.num) rfl
 have m2 := HK9.out.c 2 (.string y.name) rfl
 have m3 := HK9.out.c 3 (.slice A3 y.args.length c3) rfl
 exact bodyPost_ret (v := .agg #[.int .i64 y.kind, .int .i64 y.num, .string y.name, .slice A3 y.args.length c3]) (by simp [results, Tryz.results195, go_sem, m0, m1, m2, m3]) rfl ⟨A3, c3, rfl, HB9.out, HNN.out⟩
theorem b_inst (w : World) : Calls Tryz.prog 160 #[] w fun e w' => ∃ A' c', e = .returned (tmV (ballT ⟨#[105, 110, 115, 116, 97, 110, 116, 105, 97, 116, 105, 111, 110, 95, 101, 114, 114, 111, 114]⟩ []) A' c') ∧ Below w.heap.size w w' ∧ NewT w w' A' (ballT ⟨#[105, 110, 115, 116, 97, 110, 116, 105, 97, 116, 105, 111, 110, 95, 101, 114, 114, 111, 114]⟩ []).args := by
 have HB0 : Hid (Below w.heap.size w (w.alloc (.cells #[.int .i64 0, .int .i64 0, .string ⟨#[]⟩, .slice none 0 0] 26))) := Lib.hid ((Below.refl _ _).alloc (Nat.le_refl _) _)
 have HK0 : Hid (Bk (w.alloc (.cells #[.int .i64 0, .int .i64 0, .string ⟨#[]⟩, .slice none 0 0] 26)) w.heap.size [.int .i64 0, .int .i64 0, .string ⟨#[]⟩, .slice none 0 0]) := Lib.hid (Bk.new w [.int .i64 0, .int .i64 0, .string ⟨#[]⟩, .slice none 0 0] 26)
 have hlt0 : w.heap.size < (w.alloc (.cells #[.int .i64 0, .int .i64 0, .string ⟨#[]⟩, .slice none 0 0] 26)).heap.size := by simp
 obtain ⟨y, HY⟩ : ∃ y, Hid (y = ballT ⟨#[105, 110, 115, 116, 97, 110, 116, 105, 97, 116, 105, 111, 110, 95, 101, 114, 114, 111, 114]⟩ []) := ⟨_, Lib.hid rfl⟩
 have HR : Hid (∀ W, Calls Tryz.prog 195 #[.string ⟨#[105, 110, 115, 116, 97, 110, 116, 105, 97, 116, 105, 111, 110, 95, 101, 114, 114, 111, 114]⟩, .slice none 0 0] W fun e w' => ∃ A' c', e = .returned (tmV y A' c') ∧ Below W.heap.size W w' ∧ NewT W w' A' y.args) := Lib.hid fun W => by
  have := b_raise ⟨#[105, 110, 115, 116, 97, 110, 116, 105, 97, 116, 105, 111, 110, 95, 101, 114, 114, 111, 114]⟩ none 0 [] W (by decide) TmsK.nil
  rwa [← HY.out] at this
 rw [← HY.out]
 clear HY
 go_enter Tryz.func160, Tryz.ntmps160
 go_wp2_with fail
 refine (HR.out _).mono ?_; rintro e w1 ⟨A1, c1, rfl, hB1, hN1⟩
 have HB1 := Lib.hid (HB0.out.trans (hB1.mono HB0.out.size))
 have HK1 := Lib.hid (HK0.out.call hB1)
 have HN9 : Hid (TmsK (fun b => w.heap.size < b ∧ b < w1.heap.size) w1 A1 y.args) := Lib.hid (hN1.keep (fun _ _ => rfl) (fun b hb => ⟨Nat.lt_of_lt_of_le hlt0 hb.1, hb.2⟩))
 clear hB1 hN1 HB0 HK0 hlt0 HR
 unfold tmV
 have z0 := HK1.out.c 0 (.int .i64 0) rfl
 have f0 := HK1.out.f 0
 have z1 := HK1.out.c 1 (.int .i64 0) rfl
 have f1 := HK1.out.f 1
 have z2 := HK1.out.c 2 (.string ⟨#[]⟩) rfl
 have f2 := HK1.out.f 2
 have z3 := HK1.out.c 3 (.slice none 0 0) rfl
 have f3 := HK1.out.f 3
 have hk1 : Bk ((((w1.setCell ⟨w.heap.size, 0, none⟩ (.int .i64 y.kind)).setCell ⟨w.heap.size, 1, none⟩ (.int .i64 y.num)).setCell ⟨w.heap.size, 2, none⟩ (.string y.name)).setCell ⟨w.heap.size, 3, none⟩ (.slice A1 y.args.length c1)) w.heap.size [.int .i64 y.kind, .int .i64 y.num, .string y.name, .slice A1 y.args.length c1] := ((((HK1.out.set 0 (.int .i64 y.kind)).set 1 (.int .i64 y.num)).set 2 (.string y.name)).set 3 (.slice A1 y.args.length c1))
 have hb1 : Below w.heap.size w ((((w1.setCell ⟨w.heap.size, 0, none⟩ (.int .i64 y.kind)).setCell ⟨w.heap.size, 1, none⟩ (.int .i64 y.num)).setCell ⟨w.heap.size, 2, none⟩ (.string y.name)).setCell ⟨w.heap.size, 3, none⟩ (.slice A1 y.args.length c1)) := ((((HB1.out.setCell (p := ⟨w.heap.size, _, none⟩) (Nat.le_refl _) _).setCell (p := ⟨w.heap.size, _, none⟩) (Nat.le_refl _) _).setCell (p := ⟨w.heap.size, _, none⟩) (Nat.le_refl _) _).setCell (p := ⟨w.heap.size, _, none⟩) (Nat.le_refl _) _)
 have hn1 : NewT w ((((w1.setCell ⟨w.heap.size, 0, none⟩ (.int .i64 y.kind)).setCell ⟨w.heap.size, 1, none⟩ (.int .i64 y.num)).setCell ⟨w.heap.size, 2, none⟩ (.string y.name)).setCell ⟨w.heap.size, 3, none⟩ (.slice A1 y.args.length c1)) A1 y.args := HN9.out.keep (fun b hb => setg_other _ _ _ _ _ _ (by have := hb.1; omega)) (fun b hb => ⟨Nat.le_of_lt hb.1, by simpa using hb.2⟩)
 obtain ⟨wz, HWZ⟩ : ∃ wz, Hid (wz = ((((w1.setCell ⟨w.heap.size, 0, none⟩ (.int .i64 y.kind)).setCell ⟨w.heap.size, 1, none⟩ (.int .i64 y.num)).setCell ⟨w.heap.size, 2, none⟩ (.string y.name)).setCell ⟨w.heap.size, 3, none⟩ (.slice A1 y.args.length c1))) := ⟨_, Lib.hid rfl⟩
 rw [← HWZ.out] at hk1 hb1 hn1
 have HK9 := Lib.hid hk1
 have HB9 := Lib.hid hb1
 have HNN := Lib.hid hn1
 clear hk1 hb1 hn1
 go_wp2_with fail
 rw [← HWZ.out]
 have m0 := HK9.out.c 0 (.int .i64 y.kind) rfl
 have m1 := HK9.out.c 1 (.int .i64 y.num) rfl
 have m2 := HK9.out.c 2 (.string y.name) rfl
 have m3 := HK9.out.c 3 (.slice A1 y.args.length c1) rfl
 exact bodyPost_ret (v := .agg #[.int .i64 y.kind, .int .i64 y.num, .string y.name, .slice A1 y.args.length c1]) (by simp [results, Tryz.results160, go_sem, m0, m1, m2, m3]) rfl ⟨A1, c1, rfl, HB9.out, HNN.out⟩
end Go.Proofs.YtfkhcpeahdkafaaGreat
namespace Hb
open Go Go.RowKit
def pIx (s : ByteArray) (n : Int) : Nat := ((List.range 6).find? fun j => decide (s = pNm j ∧ n = pAr j)).getD 6
theorem pIx_some {s : ByteArray} {n : Int} (h : pIx s n < 6) : s = pNm (pIx s n) ∧ n = pAr (pIx s n) := by
 unfold pIx at *
 cases h' : (List.range 6).find? fun j => decide (s = pNm j ∧ n = pAr j) with
 | none => rw [h'] at h; exact absurd h (by simp)
 | some j => simpa using List.find?_some h'
theorem pIx_none {s : ByteArray} {n : Int} (h : ¬ pIx s n < 6) : ∀ j, j < 6 → ¬ (s = pNm j ∧ n = pAr j) := by
 intro j hj hc
 apply h
 unfold pIx
 cases h' : (List.range 6).find? fun j => decide (s = pNm j ∧ n = pAr j) with
 | none =>
  have := List.find?_eq_none.1 h' j (List.mem_range.2 hj)
  simp [hc.1, hc.2] at this
 | some k => exact List.mem_range.1 (List.mem_of_find?_eq_some h')
def hasP (s : ByteArray) (n : Int) : Bool := decide (pIx s n < 6)
end Hb
namespace Go.Proofs.YtfkhcpeahdkafaaGreat
open Go.RowKit Hb
set_option maxRecDepth 100000
theorem klit_inj {s s' : ByteArray} {n n' : Int} (hs : s.size ≤ maxLen) (hn : (Lit.int .i64 n).wf = true) (hs' : s'.size ≤ maxLen) (hn' : (Lit.int .i64 n').wf = true) (h : klit s n = klit s' n') : s = s' ∧ n = n' := by
 have h1 := klit_is s n hs hn
 rw [h] at h1
 exact keyV_inj (key_law.inj h1 (klit_is s' n' hs' hn'))
theorem pred_find (X : World) (mb : Nat) (s : ByteArray) (n : Int) (hs : s.size ≤ maxLen) (hn : (Lit.int .i64 n).wf = true) (h : PredIs X mb) : ∃ f, (f = .nilFunc ∨ ∃ k : Nat, f = .func (.func k) #[] #[]) ∧ (pIx s n < 6 → f = .func (.func (pFn (pIx s n))) #[] #[]) ∧ (Instr.lookup 94 (.map (some mb)) (keyV s n) true).run Tryz.prog X = .ok (.tuple #[.agg #[f], .bool (hasP s n)]) X := by
 obtain ⟨m, D, hown, hhas, hat⟩ := h
 have hz : (zeroValue 92).run Tryz.prog X = .ok (.agg #[.nilFunc]) X := by kernel_rfl
 obtain ⟨v, ps, hrun, hv⟩ := hown.look_ok key_law Tryz.underlying94 hz predR_nil (klit_is s n hs hn)
 have hhas' : Maps.has D (klit s n) = hasP s n := by
  rw [Bool.eq_iff_iff, hhas]
  unfold hasP
  rw [decide_eq_true_iff]
  constructor
  ·rintro ⟨j, hj, e⟩
   obtain ⟨e1, e2⟩ := klit_inj hs hn (p_small j) (p_wf j) e
   by_cases hc : pIx s n < 6
   ·exact hc
   ·exact absurd ⟨e1, e2⟩ (pIx_none hc j hj)
  ·intro hc
   obtain ⟨e1, e2⟩ := pIx_some hc
   exact ⟨pIx s n, hc, by rw [← e1, ← e2]⟩
 rw [hhas'] at hrun
 by_cases hc : pIx s n < 6
 ·obtain ⟨e1, e2⟩ := pIx_some hc
  have hk : klit s n = klit (pNm (pIx s n)) (pAr (pIx s n)) := by rw [← e1, ← e2]
  rw [hk, hat _ _ hc] at hv
  rcases predR_inv hv with ⟨h1, _⟩ | ⟨m, h1, h2⟩
  ·exact absurd h1 (by omega)
  ·have hm : m = pFn (pIx s n) := by omega
   subst hm
   subst h2
   exact ⟨_, .inr ⟨_, rfl⟩, fun _ => rfl, hrun⟩
 ·have hno : Maps.has D (klit s n) = false := by rw [hhas']; unfold hasP; exact decide_eq_false hc
  rw [Maps.atKey_of_not_has hno] at hv
  rcases predR_inv hv with ⟨_, h2⟩ | ⟨m, h1, h2⟩
  ·subst h2
   exact ⟨_, .inl rfl, fun h => absurd h hc, hrun⟩
  ·exact absurd h1 (by omega)
end Go.Proofs.YtfkhcpeahdkafaaGreat
namespace Hb
open Go Go.RowKit
structure RV where
 (oa : Option Addr) (on oc : Nat) (q u : Int) (c d : Bool) (ca : Option Addr) (cn cc : Nat)
 (ra : Option Addr) (rn rc : Nat)
 (bk bn : Int) (bs : ByteArray) (ba : Option Addr) (bz bc : Nat)
 (er : Int)
def RV.val (r : RV) : Value := .tuple #[.agg #[.slice r.oa r.on r.oc, .int .i64 r.q, .int .i64 r.u, .bool r.c, .bool r.d, .slice r.ca r.cn r.cc], .slice r.ra r.rn r.rc, .agg #[.int .i64 r.bk, .int .i64 r.bn, .string r.bs, .slice r.ba r.bz r.bc], .int .i64 r.er]
def rvB (k n : Int) (s : ByteArray) (A : Option Addr) (z c : Nat) (er : Int) : RV := ⟨none, 0, 0, 0, 0, false, false, none, 0, 0, none, 0, 0, k, n, s, A, z, c, er⟩
end Hb
namespace Go.Proofs.YtfkhcpeahdkafaaGreat
open Go.RowKit Hb
set_option maxRecDepth 100000
set_option maxHeartbeats 1600000 in
theorem f_raise (t : Tm) (A : Option Addr) (cap : Nat) (w : World) : Calls Tryz.prog 146 #[tmV t A cap] w fun e w' => e = .returned (rvB t.kind t.num t.name A t.args.length cap 8).val ∧ Below w.heap.size w w' := by
 unfold tmV
 obtain ⟨LN, HLN⟩ : ∃ LN, Hid (LN = t.args.length) := ⟨_, Lib.hid rfl⟩
 rw [← HLN.out]
 have HBL0 : Hid (Below w.heap.size w ((((w.alloc (.cells #[.int .i64 t.kind, .int .i64 t.num, .string t.name, .slice A LN cap] 26)).alloc (.cells #[.slice none 0 0, .int .i64 0, .int .i64 0, .bool false, .bool false, .slice none 0 0] 43)).alloc (.cells #[.int .i64 0, .int .i64 0, .string ⟨#[]⟩, .slice none 0 0] 26)))) := Lib.hid ((((Below.refl _ w).alloc (Nat.le_refl _) _).alloc (by simp) _).alloc (by simp; omega) _)
 have HBK0 : Hid (Bks ((((w.alloc (.cells #[.int .i64 t.kind, .int .i64 t.num, .string t.name, .slice A LN cap] 26)).alloc (.cells #[.slice none 0 0, .int .i64 0, .int .i64 0, .bool false, .bool false, .slice none 0 0] 43)).alloc (.cells #[.int .i64 0, .int .i64 0, .string ⟨#[]⟩, .slice none 0 0] 26))) [(w.heap.size + 1 + 1, [.int .i64 0, .int .i64 0, .string ⟨#[]⟩, .slice none 0 0]), (w.heap.size + 1, [.slice none 0 0, .int .i64 0, .int .i64 0, .bool false, .bool false, .slice none 0 0]), (w.heap.size, [.int .i64 t.kind, .int .i64 t.num, .string t.name, .slice A LN cap])]) := Lib.hid ((((Bks.nil w).new [.int .i64 t.kind, .int .i64 t.num, .string t.name, .slice A LN cap] 26 rfl).new [.slice none 0 0, .int .i64 0, .int .i64 0, .bool false, .bool false, .slice none 0 0] 43 (by simp)).new [.int .i64 0, .int .i64 0, .string ⟨#[]⟩, .slice none 0 0] 26 (by simp))
 go_enter Tryz.func146, Tryz.ntmps146
 go_wp2_with fail
 obtain ⟨W0, HW0⟩ : ∃ W0, Hid (W0 = (((w.alloc (.cells #[.int .i64 t.kind, .int .i64 t.num, .string t.name, .slice A LN cap] 26)).alloc (.cells #[.slice none 0 0, .int .i64 0, .int .i64 0, .bool false, .bool false, .slice none 0 0] 43)).alloc (.cells #[.int .i64 0, .int .i64 0, .string ⟨#[]⟩, .slice none 0 0] 26))) := ⟨_, Lib.hid rfl⟩
 rw [← HW0.out] at HBL0 HBK0 ⊢
 clear HW0
 have a0_0 := HBK0.out.cell 2 0 rfl rfl
 have a0_1 := HBK0.out.cell 2 1 rfl rfl
 have a0_2 := HBK0.out.cell 2 2 rfl rfl
 have a0_3 := HBK0.out.cell 2 3 rfl rfl
 have a1_0 := HBK0.out.cell 1 0 rfl rfl
 have a1_1 := HBK0.out.cell 1 1 rfl rfl
 have a1_2 := HBK0.out.cell 1 2 rfl rfl
 have a1_3 := HBK0.out.cell 1 3 rfl rfl
 have a1_4 := HBK0.out.cell 1 4 rfl rfl
 have a1_5 := HBK0.out.cell 1 5 rfl rfl
 have a2_0 := HBK0.out.cell 0 0 rfl rfl
 have a2_1 := HBK0.out.cell 0 1 rfl rfl
 have a2_2 := HBK0.out.cell 0 2 rfl rfl
 have a2_3 := HBK0.out.cell 0 3 rfl rfl
 have a1f0 := HBK0.out.fz 1 0 rfl
 have a1f1 := HBK0.out.fz 1 1 rfl
 have a1f2 := HBK0.out.fz 1 2 rfl
 have a1f3 := HBK0.out.fz 1 3 rfl
 have a1f4 := HBK0.out.fz 1 4 rfl
 have a1f5 := HBK0.out.fz 1 5 rfl
 have a2f0 := HBK0.out.fz 0 0 rfl
 have a2f1 := HBK0.out.fz 0 1 rfl
 have a2f2 := HBK0.out.fz 0 2 rfl
 have a2f3 := HBK0.out.fz 0 3 rfl
 have a0l : w.heap.size < W0.heap.size := HBK0.out.lt 2 rfl
 have a1l : w.heap.size + 1 < W0.heap.size := HBK0.out.lt 1 rfl
 have a2l : w.heap.size + 1 + 1 < W0.heap.size := HBK0.out.lt 0 rfl
 have HBKZ : Hid (Bks (((((((((((W0.setCell ⟨w.heap.size + 1, 0, none⟩ (.slice none 0 0)).setCell ⟨w.heap.size + 1, 1, none⟩ (.int .i64 0)).setCell ⟨w.heap.size + 1, 2, none⟩ (.int .i64 0)).setCell ⟨w.heap.size + 1, 3, none⟩ (.bool false)).setCell ⟨w.heap.size + 1, 4, none⟩ (.bool false)).setCell ⟨w.heap.size + 1, 5, none⟩ (.slice none 0 0)).setCell ⟨w.heap.size + 1 + 1, 0, none⟩ (.int .i64 t.kind)).setCell ⟨w.heap.size + 1 + 1, 1, none⟩ (.int .i64 t.num)).setCell ⟨w.heap.size + 1 + 1, 2, none⟩ (.string t.name)).setCell ⟨w.heap.size + 1 + 1, 3, none⟩ (.slice A LN cap))).drew [(w.heap.size + 1 + 1, [.int .i64 t.kind, .int .i64 t.num, .string t.name, .slice A LN cap]), (w.heap.size + 1, [.slice none 0 0, .int .i64 0, .int .i64 0, .bool false, .bool false, .slice none 0 0]), (w.heap.size, [.int .i64 t.kind, .int .i64 t.num, .string t.name, .slice A LN cap])]) := Lib.hid (((HBK0.out.set6 1 rfl (.slice none 0 0) (.int .i64 0) (.int .i64 0) (.bool false) (.bool false) (.slice none 0 0)).set4 0 rfl (.int .i64 t.kind) (.int .i64 t.num) (.string t.name) (.slice A LN cap))).dr
 have HBLZ : Hid (Below w.heap.size w (((((((((((W0.setCell ⟨w.heap.size + 1, 0, none⟩ (.slice none 0 0)).setCell ⟨w.heap.size + 1, 1, none⟩ (.int .i64 0)).setCell ⟨w.heap.size + 1, 2, none⟩ (.int .i64 0)).setCell ⟨w.heap.size + 1, 3, none⟩ (.bool false)).setCell ⟨w.heap.size + 1, 4, none⟩ (.bool false)).setCell ⟨w.heap.size + 1, 5, none⟩ (.slice none 0 0)).setCell ⟨w.heap.size + 1 + 1, 0, none⟩ (.int .i64 t.kind)).setCell ⟨w.heap.size + 1 + 1, 1, none⟩ (.int .i64 t.num)).setCell ⟨w.heap.size + 1 + 1, 2, none⟩ (.string t.name)).setCell ⟨w.heap.size + 1 + 1, 3, none⟩ (.slice A LN cap))).drew) := Lib.hid (Below.drew ((((((((((HBL0.out.setCell (p := ⟨w.heap.size + 1, _, none⟩) (show w.heap.size ≤ w.heap.size + 1 by omega) _).setCell (p := ⟨w.heap.size + 1, _, none⟩) (show w.heap.size ≤ w.heap.size + 1 by omega) _).setCell (p := ⟨w.heap.size + 1, _, none⟩) (show w.heap.size ≤ w.heap.size + 1 by omega) _).setCell (p := ⟨w.heap.size + 1, _, none⟩) (show w.heap.size ≤ w.heap.size + 1 by omega) _).setCell (p := ⟨w.heap.size + 1, _, none⟩) (show w.heap.size ≤ w.heap.size + 1 by omega) _).setCell (p := ⟨w.heap.size + 1, _, none⟩) (show w.heap.size ≤ w.heap.size + 1 by omega) _).setCell (p := ⟨w.heap.size + 1 + 1, _, none⟩) (show w.heap.size ≤ w.heap.size + 1 + 1 by omega) _).setCell (p := ⟨w.heap.size + 1 + 1, _, none⟩) (show w.heap.size ≤ w.heap.size + 1 + 1 by omega) _).setCell (p := ⟨w.heap.size + 1 + 1, _, none⟩) (show w.heap.size ≤ w.heap.size + 1 + 1 by omega) _).setCell (p := ⟨w.heap.size + 1 + 1, _, none⟩) (show w.heap.size ≤ w.heap.size + 1 + 1 by omega) _))
 go_wp2_with go_region
 obtain ⟨wz, HWZ⟩ : ∃ wz, Hid (wz = (((((((((((W0.setCell ⟨w.heap.size + 1, 0, none⟩ (.slice none 0 0)).setCell ⟨w.heap.size + 1, 1, none⟩ (.int .i64 0)).setCell ⟨w.heap.size + 1, 2, none⟩ (.int .i64 0)).setCell ⟨w.heap.size + 1, 3, none⟩ (.bool false)).setCell ⟨w.heap.size + 1, 4, none⟩ (.bool false)).setCell ⟨w.heap.size + 1, 5, none⟩ (.slice none 0 0)).setCell ⟨w.heap.size + 1 + 1, 0, none⟩ (.int .i64 t.kind)).setCell ⟨w.heap.size + 1 + 1, 1, none⟩ (.int .i64 t.num)).setCell ⟨w.heap.size + 1 + 1, 2, none⟩ (.string t.name)).setCell ⟨w.heap.size + 1 + 1, 3, none⟩ (.slice A LN cap))).drew) := ⟨_, Lib.hid rfl⟩
 rw [← HWZ.out] at HBKZ HBLZ ⊢
 have m1_0 := HBKZ.out.cell 1 0 rfl rfl
 have m1_1 := HBKZ.out.cell 1 1 rfl rfl
 have m1_2 := HBKZ.out.cell 1 2 rfl rfl
 have m1_3 := HBKZ.out.cell 1 3 rfl rfl
 have m1_4 := HBKZ.out.cell 1 4 rfl rfl
 have m1_5 := HBKZ.out.cell 1 5 rfl rfl
 have m2_0 := HBKZ.out.cell 0 0 rfl rfl
 have m2_1 := HBKZ.out.cell 0 1 rfl rfl
 have m2_2 := HBKZ.out.cell 0 2 rfl rfl
 have m2_3 := HBKZ.out.cell 0 3 rfl rfl
 exact bodyPost_ret (v := .tuple #[.agg #[.slice none 0 0, .int .i64 0, .int .i64 0, .bool false, .bool false, .slice none 0 0], .slice none 0 0, .agg #[.int .i64 t.kind, .int .i64 t.num, .string t.name, .slice A LN cap], .int .i64 8]) (by simp [results, Tryz.results146, go_sem, m1_0, m1_1, m1_2, m1_3, m1_4, m1_5, m2_0, m2_1, m2_2, m2_3]) rfl ⟨rfl, HBLZ.out⟩
end Go.Proofs.YtfkhcpeahdkafaaGreat
namespace Hb
open Go Go.RowKit
def pairCells (l : List (Int × Int)) : List Value := l.flatMap fun p => [.int .i64 p.1, .int .i64 p.2]
theorem pairCells_len (l : List (Int × Int)) : (pairCells l).length = l.length * 2 := by
 unfold pairCells; induction l with
 | nil => rfl
 | cons p l ih => rw [List.flatMap_cons, List.length_append, ih]; simp; omega
theorem pc_even : ∀ (l : List (Int × Int)) (i : Nat) (h : i < l.length), (pairCells l)[i * 2]? = some (.int .i64 l[i].1) ∧ (pairCells l)[i * 2 + 1]? = some (.int .i64 l[i].2)
 | p :: l, 0, _ => ⟨rfl, rfl⟩
 | p :: l, i + 1, h => by
  have := pc_even l i (by simpa using h)
  unfold pairCells at *
  rw [List.flatMap_cons, show (i + 1) * 2 = i * 2 + 2 by omega]
  exact ⟨by simpa using this.1, by simpa using this.2⟩
theorem pc_at {w : World} {b off : Nat} {l : List (Int × Int)} (h : ∀ j (hj : j < l.length), w.cell? ⟨b, off + j * 2, none⟩ = some (.int .i64 l[j].1) ∧ w.cell? ⟨b, off + j * 2 + 1, none⟩ = some (.int .i64 l[j].2)) (j : Nat) (u : Value) (hu : (pairCells l)[j]? = some u) : w.cell? ((⟨b, off, none⟩ : Addr).add j) = some u := by
 have hj : j < (pairCells l).length := by
  rcases Nat.lt_or_ge j (pairCells l).length with hh | hh
  ·exact hh
  ·rw [List.getElem?_eq_none hh] at hu; cases hu
 rw [pairCells_len] at hj
 have hi : j / 2 < l.length := by omega
 have e1 : (⟨b, off, none⟩ : Addr).add j = ⟨b, off + j, none⟩ := by unfold Addr.add; split <;> simp_all
 obtain ⟨p1, p2⟩ := pc_even l (j / 2) hi
 obtain ⟨q1, q2⟩ := h (j / 2) hi
 rw [e1]
 by_cases he : j % 2 = 0
 ·have e2 : j = j / 2 * 2 := by omega
  rw [e2, p1] at hu; injection hu with hu; rw [e2, ← hu]; exact q1
 ·have e2 : j = j / 2 * 2 + 1 := by omega
  rw [e2, p2] at hu
  injection hu with hu
  rw [e2, ← hu, ← Nat.add_assoc]; exact q2
theorem pairs_own {w : World} {base e : Nat} {v : Value} {l : List (Int × Int)} (h : w.ownsRow base e 2 v l.length (pairCells l)) : ∃ A cap, v = .slice A l.length cap ∧ Pairs w A l := by
 obtain ⟨A, cap, rfl⟩ := own_slice h
 refine ⟨A, cap, rfl, fun j hj => ?_⟩
 rcases h.2 with ⟨hv, h0⟩ | ⟨g, cap', cur, hv, hbg, hh, rest⟩
 ·omega
 ·injection hv with hA _ _
  subst hA
  have hc := h.cells (g := g) rfl
  obtain ⟨p1, p2⟩ := pc_even l j hj
  have key : ∀ (k : Nat) (u : Value), (pairCells l)[k]? = some u → w.cell? ⟨g, 0 + k, none⟩ = some u := fun k u hu => by
   have := hc _ u hu
   have e1 : (⟨g, 0, none⟩ : Addr).add k = ⟨g, 0 + k, none⟩ := by unfold Addr.add; split <;> simp_all
   rw [e1] at this
   exact this
  exact ⟨g, 0, rfl, (h.lt g rfl).2, key _ _ p1, key _ _ p2⟩
structure PrI (B : Nat) (w : World) (A : Option Addr) (n cap : Nat) (l : List (Int × Int)) : Prop where
 len : n = l.length
 prs : Pairs w A l
 adr : Value.slice A n cap = .slice Option.none 0 0 ∨ ∃ b o, A = some ⟨b, o, Option.none⟩
 blk : ∀ b o, A = some ⟨b, o, none⟩ → B ≤ b ∧ b < w.heap.size
 fit : n ≤ cap
theorem PrI.nil {B : Nat} {w : World} {A : Option Addr} {n cap : Nat} {l : List (Int × Int)} (h : PrI B w A n cap l) : n = 0 → (Value.slice A n cap = .slice Option.none 0 0 ∨ ∃ ad, A = some ad) := fun _ => h.adr.imp id fun ⟨_, _, e⟩ => ⟨_, e⟩
theorem PrI.none (B : Nat) (w : World) : PrI B w none 0 0 [] := ⟨rfl, Pairs.nil _ _, .inl rfl, fun b o h => (by cases h), Nat.le_refl _⟩
theorem PrI.below {B : Nat} {w w' : World} {A : Option Addr} {n cap : Nat} {l : List (Int × Int)} (h : PrI B w A n cap l) (hB : Below w.heap.size w w') : PrI B w' A n cap l := ⟨h.len, h.prs.below hB, h.adr, fun b o e => ⟨(h.blk b o e).1, Nat.lt_of_lt_of_le (h.blk b o e).2 hB.size⟩, h.fit⟩
theorem PrI.mono {B B' : Nat} {w : World} {A : Option Addr} {n cap : Nat} {l : List (Int × Int)} (h : PrI B w A n cap l) (hB : B' ≤ B) : PrI B' w A n cap l := ⟨h.len, h.prs, h.adr, fun b o e => ⟨Nat.le_trans hB (h.blk b o e).1, (h.blk b o e).2⟩, h.fit⟩
theorem Pairs.keep {w w' : World} {A : Option Addr} {l : List (Int × Int)} (h : Pairs w A l) (hs : w.heap.size ≤ w'.heap.size) (hk : ∀ b o, A = some ⟨b, o, Option.none⟩ → w'.heap[b]? = w.heap[b]?) : Pairs w' A l := fun j hj => by
 obtain ⟨b, off, e, hlt, c1, c2⟩ := h j hj
 have hb := hk b off e
 exact ⟨b, off, e, Nat.lt_of_lt_of_le hlt hs, (World.cell?_of_block hb).trans c1, (World.cell?_of_block hb).trans c2⟩
theorem PrI.keep {B : Nat} {w w' : World} {A : Option Addr} {n cap : Nat} {l : List (Int × Int)} (h : PrI B w A n cap l) (hs : w.heap.size ≤ w'.heap.size) (hk : ∀ b o, A = some ⟨b, o, Option.none⟩ → w'.heap[b]? = w.heap[b]?) : PrI B w' A n cap l := ⟨h.len, h.prs.keep hs hk, h.adr, fun b o e => ⟨(h.blk b o e).1, Nat.lt_of_lt_of_le (h.blk b o e).2 hs⟩, h.fit⟩
theorem PrI.own {w : World} {base e n cap : Nat} {A : Option Addr} {l : List (Int × Int)} (hn : n = l.length) (h : w.ownsRow base e 2 (.slice A n cap) n (pairCells l)) : PrI base w A n cap l := by
 subst hn
 refine ⟨rfl, ?_, ?_, ?_, ?_⟩
 ·obtain ⟨A', cap', e, hp⟩ := pairs_own h
  injection e with e1 _ _
  subst e1
  exact hp
 ·rcases h.2 with ⟨hv, _⟩ | ⟨g, c, cur, hv, _⟩
  ·exact .inl hv
  ·injection hv with h1 _ _
   exact .inr ⟨_, _, h1⟩
 ·intro b o e
  subst e
  rcases h.2 with ⟨hv, h0⟩ | ⟨g, cap', cur, hv, hbg, hh, rest⟩
  ·injection hv with hA _ _; cases hA
  ·injection hv with hA _ _
   injection hA with hA
   injection hA with e1 e2 _
   subst e1
   exact ⟨hbg, (Array.getElem?_eq_some_iff.1 hh).1⟩
 ·rcases h.2 with ⟨hv, h0⟩ | ⟨g, cap', cur, hv, hbg, hh, hf, rest⟩
  ·omega
  ·injection hv with _ _ hc
   omega
end Hb
namespace Go.Proofs.YtfkhcpeahdkafaaGreat
open Go.RowKit Hb
set_option maxRecDepth 100000
theorem infoPair : (Tryz.prog.info? 99).map (fun i => (i.zero, i.size, i.bytes)) = some (some (.agg #[.int .i64 0, .int .i64 0]), 2, 16) := by kernel_rfl
set_option maxHeartbeats 1600000 in
theorem p_cloneO (A : Option Addr) (n cap : Nat) (l : List (Int × Int)) (w : World) (hn : n = l.length) (hm : n ≤ 400) (hp : Pairs w A l) (hA : n = 0 → (Value.slice A n cap = .slice none 0 0 ∨ ∃ ad, A = some ad)) :
  Calls Tryz.prog 70 #[.slice A n cap] w fun e w' => ∃ A' cap', e = .returned (.slice A' n cap') ∧ Below w.heap.size w w' ∧ w'.ownsRow w.heap.size 99 2 (.slice A' n cap') n (pairCells l) := by
 obtain ⟨i, hi, hz0, hz1, hz2⟩ := info_parts infoPair
 have HI := Lib.hid hi
 have HZ0 := Lib.hid hz0
 have HZ1 := Lib.hid hz1
 have HZ2 := Lib.hid hz2
 have HN := Lib.hid hn
 have HP := Lib.hid hp
 have hE := Lib.hid (own_empty w w.heap.size 99 2 (Nat.le_refl _))
 have hB0 := (Below.refl w.heap.size w).alloc (Nat.le_refl _) (.cells #[] 99)
 have HPA := Lib.hid (HP.out.below hB0)
 clear hi hz0 hz1 hz2 hn hp
 by_cases hs : ∃ b off, A = some ⟨b, off, none⟩ ∧ ∀ j (hj : j < l.length), (w.alloc (.cells #[] 99)).cell? ⟨b, off + j * 2, none⟩ = some (.int .i64 l[j].1) ∧ (w.alloc (.cells #[] 99)).cell? ⟨b, off + j * 2 + 1, none⟩ = some (.int .i64 l[j].2)
 ·obtain ⟨b, off, rfl, hcs⟩ := hs
  have HC := Lib.hid hcs
  clear hcs hA
  have q22 : ∀ (w : World) (a : Option Addr) (n c n' c' : Nat), (binOp .eql 41 (.slice a n c) (.slice none n' c')).run Tryz.prog w = .ok (.bool a.isNone) w := fun w a n c n' c' => Lib.run_eql_slice_nil w _ _ a n c n' c' Tryz.underlying41
  go_enter Tryz.func70, Tryz.ntmps70
  go_wp2_with (at_builtin; go_must (refine wpList_append_own _ rfl _ _ 41 rfl w.heap.size 99 i _ 2 16 Tryz.underlying41 HI.out HZ0.out HZ1.out HZ2.out rfl (by decide) _ 0 [] rfl hE.out ⟨b, off, none⟩ n cap (pairCells l) rfl (by rw [pairCells_len, HN.out]) (pc_at HC.out) (by intro u hu; unfold pairCells at hu; rw [List.mem_flatMap] at hu; obtain ⟨p, _, hp⟩ := hu; simp at hp; rcases hp with rfl | rfl <;> rfl) (by unfold maxLen; omega) (by omega) (by simp) ?_; intro v1 w1 hown1 hg1 _))
  rw [Nat.zero_add, List.nil_append] at hown1
  have hB1 : Below w.heap.size w w1 := hB0.grown hg1 (by simp) (fun k hk => Nat.le_of_eq (Option.some.inj (show some w.heap.size = some k from hk)))
  obtain ⟨A', cap', rfl⟩ := own_sliceO hown1
  have hP' := hown1
  have HPP := Lib.hid hP'
  clear hown1 hP'
  go_ret
  first | exact ⟨A', cap', rfl, hB1, HPP.out⟩ | exact ⟨A', ⟨cap', rfl⟩, hB1, HPP.out⟩
 ·have h0 : n = 0 := by
   rcases Nat.eq_zero_or_pos n with h | h
   ·exact h
   ·exfalso
    obtain ⟨b, off, e, _⟩ := HPA.out 0 (by have := HN.out; omega)
    refine hs ⟨b, off, e, fun j hj => ?_⟩
    obtain ⟨b', off', e', _, c1, c2⟩ := HPA.out j hj
    rw [e] at e'; injection e' with e'; injection e' with e1 e2 _; subst e1; subst e2
    exact ⟨c1, c2⟩
  have hl0 : l = [] := List.eq_nil_of_length_eq_zero (by have := HN.out; omega)
  subst hl0
  rcases hA h0 with hv | ⟨ad, rfl⟩
  ·injection hv with h1 h2 h3
   subst h1; subst h2; subst h3
   clear hs h0 hA
   have q22 : ∀ (w : World) (a : Option Addr) (n c n' c' : Nat), (binOp .eql 41 (.slice a n c) (.slice none n' c')).run Tryz.prog w = .ok (.bool a.isNone) w := fun w a n c n' c' => Lib.run_eql_slice_nil w _ _ a n c n' c' Tryz.underlying41
   go_enter Tryz.func70, Tryz.ntmps70
   go_wp2_with fail
   go_ret
   first | exact ⟨none, 0, rfl, Below.refl _ _, World.ownsRow_nil _ _ _ _⟩ | exact ⟨none, ⟨0, rfl⟩, Below.refl _ _, World.ownsRow_nil _ _ _ _⟩
  ·subst h0
   clear hs hA
   have q22 : ∀ (w : World) (a : Option Addr) (n c n' c' : Nat), (binOp .eql 41 (.slice a n c) (.slice none n' c')).run Tryz.prog w = .ok (.bool a.isNone) w := fun w a n c n' c' => Lib.run_eql_slice_nil w _ _ a n c n' c' Tryz.underlying41
   go_enter Tryz.func70, Tryz.ntmps70
   go_wp2_with (at_builtin; go_must (refine wpList_append_own _ rfl _ _ 41 rfl w.heap.size 99 i _ 2 16 Tryz.underlying41 HI.out HZ0.out HZ1.out HZ2.out rfl (by decide) _ 0 [] rfl hE.out ad 0 cap [] rfl rfl (by intro j u hu; cases hu) (by intro u hu; cases hu) (by unfold maxLen; omega) (by omega) (by simp) ?_; intro v1 w1 hown1 hg1 _))
   have hB1 : Below w.heap.size w w1 := hB0.grown hg1 (by simp) (fun k hk => Nat.le_of_eq (Option.some.inj (show some w.heap.size = some k from hk)))
   rw [Nat.zero_add, List.nil_append] at hown1
   obtain ⟨A', cap', rfl⟩ := own_sliceO hown1
   have hP' := hown1
   have HPP := Lib.hid hP'
   clear hown1 hP'
   go_ret
   first | exact ⟨A', cap', rfl, hB1, HPP.out⟩ | exact ⟨A', ⟨cap', rfl⟩, hB1, HPP.out⟩
theorem p_clone (A : Option Addr) (n cap : Nat) (l : List (Int × Int)) (w : World) (hn : n = l.length) (hm : n ≤ 400) (hp : Pairs w A l) (hA : n = 0 → (Value.slice A n cap = .slice none 0 0 ∨ ∃ ad, A = some ad)) :
  Calls Tryz.prog 70 #[.slice A n cap] w fun e w' => ∃ A' cap', e = .returned (.slice A' n cap') ∧ Below w.heap.size w w' ∧ PrI w.heap.size w' A' n cap' l :=
 (p_cloneO A n cap l w hn hm hp hA).mono fun e w' h => by
  obtain ⟨A', cap', he, hB, ho⟩ := h
  exact ⟨A', cap', he, hB, PrI.own hn ho⟩
set_option maxHeartbeats 800000 in
theorem ref_same_pairs (A B : Option Addr) (n c1 c2 : Nat) (l : List (Int × Int)) (w : World) (hn : n = l.length) (hm : n ≤ maxLen) (h1 : Pairs w A l) (h2 : Pairs w B l) :
  Calls Tryz.prog 107 #[.slice A n c1, .slice B n c2] w fun e w' => e = .returned (.bool true) ∧ Below w.heap.size w w' := by
 unfold maxLen at hm
 have HN := Lib.hid hn
 have H1 := Lib.hid h1
 have H2 := Lib.hid h2
 clear hn h1 h2
 go_enter Tryz.func107, Tryz.ntmps107
 go_wp2_with fail
 go_loopw [5] (fun i wr => ∃ k : Nat, k ≤ n ∧ i = .int .i64 k ∧ Below w.heap.size w wr) (fun i _ => n - (intOf i).toNat)
 case atStart => exact ⟨0, Nat.zero_le _, rfl, Below.refl _ _⟩
 case round =>
  obtain ⟨k, hk, rfl, hB⟩ := hrel
  by_cases hlt : k < n
  ·have hs := hB.size
   have hkl : k < l.length := by have := HN.out; omega
   obtain ⟨b, off, rfl, hb, a0, a1⟩ := (H1.out.below hB) k hkl
   obtain ⟨b', off', rfl, hb', d0, d1⟩ := (H2.out.below hB) k hkl
   generalize l[k] = r at *
   go_wp2_with fail
   go_quiet (fail)
   go_wp2_with fail
   go_roundw
   case rel => exact ⟨k + 1, by omega, by go_num, bl_drewN hB _⟩
   case measure => simp [intOf]; omega
  ·obtain rfl : k = n := by omega
   go_wp2_with fail
   go_ret
   exact ⟨rfl, hB⟩
end Go.Proofs.YtfkhcpeahdkafaaGreat
