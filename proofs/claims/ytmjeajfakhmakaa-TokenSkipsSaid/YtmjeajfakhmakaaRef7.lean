/- Contracts of layer 9's reference: the text by value: token. -/
import Derived.Test.YtmjeajfakhmakaaRef5
import Derived.Test.YtmjeajfakhmakaaRef6
namespace Go.Proofs.Ytmjeajfakhmakaa
open Go.RowKit Hb
set_option maxRecDepth 100000

theorem cells_after {w2 w4 : World} {A : Obj} {v0 v1 v2 v3 v4 v5 : Value} {t : TypeId} (hB : Below ((w2.alloc A).alloc (.cells #[v0, v1, v2, v3, v4, v5] t)).heap.size ((w2.alloc A).alloc (.cells #[v0, v1, v2, v3, v4, v5] t)) w4) :
    w4.cell? ⟨w2.heap.size + 1, 0, none⟩ = some v0 ∧ w4.cell? ⟨w2.heap.size + 1, 1, none⟩ = some v1 ∧ w4.cell? ⟨w2.heap.size + 1, 2, none⟩ = some v2 ∧ w4.cell? ⟨w2.heap.size + 1, 3, none⟩ = some v3 ∧ w4.cell? ⟨w2.heap.size + 1, 4, none⟩ = some v4 ∧ w4.cell? ⟨w2.heap.size + 1, 5, none⟩ = some v5 ∧ (∀ o, w4.frozen? ⟨w2.heap.size + 1, o, none⟩ = false) ∧ w2.heap.size + 1 < w4.heap.size := by
  have hsz : (w2.alloc A).heap.size = w2.heap.size + 1 := by simp
  have hlt : (w2.alloc A).heap.size < ((w2.alloc A).alloc (.cells #[v0, v1, v2, v3, v4, v5] t)).heap.size := by simp
  rw [← hsz]
  generalize w2.alloc A = W at *
  have e : ∀ o v, (#[v0, v1, v2, v3, v4, v5] : Array Value)[o]? = some v → w4.cell? ⟨W.heap.size, o, none⟩ = some v := fun o v hv => (hB.cell (p := ⟨W.heap.size, o, none⟩) hlt).trans ((World.cell?_alloc_new W _ t o).trans hv)
  refine ⟨e _ _ rfl, e _ _ rfl, e _ _ rfl, e _ _ rfl, e _ _ rfl, e _ _ rfl, fun o => ?_, Nat.lt_of_lt_of_le hlt hB.size⟩
  rw [hB.frozen (p := ⟨W.heap.size, o, none⟩) hlt]
  have hb : (W.alloc (.cells #[v0, v1, v2, v3, v4, v5] t)).heap[W.heap.size]? = some (.cells #[v0, v1, v2, v3, v4, v5] t) := by show (W.heap.push _)[W.heap.size]? = _; simp
  unfold World.frozen?; simp only [hb]; simp
theorem cell_old (w : World) (o : Obj) (g i : Nat) (h : g < w.heap.size) : (w.alloc o).cell? ⟨g, i, none⟩ = w.cell? ⟨g, i, none⟩ := ((Below.refl w.heap.size w).alloc (Nat.le_refl _) o).cell (p := ⟨g, i, none⟩) h
theorem size_set (w : World) (p : Addr) (u : Value) : (w.setCell p u).heap.size = w.heap.size := by simp [World.setCell]
theorem two_new {B : Nat} {w w2 : World} (h : Below B w w2) (hb : B ≤ w2.heap.size) (A A' : Obj) : Below B w ((w2.alloc A).alloc A') := (h.alloc hb _).alloc (Nat.le_trans hb (by simp)) _

set_option maxHeartbeats 1600000 in
theorem token_none (s : ByteArray) (tab : Int → Int) (ht : TabOk tab) (p : Nat) (hp : p < s.size) (hsz : s.size ≤ 16384) (c46 : (rawAt (cvt tab s.data.toList) p == 46) = false) (k2 : (cls (rawAt (cvt tab s.data.toList) p) == 2) = false) (k3 : (cls (rawAt (cvt tab s.data.toList) p) == 3) = false) (k5 : (cls (rawAt (cvt tab s.data.toList) p) == 5) = false) (k4 : (cls (rawAt (cvt tab s.data.toList) p) == 4) = false) (c33 : (rawAt (cvt tab s.data.toList) p == 33) = false) (c59 : (rawAt (cvt tab s.data.toList) p == 59) = false) (k6 : (cls (rawAt (cvt tab s.data.toList) p) == 6) = false) (c39 : (rawAt (cvt tab s.data.toList) p == 39) = false) (c34 : (rawAt (cvt tab s.data.toList) p == 34) = false) (w : World) :
    Calls Try.prog 44 #[txtV s tab, .int .i64 p] w fun e w' => Gives (errR 7) e ∧ Below w.heap.size w w' := by
  have HT := Lib.hid ht
  clear ht
  have hlen : Hid ((cvt tab s.data.toList).length = s.size) := by show _ = _; rw [cvt_len]; simp
  generalize hM : cvt tab s.data.toList = M at *
  have HM := Lib.hid hM
  clear hM
  have hc0 : 0 ≤ rawAt M p := by have := rawAt_neg M p; have := hlen.out; omega
  have hc1 := rawAt_hi M p
  have hw8 : IntKind.u8.wrap (rawAt M p) = rawAt M p := IntWalk.u8_in _ (by omega)
  have hsl := span_le alnum (M.drop p)
  have hsl2 := span_le isSym (M.drop p)
  rw [List.length_drop, hlen.out] at hsl hsl2
  go_enter Try.func44, Try.ntmps44
  go_wp2_with (first | (refine wpList_box_txt rfl _ s tab rfl rfl ?_; intro b w1 T0 hle hB0; have T1 := T0.below ((Below.refl _ _).alloc (Nat.le_refl _) tokZero) T0.lt; unfold tokZero at T1) | (with_reducible refine at_load0 ?_; refine wpList_load_txt rfl _ rfl rfl T1 ?_))
  refine (txt_at_of s tab M HM HT _ p (by omega) _).mono ?_; rintro e w2 ⟨rfl, hB2⟩
  have hs0 := hB0.size
  have hbl := T0.lt
  have T2 := T1.below hB2 T1.lt
  have hBr : Below (w1.alloc tokZero).heap.size (w1.alloc tokZero) w2 := hB2
  have hl12 : w1.heap.size < w2.heap.size := Nat.lt_of_lt_of_le (by simp) hB2.size
  have hl13 : w1.heap.size < w2.heap.size + 1 := by omega
  obtain ⟨t0, t1, t2, t3, t4, t5, t6⟩ := tok_cells hBr (by simp)
  have hBw : Below w.heap.size w w2 := (hB0.alloc hs0 tokZero).trans (hBr.mono (by simp; omega))
  clear hB0 hB2 T1
  go_wp2_with fail
  refine (ref_class _ _).mono ?_; rintro e w3 ⟨rfl, rfl⟩
  have hcv := fun w' => conv_new1 (P := Try.prog) 44 9 5 Try.underlying44 Try.underlying5 Try.underlying9 (rawAt M p) hc0 hc1 w'
  go_wp2_with fail
  refine bodyPost_ret (v := tokTup (errR 7)) (by simp [tokTup, errR, results, Try.results44, go_sem, t0, t1, t2, t3, t4, t5, cell_old, hl12, hl13]) rfl ⟨rfl, by repeat (first | with_reducible exact hBw | with_reducible refine Below.setCell ?_ (by dsimp only; omega) _ | with_reducible refine Below.alloc ?_ (by simp [World.setCell]; omega) _)⟩
set_option maxHeartbeats 1600000 in
theorem token_cut (s : ByteArray) (tab : Int → Int) (ht : TabOk tab) (p : Nat) (hp : p < s.size) (hsz : s.size ≤ 16384) (c46 : (rawAt (cvt tab s.data.toList) p == 46) = false) (k2 : (cls (rawAt (cvt tab s.data.toList) p) == 2) = false) (k3 : (cls (rawAt (cvt tab s.data.toList) p) == 3) = false) (k5 : (cls (rawAt (cvt tab s.data.toList) p) == 5) = false) (k4 : (cls (rawAt (cvt tab s.data.toList) p) == 4) = false) (c33 : (rawAt (cvt tab s.data.toList) p == 33) = true) (w : World) :
    Calls Try.prog 44 #[txtV s tab, .int .i64 p] w fun e w' => Gives ⟨1, [(rawAt (cvt tab s.data.toList) p).toNat.toUInt8], 0, p, p + 1, 0⟩ e ∧ Below w.heap.size w w' := by
  have HT := Lib.hid ht
  clear ht
  have hlen : Hid ((cvt tab s.data.toList).length = s.size) := by show _ = _; rw [cvt_len]; simp
  generalize hM : cvt tab s.data.toList = M at *
  have HM := Lib.hid hM
  clear hM
  have hc0 : 0 ≤ rawAt M p := by have := rawAt_neg M p; have := hlen.out; omega
  have hc1 := rawAt_hi M p
  have hw8 : IntKind.u8.wrap (rawAt M p) = rawAt M p := IntWalk.u8_in _ (by omega)
  have hsl := span_le alnum (M.drop p)
  have hsl2 := span_le isSym (M.drop p)
  rw [List.length_drop, hlen.out] at hsl hsl2
  go_enter Try.func44, Try.ntmps44
  go_wp2_with (first | (refine wpList_box_txt rfl _ s tab rfl rfl ?_; intro b w1 T0 hle hB0; have T1 := T0.below ((Below.refl _ _).alloc (Nat.le_refl _) tokZero) T0.lt; unfold tokZero at T1) | (with_reducible refine at_load0 ?_; refine wpList_load_txt rfl _ rfl rfl T1 ?_))
  refine (txt_at_of s tab M HM HT _ p (by omega) _).mono ?_; rintro e w2 ⟨rfl, hB2⟩
  have hs0 := hB0.size
  have hbl := T0.lt
  have T2 := T1.below hB2 T1.lt
  have hBr : Below (w1.alloc tokZero).heap.size (w1.alloc tokZero) w2 := hB2
  have hl12 : w1.heap.size < w2.heap.size := Nat.lt_of_lt_of_le (by simp) hB2.size
  have hl13 : w1.heap.size < w2.heap.size + 1 := by omega
  obtain ⟨t0, t1, t2, t3, t4, t5, t6⟩ := tok_cells hBr (by simp)
  have hBw : Below w.heap.size w w2 := (hB0.alloc hs0 tokZero).trans (hBr.mono (by simp; omega))
  clear hB0 hB2 T1
  go_wp2_with fail
  refine (ref_class _ _).mono ?_; rintro e w3 ⟨rfl, rfl⟩
  have hcv := fun w' => conv_new1 (P := Try.prog) 44 9 5 Try.underlying44 Try.underlying5 Try.underlying9 (rawAt M p) hc0 hc1 w'
  go_wp2_with fail
  refine bodyPost_ret (v := tokTup ⟨1, [(rawAt M p).toNat.toUInt8], 0, p, p + 1, 0⟩) (by simp [tokTup, results, Try.results44, go_sem, t0, t1, t2, t3, t4, t5, cell_old, hl12, hl13]) rfl ⟨rfl, by repeat (first | with_reducible exact hBw | with_reducible refine Below.setCell ?_ (by dsimp only; omega) _ | with_reducible refine Below.alloc ?_ (by simp [World.setCell]; omega) _)⟩
set_option maxHeartbeats 1600000 in
theorem token_semi (s : ByteArray) (tab : Int → Int) (ht : TabOk tab) (p : Nat) (hp : p < s.size) (hsz : s.size ≤ 16384) (c46 : (rawAt (cvt tab s.data.toList) p == 46) = false) (k2 : (cls (rawAt (cvt tab s.data.toList) p) == 2) = false) (k3 : (cls (rawAt (cvt tab s.data.toList) p) == 3) = false) (k5 : (cls (rawAt (cvt tab s.data.toList) p) == 5) = false) (k4 : (cls (rawAt (cvt tab s.data.toList) p) == 4) = false) (c33 : (rawAt (cvt tab s.data.toList) p == 33) = false) (c59 : (rawAt (cvt tab s.data.toList) p == 59) = true) (w : World) :
    Calls Try.prog 44 #[txtV s tab, .int .i64 p] w fun e w' => Gives ⟨1, [(rawAt (cvt tab s.data.toList) p).toNat.toUInt8], 0, p, p + 1, 0⟩ e ∧ Below w.heap.size w w' := by
  have HT := Lib.hid ht
  clear ht
  have hlen : Hid ((cvt tab s.data.toList).length = s.size) := by show _ = _; rw [cvt_len]; simp
  generalize hM : cvt tab s.data.toList = M at *
  have HM := Lib.hid hM
  clear hM
  have hc0 : 0 ≤ rawAt M p := by have := rawAt_neg M p; have := hlen.out; omega
  have hc1 := rawAt_hi M p
  have hw8 : IntKind.u8.wrap (rawAt M p) = rawAt M p := IntWalk.u8_in _ (by omega)
  have hsl := span_le alnum (M.drop p)
  have hsl2 := span_le isSym (M.drop p)
  rw [List.length_drop, hlen.out] at hsl hsl2
  go_enter Try.func44, Try.ntmps44
  go_wp2_with (first | (refine wpList_box_txt rfl _ s tab rfl rfl ?_; intro b w1 T0 hle hB0; have T1 := T0.below ((Below.refl _ _).alloc (Nat.le_refl _) tokZero) T0.lt; unfold tokZero at T1) | (with_reducible refine at_load0 ?_; refine wpList_load_txt rfl _ rfl rfl T1 ?_))
  refine (txt_at_of s tab M HM HT _ p (by omega) _).mono ?_; rintro e w2 ⟨rfl, hB2⟩
  have hs0 := hB0.size
  have hbl := T0.lt
  have T2 := T1.below hB2 T1.lt
  have hBr : Below (w1.alloc tokZero).heap.size (w1.alloc tokZero) w2 := hB2
  have hl12 : w1.heap.size < w2.heap.size := Nat.lt_of_lt_of_le (by simp) hB2.size
  have hl13 : w1.heap.size < w2.heap.size + 1 := by omega
  obtain ⟨t0, t1, t2, t3, t4, t5, t6⟩ := tok_cells hBr (by simp)
  have hBw : Below w.heap.size w w2 := (hB0.alloc hs0 tokZero).trans (hBr.mono (by simp; omega))
  clear hB0 hB2 T1
  go_wp2_with fail
  refine (ref_class _ _).mono ?_; rintro e w3 ⟨rfl, rfl⟩
  have hcv := fun w' => conv_new1 (P := Try.prog) 44 9 5 Try.underlying44 Try.underlying5 Try.underlying9 (rawAt M p) hc0 hc1 w'
  go_wp2_with fail
  refine bodyPost_ret (v := tokTup ⟨1, [(rawAt M p).toNat.toUInt8], 0, p, p + 1, 0⟩) (by simp [tokTup, results, Try.results44, go_sem, t0, t1, t2, t3, t4, t5, cell_old, hl12, hl13]) rfl ⟨rfl, by repeat (first | with_reducible exact hBw | with_reducible refine Below.setCell ?_ (by dsimp only; omega) _ | with_reducible refine Below.alloc ?_ (by simp [World.setCell]; omega) _)⟩
set_option maxHeartbeats 1600000 in
theorem token_solo (s : ByteArray) (tab : Int → Int) (ht : TabOk tab) (p : Nat) (hp : p < s.size) (hsz : s.size ≤ 16384) (c46 : (rawAt (cvt tab s.data.toList) p == 46) = false) (k2 : (cls (rawAt (cvt tab s.data.toList) p) == 2) = false) (k3 : (cls (rawAt (cvt tab s.data.toList) p) == 3) = false) (k5 : (cls (rawAt (cvt tab s.data.toList) p) == 5) = false) (k4 : (cls (rawAt (cvt tab s.data.toList) p) == 4) = false) (c33 : (rawAt (cvt tab s.data.toList) p == 33) = false) (c59 : (rawAt (cvt tab s.data.toList) p == 59) = false) (k6 : (cls (rawAt (cvt tab s.data.toList) p) == 6) = true) (w : World) :
    Calls Try.prog 44 #[txtV s tab, .int .i64 p] w fun e w' => Gives ⟨6, [(rawAt (cvt tab s.data.toList) p).toNat.toUInt8], 0, p, p + 1, 0⟩ e ∧ Below w.heap.size w w' := by
  have HT := Lib.hid ht
  clear ht
  have hlen : Hid ((cvt tab s.data.toList).length = s.size) := by show _ = _; rw [cvt_len]; simp
  generalize hM : cvt tab s.data.toList = M at *
  have HM := Lib.hid hM
  clear hM
  have hc0 : 0 ≤ rawAt M p := by have := rawAt_neg M p; have := hlen.out; omega
  have hc1 := rawAt_hi M p
  have hw8 : IntKind.u8.wrap (rawAt M p) = rawAt M p := IntWalk.u8_in _ (by omega)
  have hsl := span_le alnum (M.drop p)
  have hsl2 := span_le isSym (M.drop p)
  rw [List.length_drop, hlen.out] at hsl hsl2
  go_enter Try.func44, Try.ntmps44
  go_wp2_with (first | (refine wpList_box_txt rfl _ s tab rfl rfl ?_; intro b w1 T0 hle hB0; have T1 := T0.below ((Below.refl _ _).alloc (Nat.le_refl _) tokZero) T0.lt; unfold tokZero at T1) | (with_reducible refine at_load0 ?_; refine wpList_load_txt rfl _ rfl rfl T1 ?_))
  refine (txt_at_of s tab M HM HT _ p (by omega) _).mono ?_; rintro e w2 ⟨rfl, hB2⟩
  have hs0 := hB0.size
  have hbl := T0.lt
  have T2 := T1.below hB2 T1.lt
  have hBr : Below (w1.alloc tokZero).heap.size (w1.alloc tokZero) w2 := hB2
  have hl12 : w1.heap.size < w2.heap.size := Nat.lt_of_lt_of_le (by simp) hB2.size
  have hl13 : w1.heap.size < w2.heap.size + 1 := by omega
  obtain ⟨t0, t1, t2, t3, t4, t5, t6⟩ := tok_cells hBr (by simp)
  have hBw : Below w.heap.size w w2 := (hB0.alloc hs0 tokZero).trans (hBr.mono (by simp; omega))
  clear hB0 hB2 T1
  go_wp2_with fail
  refine (ref_class _ _).mono ?_; rintro e w3 ⟨rfl, rfl⟩
  have hcv := fun w' => conv_new1 (P := Try.prog) 44 9 5 Try.underlying44 Try.underlying5 Try.underlying9 (rawAt M p) hc0 hc1 w'
  go_wp2_with fail
  refine bodyPost_ret (v := tokTup ⟨6, [(rawAt M p).toNat.toUInt8], 0, p, p + 1, 0⟩) (by simp [tokTup, results, Try.results44, go_sem, t0, t1, t2, t3, t4, t5, cell_old, hl12, hl13]) rfl ⟨rfl, by repeat (first | with_reducible exact hBw | with_reducible refine Below.setCell ?_ (by dsimp only; omega) _ | with_reducible refine Below.alloc ?_ (by simp [World.setCell]; omega) _)⟩
set_option maxHeartbeats 1600000 in
theorem token_small_long (s : ByteArray) (tab : Int → Int) (ht : TabOk tab) (p : Nat) (hp : p < s.size) (hsz : s.size ≤ 16384) (c46 : (rawAt (cvt tab s.data.toList) p == 46) = false) (k2 : (cls (rawAt (cvt tab s.data.toList) p) == 2) = true) (hl : 100 < (((cvt tab s.data.toList).drop p).take (span alnum ((cvt tab s.data.toList).drop p))).length) (w : World) :
    Calls Try.prog 44 #[txtV s tab, .int .i64 p] w fun e w' => Gives (errR 2) e ∧ Below w.heap.size w w' := by
  have HT := Lib.hid ht
  clear ht
  have hlen : Hid ((cvt tab s.data.toList).length = s.size) := by show _ = _; rw [cvt_len]; simp
  generalize hM : cvt tab s.data.toList = M at *
  have HM := Lib.hid hM
  clear hM
  have hc0 : 0 ≤ rawAt M p := by have := rawAt_neg M p; have := hlen.out; omega
  have hc1 := rawAt_hi M p
  have hw8 : IntKind.u8.wrap (rawAt M p) = rawAt M p := IntWalk.u8_in _ (by omega)
  have hsl := span_le alnum (M.drop p)
  have hsl2 := span_le isSym (M.drop p)
  rw [List.length_drop, hlen.out] at hsl hsl2
  have hln : decide ((100 : Int) < (((M.drop p).take (span alnum (M.drop p))).length : Int)) = true := decide_eq_true (by omega)
  clear hl
  go_enter Try.func44, Try.ntmps44
  go_wp2_with (first | (refine wpList_box_txt rfl _ s tab rfl rfl ?_; intro b w1 T0 hle hB0; have T1 := T0.below ((Below.refl _ _).alloc (Nat.le_refl _) tokZero) T0.lt; unfold tokZero at T1) | (with_reducible refine at_load0 ?_; refine wpList_load_txt rfl _ rfl rfl T1 ?_))
  refine (txt_at_of s tab M HM HT _ p (by omega) _).mono ?_; rintro e w2 ⟨rfl, hB2⟩
  have hs0 := hB0.size
  have hbl := T0.lt
  have T2 := T1.below hB2 T1.lt
  have hBr : Below (w1.alloc tokZero).heap.size (w1.alloc tokZero) w2 := hB2
  have hl12 : w1.heap.size < w2.heap.size := Nat.lt_of_lt_of_le (by simp) hB2.size
  have hl13 : w1.heap.size < w2.heap.size + 1 := by omega
  obtain ⟨t0, t1, t2, t3, t4, t5, t6⟩ := tok_cells hBr (by simp)
  have hBw : Below w.heap.size w w2 := (hB0.alloc hs0 tokZero).trans (hBr.mono (by simp; omega))
  clear hB0 hB2 T1
  go_wp2_with fail
  refine (ref_class _ _).mono ?_; rintro e w3 ⟨rfl, rfl⟩
  have hcv := fun w' => conv_new1 (P := Try.prog) 44 9 5 Try.underlying44 Try.underlying5 Try.underlying9 (rawAt M p) hc0 hc1 w'
  go_wp2_with (first | (with_reducible refine at_load0 ?_; refine wpList_load_txt rfl _ rfl rfl (T2.below (two_new (Below.refl w2.heap.size w2) (Nat.le_refl _) _ _) T2.lt) ?_) | (with_reducible refine at_load1 ?_; refine wpList_load_txtG _ rfl rfl (T2.below (two_new (Below.refl w2.heap.size w2) (Nat.le_refl _) _ _) T2.lt) rfl ?_))
  refine (txt_run_alnum s tab HT.out p hsz (by omega) _).mono ?_; rintro e w4 ⟨rfl, hB4⟩; rw [HM.out]
  obtain ⟨g0, g1, g2, g3, g4, g5, g6, gl⟩ := cells_after hB4
  have hBx : Below w2.heap.size w2 w4 := (two_new (Below.refl w2.heap.size w2) (Nat.le_refl _) _ _).trans (hB4.mono (by simp; omega))
  clear t0 t1 t2 t3 t4 t5 t6
  obtain ⟨t0, t1, t2, t3, t4, t5, t6⟩ := tok_cells (hBr.trans (hBx.mono (by simp; omega))) (by simp)
  generalize hX : (M.drop p).take (span alnum (M.drop p)) = X at *
  have HX := Lib.hid hX
  clear hX hBr T2 hcv
  have hBy := hBw.trans (hBx.mono (by omega))
  have hl4 : w2.heap.size ≤ w4.heap.size := by omega
  have hl14 : w1.heap.size < w4.heap.size := by omega
  go_wp2_with fail
  refine bodyPost_ret (v := tokTup (errR 2)) (by simp [tokTup, errR, results, Try.results44, go_sem, t0, t1, t2, t3, t4, t5]) rfl ⟨rfl, by repeat (first | with_reducible exact hBy | with_reducible refine Below.setCell ?_ (by dsimp only; omega) _ | with_reducible refine Below.alloc ?_ (by simp [World.setCell]; omega) _)⟩
set_option maxHeartbeats 1600000 in
theorem token_small (s : ByteArray) (tab : Int → Int) (ht : TabOk tab) (p : Nat) (hp : p < s.size) (hsz : s.size ≤ 16384) (c46 : (rawAt (cvt tab s.data.toList) p == 46) = false) (k2 : (cls (rawAt (cvt tab s.data.toList) p) == 2) = true) (hl : ¬100 < (((cvt tab s.data.toList).drop p).take (span alnum ((cvt tab s.data.toList).drop p))).length) (w : World) :
    Calls Try.prog 44 #[txtV s tab, .int .i64 p] w fun e w' => Gives ⟨1, (((cvt tab s.data.toList).drop p).take (span alnum ((cvt tab s.data.toList).drop p))), 0, p, p + span alnum ((cvt tab s.data.toList).drop p), 0⟩ e ∧ Below w.heap.size w w' := by
  have HT := Lib.hid ht
  clear ht
  have hlen : Hid ((cvt tab s.data.toList).length = s.size) := by show _ = _; rw [cvt_len]; simp
  generalize hM : cvt tab s.data.toList = M at *
  have HM := Lib.hid hM
  clear hM
  have hc0 : 0 ≤ rawAt M p := by have := rawAt_neg M p; have := hlen.out; omega
  have hc1 := rawAt_hi M p
  have hw8 : IntKind.u8.wrap (rawAt M p) = rawAt M p := IntWalk.u8_in _ (by omega)
  have hsl := span_le alnum (M.drop p)
  have hsl2 := span_le isSym (M.drop p)
  rw [List.length_drop, hlen.out] at hsl hsl2
  have hln : decide ((100 : Int) < (((M.drop p).take (span alnum (M.drop p))).length : Int)) = false := decide_eq_false (by omega)
  clear hl
  go_enter Try.func44, Try.ntmps44
  go_wp2_with (first | (refine wpList_box_txt rfl _ s tab rfl rfl ?_; intro b w1 T0 hle hB0; have T1 := T0.below ((Below.refl _ _).alloc (Nat.le_refl _) tokZero) T0.lt; unfold tokZero at T1) | (with_reducible refine at_load0 ?_; refine wpList_load_txt rfl _ rfl rfl T1 ?_))
  refine (txt_at_of s tab M HM HT _ p (by omega) _).mono ?_; rintro e w2 ⟨rfl, hB2⟩
  have hs0 := hB0.size
  have hbl := T0.lt
  have T2 := T1.below hB2 T1.lt
  have hBr : Below (w1.alloc tokZero).heap.size (w1.alloc tokZero) w2 := hB2
  have hl12 : w1.heap.size < w2.heap.size := Nat.lt_of_lt_of_le (by simp) hB2.size
  have hl13 : w1.heap.size < w2.heap.size + 1 := by omega
  obtain ⟨t0, t1, t2, t3, t4, t5, t6⟩ := tok_cells hBr (by simp)
  have hBw : Below w.heap.size w w2 := (hB0.alloc hs0 tokZero).trans (hBr.mono (by simp; omega))
  clear hB0 hB2 T1
  go_wp2_with fail
  refine (ref_class _ _).mono ?_; rintro e w3 ⟨rfl, rfl⟩
  have hcv := fun w' => conv_new1 (P := Try.prog) 44 9 5 Try.underlying44 Try.underlying5 Try.underlying9 (rawAt M p) hc0 hc1 w'
  go_wp2_with (first | (with_reducible refine at_load0 ?_; refine wpList_load_txt rfl _ rfl rfl (T2.below (two_new (Below.refl w2.heap.size w2) (Nat.le_refl _) _ _) T2.lt) ?_) | (with_reducible refine at_load1 ?_; refine wpList_load_txtG _ rfl rfl (T2.below (two_new (Below.refl w2.heap.size w2) (Nat.le_refl _) _ _) T2.lt) rfl ?_))
  refine (txt_run_alnum s tab HT.out p hsz (by omega) _).mono ?_; rintro e w4 ⟨rfl, hB4⟩; rw [HM.out]
  obtain ⟨g0, g1, g2, g3, g4, g5, g6, gl⟩ := cells_after hB4
  have hBx : Below w2.heap.size w2 w4 := (two_new (Below.refl w2.heap.size w2) (Nat.le_refl _) _ _).trans (hB4.mono (by simp; omega))
  clear t0 t1 t2 t3 t4 t5 t6
  obtain ⟨t0, t1, t2, t3, t4, t5, t6⟩ := tok_cells (hBr.trans (hBx.mono (by simp; omega))) (by simp)
  generalize hX : (M.drop p).take (span alnum (M.drop p)) = X at *
  have HX := Lib.hid hX
  clear hX hBr T2 hcv
  have hBy := hBw.trans (hBx.mono (by omega))
  have hl4 : w2.heap.size ≤ w4.heap.size := by omega
  have hl14 : w1.heap.size < w4.heap.size := by omega
  go_wp2_with fail
  refine bodyPost_ret (v := tokTup ⟨1, X, 0, p, p + span alnum (M.drop p), 0⟩) (by simp [tokTup, results, Try.results44, go_sem, t0, t1, t2, t3, t4, t5]) rfl ⟨by rw [HX.out]; rfl, by repeat (first | with_reducible exact hBy | with_reducible refine Below.setCell ?_ (by dsimp only; omega) _ | with_reducible refine Below.alloc ?_ (by simp [World.setCell]; omega) _)⟩
theorem cells_set {w6 w7 : World} {g : Nat} {v0 v1 v2 v3 v4 v5 k : Value} (c0 : w6.cell? ⟨g, 0, none⟩ = some v0) (c1 : w6.cell? ⟨g, 1, none⟩ = some v1) (c2 : w6.cell? ⟨g, 2, none⟩ = some v2) (c3 : w6.cell? ⟨g, 3, none⟩ = some v3) (c4 : w6.cell? ⟨g, 4, none⟩ = some v4) (c5 : w6.cell? ⟨g, 5, none⟩ = some v5) (hf : ∀ o, w6.frozen? ⟨g, o, none⟩ = false) (gl : g < w6.heap.size)
    (hB : Below (w6.setCell ⟨g, 0, none⟩ k).heap.size (w6.setCell ⟨g, 0, none⟩ k) w7) :
    w7.cell? ⟨g, 0, none⟩ = some k ∧ w7.cell? ⟨g, 1, none⟩ = some v1 ∧ w7.cell? ⟨g, 2, none⟩ = some v2 ∧ w7.cell? ⟨g, 3, none⟩ = some v3 ∧ w7.cell? ⟨g, 4, none⟩ = some v4 ∧ w7.cell? ⟨g, 5, none⟩ = some v5 ∧ (∀ o, w7.frozen? ⟨g, o, none⟩ = false) ∧ g < w7.heap.size := by
  have hg : g < (w6.setCell ⟨g, 0, none⟩ k).heap.size := by rw [size_set]; exact gl
  have e : ∀ o, w7.cell? ⟨g, o, none⟩ = (w6.setCell ⟨g, 0, none⟩ k).cell? ⟨g, o, none⟩ := fun o => hB.cell (p := ⟨g, o, none⟩) hg
  have n : ∀ o, o ≠ 0 → (w6.setCell ⟨g, 0, none⟩ k).cell? ⟨g, o, none⟩ = w6.cell? ⟨g, o, none⟩ := fun o ho => World.cell?_setCell_other w6 _ _ _ (by intro hh; injection hh with _ h2 _; omega)
  exact ⟨(e 0).trans (World.cell?_setCell_same w6 _ _ c0), (e 1).trans ((n 1 (by decide)).trans c1), (e 2).trans ((n 2 (by decide)).trans c2), (e 3).trans ((n 3 (by decide)).trans c3), (e 4).trans ((n 4 (by decide)).trans c4), (e 5).trans ((n 5 (by decide)).trans c5), fun o => (hB.frozen (p := ⟨g, o, none⟩) hg).trans ((frozen_set _ _ _ _).trans (hf o)), Nat.lt_of_lt_of_le hg hB.size⟩

end Go.Proofs.Ytmjeajfakhmakaa
