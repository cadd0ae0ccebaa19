/- Contracts: chars.Convert (a binary search). -/
import Derived.Test.YtmjeajfakhmakaaPairs
import Derived.Test.YtmjeajfakhmakaaChars
namespace Hb
def cmpI (a b : Int) : Int := if a < b then -1 else if b < a then 1 else 0
theorem cmpI_neg (a b : Int) : cmpI a b < 0 ↔ a < b := by unfold cmpI; grind
theorem cmpI_zero (a b : Int) : cmpI a b = 0 ↔ a = b := by unfold cmpI; grind
/-- Where a character lies in a sorted table. -/
structure LowIs (l : List (Int × Int)) (c : Int) (i : Nat) : Prop where
  le : i ≤ l.length
  lo : ∀ k, k < i → prF l k < c
  hi : ∀ k, i ≤ k → k < l.length → c ≤ prF l k
theorem sorted_step (l : List (Int × Int)) (hv : pvalid l = true) (k : Nat) (h : k + 1 < l.length) : prF l k < prF l (k + 1) := by
  have := pvalid_at l hv (k + 1) h
  unfold okAt at this
  simp at this
  exact this.2.2.2
theorem sorted_lt (l : List (Int × Int)) (hv : pvalid l = true) : ∀ (d k : Nat), k + d + 1 < l.length → prF l k < prF l (k + d + 1)
  | 0, k, h => sorted_step l hv k h
  | d + 1, k, h => by
    have h1 := sorted_lt l hv d k (by omega)
    have h2 := sorted_step l hv (k + d + 1) (by omega)
    rw [show k + (d + 1) + 1 = k + d + 1 + 1 by omega]; omega
theorem sorted (l : List (Int × Int)) (hv : pvalid l = true) (j k : Nat) (h1 : j < k) (h2 : k < l.length) : prF l j < prF l k := by
  have := sorted_lt l hv (k - j - 1) j (by omega)
  rwa [show j + (k - j - 1) + 1 = k by omega] at this
theorem convT_miss : ∀ (l : List (Int × Int)) (c t : Int), (∀ k, k < l.length → ¬prF l k = c) → l.foldl (fun t p => if p.1 = c then p.2 else t) t = t
  | [], _, _, _ => rfl
  | p :: l, c, t, h => by
    have h0 := h 0 (by simp)
    rw [List.foldl_cons, if_neg (by simpa [prF] using h0)]
    exact convT_miss l c t fun k hk => by
      have := h (k + 1) (by simp; omega)
      simpa [prF] using this
theorem convT_hit : ∀ (l : List (Int × Int)) (c t : Int) (i : Nat), i < l.length → prF l i = c → (∀ k, i < k → k < l.length → ¬prF l k = c) → l.foldl (fun t p => if p.1 = c then p.2 else t) t = prT l i
  | [], _, _, i, h, _, _ => absurd h (by simp)
  | p :: l, c, t, 0, _, h1, h2 => by
    rw [List.foldl_cons, if_pos (by simpa [prF] using h1), convT_miss l c _ fun k hk => by
      have := h2 (k + 1) (by omega) (by simp; omega)
      simpa [prF] using this]
    simp [prT]
  | p :: l, c, t, i + 1, h, h1, h2 => by
    rw [List.foldl_cons, convT_hit l c _ i (by simpa using h) (by simpa [prF] using h1) fun k hk hk2 => by
      have := h2 (k + 1) (by omega) (by simp; omega)
      simpa [prF] using this]
    simp [prT]
theorem convT_low (l : List (Int × Int)) (hv : pvalid l = true) (c : Int) (i : Nat) (h : LowIs l c i) : convT l c = if i < l.length ∧ prF l i = c then prT l i else c := by
  unfold convT
  by_cases hf : i < l.length ∧ prF l i = c
  · rw [if_pos hf]
    exact convT_hit l c c i hf.1 hf.2 fun k hk hk2 e => by
      have := sorted l hv i k hk hk2
      omega
  · rw [if_neg hf]
    exact convT_miss l c c fun k hk e => by
      by_cases hki : k < i
      · have := h.lo k hki; omega
      · by_cases hki2 : k = i
        · subst hki2; exact hf ⟨hk, e⟩
        · have h1 := h.hi i (Nat.le_refl _) (by omega)
          have h2 := sorted l hv i k (by omega) hk
          omega
end Hb
namespace Go.Proofs.Ytmjeajfakhmakaa
open Go.RowKit Hb
set_option maxRecDepth 100000

set_option maxHeartbeats 400000 in
theorem find_closure (x y c : Int) (w : World) :
    Calls Try.prog 47 #[.agg #[.int .i64 x, .int .i64 y], .int .i64 c] w fun e w' => e = .returned (.int .i64 (cmpI x c)) ∧ Below w.heap.size w w' := by
  have HC := Lib.hid (fun w' => (show Calls Try.prog 48 #[.int .i64 x, .int .i64 c] w' fun e w'' => e = .returned (.int .i64 (cmpI x c)) ∧ w' = w'' from cmp_compare x c w'))
  go_enter Try.func47, Try.ntmps47
  go_wp2_with fail
  refine (HC.out _).mono ?_; rintro e w1 ⟨rfl, rfl⟩
  go_wp2_with fail
  go_ret
  exact ⟨rfl, (Below.refl _ _).alloc (Nat.le_refl _) _⟩

set_option maxHeartbeats 800000 in
theorem search_pairs (A : Option Addr) (n cap : Nat) (l : List (Int × Int)) (c : Int) (w : World) (hn : n = l.length) (hm : n ≤ 400) (hp : Pairs w A l) (hv : pvalid l = true) :
    Calls Try.prog 46 #[.slice A n cap, .int .i64 c, .func (.func 47) #[] #[]] w fun e w' => ∃ i : Nat, (LowIs l c i ∧ e = .returned (.tuple #[.int .i64 i, .bool (decide (i < l.length ∧ prF l i = c))])) ∧ Below w.heap.size w w' := by
  have HN := Lib.hid hn
  have HP := Lib.hid hp
  have HV := Lib.hid hv
  clear hn hp hv
  go_enter Try.func46, Try.ntmps46
  go_wp2_with fail
  go_loopw [9, 10] (fun i j wr => ∃ a b : Nat, a ≤ b ∧ b ≤ n ∧ i = .int .i64 a ∧ j = .int .i64 b ∧ Below w.heap.size w wr ∧ Hid (∀ k, k < a → prF l k < c) ∧ Hid (∀ k, b ≤ k → k < l.length → c ≤ prF l k)) (fun i j _ => (intOf j).toNat - (intOf i).toNat)
  case atStart => exact ⟨0, n, Nat.zero_le _, Nat.le_refl _, rfl, rfl, Below.refl _ _, fun k hk => absurd hk (by omega), fun k h1 h2 => absurd h2 (by have := HN.out; omega)⟩
  case round =>
    obtain ⟨a, b, hab, hb, rfl, rfl, hB, HL, HH⟩ := hrel
    have hbs := hB.size
    by_cases hlt : a < b
    · have hkl : (a + b) / 2 < l.length := by have := HN.out; omega
      obtain ⟨g, off, rfl, hg, c1, c2⟩ := (HP.out.below hB) ((a + b) / 2) hkl
      rw [prF_get _ _ hkl] at c1
      rw [prT_get _ _ hkl] at c2
      by_cases d1 : prF l ((a + b) / 2) < c
      · have e1 : decide (cmpI (prF l ((a + b) / 2)) c < 0) = true := decide_eq_true ((cmpI_neg _ _).2 d1)
        have HL2 : Hid (∀ k, k < (a + b) / 2 + 1 → prF l k < c) := fun k hk => by
          by_cases hk2 : k = (a + b) / 2
          · rw [hk2]; exact d1
          · have := sorted l HV.out k ((a + b) / 2) (by omega) hkl; omega
        clear d1
        go_wp2_with fail
        refine (find_closure _ _ _ _).mono ?_; rintro e w1 ⟨rfl, hB1⟩
        go_wp2_with fail
        go_roundw
        case rel => exact ⟨(a + b) / 2 + 1, b, by omega, hb, by go_num, rfl, hB.trans (hB1.mono hbs), HL2, HH⟩
        case measure => simp [intOf]; omega
      · have e1 : decide (cmpI (prF l ((a + b) / 2)) c < 0) = false := decide_eq_false (fun h => d1 ((cmpI_neg _ _).1 h))
        have HH2 : Hid (∀ k, (a + b) / 2 ≤ k → k < l.length → c ≤ prF l k) := fun k h1 h2 => by
          by_cases hk2 : k = (a + b) / 2
          · rw [hk2]; omega
          · have := sorted l HV.out ((a + b) / 2) k (by omega) h2; omega
        clear d1
        go_wp2_with fail
        refine (find_closure _ _ _ _).mono ?_; rintro e w1 ⟨rfl, hB1⟩
        go_wp2_with fail
        go_roundw
        case rel => exact ⟨a, (a + b) / 2, by omega, by omega, rfl, by go_num, hB.trans (hB1.mono hbs), HL, HH2⟩
        case measure => simp [intOf]; omega
    · obtain rfl : a = b := by omega
      have HLow : Hid (LowIs l c a) := ⟨by have := HN.out; omega, HL.out, HH.out⟩
      by_cases han : a < n
      · have hkl : a < l.length := by have := HN.out; omega
        obtain ⟨g, off, rfl, hg, c1, c2⟩ := (HP.out.below hB) a hkl
        rw [prF_get _ _ hkl] at c1
        rw [prT_get _ _ hkl] at c2
        have hb1 : decide (a < n) = true := by simp; omega
        have HE := Lib.hid (show (cmpI (prF l a) c == 0) = decide (a < l.length ∧ prF l a = c) by
          by_cases he : prF l a = c
          · rw [(cmpI_zero _ _).2 he]; simp; exact ⟨hkl, he⟩
          · have : ¬cmpI (prF l a) c = 0 := fun h => he ((cmpI_zero _ _).1 h)
            simp [this, he])
        go_wp2_with fail
        refine (find_closure _ _ _ _).mono ?_; rintro e w1 ⟨rfl, hB1⟩
        go_wp2_with fail
        refine bodyPost_ret (v := .tuple #[.int .i64 a, .bool (cmpI (prF l a) c == 0)]) (by simp [results, Try.results46, go_sem]) rfl ⟨a, ⟨HLow.out, by rw [HE.out]⟩, hB.trans (hB1.mono hbs)⟩
      · have hb1 : decide (a < n) = false := by simp; omega
        have HE := Lib.hid (show decide (a < l.length ∧ prF l a = c) = false by have := HN.out; simp; omega)
        go_wp2_with fail
        refine bodyPost_ret (v := .tuple #[.int .i64 a, .bool false]) (by simp [results, Try.results46, go_sem]) rfl ⟨a, ⟨HLow.out, by rw [HE.out]⟩, hB⟩

set_option maxHeartbeats 400000 in
theorem find_pairs (A : Option Addr) (n cap : Nat) (l : List (Int × Int)) (c : Int) (w : World) (hx : ∀ w', Pairs w' A l → Calls Try.prog 46 #[.slice A n cap, .int .i64 c, .func (.func 47) #[] #[]] w' fun e w'' => ∃ i : Nat, (LowIs l c i ∧ e = .returned (.tuple #[.int .i64 i, .bool (decide (i < l.length ∧ prF l i = c))])) ∧ Below w'.heap.size w' w'') (hp : Pairs w A l) :
    Calls Try.prog 32 #[.slice A n cap, .int .i64 c] w fun e w' => ∃ i : Nat, (LowIs l c i ∧ e = .returned (.tuple #[.int .i64 i, .bool (decide (i < l.length ∧ prF l i = c))])) ∧ Below w.heap.size w w' := by
  have HX := Lib.hid (hx w hp)
  clear hx hp
  go_enter Try.func32, Try.ntmps32
  go_wp2_with fail
  refine HX.out.mono ?_; rintro e w1 ⟨i, ⟨hL, rfl⟩, hB1⟩
  have HL := Lib.hid hL
  clear hL
  generalize hd : decide (i < l.length ∧ prF l i = c) = d
  have HD := Lib.hid hd
  clear hd
  go_wp2_with fail
  refine bodyPost_ret (v := .tuple #[.int .i64 i, .bool d]) (by simp [results, Try.results32, go_sem]) rfl ⟨i, ⟨HL.out, by rw [HD.out]⟩, hB1⟩

set_option maxHeartbeats 800000 in
theorem chars_convert (A : Option Addr) (n cap : Nat) (l : List (Int × Int)) (c : Int) (w : World) (hn : n = l.length) (hm : n ≤ 400) (hp : Pairs w A l) (hv : pvalid l = true) (h0 : 0 ≤ c) (h1 : c ≤ 255) :
    Calls Try.prog 24 #[.slice A n cap, .int .i64 c] w fun e w' => e = .returned (.int .i64 (convT l c)) ∧ Below w.heap.size w w' := by
  have HP := Lib.hid hp
  have HN := Lib.hid hn
  have HV := Lib.hid hv
  have HC := Lib.hid (chars_valid A n cap l w hn (by unfold maxLen; omega) hp)
  have HI := Lib.hid (show isCh c = true from (isCh_iff c).2 ⟨h0, h1⟩)
  have HX := Lib.hid (fun w' h => search_pairs A n cap l c w' hn hm h hv)
  clear hn hp hv
  go_enter Try.func24, Try.ntmps24
  go_wp2_with fail
  refine HC.out.mono ?_; rintro e w1 ⟨rfl, hB1⟩; rw [HV.out]
  have HP1 := Lib.hid (HP.out.below hB1)
  have hs1 := hB1.size
  go_wp2_with fail
  refine (chars_is_of c true HI.out _).mono ?_; rintro e w2 ⟨rfl, rfl⟩
  go_wp2_with fail
  refine Calls.mono (find_pairs A n cap l c _ (fun w' => HX.out w') HP1.out) ?_; rintro e w2 ⟨i, ⟨hL, rfl⟩, hB2⟩
  have HL := Lib.hid hL
  have HP2 := Lib.hid (HP1.out.below hB2)
  have HR := Lib.hid (convT_low l HV.out c i hL)
  clear hL
  by_cases hf : i < l.length ∧ prF l i = c
  · have e1 : decide (i < l.length ∧ prF l i = c) = true := decide_eq_true hf
    rw [e1]
    rw [if_pos hf] at HR
    have hfl := hf.1
    clear e1 hf
    obtain ⟨g, off, rfl, hg, c1, c2⟩ := HP2.out i hfl
    rw [prT_get _ _ hfl] at c2
    clear c1
    have hin : i < n := by have := HN.out; omega
    go_wp2_with fail
    go_ret
    exact ⟨ret_int HR.out.symm, hB1.trans (hB2.mono hs1)⟩
  · have e1 : decide (i < l.length ∧ prF l i = c) = false := decide_eq_false hf
    rw [e1]
    rw [if_neg hf] at HR
    clear e1 hf
    go_wp2_with fail
    go_ret
    exact ⟨ret_int HR.out.symm, hB1.trans (hB2.mono hs1)⟩
end Go.Proofs.Ytmjeajfakhmakaa
