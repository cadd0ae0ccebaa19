/- Contracts: chars.Convert (a binary search). Conversion tables, plain: a valid table is the one of its function; what Set makes of it. Contracts: chars.Set. -/
import Derived.Test.YtfkhcpeahdkafaaGreatH11
import Derived.Test.YtfkhcpeahdkafaaGreatH18
namespace Hb
def cmpI (a b : Int) : Int := if a < b then -1 else if b < a then 1 else 0
theorem cmpI_neg (a b : Int) : cmpI a b < 0 ↔ a < b := by unfold cmpI; grind
theorem cmpI_zero (a b : Int) : cmpI a b = 0 ↔ a = b := by unfold cmpI; grind
structure LowIs (l : List (Int × Int)) (c : Int) (i : Nat) : Prop where
 le : i ≤ l.length
 lo : ∀ k, k < i → prF l k < c
 hi : ∀ k, i ≤ k → k < l.length → c ≤ prF l k
theorem sorted_step (l : List (Int × Int)) (hv : pvalid l = true) (k : Nat) (h : k + 1 < l.length) : prF l k < prF l (k + 1) := by
 have := pvalid_at l hv (k + 1) h
 unfold okAt at this
 simp at this
 exact this.2.2.2
theorem sorted_lt (l : List (Int × Int)) (hv : pvalid l = true) : ∀ (d k : Nat), k + d + 1 < l.length → prF l k < prF l (k + d + 1)
 | 0, k, h => sorted_step l hv k h
 | d + 1, k, h => by
  have h1 := sorted_lt l hv d k (by omega)
  have h2 := sorted_step l hv (k + d + 1) (by omega)
  rw [show k + (d + 1) + 1 = k + d + 1 + 1 by omega]; omega
theorem sorted (l : List (Int × Int)) (hv : pvalid l = true) (j k : Nat) (h1 : j < k) (h2 : k < l.length) : prF l j < prF l k := by
 have := sorted_lt l hv (k - j - 1) j (by omega)
 rwa [show j + (k - j - 1) + 1 = k by omega] at this
theorem convT_miss : ∀ (l : List (Int × Int)) (c t : Int), (∀ k, k < l.length → ¬prF l k = c) → l.foldl (fun t p => if p.1 = c then p.2 else t) t = t
 | [], _, _, _ => rfl
 | p :: l, c, t, h => by
  have h0 := h 0 (by simp)
  rw [List.foldl_cons, if_neg (by simpa [prF] using h0)]
  exact convT_miss l c t fun k hk => by
   have := h (k + 1) (by simp; omega)
   simpa [prF] using this
theorem convT_hit : ∀ (l : List (Int × Int)) (c t : Int) (i : Nat), i < l.length → prF l i = c → (∀ k, i < k → k < l.length → ¬prF l k = c) → l.foldl (fun t p => if p.1 = c then p.2 else t) t = prT l i
 | [], _, _, i, h, _, _ => absurd h (by simp)
 | p :: l, c, t, 0, _, h1, h2 => by
  rw [List.foldl_cons, if_pos (by simpa [prF] using h1), convT_miss l c _ fun k hk => by
   have := h2 (k + 1) (by omega) (by simp; omega)
   simpa [prF] using this]
  simp [prT]
 | p :: l, c, t, i + 1, h, h1, h2 => by
  rw [List.foldl_cons, convT_hit l c _ i (by simpa using h) (by simpa [prF] using h1) fun k hk hk2 => by
   have := h2 (k + 1) (by omega) (by simp; omega)
   simpa [prF] using this]
  simp [prT]
theorem convT_low (l : List (Int × Int)) (hv : pvalid l = true) (c : Int) (i : Nat) (h : LowIs l c i) : convT l c = if i < l.length ∧ prF l i = c then prT l i else c := by
 unfold convT
 by_cases hf : i < l.length ∧ prF l i = c
 ·rw [if_pos hf]
  exact convT_hit l c c i hf.1 hf.2 fun k hk hk2 e => by
   have := sorted l hv i k hk hk2
   omega
 ·rw [if_neg hf]
  exact convT_miss l c c fun k hk e => by
   by_cases hki : k < i
   ·have := h.lo k hki; omega
   ·by_cases hki2 : k = i
    ·subst hki2; exact hf ⟨hk, e⟩
    ·have h1 := h.hi i (Nat.le_refl _) (by omega)
     have h2 := sorted l hv i k (by omega) hk
     omega
end Hb
namespace Go.Proofs.YtfkhcpeahdkafaaGreat
open Go.RowKit Hb
set_option maxRecDepth 100000
set_option maxHeartbeats 400000 in
theorem find_closure (x y c : Int) (w : World) :
  Calls Tryz.prog 210 #[.agg #[.int .i64 x, .int .i64 y], .int .i64 c] w fun e w' => e = .returned (.int .i64 (cmpI x c)) ∧ Below w.heap.size w w' := by
 have HC := Lib.hid (fun w' => (show Calls Tryz.prog 141 #[.int .i64 x, .int .i64 c] w' fun e w'' => e = .returned (.int .i64 (cmpI x c)) ∧ w' = w'' from cmp_compare x c w'))
 go_enter Tryz.func210, Tryz.ntmps210
 go_wp2_with fail
 refine (HC.out _).mono ?_; rintro e w1 ⟨rfl, rfl⟩
 go_wp2_with fail
 go_ret
 exact ⟨rfl, (Below.refl _ _).alloc (Nat.le_refl _) _⟩
set_option maxHeartbeats 800000 in
theorem search_pairs (A : Option Addr) (n cap : Nat) (l : List (Int × Int)) (c : Int) (w : World) (hn : n = l.length) (hm : n ≤ 400) (hp : Pairs w A l) (hv : pvalid l = true) :
  Calls Tryz.prog 209 #[.slice A n cap, .int .i64 c, .func (.func 210) #[] #[]] w fun e w' => ∃ i : Nat, (LowIs l c i ∧ e = .returned (.tuple #[.int .i64 i, .bool (decide (i < l.length ∧ prF l i = c))])) ∧ Below w.heap.size w w' := by
 have HN := Lib.hid hn
 have HP := Lib.hid hp
 have HV := Lib.hid hv
 clear hn hp hv
 go_enter Tryz.func209, Tryz.ntmps209
 go_wp2_with fail
 go_loopw [9, 10] (fun i j wr => ∃ a b : Nat, a ≤ b ∧ b ≤ n ∧ i = .int .i64 a ∧ j = .int .i64 b ∧ Below w.heap.size w wr ∧ Hid (∀ k, k < a → prF l k < c) ∧ Hid (∀ k, b ≤ k → k < l.length → c ≤ prF l k)) (fun i j _ => (intOf j).toNat - (intOf i).toNat)
 case atStart => exact ⟨0, n, Nat.zero_le _, Nat.le_refl _, rfl, rfl, Below.refl _ _, fun k hk => absurd hk (by omega), fun k h1 h2 => absurd h2 (by have := HN.out; omega)⟩
 case round =>
  obtain ⟨a, b, hab, hb, rfl, rfl, hB, HL, HH⟩ := hrel
  have hbs := hB.size
  by_cases hlt : a < b
  ·have hkl : (a + b) / 2 < l.length := by have := HN.out; omega
   obtain ⟨g, off, rfl, hg, c1, c2⟩ := (HP.out.below hB) ((a + b) / 2) hkl
   rw [prF_get _ _ hkl] at c1
   rw [prT_get _ _ hkl] at c2
   by_cases d1 : prF l ((a + b) / 2) < c
   ·have e1 : decide (cmpI (prF l ((a + b) / 2)) c < 0) = true := decide_eq_true ((cmpI_neg _ _).2 d1)
    have HL2 : Hid (∀ k, k < (a + b) / 2 + 1 → prF l k < c) := fun k hk => by
     by_cases hk2 : k = (a + b) / 2
     ·rw [hk2]; exact d1
     ·have := sorted l HV.out k ((a + b) / 2) (by omega) hkl; omega
    clear d1
    go_wp2_with fail
    refine (find_closure _ _ _ _).mono ?_; rintro e w1 ⟨rfl, hB1⟩
    go_wp2_with fail
    go_roundw
    case rel => exact ⟨(a + b) / 2 + 1, b, by omega, hb, by go_num, rfl, hB.trans (hB1.mono hbs), HL2, HH⟩
    case measure => simp [intOf]; omega
   ·have e1 : decide (cmpI (prF l ((a + b) / 2)) c < 0) = false := decide_eq_false (fun h => d1 ((cmpI_neg _ _).1 h))
    have HH2 : Hid (∀ k, (a + b) / 2 ≤ k → k < l.length → c ≤ prF l k) := fun k h1 h2 => by
     by_cases hk2 : k = (a + b) / 2
     ·rw [hk2]; omega
     ·have := sorted l HV.out ((a + b) / 2) k (by omega) h2; omega
    clear d1
    go_wp2_with fail
    refine (find_closure _ _ _ _).mono ?_; rintro e w1 ⟨rfl, hB1⟩
    go_wp2_with fail
    go_roundw
    case rel => exact ⟨a, (a + b) / 2, by omega, by omega, rfl, by go_num, hB.trans (hB1.mono hbs), HL, HH2⟩
    case measure => simp [intOf]; omega
  ·obtain rfl : a = b := by omega
   have HLow : Hid (LowIs l c a) := ⟨by have := HN.out; omega, HL.out, HH.out⟩
   by_cases han : a < n
   ·have hkl : a < l.length := by have := HN.out; omega
    obtain ⟨g, off, rfl, hg, c1, c2⟩ := (HP.out.below hB) a hkl
    rw [prF_get _ _ hkl] at c1
    rw [prT_get _ _ hkl] at c2
    have hb1 : decide (a < n) = true := by simp; omega
    have HE := Lib.hid (show (cmpI (prF l a) c == 0) = decide (a < l.length ∧ prF l a = c) by
     by_cases he : prF l a = c
     ·rw [(cmpI_zero _ _).2 he]; simp; exact ⟨hkl, he⟩
     ·have : ¬cmpI (prF l a) c = 0 := fun h => he ((cmpI_zero _ _).1 h)
      simp [this, he])
    go_wp2_with fail
    refine (find_closure _ _ _ _).mono ?_; rintro e w1 ⟨rfl, hB1⟩
    go_wp2_with fail
    refine bodyPost_ret (v := .tuple #[.int .i64 a, .bool (cmpI (prF l a) c == 0)]) (by simp [results, Tryz.results209, go_sem]) rfl ⟨a, ⟨HLow.out, by rw [HE.out]⟩, hB.trans (hB1.mono hbs)⟩
   ·have hb1 : decide (a < n) = false := by simp; omega
    have HE := Lib.hid (show decide (a < l.length ∧ prF l a = c) = false by have := HN.out; simp; omega)
    go_wp2_with fail
    refine bodyPost_ret (v := .tuple #[.int .i64 a, .bool false]) (by simp [results, Tryz.results209, go_sem]) rfl ⟨a, ⟨HLow.out, by rw [HE.out]⟩, hB⟩
set_option maxHeartbeats 400000 in
theorem find_pairs (A : Option Addr) (n cap : Nat) (l : List (Int × Int)) (c : Int) (w : World) (hx : ∀ w', Pairs w' A l → Calls Tryz.prog 209 #[.slice A n cap, .int .i64 c, .func (.func 210) #[] #[]] w' fun e w'' => ∃ i : Nat, (LowIs l c i ∧ e = .returned (.tuple #[.int .i64 i, .bool (decide (i < l.length ∧ prF l i = c))])) ∧ Below w'.heap.size w' w'') (hp : Pairs w A l) :
  Calls Tryz.prog 196 #[.slice A n cap, .int .i64 c] w fun e w' => ∃ i : Nat, (LowIs l c i ∧ e = .returned (.tuple #[.int .i64 i, .bool (decide (i < l.length ∧ prF l i = c))])) ∧ Below w.heap.size w w' := by
 have HX := Lib.hid (hx w hp)
 clear hx hp
 go_enter Tryz.func196, Tryz.ntmps196
 go_wp2_with fail
 refine HX.out.mono ?_; rintro e w1 ⟨i, ⟨hL, rfl⟩, hB1⟩
 have HL := Lib.hid hL
 clear hL
 generalize hd : decide (i < l.length ∧ prF l i = c) = d
 have HD := Lib.hid hd
 clear hd
 go_wp2_with fail
 refine bodyPost_ret (v := .tuple #[.int .i64 i, .bool d]) (by simp [results, Tryz.results196, go_sem]) rfl ⟨i, ⟨HL.out, by rw [HD.out]⟩, hB1⟩
set_option maxHeartbeats 800000 in
theorem chars_convert (A : Option Addr) (n cap : Nat) (l : List (Int × Int)) (c : Int) (w : World) (hn : n = l.length) (hm : n ≤ 400) (hp : Pairs w A l) (hv : pvalid l = true) (h0 : 0 ≤ c) (h1 : c ≤ 255) :
  Calls Tryz.prog 164 #[.slice A n cap, .int .i64 c] w fun e w' => e = .returned (.int .i64 (convT l c)) ∧ Below w.heap.size w w' := by
 have HP := Lib.hid hp
 have HN := Lib.hid hn
 have HV := Lib.hid hv
 have HC := Lib.hid (chars_valid A n cap l w hn (by unfold maxLen; omega) hp)
 have HI := Lib.hid (show isCh c = true from (isCh_iff c).2 ⟨h0, h1⟩)
 have HX := Lib.hid (fun w' h => search_pairs A n cap l c w' hn hm h hv)
 clear hn hp hv
 go_enter Tryz.func164, Tryz.ntmps164
 go_wp2_with fail
 refine HC.out.mono ?_; rintro e w1 ⟨rfl, hB1⟩; rw [HV.out]
 have HP1 := Lib.hid (HP.out.below hB1)
 have hs1 := hB1.size
 go_wp2_with fail
 refine (chars_is_of c true HI.out _).mono ?_; rintro e w2 ⟨rfl, rfl⟩
 go_wp2_with fail
 refine Calls.mono (find_pairs A n cap l c _ (fun w' => HX.out w') HP1.out) ?_; rintro e w2 ⟨i, ⟨hL, rfl⟩, hB2⟩
 have HL := Lib.hid hL
 have HP2 := Lib.hid (HP1.out.below hB2)
 have HR := Lib.hid (convT_low l HV.out c i hL)
 clear hL
 by_cases hf : i < l.length ∧ prF l i = c
 ·have e1 : decide (i < l.length ∧ prF l i = c) = true := decide_eq_true hf
  rw [e1]
  rw [if_pos hf] at HR
  have hfl := hf.1
  clear e1 hf
  obtain ⟨g, off, rfl, hg, c1, c2⟩ := HP2.out i hfl
  rw [prT_get _ _ hfl] at c2
  clear c1
  have hin : i < n := by have := HN.out; omega
  go_wp2_with fail
  go_ret
  exact ⟨ret_int HR.out.symm, hB1.trans (hB2.mono hs1)⟩
 ·have e1 : decide (i < l.length ∧ prF l i = c) = false := decide_eq_false hf
  rw [e1]
  rw [if_neg hf] at HR
  clear e1 hf
  go_wp2_with fail
  go_ret
  exact ⟨ret_int HR.out.symm, hB1.trans (hB2.mono hs1)⟩
end Go.Proofs.YtfkhcpeahdkafaaGreat
namespace Hb
structure CvOk (l : List (Int × Int)) : Prop where
 ok : ∀ p ∈ l, 0 ≤ p.1 ∧ p.1 ≤ 255 ∧ 0 ≤ p.2 ∧ p.2 ≤ 255 ∧ p.1 ≠ p.2
 asc : l.Pairwise (fun p q => p.1 < q.1)
theorem okAt_iff (l : List (Int × Int)) (j : Nat) : okAt l j = true ↔ (0 ≤ prF l j ∧ prF l j ≤ 255) ∧ (0 ≤ prT l j ∧ prT l j ≤ 255) ∧ prF l j ≠ prT l j ∧ (j = 0 ∨ prF l (j - 1) < prF l j) := by
 unfold okAt isCh
 simp
theorem cvOk_iff (l : List (Int × Int)) : pvalid l = true ↔ CvOk l := by
 constructor
 ·intro h
  refine ⟨fun p hp => ?_, ?_⟩
  ·obtain ⟨j, hj, rfl⟩ := List.mem_iff_getElem.1 hp
   have := (okAt_iff l j).1 (pvalid_at l h j hj)
   rw [prF_get _ _ hj, prT_get _ _ hj]
   exact ⟨this.1.1, this.1.2, this.2.1.1, this.2.1.2, this.2.2.1⟩
  ·rw [List.pairwise_iff_getElem]
   intro i j hi hj hij
   rw [prF_get _ _ hi, prF_get _ _ hj]
   exact sorted l h i j hij hj
 ·intro h
  refine pvalid_all l fun j hj => ?_
  have h1 := h.ok l[j] (List.getElem_mem hj)
  rw [prF_get _ _ hj, prT_get _ _ hj] at h1
  refine (okAt_iff l j).2 ⟨⟨h1.1, h1.2.1⟩, ⟨h1.2.2.1, h1.2.2.2.1⟩, h1.2.2.2.2, ?_⟩
  rcases j with _ | j
  ·exact .inl rfl
  ·have := (List.pairwise_iff_getElem.1 h.asc) j (j + 1) (by omega) hj (by omega)
   rw [prF_get _ _ (by omega), prF_get _ _ hj] at this
   exact .inr this
theorem fold_miss (c : Int) : ∀ (l : List (Int × Int)) (t : Int), (∀ p ∈ l, p.1 ≠ c) → l.foldl (fun t p => if p.1 = c then p.2 else t) t = t
 | [], _, _ => rfl
 | p :: l, t, h => by
  rw [List.foldl_cons, if_neg (h p (List.mem_cons_self ..))]
  exact fold_miss c l t fun q hq => h q (List.mem_cons_of_mem _ hq)
theorem cv_miss {l : List (Int × Int)} {c : Int} (h : ∀ p ∈ l, p.1 ≠ c) : convT l c = c := fold_miss c l c h
theorem cv_ne {p : Int × Int} {l : List (Int × Int)} {c : Int} (h : p.1 ≠ c) : convT (p :: l) c = convT l c := by
 unfold convT
 rw [List.foldl_cons, if_neg h]
theorem cv_eq {p : Int × Int} {l : List (Int × Int)} (h : ∀ q ∈ l, q.1 ≠ p.1) : convT (p :: l) p.1 = p.2 := by
 unfold convT
 rw [List.foldl_cons, if_pos rfl]
 exact fold_miss p.1 l p.2 h
theorem cv_left {a b : List (Int × Int)} {c : Int} (h : ∀ p ∈ b, p.1 ≠ c) : convT (a ++ b) c = convT a c := by
 unfold convT
 rw [List.foldl_append]
 exact fold_miss c b _ h
theorem cv_right {a b : List (Int × Int)} {c : Int} (h : ∀ p ∈ a, p.1 ≠ c) : convT (a ++ b) c = convT b c := by
 unfold convT
 rw [List.foldl_append, fold_miss c a c h]
def tabFrom (f : Int → Int) : Nat → Nat → List (Int × Int)
 | _, 0 => []
 | a, n + 1 => if f a = a then tabFrom f (a + 1) n else ((a : Int), f a) :: tabFrom f (a + 1) n
def tabOf (f : Int → Int) : List (Int × Int) := tabFrom f 0 256
theorem tab_congr {f g : Int → Int} : ∀ (n a : Nat), (∀ c : Int, (a : Int) ≤ c → c < a + n → f c = g c) → tabFrom f a n = tabFrom g a n
 | 0, _, _ => rfl
 | n + 1, a, h => by
  unfold tabFrom
  rw [h a (by omega) (by omega), tab_congr n (a + 1) fun c h1 h2 => h c (by omega) (by omega)]
theorem tab_mem {f : Int → Int} : ∀ (n a : Nat) (p : Int × Int), p ∈ tabFrom f a n → (a : Int) ≤ p.1 ∧ p.1 < a + n ∧ p.2 = f p.1 ∧ p.1 ≠ p.2
 | 0, _, _, h => by cases h
 | n + 1, a, p, h => by
  unfold tabFrom at h
  split at h
  ·have := tab_mem n (a + 1) p h
   exact ⟨by omega, by omega, this.2.2⟩
  ·rename_i hne
   rcases List.mem_cons.1 h with rfl | h
   ·exact ⟨Int.le_refl _, by show (a : Int) < _; omega, rfl, fun e => hne e.symm⟩
   ·have := tab_mem n (a + 1) p h
    exact ⟨by omega, by omega, this.2.2⟩
theorem tab_asc {f : Int → Int} : ∀ (n a : Nat), (tabFrom f a n).Pairwise (fun p q => p.1 < q.1)
 | 0, _ => List.Pairwise.nil
 | n + 1, a => by
  unfold tabFrom
  split
  ·exact tab_asc n (a + 1)
  ·refine List.Pairwise.cons (fun q hq => ?_) (tab_asc n (a + 1))
   have := tab_mem n (a + 1) q hq
   show (a : Int) < q.1
   omega
theorem tab_conv {f : Int → Int} : ∀ (n a : Nat) (c : Int), convT (tabFrom f a n) c = if (a : Int) ≤ c ∧ c < a + n then f c else c
 | 0, a, c => by
  rw [if_neg (by omega)]
  rfl
 | n + 1, a, c => by
  have ih := tab_conv (f := f) n (a + 1) c
  have hm : ∀ p ∈ tabFrom f (a + 1) n, p.1 ≠ (a : Int) := fun p hp => by
   have := tab_mem n (a + 1) p hp
   omega
  unfold tabFrom
  by_cases hc : c = a
  ·subst hc
   rw [if_pos (show (a : Int) ≤ a ∧ (a : Int) < a + (n + 1 : Nat) by omega)]
   split
   ·rename_i h
    rw [cv_miss hm, h]
   ·exact cv_eq (p := ((a : Int), f a)) hm
  ·have e : (if (a : Int) ≤ c ∧ c < a + (n + 1 : Nat) then f c else c) = if ((a + 1 : Nat) : Int) ≤ c ∧ c < (a + 1 : Nat) + n then f c else c := by
    by_cases h : ((a + 1 : Nat) : Int) ≤ c ∧ c < (a + 1 : Nat) + n
    ·rw [if_pos h, if_pos (by omega)]
    ·rw [if_neg h, if_neg (by omega)]
   rw [e, ← ih]
   split
   ·rfl
   ·exact cv_ne (fun e => hc e.symm)
theorem tab_snoc {f : Int → Int} : ∀ (n a : Nat), tabFrom f a (n + 1) = tabFrom f a n ++ (if f ((a + n : Nat) : Int) = ((a + n : Nat) : Int) then [] else [(((a + n : Nat) : Int), f ((a + n : Nat) : Int))])
 | 0, a => by
  show (if f a = a then tabFrom f (a + 1) 0 else _ :: tabFrom f (a + 1) 0) = [] ++ _
  rfl
 | n + 1, a => by
  have ih := tab_snoc (f := f) n (a + 1)
  rw [show a + 1 + n = a + (n + 1) by omega] at ih
  conv => lhs; unfold tabFrom
  conv => rhs; unfold tabFrom
  rw [ih]
  by_cases h : f a = a
  ·rw [if_pos h, if_pos h]
  ·rw [if_neg h, if_neg h]
   rfl
theorem tab_unique : ∀ (n a : Nat) (l : List (Int × Int)), l.Pairwise (fun p q => p.1 < q.1) → (∀ p ∈ l, (a : Int) ≤ p.1 ∧ p.1 < a + n ∧ p.1 ≠ p.2) → tabFrom (convT l) a n = l
 | 0, a, l, _, h => by
  cases l with
  | nil => rfl
  | cons p l => have := h p (List.mem_cons_self ..); omega
 | n + 1, a, l, hp, h => by
  by_cases hl : ∃ p l', l = p :: l' ∧ p.1 = a
  ·obtain ⟨p, l', rfl, e⟩ := hl
   have hp' := List.pairwise_cons.1 hp
   have h0 := h p (List.mem_cons_self ..)
   have hc : convT (p :: l') a = p.2 := by
    rw [← e]
    exact cv_eq fun q hq => by have := hp'.1 q hq; omega
   unfold tabFrom
   rw [hc, if_neg (fun e2 => h0.2.2 (by omega)), tab_congr (g := convT l') n (a + 1) fun c h1 _ => cv_ne (by omega)]
   rw [tab_unique n (a + 1) l' hp'.2 fun q hq => by
    have h1 := hp'.1 q hq
    have h2 := h q (List.mem_cons_of_mem _ hq)
    exact ⟨by omega, by omega, h2.2.2⟩]
   rw [← e]
  ·have hgt : ∀ p ∈ l, (a : Int) < p.1 := by
    cases l with
    | nil => intro p hp; cases hp
    | cons q l' =>
     have h0 := h q (List.mem_cons_self ..)
     have hq : (a : Int) < q.1 := by
      have : q.1 ≠ (a : Int) := fun e => hl ⟨q, l', rfl, e⟩
      omega
     intro p hp'
     rcases List.mem_cons.1 hp' with rfl | hp'
     ·exact hq
     ·have := (List.pairwise_cons.1 hp).1 p hp'
      omega
   unfold tabFrom
   rw [cv_miss fun p hp => by have := hgt p hp; omega, if_pos rfl]
   exact tab_unique n (a + 1) l hp fun p hp => by
    have h1 := hgt p hp
    have h2 := h p hp
    exact ⟨by omega, by omega, h2.2.2⟩
theorem tab_of {l : List (Int × Int)} (h : CvOk l) : tabOf (convT l) = l := tab_unique 256 0 l h.asc fun p hp => by
 have := h.ok p hp
 exact ⟨by omega, by omega, this.2.2.2.2⟩
theorem tab_ok {f : Int → Int} (h : ∀ c, 0 ≤ c → c ≤ 255 → 0 ≤ f c ∧ f c ≤ 255) : CvOk (tabOf f) where
 ok := fun p hp => by
  have := tab_mem 256 0 p hp
  have h2 := h p.1 (by omega) (by omega)
  rw [← this.2.2.1] at h2
  exact ⟨by omega, by omega, h2.1, h2.2, this.2.2.2⟩
 asc := tab_asc 256 0
theorem tab_len (f : Int → Int) : ∀ n a, (tabFrom f a n).length ≤ n
 | 0, _ => Nat.le_refl _
 | n + 1, a => by
  unfold tabFrom
  have := tab_len f n (a + 1)
  split
  ·omega
  ·simp only [List.length_cons]; omega
theorem cv_len {l : List (Int × Int)} (h : CvOk l) : l.length ≤ 256 := by
 have := tab_len (convT l) 256 0
 have e := tab_of h
 unfold tabOf at e
 rwa [e] at this
theorem cv_ch {l : List (Int × Int)} (h : CvOk l) {c : Int} (h0 : 0 ≤ c) (h1 : c ≤ 255) : 0 ≤ convT l c ∧ convT l c ≤ 255 := by
 by_cases hm : ∃ p ∈ l, p.1 = c
 ·obtain ⟨p, hp, rfl⟩ := hm
  obtain ⟨a, b, rfl⟩ := List.append_of_mem hp
  have hasc := List.pairwise_append.1 h.asc
  have e : convT (a ++ p :: b) p.1 = p.2 := by
   rw [cv_right fun q hq => by have := hasc.2.2 q hq p (List.mem_cons_self ..); omega]
   exact cv_eq fun q hq => by have := (List.pairwise_cons.1 hasc.2.1).1 q hq; omega
  rw [e]
  have := h.ok p hp
  omega
 ·rw [cv_miss fun p hp e => hm ⟨p, hp, e⟩]
  omega
def cset (l : List (Int × Int)) (f t : Int) : List (Int × Int) := tabOf fun x => if x = f then t else convT l x
def restI (l : List (Int × Int)) (f : Int) (i : Nat) : Nat := if i < l.length ∧ prF l i = f then i + 1 else i
def csetI (l : List (Int × Int)) (f t : Int) (i : Nat) : List (Int × Int) := l.take i ++ (if f = t then [] else [(f, t)]) ++ l.drop (restI l f i)
theorem low_take {l : List (Int × Int)} {f : Int} {i : Nat} (hL : LowIs l f i) : ∀ p ∈ l.take i, p ∈ l ∧ p.1 < f := by
 intro p hp
 refine ⟨List.mem_of_mem_take hp, ?_⟩
 obtain ⟨k, hk, rfl⟩ := List.mem_iff_getElem.1 hp
 rw [List.length_take] at hk
 rw [List.getElem_take, prF_get _ _ (by omega)]
 exact hL.lo k (by omega)
theorem low_drop {l : List (Int × Int)} {f : Int} {i : Nat} (hv : pvalid l = true) (hL : LowIs l f i) : ∀ p ∈ l.drop (restI l f i), p ∈ l ∧ f < p.1 := by
 intro p hp
 refine ⟨List.mem_of_mem_drop hp, ?_⟩
 obtain ⟨k, hk, rfl⟩ := List.mem_iff_getElem.1 hp
 rw [List.length_drop] at hk
 rw [List.getElem_drop, prF_get _ _ (by omega)]
 unfold restI at *
 by_cases hc : i < l.length ∧ prF l i = f
 ·rw [if_pos hc] at hk ⊢
  have := sorted l hv i (i + 1 + k) (by omega) (by omega)
  omega
 ·rw [if_neg hc] at hk ⊢
  have h1 := hL.hi i (Nat.le_refl _) (by omega)
  have h2 : prF l i ≠ f := fun e => hc ⟨by omega, e⟩
  rcases Nat.eq_zero_or_pos k with rfl | hk0
  ·rw [Nat.add_zero]; omega
  ·have := sorted l hv i (i + k) (by omega) (by omega)
   omega
theorem csetI_ok {l : List (Int × Int)} {f t : Int} {i : Nat} (hv : pvalid l = true) (f0 : 0 ≤ f) (f1 : f ≤ 255) (t0 : 0 ≤ t) (t1 : t ≤ 255) (hL : LowIs l f i) : CvOk (csetI l f t i) := by
 have h := (cvOk_iff l).1 hv
 have hT := low_take hL
 have hD := low_drop hv hL
 have hM : ∀ p ∈ (if f = t then [] else [(f, t)] : List (Int × Int)), p = (f, t) ∧ f ≠ t := by
  intro p hp
  split at hp
  ·cases hp
  ·rename_i hne
   exact ⟨List.mem_singleton.1 hp, hne⟩
 constructor
 ·intro p hp
  unfold csetI at hp
  rcases List.mem_append.1 hp with hp | hp
  ·rcases List.mem_append.1 hp with hp | hp
   ·exact h.ok p (hT p hp).1
   ·obtain ⟨rfl, hne⟩ := hM p hp
    exact ⟨f0, f1, t0, t1, hne⟩
  ·exact h.ok p (hD p hp).1
 ·unfold csetI
  refine List.pairwise_append.2 ⟨List.pairwise_append.2 ⟨h.asc.sublist (List.take_sublist _ _), ?_, ?_⟩, h.asc.sublist (List.drop_sublist _ _), ?_⟩
  ·split
   ·exact List.Pairwise.nil
   ·exact List.pairwise_singleton _ _
  ·intro p hp q hq
   obtain ⟨rfl, _⟩ := hM q hq
   exact (hT p hp).2
  ·intro p hp q hq
   have hq2 := (hD q hq).2
   rcases List.mem_append.1 hp with hp | hp
   ·have := (hT p hp).2
    omega
   ·obtain ⟨rfl, _⟩ := hM p hp
    exact hq2
theorem csetI_conv {l : List (Int × Int)} {f t : Int} {i : Nat} (hv : pvalid l = true) (hL : LowIs l f i) (c : Int) : convT (csetI l f t i) c = if c = f then t else convT l c := by
  have hT := low_take hL
  have hD := low_drop hv hL
  have hl : convT l c = convT (l.take i ++ l.drop i) c := by rw [List.take_append_drop]
  unfold csetI
  by_cases h1 : c = f
  · subst h1
    rw [if_pos rfl, cv_left fun p hp => by have := (hD p hp).2; omega, cv_right fun p hp => by have := (hT p hp).2; omega]
    split
    · rename_i e; exact e
    · exact cv_eq (p := (c, t)) (fun q hq => by cases hq)
  · rw [if_neg h1]
    by_cases h2 : c < f
    · rw [cv_left fun p hp => by have := (hD p hp).2; omega, cv_left fun p hp => by
        split at hp
        · cases hp
        · rw [List.mem_singleton.1 hp]; exact fun e => h1 e.symm, hl, cv_left]
      intro p hp
      obtain ⟨k, hk, rfl⟩ := List.mem_iff_getElem.1 hp
      rw [List.length_drop] at hk
      rw [List.getElem_drop, prF_get _ _ (by omega)]
      have := hL.hi (i + k) (by omega) (by omega)
      omega
    · rw [cv_right fun p hp => by
        rcases List.mem_append.1 hp with hp | hp
        · have := (hT p hp).2; omega
        · split at hp
          · cases hp
          · rw [List.mem_singleton.1 hp]; exact fun e => h1 e.symm, hl, cv_right fun p hp => by have := (hT p hp).2; omega]
      unfold restI
      split
      · rename_i hc
        rw [List.drop_eq_getElem_cons hc.1, cv_ne]
        rw [prF_get _ _ hc.1, hc.2]
        exact fun e => h1 e.symm
      · rfl
theorem csetI_is {l : List (Int × Int)} {f t : Int} {i : Nat} (hv : pvalid l = true) (f0 : 0 ≤ f) (f1 : f ≤ 255) (t0 : 0 ≤ t) (t1 : t ≤ 255) (hL : LowIs l f i) : csetI l f t i = cset l f t := by
 rw [← tab_of (csetI_ok hv f0 f1 t0 t1 hL)]
 unfold cset tabOf
 exact tab_congr 256 0 fun c _ _ => csetI_conv hv hL c
theorem cset_ok {l : List (Int × Int)} {f t : Int} (hv : pvalid l = true) (t0 : 0 ≤ t) (t1 : t ≤ 255) : CvOk (cset l f t) := tab_ok fun c h0 h1 => by
 show 0 ≤ (if c = f then t else convT l c) ∧ (if c = f then t else convT l c) ≤ 255
 split
 ·exact ⟨t0, t1⟩
 ·exact cv_ch ((cvOk_iff l).1 hv) h0 h1
theorem cset_conv {l : List (Int × Int)} {f t : Int} {c : Int} (h0 : 0 ≤ c) (h1 : c ≤ 255) : convT (cset l f t) c = if c = f then t else convT l c := by
 unfold cset tabOf
 rw [tab_conv, if_pos (by omega)]
end Hb
namespace Hb
open Go Go.RowKit
theorem pc_app (a b : List (Int × Int)) : pairCells (a ++ b) = pairCells a ++ pairCells b := by unfold pairCells; rw [List.flatMap_append]
theorem pc_src (l : List (Int × Int)) : ∀ u ∈ pairCells l, u.oneCell' = true := by
 intro u hu
 unfold pairCells at hu
 rw [List.mem_flatMap] at hu
 obtain ⟨p, _, hp⟩ := hu
 simp at hp
 rcases hp with rfl | rfl <;> rfl
theorem Pairs.take {w : World} {A : Option Addr} {l : List (Int × Int)} (h : Pairs w A l) (i : Nat) : Pairs w A (l.take i) := fun j hj => by
 rw [List.length_take] at hj
 obtain ⟨b, off, e, hb, c1, c2⟩ := h j (by omega)
 exact ⟨b, off, e, hb, by rw [List.getElem_take]; exact c1, by rw [List.getElem_take]; exact c2⟩
theorem drop_cells {w : World} {b off : Nat} {l : List (Int × Int)} (h : Pairs w (some ⟨b, off, none⟩) l) (r : Nat) : ∀ j u, (pairCells (l.drop r))[j]? = some u → w.cell? ((⟨b, off + r * 2, none⟩ : Addr).add j) = some u := by
 have h2 : ∀ j (hj : j < (l.drop r).length), w.cell? ⟨b, off + r * 2 + j * 2, none⟩ = some (.int .i64 (l.drop r)[j].1) ∧ w.cell? ⟨b, off + r * 2 + j * 2 + 1, none⟩ = some (.int .i64 (l.drop r)[j].2) := fun j hj => by
  rw [List.length_drop] at hj
  obtain ⟨b', off', e, _, c1, c2⟩ := h (r + j) (by omega)
  injection e with e
  injection e with e1 e2 _
  subst e1; subst e2
  rw [List.getElem_drop]
  rw [show off + (r + j) * 2 = off + r * 2 + j * 2 by omega] at c1 c2
  exact ⟨c1, c2⟩
 exact pc_at h2
theorem drop_at (b off cap : Nat) (l : List (Int × Int)) (r : Nat) (hc : l.length ≤ cap) : (cap = r ∧ Hid (∀ w : World, Pairs w (some ⟨b, off, none⟩) l → ∀ j u, (pairCells (l.drop r))[j]? = some u → w.cell? ((⟨b, off, none⟩ : Addr).add j) = some u)) ∨ (¬ cap = r ∧ Hid (∀ w : World, Pairs w (some ⟨b, off, none⟩) l → ∀ j u, (pairCells (l.drop r))[j]? = some u → w.cell? ((⟨b, off + r * 2, none⟩ : Addr).add j) = some u)) := by
 by_cases h : cap = r
 ·refine .inl ⟨h, Lib.hid fun w _ j u hu => ?_⟩
  rw [List.drop_eq_nil_of_le (by omega)] at hu
  cases hu
 ·exact .inr ⟨h, Lib.hid fun w hp => drop_cells hp r⟩
theorem own_grown {w w' : World} {base e size n : Nat} {v : Value} {xs : List Value} (h : w.ownsRow base e size v n xs) (hg : w.grownBy w' v.ownBlock) (hb : base ≤ w.heap.size) : Below base w w' := by
 refine (Below.refl base w).grown hg hb fun k hk => ?_
 rcases h.2 with ⟨rfl, _⟩ | ⟨g, cap, cur, rfl, hbg, _⟩
 ·simp [Value.ownBlock] at hk
 ·simp [Value.ownBlock] at hk; omega
end Hb
namespace Go.Proofs.YtfkhcpeahdkafaaGreat
open Go.RowKit Hb
set_option maxRecDepth 100000
theorem at_appPP {ops : Array Oper} {rest : List Oper} {a : Act} {Q : Exit → Act → World → Prop} {w : World} {d t p f x g} (h : wpList Tryz.prog ops Q (⟨d, .call { callee := .builtin .append, args := x, argTypes := #[41, 41] }, t, p, f, g⟩ :: rest) a w) : wpList Tryz.prog ops Q (⟨d, .call { callee := .builtin .append, args := x, argTypes := #[41, 41] }, t, p, f, g⟩ :: rest) a w := h
set_option maxHeartbeats 3200000 in
theorem chars_set (A : Option Addr) (n cap : Nat) (l : List (Int × Int)) (f t : Int) (w : World) (hn : n = l.length) (hm : n ≤ 400) (hfit : n ≤ cap) (hp : Pairs w A l) (ha : Value.slice A n cap = .slice none 0 0 ∨ ∃ b o, A = some ⟨b, o, none⟩) (hv : pvalid l = true) (f0 : 0 ≤ f) (f1 : f ≤ 255) (t0 : 0 ≤ t) (t1 : t ≤ 255) :
  Calls Tryz.prog 162 #[.slice A n cap, .int .i64 f, .int .i64 t] w fun e w' => ∃ A' n' cap', e = .returned (.tuple #[.slice A' n' cap', .int .i64 0]) ∧ Below w.heap.size w w' ∧ PrI w.heap.size w' A' n' cap' (cset l f t) := by
 have HP := Lib.hid hp
 have HN := Lib.hid hn
 have HV := Lib.hid hv
 have HC := Lib.hid (chars_valid A n cap l w hn (by unfold maxLen; omega) hp)
 have HI := Lib.hid (show isCh f = true from (isCh_iff f).2 ⟨f0, f1⟩)
 have HJ := Lib.hid (show isCh t = true from (isCh_iff t).2 ⟨t0, t1⟩)
 have HX := Lib.hid (fun w' h => search_pairs A n cap l f w' hn hm h hv)
 have HCS : Hid (∀ i, LowIs l f i → csetI l f t i = cset l f t) := Lib.hid fun i hL => csetI_is hv f0 f1 t0 t1 hL
 have HAA := Lib.hid ha
 obtain ⟨ii, hii, hz0, hz1, hz2⟩ := info_parts infoPair
 have HII := Lib.hid hii
 have HZ0 := Lib.hid hz0
 have HZ1 := Lib.hid hz1
 have HZ2 := Lib.hid hz2
 clear hii hz0 hz1 hz2
 clear hn hp hv ha
 go_enter Tryz.func162, Tryz.ntmps162
 go_wp2_with fail
 refine HC.out.mono ?_; rintro e w1 ⟨rfl, hB1⟩; rw [HV.out]
 have HB1 := Lib.hid hB1
 have HP1 := Lib.hid (HP.out.below hB1)
 clear hB1
 go_wp2_with fail
 refine (chars_is_of f true HI.out _).mono ?_; rintro e w2 ⟨rfl, rfl⟩
 go_wp2_with fail
 refine (chars_is_of t true HJ.out _).mono ?_; rintro e w2 ⟨rfl, rfl⟩
 go_wp2_with fail
 refine Calls.mono (find_pairs A n cap l f _ (fun w' => HX.out w') HP1.out) ?_; rintro e w2 ⟨i, ⟨hL, rfl⟩, hB2⟩
 have HL := Lib.hid hL
 have HB2 := Lib.hid (HB1.out.trans (hB2.mono HB1.out.size))
 have HP2 := Lib.hid (HP1.out.below hB2)
 have HBX : Hid (∀ W, Below w2.heap.size w2 W → Below w2.heap.size w2 W) := Lib.hid fun _ h => h
 have hin : i ≤ n := by have := hL.le; have := HN.out; omega
 clear hL hB2 HP1 HB1 HC HX HI HJ
 generalize hd : decide (i < l.length ∧ prF l i = f) = d
 have HD := Lib.hid hd
 clear hd
 rcases HAA.out with hva | ⟨b, off, rfl⟩
 ·injection hva with e1 e2 e3
  subst e1; subst e2; subst e3
  have hi0 : i = 0 := by omega
  subst hi0
  have hl0 : l = [] := List.eq_nil_of_length_eq_zero (by have := HN.out; omega)
  have hdf : d = false := by rw [← HD.out, hl0]; simp
  subst hdf
  subst hl0
  go_wp2_with fail
  refine (p_cloneO (none) 0 0 ([].take 0) w2 (by rw [List.length_take]; have := HN.out; simp) (by omega) (HP2.out.take _) (fun _ => .inl rfl)).mono ?_; rintro e w3 ⟨A3, c3, rfl, hB3, hO3⟩
  have HO3 := Lib.hid hO3
  have HB3 := Lib.hid hB3
  clear hO3 hB3
  by_cases hft : f = t
  ·subst hft
   have d1 : (f != f) = false := by simp
   go_wp2_with (((with_reducible refine at_appPP ?_); refine wpList_append_own_none rfl _ _ 41 rfl w2.heap.size 99 ii 2 Tryz.underlying41 HII.out _ _ _ rfl HO3.out rfl ?_))
   have hcs : csetI [] f f 0 = [].take 0 ++ [] ++ [].drop 0 := by
    unfold csetI restI
    rw [if_pos rfl, if_neg (by simp)]
   have hck : pairCells ([].take 0) = pairCells (cset [] f f) := by
    rw [← HCS.out 0 HL.out, hcs, pc_app, pc_app]
    simp [pairCells]
   have HOF := HO3.out
   rw [hck] at HOF
   obtain ⟨AF, cF, hvF⟩ := own_sliceO HOF
   injection hvF with e1 e2 e3
   subst e1; subst e3
   have hnF : 0 = (cset [] f f).length := by
    have := HOF.1
    rw [pairCells_len] at this
    omega
   have hPF := PrI.own hnF HOF
   have HPF := Lib.hid (hPF.mono HB2.out.size)
   have HBF := Lib.hid (HB2.out.trans (HB3.out.mono HB2.out.size))
   clear HOF hPF hck hcs hnF
   go_wp2_with fail
   exact bodyPost_ret (v := .tuple #[.slice A3 0 c3, .int .i64 0]) (by simp [results, Tryz.results162, go_sem]) rfl ⟨_, _, _, rfl, HBF.out, HPF.out⟩
  ·have d1 : (f != t) = true := by simp [hft]
   have HFT := Lib.hid hft
   go_wp2_with (first | ((with_reducible refine at_appPP ?_); refine wpList_append_one rfl _ _ 41 99 rfl Tryz.underlying41 _ 2 16 infoPair rfl (by decide) w2.heap.size _ _ _ rfl _ HO3.out #[.int .i64 f, .int .i64 t] rfl (by simp [Value.oneCell']) rfl rfl (by omega) (by omega) HB3.out.size ?_; intro v4 w4 ho4 hB4 hg4; have HO4 := Lib.hid ho4; have HB4 := Lib.hid (HB3.out.trans hB4); clear ho4 hB4 hg4) | ((with_reducible refine at_appPP ?_); refine wpList_append_own_none rfl _ _ 41 rfl w2.heap.size 99 ii 2 Tryz.underlying41 HII.out _ _ _ rfl HO4.out rfl ?_))
   have hcs : csetI [] f t 0 = [].take 0 ++ [(f, t)] ++ [].drop 0 := by
    unfold csetI restI
    rw [if_neg HFT.out, if_neg (by simp)]
   have hck : pairCells ([].take 0) ++ #[Value.int .i64 f, .int .i64 t].toList = pairCells (cset [] f t) := by
    rw [← HCS.out 0 HL.out, hcs, pc_app, pc_app]
    simp [pairCells]
   have HOF := HO4.out
   rw [hck] at HOF
   obtain ⟨AF, cF, hvF⟩ := own_sliceO HOF
   subst hvF
   have hnF : 0 + 1 = (cset [] f t).length := by
    have := HOF.1
    rw [pairCells_len] at this
    omega
   have hPF := PrI.own hnF HOF
   have HPF := Lib.hid (hPF.mono HB2.out.size)
   have HBF := Lib.hid (HB2.out.trans (HB4.out.mono HB2.out.size))
   clear HOF hPF hck hcs hnF
   go_wp2_with fail
   exact bodyPost_ret (v := .tuple #[_, .int .i64 0]) (by simp [results, Tryz.results162, go_sem]) rfl ⟨_, _, _, rfl, HBF.out, HPF.out⟩
 ·have hr : i + 1 ≤ cap ∨ d = false := by
   cases d
   ·exact .inr rfl
   ·have := of_decide_eq_true HD.out; have := HN.out; exact .inl (by omega)
  cases d
  ·clear hr
   go_wp2_with fail
   refine (p_cloneO (some ⟨b, off, none⟩) i cap (l.take i) w2 (by rw [List.length_take]; have := HN.out; omega) (by omega) (HP2.out.take _) (fun _ => .inr ⟨_, rfl⟩)).mono ?_; rintro e w3 ⟨A3, c3, rfl, hB3, hO3⟩
   have HO3 := Lib.hid hO3
   have HB3 := Lib.hid hB3
   clear hO3 hB3
   by_cases hft : f = t
   ·subst hft
    have d1 : (f != f) = false := by simp
    rcases drop_at b off cap l i (by have := HN.out; omega) with ⟨hci, HADC⟩ | ⟨hci, HADC⟩
    all_goals
     go_wp2_with (((with_reducible refine at_appPP ?_); refine wpList_append_own _ rfl _ _ 41 rfl w2.heap.size 99 ii _ 2 16 Tryz.underlying41 HII.out HZ0.out HZ1.out HZ2.out rfl (by decide) _ _ _ rfl HO3.out _ _ _ (pairCells (l.drop i)) rfl (by rw [pairCells_len, List.length_drop, ← HN.out]) (HADC.out _ (HP2.out.below (HBX.out w3 HB3.out))) (pc_src _) (by unfold maxLen; omega) (by omega) HB3.out.size ?_; intro v5 w5 ho5 hg5 _; have HO5 := Lib.hid ho5; have HB5 := Lib.hid (HB3.out.trans (own_grown HO3.out hg5 HB3.out.size)); clear ho5 hg5))
     have hcs : csetI l f f i = l.take i ++ [] ++ l.drop i := by
      unfold csetI restI
      rw [if_pos rfl, if_neg (of_decide_eq_false HD.out)]
     have hck : pairCells (l.take i) ++ pairCells (l.drop i) = pairCells (cset l f f) := by
      rw [← HCS.out i HL.out, hcs, pc_app, pc_app]
      simp [pairCells]
     have HOF := HO5.out
     rw [hck] at HOF
     obtain ⟨AF, cF, hvF⟩ := own_sliceO HOF
     subst hvF
     have hnF : i + (n - i) = (cset l f f).length := by
      have := HOF.1
      rw [pairCells_len] at this
      omega
     have hPF := PrI.own hnF HOF
     have HPF := Lib.hid (hPF.mono HB2.out.size)
     have HBF := Lib.hid (HB2.out.trans (HB5.out.mono HB2.out.size))
     clear HOF hPF hck hcs hnF
     go_wp2_with fail
     exact bodyPost_ret (v := .tuple #[_, .int .i64 0]) (by simp [results, Tryz.results162, go_sem]) rfl ⟨_, _, _, rfl, HBF.out, HPF.out⟩
   ·have d1 : (f != t) = true := by simp [hft]
    have HFT := Lib.hid hft
    rcases drop_at b off cap l i (by have := HN.out; omega) with ⟨hci, HADC⟩ | ⟨hci, HADC⟩
    all_goals
     go_wp2_with (first | ((with_reducible refine at_appPP ?_); refine wpList_append_one rfl _ _ 41 99 rfl Tryz.underlying41 _ 2 16 infoPair rfl (by decide) w2.heap.size _ _ _ rfl _ HO3.out #[.int .i64 f, .int .i64 t] rfl (by simp [Value.oneCell']) rfl rfl (by omega) (by omega) HB3.out.size ?_; intro v4 w4 ho4 hB4 hg4; have HO4 := Lib.hid ho4; have HB4 := Lib.hid (HB3.out.trans hB4); clear ho4 hB4 hg4) | ((with_reducible refine at_appPP ?_); refine wpList_append_own _ rfl _ _ 41 rfl w2.heap.size 99 ii _ 2 16 Tryz.underlying41 HII.out HZ0.out HZ1.out HZ2.out rfl (by decide) _ _ _ rfl HO4.out _ _ _ (pairCells (l.drop i)) rfl (by rw [pairCells_len, List.length_drop, ← HN.out]) (HADC.out _ (HP2.out.below (HBX.out w4 HB4.out))) (pc_src _) (by unfold maxLen; omega) (by omega) HB4.out.size ?_; intro v5 w5 ho5 hg5 _; have HO5 := Lib.hid ho5; have HB5 := Lib.hid (HB4.out.trans (own_grown HO4.out hg5 HB4.out.size)); clear ho5 hg5))
     have hcs : csetI l f t i = l.take i ++ [(f, t)] ++ l.drop i := by
      unfold csetI restI
      rw [if_neg HFT.out, if_neg (of_decide_eq_false HD.out)]
     have hck : pairCells (l.take i) ++ #[Value.int .i64 f, .int .i64 t].toList ++ pairCells (l.drop i) = pairCells (cset l f t) := by
      rw [← HCS.out i HL.out, hcs, pc_app, pc_app]
      simp [pairCells]
     have HOF := HO5.out
     rw [hck] at HOF
     obtain ⟨AF, cF, hvF⟩ := own_sliceO HOF
     subst hvF
     have hnF : i + 1 + (n - i) = (cset l f t).length := by
      have := HOF.1
      rw [pairCells_len] at this
      omega
     have hPF := PrI.own hnF HOF
     have HPF := Lib.hid (hPF.mono HB2.out.size)
     have HBF := Lib.hid (HB2.out.trans (HB5.out.mono HB2.out.size))
     clear HOF hPF hck hcs hnF
     go_wp2_with fail
     exact bodyPost_ret (v := .tuple #[_, .int .i64 0]) (by simp [results, Tryz.results162, go_sem]) rfl ⟨_, _, _, rfl, HBF.out, HPF.out⟩
  ·have hr1 : i + 1 ≤ n := by have := of_decide_eq_true HD.out; have := HN.out; omega
   clear hr
   go_wp2_with fail
   refine (p_cloneO (some ⟨b, off, none⟩) i cap (l.take i) w2 (by rw [List.length_take]; have := HN.out; omega) (by omega) (HP2.out.take _) (fun _ => .inr ⟨_, rfl⟩)).mono ?_; rintro e w3 ⟨A3, c3, rfl, hB3, hO3⟩
   have HO3 := Lib.hid hO3
   have HB3 := Lib.hid hB3
   clear hO3 hB3
   by_cases hft : f = t
   ·subst hft
    have d1 : (f != f) = false := by simp
    rcases drop_at b off cap l (i + 1) (by have := HN.out; omega) with ⟨hci, HADC⟩ | ⟨hci, HADC⟩
    all_goals
     go_wp2_with (((with_reducible refine at_appPP ?_); refine wpList_append_own _ rfl _ _ 41 rfl w2.heap.size 99 ii _ 2 16 Tryz.underlying41 HII.out HZ0.out HZ1.out HZ2.out rfl (by decide) _ _ _ rfl HO3.out _ _ _ (pairCells (l.drop (i + 1))) rfl (by rw [pairCells_len, List.length_drop, ← HN.out]) (HADC.out _ (HP2.out.below (HBX.out w3 HB3.out))) (pc_src _) (by unfold maxLen; omega) (by omega) HB3.out.size ?_; intro v5 w5 ho5 hg5 _; have HO5 := Lib.hid ho5; have HB5 := Lib.hid (HB3.out.trans (own_grown HO3.out hg5 HB3.out.size)); clear ho5 hg5))
     have hcs : csetI l f f i = l.take i ++ [] ++ l.drop (i + 1) := by
      unfold csetI restI
      rw [if_pos rfl, if_pos (of_decide_eq_true HD.out)]
     have hck : pairCells (l.take i) ++ pairCells (l.drop (i + 1)) = pairCells (cset l f f) := by
      rw [← HCS.out i HL.out, hcs, pc_app, pc_app]
      simp [pairCells]
     have HOF := HO5.out
     rw [hck] at HOF
     obtain ⟨AF, cF, hvF⟩ := own_sliceO HOF
     subst hvF
     have hnF : i + (n - (i + 1)) = (cset l f f).length := by
      have := HOF.1
      rw [pairCells_len] at this
      omega
     have hPF := PrI.own hnF HOF
     have HPF := Lib.hid (hPF.mono HB2.out.size)
     have HBF := Lib.hid (HB2.out.trans (HB5.out.mono HB2.out.size))
     clear HOF hPF hck hcs hnF
     go_wp2_with fail
     exact bodyPost_ret (v := .tuple #[_, .int .i64 0]) (by simp [results, Tryz.results162, go_sem]) rfl ⟨_, _, _, rfl, HBF.out, HPF.out⟩
   ·have d1 : (f != t) = true := by simp [hft]
    have HFT := Lib.hid hft
    rcases drop_at b off cap l (i + 1) (by have := HN.out; omega) with ⟨hci, HADC⟩ | ⟨hci, HADC⟩
    all_goals
     go_wp2_with (first | ((with_reducible refine at_appPP ?_); refine wpList_append_one rfl _ _ 41 99 rfl Tryz.underlying41 _ 2 16 infoPair rfl (by decide) w2.heap.size _ _ _ rfl _ HO3.out #[.int .i64 f, .int .i64 t] rfl (by simp [Value.oneCell']) rfl rfl (by omega) (by omega) HB3.out.size ?_; intro v4 w4 ho4 hB4 hg4; have HO4 := Lib.hid ho4; have HB4 := Lib.hid (HB3.out.trans hB4); clear ho4 hB4 hg4) | ((with_reducible refine at_appPP ?_); refine wpList_append_own _ rfl _ _ 41 rfl w2.heap.size 99 ii _ 2 16 Tryz.underlying41 HII.out HZ0.out HZ1.out HZ2.out rfl (by decide) _ _ _ rfl HO4.out _ _ _ (pairCells (l.drop (i + 1))) rfl (by rw [pairCells_len, List.length_drop, ← HN.out]) (HADC.out _ (HP2.out.below (HBX.out w4 HB4.out))) (pc_src _) (by unfold maxLen; omega) (by omega) HB4.out.size ?_; intro v5 w5 ho5 hg5 _; have HO5 := Lib.hid ho5; have HB5 := Lib.hid (HB4.out.trans (own_grown HO4.out hg5 HB4.out.size)); clear ho5 hg5))
     have hcs : csetI l f t i = l.take i ++ [(f, t)] ++ l.drop (i + 1) := by
      unfold csetI restI
      rw [if_neg HFT.out, if_pos (of_decide_eq_true HD.out)]
     have hck : pairCells (l.take i) ++ #[Value.int .i64 f, .int .i64 t].toList ++ pairCells (l.drop (i + 1)) = pairCells (cset l f t) := by
      rw [← HCS.out i HL.out, hcs, pc_app, pc_app]
      simp [pairCells]
     have HOF := HO5.out
     rw [hck] at HOF
     obtain ⟨AF, cF, hvF⟩ := own_sliceO HOF
     subst hvF
     have hnF : i + 1 + (n - (i + 1)) = (cset l f t).length := by
      have := HOF.1
      rw [pairCells_len] at this
      omega
     have hPF := PrI.own hnF HOF
     have HPF := Lib.hid (hPF.mono HB2.out.size)
     have HBF := Lib.hid (HB2.out.trans (HB5.out.mono HB2.out.size))
     clear HOF hPF hck hcs hnF
     go_wp2_with fail
     exact bodyPost_ret (v := .tuple #[_, .int .i64 0]) (by simp [results, Tryz.results162, go_sem]) rfl ⟨_, _, _, rfl, HBF.out, HPF.out⟩
end Go.Proofs.YtfkhcpeahdkafaaGreat
