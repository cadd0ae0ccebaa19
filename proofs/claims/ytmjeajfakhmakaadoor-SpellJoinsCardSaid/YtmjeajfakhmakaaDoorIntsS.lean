/- Plain laws: integers written in a base are read as themselves. -/
import Derived.Test.YtmjeajfakhmakaaDoorSpellP
namespace Hb
/-- An integer's digits. -/
def digsG : Nat → Nat → Nat → List UInt8
  | 0, _, _ => []
  | f + 1, b, n => if n < b then [hexd n] else digsG f b (n / b) ++ [hexd (n % b)]
def digsN (b n : Nat) : List UInt8 := digsG (n + 1) b n
theorem digsG_fuel (b : Nat) (hb : 2 ≤ b) : ∀ f g n, n < f → n < g → digsG f b n = digsG g b n
  | 0, _, _, h, _ => absurd h (by omega)
  | _ + 1, 0, _, _, h => absurd h (by omega)
  | f + 1, g + 1, n, h1, h2 => by
    unfold digsG
    by_cases h : n < b
    · rw [if_pos h, if_pos h]
    · have : n / b < n := Nat.div_lt_self (by omega) (by omega)
      rw [if_neg h, if_neg h, digsG_fuel b hb f g (n / b) (by omega) (by omega)]
theorem digsN_lt (b n : Nat) (h : n < b) : digsN b n = [hexd n] := by unfold digsN digsG; rw [if_pos h]
theorem digsN_ge (b n : Nat) (hb : 2 ≤ b) (h : ¬n < b) : digsN b n = digsN b (n / b) ++ [hexd (n % b)] := by
  have : n / b < n := Nat.div_lt_self (by omega) (by omega)
  unfold digsN
  rw [digsG, if_neg h, digsG_fuel b hb n (n / b + 1) (n / b) (by omega) (by omega)]
def okBase (b : Nat) : Prop := b = 2 ∨ b = 8 ∨ b = 10 ∨ b = 16
theorem hexd_dig (b : Nat) (hb : okBase b) (d : Nat) (hd : d < b) : digV ((hexd d).toNat : Int) (b : Int) = d ∧ isDig (b : Int) ((hexd d).toNat : Int) = true := by
  rcases hb with rfl | rfl | rfl | rfl
  · exact (show ∀ d, d < 2 → digV ((hexd d).toNat : Int) ((2 : Nat) : Int) = d ∧ isDig ((2 : Nat) : Int) ((hexd d).toNat : Int) = true by decide +kernel) d hd
  · exact (show ∀ d, d < 8 → digV ((hexd d).toNat : Int) ((8 : Nat) : Int) = d ∧ isDig ((8 : Nat) : Int) ((hexd d).toNat : Int) = true by decide +kernel) d hd
  · exact (show ∀ d, d < 10 → digV ((hexd d).toNat : Int) ((10 : Nat) : Int) = d ∧ isDig ((10 : Nat) : Int) ((hexd d).toNat : Int) = true by decide +kernel) d hd
  · exact (show ∀ d, d < 16 → digV ((hexd d).toNat : Int) ((16 : Nat) : Int) = d ∧ isDig ((16 : Nat) : Int) ((hexd d).toNat : Int) = true by decide +kernel) d hd
theorem base_lo (b : Nat) (hb : okBase b) : 2 ≤ b ∧ b ≤ 16 := by rcases hb with rfl | rfl | rfl | rfl <;> decide
theorem digsG_ok (b : Nat) (hb : okBase b) : ∀ f n, n < f → natOf (b : Int) (digsG f b n) = n ∧ every (isDig (b : Int)) (digsG f b n) = true ∧ 0 < (digsG f b n).length
  | 0, _, h => absurd h (by omega)
  | f + 1, n, h => by
    have hb2 := base_lo b hb
    unfold digsG
    by_cases hn : n < b
    · have := hexd_dig b hb n hn
      rw [if_pos hn]
      refine ⟨?_, by unfold every; rw [List.all_cons, this.2]; rfl, by simp⟩
      unfold natOf
      simp only [List.foldl_cons, List.foldl_nil, this.1]
      simp
    · have hlt : n / b < n := Nat.div_lt_self (by omega) (by omega)
      obtain ⟨i1, i2, i3⟩ := digsG_ok b hb f (n / b) (by omega)
      have := hexd_dig b hb (n % b) (Nat.mod_lt _ (by omega))
      rw [if_neg hn]
      refine ⟨?_, ?_, by simp⟩
      · rw [natOf_snoc, i1, this.1]
        simp only [Int.toNat_natCast]
        have := Nat.div_add_mod n b
        rw [Nat.mul_comm] at this; exact this
      · unfold every at *
        rw [List.all_append, i2, List.all_cons, this.2]; rfl
theorem digsG_len (b : Nat) (hb : 2 ≤ b) : ∀ k f n, n < 2 ^ (k + 1) → n < f → (digsG f b n).length ≤ k + 1
  | _, 0, _, _, h => absurd h (by omega)
  | 0, f + 1, n, h, _ => by
    unfold digsG; rw [if_pos (by omega)]; simp
  | k + 1, f + 1, n, h, hf => by
    unfold digsG
    by_cases hn : n < b
    · rw [if_pos hn]; simp
    · have hlt : n / b < n := Nat.div_lt_self (by omega) (by omega)
      have h2 : n / b < 2 ^ (k + 1) := by
        have h3 : n / b ≤ n / 2 := Nat.div_le_div_left hb (by decide)
        have h4 : 2 ^ (k + 1 + 1) = 2 ^ (k + 1) * 2 := by rw [Nat.pow_succ]
        omega
      have := digsG_len b hb k f (n / b) h2 (by omega)
      rw [if_neg hn, List.length_append, List.length_singleton]; omega
theorem digsN_len (b n : Nat) (hb : 2 ≤ b) (h : n ≤ 9223372036854775807) : (digsN b n).length ≤ 63 := digsG_len b hb 62 _ n (by omega) (by omega)
theorem dec_head (s : List UInt8) (h : every (isDig 10) s = true) (k : Nat) (hk : k < s.length) : 48 ≤ rawAt s k ∧ rawAt s k ≤ 57 := by
  have := every_at _ _ h k hk
  have h0 := rawAt_in _ _ hk
  have h1 := bAt_lo s k
  have h2 := bAt_hi s k
  unfold isDig at this
  rw [digOk_dgt _ _ (by decide) (by decide)] at this
  have h3 : dgt (rawAt s k) < 10 := by simpa using this
  unfold dgt at h3
  grind
theorem cls_dec (c : Int) (h : 48 ≤ c ∧ c ≤ 57) : cls c = 4 := by
  unfold cls
  rw [if_neg (by omega), if_neg (by omega), if_neg (by omega), if_neg (by omega), if_pos h]
/-- A token that is an integer, at the head of its text. -/
def intTok (n e : Int) : LexR := ⟨4, [], n, 0, e, 0⟩
theorem tok_num (s : List UInt8) (h : cls (rawAt s 0) = 4) : tokR s s 0 = numR s s 0 := by
  unfold tokR
  rw [if_neg (fun x => by rw [x.1] at h; exact absurd h (by decide +kernel)), if_neg (by omega), if_pos h]
theorem int_ok (base : Int) (t : List UInt8) (n : Nat) (e : Int) (h : natOf base t = n) (hn : n ≤ 9223372036854775807) : intR base t ((0 : Nat) : Int) e = intTok n e := by
  unfold intR intTok
  rw [h, if_pos (by omega), if_neg (by omega)]; rfl
theorem num_dec (s : List UInt8) (n : Nat) (hs : s = digsN 10 n) (hn : n ≤ 9223372036854775807) : numR s s 0 = intTok n s.length ∧ cls (rawAt s 0) = 4 ∧ s.length ≤ 63 := by
  obtain ⟨h1, h2, h3⟩ := digsG_ok 10 (.inr (.inr (.inl rfl))) (n + 1) n (by omega)
  have hl := digsN_len 10 n (by decide) hn
  change natOf 10 (digsN 10 n) = n at h1
  change every (isDig 10) (digsN 10 n) = true at h2
  change 0 < (digsN 10 n).length at h3
  rw [← hs] at h1 h2 h3 hl
  have hd := dec_head s h2 0 h3
  refine ⟨?_, cls_dec _ hd, hl⟩
  have h4 : rawAt s (0 + 1) = -1 ∨ (48 ≤ rawAt s (0 + 1) ∧ rawAt s (0 + 1) ≤ 57) := by
    by_cases hx : 1 < s.length
    · exact .inr (dec_head s h2 1 hx)
    · exact .inl (rawAt_out _ _ (by omega))
  have hb : numBase s 0 = 0 := by unfold numBase; grind
  unfold numR
  rw [if_neg (by omega), if_neg (by rw [hb]; exact fun x => absurd x.1 (by decide))]
  simp only [List.drop_zero, (span_all _ _).2 h2, List.take_length]
  rw [int_ok 10 s n _ h1 hn]; unfold intTok; simp
theorem num_pre (b : Nat) (hb : okBase b) (x : UInt8) (hx : (b = 16 ∧ x = 120) ∨ (b = 8 ∧ x = 111) ∨ (b = 2 ∧ x = 98)) (s : List UInt8) (n : Nat) (hs : s = 48 :: x :: digsN b n) (hn : n ≤ 9223372036854775807) : numR s s 0 = intTok n s.length ∧ cls (rawAt s 0) = 4 ∧ s.length ≤ 65 := by
  obtain ⟨h1, h2, h3⟩ := digsG_ok b hb (n + 1) n (by omega)
  have hl := digsN_len b n (base_lo b hb).1 hn
  change natOf b (digsN b n) = n at h1
  change every (isDig b) (digsN b n) = true at h2
  change 0 < (digsN b n).length at h3
  have r0 : rawAt s 0 = 48 := by rw [hs, rawAt_cons]; rfl
  have r1 : rawAt s (0 + 1) = (x.toNat : Int) := by rw [hs, Nat.zero_add, rawAt_succ, rawAt_cons]
  have hB : numBase s 0 = (b : Int) := by
    unfold numBase
    rw [r0, r1, if_pos rfl]
    rcases hx with ⟨rfl, rfl⟩ | ⟨rfl, rfl⟩ | ⟨rfl, rfl⟩ <;> rfl
  have hq : ¬(x.toNat : Int) = 39 := by rcases hx with ⟨rfl, rfl⟩ | ⟨rfl, rfl⟩ | ⟨rfl, rfl⟩ <;> decide
  have hd : s.drop (0 + 2) = digsN b n := by rw [hs]; rfl
  have hsp := (span_all _ _).2 h2
  refine ⟨?_, by rw [r0]; decide +kernel, by rw [hs]; simp; omega⟩
  have hpos : (0 : Int) < (b : Int) := by have := (base_lo b hb).1; omega
  unfold numR
  rw [r0, r1, hB, hd, if_neg (fun y => hq y.2), hsp, if_pos ⟨hpos, h3⟩, List.take_length, int_ok _ _ n _ h1 hn]
  unfold intTok
  congr 1
  rw [hs]; simp; omega
theorem btw_len5 (q : Int) (b : UInt8) : (btw q b).length ≤ 6 := by
  unfold btw
  have : (esc (b.toNat : Int)).length ≤ 5 := by
    unfold esc; repeat' split
    all_goals simp
  rw [List.length_append]
  split <;> simp <;> omega
theorem num_chr (c : UInt8) (s : List UInt8) (hs : s = 48 :: 39 :: esc (c.toNat : Int)) : numR s s 0 = intTok (c.toNat : Int) s.length ∧ cls (rawAt s 0) = 4 ∧ s.length ≤ 8 := by
  have r0 : rawAt s 0 = 48 := by rw [hs, rawAt_cons]; rfl
  have r1 : rawAt s (0 + 1) = 39 := by rw [hs, Nat.zero_add, rawAt_succ, rawAt_cons]; rfl
  have hd : s.drop (0 + 2) = esc (c.toNat : Int) := by rw [hs]; rfl
  have R := (reads_btw 39 c (.inl rfl)).rd []
  rw [btw_39, List.append_nil] at R
  have hl := btw_len5 39 c
  rw [btw_39] at hl
  refine ⟨?_, by rw [r0]; decide +kernel, by rw [hs]; simp; omega⟩
  unfold numR
  rw [if_pos ⟨r0, r1⟩, hd, R]
  unfold intTok
  simp only []
  congr 1
  rw [hs]; simp; omega
end Hb
