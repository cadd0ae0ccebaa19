/- Plain laws: a text that is written with escapes between quotes is read as itself. -/
import Derived.Test.YtmjeajfakhmakaaDoorAllS
namespace Hb

/-- How a byte is written between quotes. -/
def btw (q : Int) (b : UInt8) : List UInt8 := (if (b.toNat : Int) = 34 ∧ q = 34 then [92] else []) ++ esc (b.toNat : Int)
def btws (q : Int) (s : List UInt8) : List UInt8 := s.flatMap (btw q)
theorem btws_cons (q : Int) (b : UInt8) (s : List UInt8) : btws q (b :: s) = btw q b ++ btws q s := by simp [btws]
theorem btws_snoc (q : Int) (b : UInt8) (s : List UInt8) : btws q (s ++ [b]) = btws q s ++ btw q b := by simp [btws]

theorem raw0 (b : UInt8) (l : List UInt8) : rawAt (b :: l) 0 = (b.toNat : Int) := rawAt_cons b l
theorem raw1 (a b : UInt8) (l : List UInt8) : rawAt (a :: b :: l) 1 = (b.toNat : Int) := by rw [rawAt_succ, rawAt_cons]
theorem raw3 (a b c d : UInt8) (l : List UInt8) : rawAt (a :: b :: c :: d :: l) 3 = (d.toNat : Int) := by rw [rawAt_succ, rawAt_succ, rawAt_succ, rawAt_cons]
theorem raw4 (a b c d e : UInt8) (l : List UInt8) : rawAt (a :: b :: c :: d :: e :: l) 4 = (e.toNat : Int) := by rw [rawAt_succ, rawAt_succ, rawAt_succ, rawAt_succ, rawAt_cons]
/-- What a written byte is read as, whatever stands behind it. -/
structure Reads (q : Int) (e : List UInt8) (c : Int) : Prop where
  rd : ∀ r, quotedS (e ++ r) q = some (c, e.length)
  n : ∀ r, ¬rawAt (e ++ r) 0 = q
  k : ∀ r, ¬(rawAt (e ++ r) 0 = 92 ∧ rawAt (e ++ r) 1 = 10)
theorem reads_plain (q : Int) (b : UInt8) (h0 : 32 ≤ (b.toNat : Int)) (h1 : ¬(b.toNat : Int) = q) (h2 : ¬(b.toNat : Int) = 92) : Reads q [b] (b.toNat : Int) where
  rd := fun r => by
    unfold quotedS
    simp only [List.singleton_append, raw0]
    rw [if_neg (by omega), if_neg h1, if_pos h2]; rfl
  n := fun r => by rw [List.singleton_append, raw0]; exact h1
  k := fun r => by rw [List.singleton_append, raw0]; exact fun h => h2 h.1
theorem reads_une (q : Int) (x : UInt8) (c : Int) (hq : q = 39 ∨ q = 34) (h : une (x.toNat : Int) = some c) (hx : ¬(x.toNat : Int) = 10) : Reads q [92, x] c where
  rd := fun r => by
    unfold quotedS
    simp only [List.cons_append, List.nil_append, raw0, raw1]
    rw [if_neg (by decide), if_neg (by show ¬((92 : UInt8).toNat : Int) = q; simp; omega), if_neg (by decide), if_pos (by unfold uneOk; rw [h]; rfl)]
    unfold uneV; rw [h]; rfl
  n := fun r => by simp only [List.cons_append, raw0]; simp; omega
  k := fun r => by simp only [List.cons_append, List.nil_append, raw0, raw1]; exact fun h => hx h.2
theorem hexd_ok : ∀ n : Nat, n < 256 → isDig 16 ((hexd (n / 16)).toNat : Int) = true ∧ isDig 16 ((hexd (n % 16)).toNat : Int) = true ∧ natOf 16 [hexd (n / 16), hexd (n % 16)] = n := by decide +kernel
theorem hexd_ok1 : ∀ n : Nat, n < 16 → isDig 16 ((hexd n).toNat : Int) = true ∧ natOf 16 [hexd n] = n := by decide +kernel
theorem no92 : isDig 16 ((92 : UInt8).toNat : Int) = false := by decide +kernel
theorem reads_hex2 (q : Int) (x y : UInt8) (c : Nat) (hq : q = 39 ∨ q = 34) (h1 : isDig 16 (x.toNat : Int) = true) (h2 : isDig 16 (y.toNat : Int) = true) (h3 : natOf 16 [x, y] = c) (hc : c ≤ 255) : Reads q [92, 120, x, y, 92] c where
  rd := fun r => by
    have hb : escBase ([92, 120, x, y, 92] ++ r) = 16 := by unfold escBase; simp only [List.cons_append, raw1]; rfl
    have hf : escFrom ([92, 120, x, y, 92] ++ r) = 2 := by unfold escFrom; simp only [List.cons_append, raw1]; rfl
    have hl : escLen ([92, 120, x, y, 92] ++ r) = 2 := by unfold escLen; rw [hb, hf]; simp only [List.cons_append, List.nil_append, List.drop_succ_cons, List.drop_zero, span, h1, h2, no92]; rfl
    have hn : escNum ([92, 120, x, y, 92] ++ r) = c := by unfold escNum; rw [hb, hf, hl]; simp only [List.cons_append, List.nil_append, List.drop_succ_cons, List.drop_zero, List.take_succ_cons, List.take_zero]; exact h3
    unfold quotedS
    rw [hl, hf, hn]
    simp only [List.cons_append, List.nil_append, raw0, raw1]
    rw [if_neg (by decide), if_neg (by show ¬((92 : UInt8).toNat : Int) = q; simp; omega), if_neg (by decide), if_neg (by decide +kernel), if_pos ⟨by decide, hc, raw4 _ _ _ _ _ _⟩]; rfl
  n := fun r => by simp only [List.cons_append, raw0]; simp; omega
  k := fun r => by simp only [List.cons_append, List.nil_append, raw0, raw1]; decide
theorem reads_hex1 (q : Int) (x : UInt8) (c : Nat) (hq : q = 39 ∨ q = 34) (h1 : isDig 16 (x.toNat : Int) = true) (h3 : natOf 16 [x] = c) (hc : c ≤ 255) : Reads q [92, 120, x, 92] c where
  rd := fun r => by
    have hb : escBase ([92, 120, x, 92] ++ r) = 16 := by unfold escBase; simp only [List.cons_append, raw1]; rfl
    have hf : escFrom ([92, 120, x, 92] ++ r) = 2 := by unfold escFrom; simp only [List.cons_append, raw1]; rfl
    have hl : escLen ([92, 120, x, 92] ++ r) = 1 := by unfold escLen; rw [hb, hf]; simp only [List.cons_append, List.nil_append, List.drop_succ_cons, List.drop_zero, span, h1, no92]; rfl
    have hn : escNum ([92, 120, x, 92] ++ r) = c := by unfold escNum; rw [hb, hf, hl]; simp only [List.cons_append, List.nil_append, List.drop_succ_cons, List.drop_zero, List.take_succ_cons, List.take_zero]; exact h3
    unfold quotedS
    rw [hl, hf, hn]
    simp only [List.cons_append, List.nil_append, raw0, raw1]
    rw [if_neg (by decide), if_neg (by show ¬((92 : UInt8).toNat : Int) = q; simp; omega), if_neg (by decide), if_neg (by decide +kernel), if_pos ⟨by decide, hc, raw3 _ _ _ _ _⟩]; rfl
  n := fun r => by simp only [List.cons_append, raw0]; simp; omega
  k := fun r => by simp only [List.cons_append, List.nil_append, raw0, raw1]; decide
theorem letters_une : ∀ n : Nat, n < 256 → 7 ≤ n ∧ n ≤ 13 → une ((letters.getD (((n : Int) - 7).toNat) 0).toNat : Int) = some (n : Int) ∧ ¬((letters.getD (((n : Int) - 7).toNat) 0).toNat : Int) = 10 := by decide +kernel
theorem byte_back (b : UInt8) : ((b.toNat : Int).toNat).toUInt8 = b := by simp
theorem reads_btw (q : Int) (b : UInt8) (hq : q = 39 ∨ q = 34) : Reads q (btw q b) (b.toNat : Int) := by
  have hb := b.toNat_lt
  have hbb := byte_back b
  unfold btw esc
  rw [if_neg (show ¬¬(0 ≤ (b.toNat : Int) ∧ (b.toNat : Int) ≤ 255) by omega)]
  by_cases h1 : 7 ≤ (b.toNat : Int) ∧ (b.toNat : Int) ≤ 13
  · rw [if_neg (by omega), if_pos h1, List.nil_append]
    have := letters_une b.toNat hb (by omega)
    exact reads_une _ _ _ hq this.1 this.2
  rw [if_neg h1]
  by_cases h2 : (b.toNat : Int) = 39 ∨ (b.toNat : Int) = 92
  · rw [if_neg (by omega), if_pos h2, List.nil_append, hbb]
    exact reads_une _ _ _ hq (by unfold une; rw [if_pos (by omega)]) (by omega)
  rw [if_neg h2]
  by_cases h3 : 32 ≤ (b.toNat : Int) ∧ (b.toNat : Int) ≤ 126
  · rw [if_pos h3, hbb]
    by_cases h4 : (b.toNat : Int) = 34 ∧ q = 34
    · rw [if_pos h4]
      exact reads_une _ _ _ hq (by unfold une; rw [if_pos (by omega)]) (by omega)
    · rw [if_neg h4, List.nil_append]
      exact reads_plain _ _ h3.1 (by omega) (by omega)
  rw [if_neg h3, if_neg (by omega), List.nil_append]
  simp only [Int.toNat_natCast]
  by_cases h4 : 16 ≤ (b.toNat : Int)
  · rw [if_pos h4]
    have := hexd_ok b.toNat hb
    exact reads_hex2 _ _ _ _ hq this.1 this.2.1 this.2.2 (by omega)
  · rw [if_neg h4]
    have := hexd_ok1 b.toNat (by omega)
    rw [Nat.mod_eq_of_lt (by omega)]
    exact reads_hex1 _ _ _ hq this.1 this.2 (by omega)
theorem item_btws (q : Int) (hq : q = 39 ∨ q = 34) (qb : UInt8) (hqb : (qb.toNat : Int) = q) : ∀ s : List UInt8, item (btws q s ++ [qb]) q = some (s, (btws q s).length)
  | [] => by
    rw [item_eq _ _ (by omega)]
    show (if rawAt [qb] 0 = q ∧ ¬rawAt [qb] 1 = q then _ else _) = _
    rw [if_pos ⟨by rw [raw0, hqb], by rw [rawAt_out _ _ (by simp)]; omega⟩]; rfl
  | b :: s => by
    have R := reads_btw q b hq
    rw [btws_cons, List.append_assoc, item_eq _ _ (by omega), if_neg (fun h => R.n _ h.1), if_neg (R.k _), R.rd]
    simp only [List.drop_left, item_btws q hq qb hqb s]
    simp [Nat.add_comm]
end Hb
