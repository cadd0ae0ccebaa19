/- Spelling as plain functions, and what quoted names look like. -/
import Derived.Test.YtmjeajfakhmakaaDoorQuoS
namespace Hb
/-- A name in quotes. -/
def quoteN (s : List UInt8) : List UInt8 := 39 :: (btws 39 s ++ [39])
theorem btw_39 (b : UInt8) : btw 39 b = esc (b.toNat : Int) := by unfold btw; rw [if_neg (fun h => absurd h.2 (by decide)), List.nil_append]
theorem quoteN_inj (a b : List UInt8) (h : quoteN a = quoteN b) : a = b := by
  unfold quoteN at h
  injection h with _ h
  have h1 := item_btws 39 (.inl rfl) 39 rfl a
  have h2 := item_btws 39 (.inl rfl) 39 rfl b
  rw [h] at h1
  rw [h1] at h2
  injection h2 with h2
  injection h2 with h2 _
theorem quoteN_iff (a b : List UInt8) : quoteN a = quoteN b ↔ a = b := ⟨quoteN_inj a b, fun h => by rw [h]⟩
theorem esc_print : ∀ n : Nat, n < 256 → ∀ b ∈ esc (n : Int), 32 ≤ b.toNat ∧ b.toNat ≤ 126 := by decide +kernel
theorem esc_pos : ∀ n : Nat, n < 256 → 1 ≤ (esc (n : Int)).length := by decide +kernel
theorem btws_print (s : List UInt8) : ∀ b ∈ btws 39 s, 32 ≤ b.toNat ∧ b.toNat ≤ 126 := fun b hb => by
  unfold btws at hb
  rw [List.mem_flatMap] at hb
  obtain ⟨x, _, hx⟩ := hb
  rw [btw_39] at hx
  exact esc_print x.toNat x.toNat_lt b hx
theorem quoteN_print (s : List UInt8) : ∀ b ∈ quoteN s, 32 ≤ b.toNat ∧ b.toNat ≤ 126 := fun b hb => by
  unfold quoteN at hb
  rw [List.mem_cons, List.mem_append, List.mem_singleton] at hb
  rcases hb with h | h | h
  · subst h; decide
  · exact btws_print s b h
  · subst h; decide
theorem btws_pos : ∀ s : List UInt8, s.length ≤ (btws 39 s).length
  | [] => by simp
  | b :: s => by
    have h1 := esc_pos b.toNat b.toNat_lt
    have h2 := btws_pos s
    rw [btws_cons, btw_39, List.length_append, List.length_cons]; omega
theorem quoteN_len (s : List UInt8) : s.length + 2 ≤ (quoteN s).length := by
  have := btws_pos s
  unfold quoteN; simp; omega

/-- Is each byte selected? -/
def every (q : Int → Bool) (s : List UInt8) : Bool := s.all fun b => q (b.toNat : Int)
/-- Names that want no quotes. -/
def special (s : List UInt8) : Bool := s == [91, 93] || (s == [123, 125] || (s == [33] || s == [59]))
def plainN (s : List UInt8) : Bool :=
  decide (s.length ≤ 100) && (special s || ((every alnum s && cls (rawAt s 0) == 2) || (every isSym s && (!s.isEmpty && (!(s == [46]) && !(s.take 2 == [47, 42]))))))
def atomN (s : List UInt8) : List UInt8 := if plainN s = true then s else quoteN s
/-- Two token texts that want layout text between them. -/
def glueN (a b : List UInt8) : Bool :=
  !a.isEmpty && (!b.isEmpty && ((alnum (rawAt a (a.length - 1)) && alnum (rawAt b 0)) || ((isSym (rawAt a (a.length - 1)) && isSym (rawAt b 0)) || ((rawAt a (a.length - 1) == rawAt b 0 && cls (rawAt a (a.length - 1)) == 7) || (a == [48] && rawAt b 0 == 39)))))
def sepOf (a b : List UInt8) : List UInt8 := if glueN a b = true then [32] else []
def joinFrom (prev : List UInt8) : List (List UInt8) → List UInt8
  | [] => []
  | s :: l => sepOf prev s ++ s ++ joinFrom s l
def joinN (l : List (List UInt8)) : List UInt8 := joinFrom [] l
theorem joinN_snoc_aux : ∀ (l : List (List UInt8)) (prev s : List UInt8), joinFrom prev (l ++ [s]) = joinFrom prev l ++ (sepOf ((prev :: l).getLast (by simp)) s ++ s)
  | [], prev, s => by simp [joinFrom]
  | x :: l, prev, s => by
    have := joinN_snoc_aux l x s
    simp only [List.cons_append, joinFrom, this, List.append_assoc]
    simp
theorem tl_loop (s : ByteArray) : ∀ (d i : Nat) (r : List UInt8), s.size - i = d → ByteArray.toList.loop s i r = r.reverse ++ s.data.toList.drop i
  | 0, i, r, h => by
    unfold ByteArray.toList.loop
    rw [if_neg (by omega), List.drop_of_length_le (by simp; omega)]; simp
  | d + 1, i, r, h => by
    have hi : i < s.size := by omega
    have hi' : i < s.data.toList.length := by simpa using hi
    unfold ByteArray.toList.loop
    rw [if_pos hi, tl_loop s d (i + 1) _ (by omega), List.drop_eq_getElem_cons hi']
    simp [ByteArray.get!, hi]
    first | rfl | (have : s.data[i]! = s.data[i] := getElem!_pos s.data i hi; simp [this]) | skip
theorem tl_data (s : ByteArray) : s.toList = s.data.toList := by
  unfold ByteArray.toList
  rw [tl_loop s _ 0 [] rfl]; simp
theorem tl_ne (s : ByteArray) (h : 0 < s.size) : ¬s.toList = [] := fun e => by
  rw [tl_data] at e
  have h2 : s.data.toList.length = 0 := by rw [e]; rfl
  have h3 : s.data.toList.length = s.size := by simp
  omega
theorem tl_ne2 (s : ByteArray) (h : 0 < s.size) : s.toList.isEmpty = false := by
  have := tl_ne s h
  simpa using this
end Hb
