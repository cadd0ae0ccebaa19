/- Contracts of spell: Quote, Atom, Join. -/
import Derived.Test.YtmjeajfakhmakaaDoorSpell4
import Derived.Test.YtmjeajfakhmakaaDoorApp
namespace Hb
open Go Go.RowKit
theorem btws_take (s : List UInt8) (k : Nat) (h : k < s.length) : btws 39 (s.take (k + 1)) = btws 39 (s.take k) ++ esc (bAt s k) := by
  rw [List.take_succ_eq_append_getElem h, btws_snoc, btw_39, bAt_get _ _ h]
theorem esc_len (c : Int) : (esc c).length ≤ 5 := by
  unfold esc; repeat' split
  all_goals simp
theorem btws_le (s : List UInt8) : (btws 39 s).length ≤ 5 * s.length := by
  induction s with
  | nil => simp [btws]
  | cons b s ih => have := esc_len (b.toNat : Int); rw [btws_cons, btw_39, List.length_append, List.length_cons]; omega
theorem strCells_mk (l : List UInt8) : Lib.strCells ⟨l.toArray⟩ = byteCells l := rfl
theorem byteCells_app (a b : List UInt8) : byteCells (a ++ b) = byteCells a ++ byteCells b := by simp [byteCells]
def bts (l : List ByteArray) : List (List UInt8) := l.map fun s => s.data.toList
theorem glue_nil (b : List UInt8) : glueN [] b = false := rfl
theorem sep_nil (b : List UInt8) : sepOf [] b = [] := rfl
theorem bts_len (l : List ByteArray) : (bts l).length = l.length := by simp [bts]
theorem bts_get (l : List ByteArray) (k : Nat) (h : k < l.length) : (bts l)[k]'(by rw [bts_len]; exact h) = l[k].data.toList := by simp [bts]
theorem joinFrom_snoc2 (a b : List UInt8) : ∀ (l : List (List UInt8)) (p : List UInt8), joinFrom p (l ++ [a] ++ [b]) = joinFrom p (l ++ [a]) ++ (sepOf a b ++ b)
  | [], p => by simp [joinFrom]
  | x :: l, p => by
    have := joinFrom_snoc2 a b l x
    show sepOf p x ++ x ++ joinFrom x (l ++ [a] ++ [b]) = (sepOf p x ++ x ++ joinFrom x (l ++ [a])) ++ (sepOf a b ++ b)
    rw [this, List.append_assoc (sepOf p x ++ x)]
theorem bts_take (l : List ByteArray) (k : Nat) : bts (l.take k) = (bts l).take k := by unfold bts; rw [List.map_take]
theorem joinN_zero (l : List ByteArray) (h : 0 < l.length) : joinN (bts (l.take 1)) = l[0].data.toList := by
  match l, h with
  | s :: l, _ => simp [bts, joinN, joinFrom, sep_nil]
theorem joinN_succ (l : List ByteArray) (k : Nat) (h : k + 1 < l.length) : joinN (bts (l.take (k + 1 + 1))) = joinN (bts (l.take (k + 1))) ++ (sepOf l[k].data.toList l[k + 1].data.toList ++ l[k + 1].data.toList) := by
  rw [bts_take, bts_take, List.take_succ_eq_append_getElem (by rw [bts_len]; exact h), List.take_succ_eq_append_getElem (by rw [bts_len]; omega), bts_get _ _ h, bts_get _ _ (by omega)]
  exact joinFrom_snoc2 _ _ _ _
theorem joinFrom_len (m : Nat) : ∀ (l : List (List UInt8)) (p : List UInt8), (∀ s ∈ l, s.length ≤ m) → (joinFrom p l).length ≤ l.length * (m + 1)
  | [], _, _ => by simp [joinFrom]
  | s :: l, p, h => by
    have h1 := joinFrom_len m l s fun x hx => h x (List.mem_cons_of_mem _ hx)
    have h2 := h s (List.mem_cons_self ..)
    have h3 : (sepOf p s).length ≤ 1 := by unfold sepOf; split <;> simp
    rw [joinFrom, List.length_append, List.length_append, List.length_cons, Nat.add_mul]; omega
theorem joinN_len (m : Nat) (l : List ByteArray) (h : ∀ s ∈ l, s.size ≤ m) : (joinN (bts l)).length ≤ l.length * (m + 1) := by
  have := joinFrom_len m (bts l) [] (fun s hs => by
    unfold bts at hs
    rw [List.mem_map] at hs
    obtain ⟨x, hx, rfl⟩ := hs
    rw [size_data]; exact h x hx)
  unfold bts at this ⊢
  rw [List.length_map] at this; exact this
end Hb
namespace Go.Proofs.YtmjeajfakhmakaaDoor
open Go.RowKit Hb
set_option maxRecDepth 100000

theorem b_writeList (B b : Nat) (acc l : List UInt8) (w : World) (h : Lib.IsBuilder 56 5 B b (byteCells acc) w) (hlen : acc.length + l.length ≤ 140737488355328) (hBw : B ≤ w.heap.size) :
    Calls Tryd.prog 40 #[.pointer (some ⟨b, 0, none⟩), .string ⟨l.toArray⟩] w fun e w' => e = .returned (.tuple #[.int .i64 l.length, .nilIface]) ∧ (Lib.IsBuilder 56 5 B b (byteCells (acc ++ l)) w' ∧ Below B w w') :=
  (b_writeString B b (byteCells acc) ⟨l.toArray⟩ w h (by rw [byteCells_len]; exact hlen) hBw).mono fun _ _ ⟨he, h1, h2⟩ => ⟨he, .inr (by rw [byteCells_app]; exact h1), h2⟩

set_option maxHeartbeats 1000000 in
theorem sp_quote (s : ByteArray) (w : World) (hs : s.size ≤ 1000000) (hT : Tab15 w) :
    Calls Tryd.prog 13 #[.string s] w fun e w' => e = .returned (.string ⟨(quoteN s.data.toList).toArray⟩) ∧ Below w.heap.size w w' := by
  have HT := Lib.hid hT
  clear hT
  have HQ := Lib.hid (show quoteN s.data.toList = 39 :: btws 39 s.data.toList ++ [39] from rfl)
  have HL := Lib.hid (btws_le s.data.toList)
  rw [size_data] at HL
  have hN := isb_new 56 5 w
  have HN := Lib.hid hN
  clear hN
  go_enter Tryd.func13, Tryd.ntmps13
  go_wp2_with fail
  refine (b_writeList w.heap.size w.heap.size [] [39] _ HN.out (by simp) (by simp)).mono ?_
  rintro e w1 ⟨rfl, hI, hB⟩
  rw [List.nil_append] at hI
  have hB1 := ((Below.refl w.heap.size w).alloc (Nat.le_refl _) (.cells #[.pointer none, .slice none 0 0] 56)).trans hB
  have HI := Lib.hid hI
  clear hI hB
  go_wp2_with fail
  go_loopw [13] (fun i wr => ∃ k : Nat, k ≤ s.size ∧ i = .int .i64 k ∧ Hid (Lib.IsBuilder 56 5 w.heap.size w.heap.size (byteCells (39 :: btws 39 (s.data.toList.take k))) wr) ∧ Below w.heap.size w wr) (fun i _ => s.size - (intOf i).toNat)
  case atStart => exact ⟨0, Nat.zero_le _, rfl, HI.out, hB1⟩
  case round =>
    obtain ⟨k, hk, rfl, HI, hB⟩ := hrel
    have hbs := hB.size
    by_cases hlt : k < s.size
    · have hb := bAt_mk s k hlt
      have hb0 := bAt_lo s.data.toList k
      have hb1 := bAt_hi s.data.toList k
      have Hs := Lib.hid (btws_take s.data.toList k (by simpa using hlt))
      have Hle := Lib.hid (show (39 :: btws 39 (s.data.toList.take k)).length + (esc (bAt s.data.toList k)).length ≤ 140737488355328 by
        have h1 := btws_le (s.data.toList.take k)
        have h2 := esc_len (bAt s.data.toList k)
        rw [List.length_take] at h1
        rw [List.length_cons]; omega)
      generalize bAt s.data.toList k = c at *
      have HE := Lib.hid (chars_escape c wr hb0 hb1 (HT.out.below hB))
      go_wp2_with fail
      refine HE.out.mono ?_; rintro e w2 ⟨rfl, hB2⟩
      have HI2 := Lib.hid (isb_below HI.out hB2)
      have hb2 := hB2.size
      go_wp2_with fail
      refine (b_writeList w.heap.size w.heap.size _ (esc c) _ HI2.out Hle.out (by omega)).mono ?_
      rintro e w3 ⟨rfl, hI3, hB3⟩
      go_wp2_with fail
      go_roundw
      case rel => exact ⟨k + 1, by omega, by go_num, by rw [Hs.out]; exact hI3, (hB.trans (hB2.mono hbs)).trans hB3⟩
      case measure => simp [intOf]; omega
    · have hx : s.data.toList.take k = s.data.toList := List.take_of_length_le (by simp; omega)
      rw [hx] at HI
      clear hx
      go_wp2_with fail
      refine (b_writeList w.heap.size w.heap.size _ [39] _ HI.out (by have := HL.out; simp; omega) hbs).mono ?_
      rintro e w2 ⟨rfl, hI2, hB2⟩
      have hs2 := hB2.size
      go_wp2_with fail
      refine (Tryd.Builder_String_any w.heap.size w.heap.size _ _ hI2 (by omega)).mono ?_
      rintro e w3 ⟨rfl, hB3⟩
      go_wp2_with fail
      go_ret
      exact ⟨ret_str (by rw [HQ.out]; rfl), (hB.trans hB2).trans hB3⟩

set_option maxHeartbeats 400000 in
theorem sp_atom (s : ByteArray) (w : World) (hs : s.size ≤ 1000000) (hT : Tab15 w) :
    Calls Tryd.prog 12 #[.string s] w fun e w' => e = .returned (.string ⟨(atomN s.data.toList).toArray⟩) ∧ Below w.heap.size w w' := by
  have HT := Lib.hid hT
  clear hT
  have HP := Lib.hid (sp_plain s w (by unfold maxLen; omega))
  cases hp : plainN s.data.toList
  all_goals
    have Hp := Lib.hid hp
    clear hp
    go_enter Tryd.func12, Tryd.ntmps12
    go_wp2_with fail
    refine HP.out.mono ?_; rintro e w1 ⟨rfl, hB1⟩; rw [Hp.out]
    have hs1 := hB1.size
    go_wp2_with fail
  · refine (sp_quote s _ hs (HT.out.below hB1)).mono ?_; rintro e w2 ⟨rfl, hB2⟩
    go_wp2_with fail
    go_ret
    exact ⟨ret_str (by unfold atomN; rw [Hp.out]; rfl), hB1.trans (hB2.mono hs1)⟩
  · go_ret
    exact ⟨ret_str (by unfold atomN; rw [Hp.out]; simp), hB1⟩

set_option maxHeartbeats 1000000 in
theorem sp_join (A : Option Addr) (n cap : Nat) (l : List ByteArray) (w : World) (hn : n = l.length) (hm : n ≤ 1000) (hp : StrsAt w A l) (hz : ∀ s ∈ l, s.size ≤ 1000000) :
    Calls Tryd.prog 15 #[.slice A n cap] w fun e w' => e = .returned (.string ⟨(joinN (bts l)).toArray⟩) ∧ Below w.heap.size w w' := by
  have HN := Lib.hid hn
  have HP := Lib.hid hp
  have HZ := Lib.hid hz
  clear hp hz
  have HB := Lib.hid (isb_new 56 5 w)
  have hj : ∀ k, k ≤ n → (joinN (bts (l.take k))).length ≤ 1000 * 1000001 := fun k hk => by
    have := joinN_len 1000000 (l.take k) (fun s hs => HZ.out s (List.mem_of_mem_take hs))
    rw [List.length_take] at this
    refine Nat.le_trans this (Nat.mul_le_mul_right _ ?_)
    omega
  have HJ := Lib.hid hj
  clear hj
  clear hn
  go_enter Tryd.func15, Tryd.ntmps15
  go_wp2_with fail
  go_loopw [10] (fun i wr => ∃ k : Nat, k ≤ n ∧ i = .int .i64 k ∧ Hid (Lib.IsBuilder 56 5 w.heap.size w.heap.size (byteCells (joinN (bts (l.take k)))) wr) ∧ Below w.heap.size w wr) (fun i _ => n - (intOf i).toNat)
  case atStart => exact ⟨0, Nat.zero_le _, rfl, HB.out, (Below.refl w.heap.size w).alloc (Nat.le_refl _) _⟩
  case round =>
    obtain ⟨k, hk, rfl, HI, hB⟩ := hrel
    have hbs := hB.size
    by_cases hlt : k < n
    · have hkl : k < l.length := by have := HN.out; omega
      obtain ⟨g, off, rfl, hg, c1⟩ := (HP.out.below hB) k hkl
      have hz1 := HZ.out l[k] (List.getElem_mem hkl)
      by_cases h0 : k = 0
      · subst h0
        have Hs := Lib.hid (joinN_zero l hkl)
        have e0 : joinN (bts (l.take 0)) = [] := rfl
        rw [e0] at HI
        clear e0
        rw [Nat.add_zero] at c1
        generalize l[0] = s at *
        go_wp2_with fail
        refine (b_writeList w.heap.size w.heap.size [] s.data.toList _ HI.out (by rw [size_data]; simp; omega) hbs).mono ?_
        rintro e w3 ⟨rfl, hI3, hB3⟩
        go_wp2_with fail
        go_roundw
        case rel => exact ⟨0 + 1, by omega, by go_num, by rw [Hs.out]; exact hI3, hB.trans hB3⟩
        case measure => simp [intOf]; omega
      · obtain ⟨j, rfl⟩ : ∃ j, k = j + 1 := ⟨k - 1, by omega⟩
        obtain ⟨g', off', hA, _, c0⟩ := (HP.out.below hB) j (by omega)
        obtain ⟨rfl, rfl⟩ : g' = g ∧ off' = off := by injection hA with hA; injection hA with h1 h2 _; exact ⟨h1.symm, h2.symm⟩
        have hz0 := HZ.out l[j] (List.getElem_mem (by omega))
        have Hs := Lib.hid (joinN_succ l j hkl)
        clear hA h0
        generalize l[j + 1] = s at *
        generalize l[j] = p at *
        have HG := Lib.hid (sp_glue p s wr (by unfold maxLen; omega))
        have HL := Lib.hid (HJ.out (j + 1) (by omega))
        generalize joinN (bts (l.take (j + 1))) = acc at *
        have hjn : decide ((j : Int) + 1 < n) = true := by simp; omega
        cases hg' : glueN p.data.toList s.data.toList
        · have Hg := Lib.hid hg'
          clear hg'
          go_wp2_with fail
          refine HG.out.mono ?_; rintro e w2 ⟨rfl, hB2⟩; rw [Hg.out]
          have HI2 := Lib.hid (isb_below HI.out hB2)
          have hb2 := hB2.size
          go_wp2_with fail
          refine (b_writeList w.heap.size w.heap.size acc s.data.toList _ HI2.out (by have := HL.out; rw [size_data]; omega) (by omega)).mono ?_
          rintro e w3 ⟨rfl, hI3, hB3⟩
          go_wp2_with fail
          go_roundw
          case rel => exact ⟨j + 1 + 1, by omega, by go_num, by rw [Hs.out]; unfold sepOf; rw [Hg.out]; exact hI3, (hB.trans (hB2.mono hbs)).trans hB3⟩
          case measure => simp [intOf]; omega
        · have Hg := Lib.hid hg'
          clear hg'
          go_wp2_with fail
          refine HG.out.mono ?_; rintro e w2 ⟨rfl, hB2⟩; rw [Hg.out]
          have HI2 := Lib.hid (isb_below HI.out hB2)
          have hb2 := hB2.size
          go_wp2_with fail
          refine (b_writeList w.heap.size w.heap.size acc [32] _ HI2.out (by have := HL.out; simp; omega) (by omega)).mono ?_
          rintro e w3 ⟨rfl, hI3, hB3⟩
          have HI3 := Lib.hid hI3
          clear hI3
          have hb3 := hB3.size
          go_wp2_with fail
          refine (b_writeList w.heap.size w.heap.size _ s.data.toList _ HI3.out (by have := HL.out; rw [size_data, List.length_append]; simp; omega) (by omega)).mono ?_
          rintro e w4 ⟨rfl, hI4, hB4⟩
          go_wp2_with fail
          go_roundw
          case rel => exact ⟨j + 1 + 1, by omega, by go_num, by rw [Hs.out]; unfold sepOf; rw [Hg.out, if_pos rfl, ← List.append_assoc]; exact hI4, ((hB.trans (hB2.mono hbs)).trans hB3).trans hB4⟩
          case measure => simp [intOf]; omega
    · have hx : l.take k = l := List.take_of_length_le (by have := HN.out; omega)
      rw [hx] at HI
      clear hx
      go_wp2_with fail
      refine (Tryd.Builder_String_any w.heap.size w.heap.size _ _ HI.out hbs).mono ?_
      rintro e w3 ⟨rfl, hB3⟩
      go_wp2_with fail
      go_ret
      exact ⟨rfl, hB.trans hB3⟩
end Go.Proofs.YtmjeajfakhmakaaDoor
