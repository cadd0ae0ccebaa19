/- The law TokenInts. -/
import Derived.Test.YtmjeajfakhmakaaDoorDigits
import Derived.Test.YtmjeajfakhmakaaDoorAwake
import Derived.Test.YtmjeajfakhmakaaDoorDoor
import Derived.Test.YtmjeajfakhmakaaDoorShelf
namespace Hb
open Go Go.RowKit
theorem dec_digs (n : Nat) : Lib.decDigits n = digsN 10 n := by
  induction n using Nat.strongRecOn with
  | _ n ih =>
    rw [Lib.decDigits]
    by_cases h : n < 10
    · rw [dif_pos h, digsN_lt _ _ h]
      have : ∀ d : Nat, d < 10 → UInt8.ofNat (48 + d) = hexd d := by decide +kernel
      rw [this n h]
    · rw [dif_neg h, digsN_ge 10 n (by decide) h, ih (n / 10) (by omega)]
      have : ∀ d : Nat, d < 10 → UInt8.ofNat (48 + d) = hexd d := by decide +kernel
      rw [this (n % 10) (Nat.mod_lt _ (by decide))]
theorem itoa_digs (n : Nat) : Lib.itoa (n : Int) = digsN 10 n := by
  unfold Lib.itoa
  rw [if_neg (by omega), Int.toNat_natCast, dec_digs]
theorem below_grows (w : World) (k : Nat) (os : Array Obj) : Below w.heap.size w (Sort.grow (w.drewN k) os) :=
  ⟨rfl, rfl, rfl, by show w.heap.size ≤ (w.heap ++ os).size; simp, fun i hi => by
    show (w.heap ++ os)[i]? = w.heap[i]?
    rw [Array.getElem?_append_left hi]⟩
theorem size_mk' (l : List UInt8) : (⟨l.toArray⟩ : ByteArray).size = l.length := by simp [ByteArray.size]
theorem esc_len (c : Int) : (esc c).length ≤ 5 := by
  unfold esc; repeat' split
  all_goals simp
theorem carry {P : Program} {f : FuncId} {args : Array Value} {w0 w : World} {Q : Ending → Prop} (hB : Below w0.heap.size w0 w)
    (h : Calls P f args w fun e w' => Q e ∧ Below w.heap.size w w') : Calls P f args w fun e w' => Q e ∧ Below w0.heap.size w0 w' :=
  h.mono fun _ _ ⟨he, hb⟩ => ⟨he, hB.trans (hb.mono hB.size)⟩
theorem wf64 (i : Int) (h : (Lit.int .i64 i).wf = true) : -9223372036854775808 ≤ i ∧ i ≤ 9223372036854775807 := by
  unfold Lit.wf at h; rw [Bool.and_eq_true, decide_eq_true_iff, decide_eq_true_iff] at h; exact h
theorem wf8 (i : Int) (h : (Lit.int .u8 i).wf = true) : 0 ≤ i ∧ i ≤ 255 := by
  unfold Lit.wf at h; rw [Bool.and_eq_true, decide_eq_true_iff, decide_eq_true_iff] at h; exact h
theorem app_list (a b : ByteArray) : (a ++ b).data.toList = a.data.toList ++ b.data.toList := by simp
theorem app_size (a b : ByteArray) : (a ++ b).size = a.size + b.size := by simp
end Hb
namespace Go.Proofs.YtmjeajfakhmakaaDoor
open Go.RowKit Hb
set_option maxRecDepth 100000

set_option maxHeartbeats 400000 in
theorem ints_text (n : Nat) (hn : n ≤ 9223372036854775807) (w : World) (hD : DoorOk w) :
    Calls Tryd.prog 25 #[.int .i64 n] w fun e w' => e = .returned (.string ⟨(digsN 10 n).toArray⟩) ∧ Below w.heap.size w w' := by
  have H := Lib.hid (Tryd.strconv_FormatInt_10 n (by omega) (by omega) w hD.pow)
  rw [itoa_digs] at H
  go_enter Tryd.func25, Tryd.ntmps25
  go_wp2_with fail
  refine H.out.mono ?_; rintro e w1 ⟨rfl, k, os, rfl⟩
  go_wp2_with fail
  go_ret
  exact ⟨rfl, below_grows _ _ _⟩
set_option maxHeartbeats 400000 in
theorem law_is (s : ByteArray) (n : Int) (w : World) (hs : s.size ≤ maxLen) (hx : nextTop s.data.toList 0 [] = ⟨intTok n s.size, false, 0⟩) :
    Calls Tryd.prog 24 #[.string s, .int .i64 n] w fun e w' => e = .returned (.bool true) ∧ Below w.heap.size w w' := by
  have HN := Lib.hid (token_next s 0 none 0 0 [] w rfl (by decide) hs (Pairs.nil _ _))
  rw [hx] at HN
  clear hx
  go_enter Tryd.func24, Tryd.ntmps24
  go_wp2_with fail
  refine HN.out.mono ?_; rintro e w1 ⟨he, hB1⟩
  unfold GivesN nxtTup intTok at he; simp only [] at he; subst he
  have hs1 := hB1.size
  go_wp2_with fail
  go_ret
  exact ⟨rfl, hB1.alloc hs1 _⟩
/-- What a text that is read as an integer gives the law's helper. -/
theorem v_is {w0 w : World} (s : ByteArray) (n : Int) (hs : s.size ≤ 16384) (h : numR s.data.toList s.data.toList 0 = intTok n s.data.toList.length ∧ cls (rawAt s.data.toList 0) = 4) (hB : Below w0.heap.size w0 w) :
    Calls Tryd.prog 24 #[.string s, .int .i64 n] w fun e w' => e = .returned (.bool true) ∧ Below w0.heap.size w0 w' :=
  carry hB (law_is s n w (by unfold maxLen; omega) (by
    have := next_int s.data.toList n _ ⟨h.1, h.2, by rw [size_data]; exact hs⟩
    rw [this, size_data]))

set_option maxHeartbeats 1600000 in
theorem law_tokenInts (i : Int) (c : Int) (hi : (Lit.int .i64 i).wf = true) (hc : (Lit.int .u8 c).wf = true) (w : World) (hD : DoorOk w) :
    Calls Tryd.prog 7 #[.int .i64 i, .int .u8 c] w fun e w' => e = .returned (.bool true) ∧ Below w.heap.size w w' := by
  have hi2 : i ≤ 9223372036854775807 := (wf64 i hi).2
  have hc2 : 0 ≤ c ∧ c ≤ 255 := wf8 c hc
  by_cases h0 : i < 0
  · have b1 : decide (i < 0) = true := by simp [h0]
    clear h0
    go_enter Tryd.func7, Tryd.ntmps7
    go_wp2_with fail
    refine (law_awake _).mono ?_; rintro e w1 ⟨rfl, hB1⟩
    go_wp2_with fail
    go_ret
    exact ⟨rfl, hB1⟩
  obtain ⟨n, rfl⟩ := Int.eq_ofNat_of_zero_le (show 0 ≤ i by omega)
  have b1 : decide ((n : Int) < 0) = false := by simp
  have hn : n ≤ 9223372036854775807 := by omega
  obtain ⟨u, rfl⟩ : ∃ u : UInt8, c = (u.toNat : Int) := ⟨c.toNat.toUInt8, by simp; omega⟩
  have HC0 := Lib.hid hc2
  have hw8 : IntKind.i64.wrap (u.toNat : Int) = (u.toNat : Int) := IntWalk.i64_in _ (by omega)
  clear hi hc h0 hi2 hc2
  have HDr := Lib.hid hD
  have HE := Lib.hid (ref_escape (u.toNat : Int) w HC0.out.1 HC0.out.2)
  have HNc := Lib.hid (num_chr u _ rfl)
  have hle := esc_len (u.toNat : Int)
  have HLe := Lib.hid hle
  have HT := Lib.hid (fun w' (h : Below w.heap.size w w') => carry (w0 := w) h (ints_text n hn w' (hD.below h)))
  have H10 := Lib.hid (fun w' (h : Below w.heap.size w w') => carry (w0 := w) h (law_digits10 n hn w'))
  have H16 := Lib.hid (fun w' (h : Below w.heap.size w w') => carry (w0 := w) h (law_digits16 n hn w'))
  have H8 := Lib.hid (fun w' (h : Below w.heap.size w w') => carry (w0 := w) h (law_digits8 n hn w'))
  have H2 := Lib.hid (fun w' (h : Below w.heap.size w w') => carry (w0 := w) h (law_digits2 n hn w'))
  have N10 := Lib.hid (num_dec (digsN 10 n) n rfl hn)
  have N16 := Lib.hid (num_pre 16 (.inr (.inr (.inr rfl))) 120 (.inl ⟨rfl, rfl⟩) _ n rfl hn)
  have N8 := Lib.hid (num_pre 8 (.inr (.inl rfl)) 111 (.inr (.inl ⟨rfl, rfl⟩)) _ n rfl hn)
  have N2 := Lib.hid (num_pre 2 (.inl rfl) 98 (.inr (.inr ⟨rfl, rfl⟩)) _ n rfl hn)
  have l16 := digsN_len 16 n (by decide) hn
  have l8 := digsN_len 8 n (by decide) hn
  have l2 := digsN_len 2 n (by decide) hn
  have l10 := digsN_len 10 n (by decide) hn
  clear hD hle
  generalize hd10 : digsN 10 n = D10 at *
  generalize hd16 : digsN 16 n = D16 at *
  generalize hd8 : digsN 8 n = D8 at *
  generalize hd2 : digsN 2 n = D2 at *
  clear hd10 hd16 hd8 hd2
  have s10 : (⟨D10.toArray⟩ : ByteArray).size ≤ 63 := by rw [size_mk']; exact l10
  have s16 : (⟨D16.toArray⟩ : ByteArray).size ≤ 63 := by rw [size_mk']; exact l16
  have s8 : (⟨D8.toArray⟩ : ByteArray).size ≤ 63 := by rw [size_mk']; exact l8
  have s2 : (⟨D2.toArray⟩ : ByteArray).size ≤ 63 := by rw [size_mk']; exact l2
  have V16 := Lib.hid (fun w' (h : Below w.heap.size w w') => v_is (w0 := w) (w := w') ((⟨#[48, 120]⟩ : ByteArray) ++ (⟨D16.toArray⟩ : ByteArray)) n (by rw [app_size]; have : (⟨#[48, 120]⟩ : ByteArray).size = 2 := rfl; omega) (by rw [show ((⟨#[48, 120]⟩ : ByteArray) ++ (⟨D16.toArray⟩ : ByteArray)).data.toList = 48 :: 120 :: D16 by simp]; exact ⟨N16.out.1, N16.out.2.1⟩) h)
  have V8 := Lib.hid (fun w' (h : Below w.heap.size w w') => v_is (w0 := w) (w := w') ((⟨#[48, 111]⟩ : ByteArray) ++ (⟨D8.toArray⟩ : ByteArray)) n (by rw [app_size]; have : (⟨#[48, 111]⟩ : ByteArray).size = 2 := rfl; omega) (by rw [show ((⟨#[48, 111]⟩ : ByteArray) ++ (⟨D8.toArray⟩ : ByteArray)).data.toList = 48 :: 111 :: D8 by simp]; exact ⟨N8.out.1, N8.out.2.1⟩) h)
  have V2 := Lib.hid (fun w' (h : Below w.heap.size w w') => v_is (w0 := w) (w := w') ((⟨#[48, 98]⟩ : ByteArray) ++ (⟨D2.toArray⟩ : ByteArray)) n (by rw [app_size]; have : (⟨#[48, 98]⟩ : ByteArray).size = 2 := rfl; omega) (by rw [show ((⟨#[48, 98]⟩ : ByteArray) ++ (⟨D2.toArray⟩ : ByteArray)).data.toList = 48 :: 98 :: D2 by simp]; exact ⟨N2.out.1, N2.out.2.1⟩) h)
  go_enter Tryd.func7, Tryd.ntmps7
  go_wp2_with fail
  refine HE.out.mono ?_; rintro e w1 ⟨rfl, hB1⟩
  generalize hx : esc (u.toNat : Int) = X at *
  have HX := Lib.hid hx
  clear hx
  have lx : X.length ≤ 5 := HLe.out
  have sx : (⟨X.toArray⟩ : ByteArray).size ≤ 5 := by rw [size_mk']; exact lx
  have VX := Lib.hid (fun w' (h : Below w.heap.size w w') => v_is (w0 := w) (w := w') ((⟨#[48, 39]⟩ : ByteArray) ++ (⟨X.toArray⟩ : ByteArray)) (u.toNat : Int) (by rw [app_size]; have : (⟨#[48, 39]⟩ : ByteArray).size = 2 := rfl; omega) (by rw [show ((⟨#[48, 39]⟩ : ByteArray) ++ (⟨X.toArray⟩ : ByteArray)).data.toList = 48 :: 39 :: X by simp]; exact ⟨HNc.out.1, HNc.out.2.1⟩) h)
  go_wp2_with fail
  refine (HT.out _ hB1).mono ?_; rintro e w2 ⟨rfl, hB2⟩; clear hB1
  go_wp2_with fail
  refine (v_is (w0 := w) ⟨D10.toArray⟩ n (by omega) ⟨N10.out.1, N10.out.2.1⟩ hB2).mono ?_; rintro e w3 ⟨rfl, hB3⟩; clear hB2
  go_wp2_with fail
  refine (H10.out _ hB3).mono ?_; rintro e w4 ⟨rfl, hB4⟩; clear hB3
  go_wp2_with fail
  refine (v_is (w0 := w) ⟨D10.toArray⟩ n (by omega) ⟨N10.out.1, N10.out.2.1⟩ hB4).mono ?_; rintro e w5 ⟨rfl, hB5⟩; clear hB4
  go_wp2_with fail
  refine (H16.out _ hB5).mono ?_; rintro e w6 ⟨rfl, hB6⟩; clear hB5
  go_wp2_with fail
  refine (V16.out _ hB6).mono ?_; rintro e w7 ⟨rfl, hB7⟩; clear hB6
  go_wp2_with fail
  refine (H8.out _ hB7).mono ?_; rintro e w8 ⟨rfl, hB8⟩; clear hB7
  go_wp2_with fail
  refine (V8.out _ hB8).mono ?_; rintro e w9 ⟨rfl, hB9⟩; clear hB8
  go_wp2_with fail
  refine (H2.out _ hB9).mono ?_; rintro e w10 ⟨rfl, hB10⟩; clear hB9
  go_wp2_with fail
  refine (V2.out _ hB10).mono ?_; rintro e w11 ⟨rfl, hB11⟩; clear hB10
  go_wp2_with fail
  refine (VX.out _ hB11).mono ?_; rintro e w12 ⟨rfl, hB12⟩; clear hB11
  go_wp2_with fail
  refine (carry (w0 := w) hB12 (law_awake _)).mono ?_; rintro e w13 ⟨rfl, hB13⟩; clear hB12
  go_wp2_with fail
  go_ret
  exact ⟨rfl, hB13⟩
end Go.Proofs.YtmjeajfakhmakaaDoor
