/- The reference's writer: the text of an integer. The reference's writer: name, in, digit. The reference's writer: numbered. -/
import Derived.Test.YtgapnafkelokaaaGreatDoorM10
import Derived.Test.YtgapnafkelokaaaGreatDoorM11
import Derived.Test.YtgapnafkelokaaaGreatDoorM12
namespace Hb
open Go Go.RowKit
theorem dec_step (k : Nat) (acc : List UInt8) (h : ¬ k / 10 = 0) : Lib.decDigits k ++ acc = Lib.decDigits (k / 10) ++ ((48 + ((k % 10 : Nat) : Int)).toNat.toUInt8 :: acc) := by
  rw [Lib.decDigits, dif_neg (by omega), List.append_assoc]
  have e : (48 + ((k % 10 : Nat) : Int)).toNat = 48 + k % 10 := by omega
  rw [e]; rfl
theorem dec_last (k : Nat) (acc : List UInt8) (h : k / 10 = 0) : Lib.decDigits k ++ acc = (48 + ((k % 10 : Nat) : Int)).toNat.toUInt8 :: acc := by
  rw [Lib.decDigits, dif_pos (by omega)]
  have e : (48 + ((k % 10 : Nat) : Int)).toNat = 48 + k := by omega
  rw [e]; rfl
theorem cons_mkW (b : UInt8) (l : List UInt8) : (⟨#[b]⟩ : ByteArray) ++ ⟨l.toArray⟩ = ⟨(b :: l).toArray⟩ := by
  apply ByteArray.ext; simp
theorem dec_short (n : Nat) (hn : n ≤ 9223372036854775808) : (Lib.decDigits n).length ≤ 20 := by
  rw [Lib.decDigits_length]
  rcases Nat.eq_zero_or_pos n with rfl | hp
  · rw [Lib.nDigits_small (by decide)]; decide
  · obtain ⟨e, h⟩ := Lib.numDigits_eq n hp (by omega)
    rw [← e]; split <;> omega
theorem fmI_pos (n : Nat) : fmI (n : Int) = ⟨(Lib.decDigits n).toArray⟩ := by
  unfold fmI Lib.itoa; rw [if_neg (by omega)]; rfl
theorem fmI_neg (n : Nat) (h : 0 < n) : fmI (-(n : Int)) = s1 45 ++ ⟨(Lib.decDigits n).toArray⟩ := by
  unfold fmI Lib.itoa s1
  rw [if_pos (by omega), cons_mkW]
  have : (-(n : Int)).natAbs = n := by omega
  rw [this]
end Hb
namespace Go.Proofs.YtgapnafkelokaaaGreatDoor
open Go.RowKit Hb
set_option maxRecDepth 100000
set_option maxHeartbeats 1600000 in
theorem r2_text_pos (n : Nat) (hn : n ≤ 9223372036854775807) (w : World) :
    Calls Tryz.prog 86 #[.int .i64 n] w fun e w' => e = .returned (.string ⟨(Lib.decDigits n).toArray⟩) ∧ Below w.heap.size w w' := by
  have HL := Lib.hid (dec_short n (by omega))
  have hn0 : decide ((n : Int) < 0) = false := by simp
  go_enter Tryz.func86, Tryz.ntmps86
  go_wp2_with fail
  go_loopw [3, 4] (fun v i wr => ∃ k : Nat, ∃ acc : List UInt8, i = .int .i64 k ∧ v = .string ⟨acc.toArray⟩ ∧ k ≤ n ∧ Hid (Lib.decDigits n = Lib.decDigits k ++ acc) ∧ Below w.heap.size w wr) (fun _ i _ => (intOf i).toNat)
  case atStart => exact ⟨n, [], rfl, rfl, Nat.le_refl _, Lib.hid (by simp), Below.refl _ _⟩
  case round =>
    obtain ⟨k, acc, rfl, rfl, hk, HE, hB⟩ := hrel
    have hl : acc.length ≤ 20 := by
      have h1 := HE.out
      have h2 := HL.out
      rw [h1, List.length_append] at h2; omega
    have hm1 : (k : Int).tmod 10 = ((k % 10 : Nat) : Int) := by rw [Int.tmod_eq_emod_of_nonneg (by omega)]; omega
    have hm2 : (k : Int) % 10 = ((k % 10 : Nat) : Int) := by omega
    have hd1 : (k : Int).tdiv 10 = ((k / 10 : Nat) : Int) := by rw [Int.tdiv_eq_ediv_of_nonneg (by omega)]; omega
    have hd2 : (k : Int) / 10 = ((k / 10 : Nat) : Int) := by omega
    have hcv := conv_new1 (P := Tryz.prog) 75 9 5 Tryz.underlying75 Tryz.underlying5 Tryz.underlying9 (48 + ((k % 10 : Nat) : Int)) (by omega) (by omega) wr
    have hd9 : k % 10 < 10 := by omega
    have HX := Lib.hid (cons_mkW (48 + ((k % 10 : Nat) : Int)).toNat.toUInt8 acc)
    by_cases hq : k / 10 = 0
    · have HS := Lib.hid (dec_last k acc hq)
      have HR := Lib.hid (HE.out.trans HS.out)
      rw [hq] at hd1 hd2
      clear hq HE HS
      generalize (48 + ((k % 10 : Nat) : Int)).toNat.toUInt8 = c at *
      generalize k % 10 = d at *
      have hc1 : (⟨#[c]⟩ : ByteArray).size = 1 := rfl
      generalize (⟨#[c]⟩ : ByteArray) = cb at *
      have hB2 := hB.alloc hB.size (.cells #[.int .u8 (48 + (d : Int))] 5)
      go_wp2_with fail
      go_ret
      exact ⟨ret_str (by rw [HR.out, HX.out]), hB2⟩
    · have HS := Lib.hid (dec_step k acc hq)
      have HR := Lib.hid (HE.out.trans HS.out)
      have hq2 : k / 10 < k := Nat.div_lt_self (by omega) (by decide)
      have hq3 : (((k / 10 : Nat) : Int) == 0) = false := by simp; omega
      have hq4 : ¬ ((k / 10 : Nat) : Int) = 0 := by omega
      clear hq HE HS
      generalize (48 + ((k % 10 : Nat) : Int)).toNat.toUInt8 = c at *
      generalize k % 10 = d at *
      generalize k / 10 = q at *
      have hc1 : (⟨#[c]⟩ : ByteArray).size = 1 := rfl
      generalize (⟨#[c]⟩ : ByteArray) = cb at *
      have hB2 := hB.alloc hB.size (.cells #[.int .u8 (48 + (d : Int))] 5)
      go_wp2_with fail
      go_roundw
      case rel => exact ⟨q, c :: acc, rfl, congrArg Value.string HX.out, by omega, HR, hB2⟩
      case measure => simp [intOf]; omega
set_option maxHeartbeats 1600000 in
theorem r2_text_neg (n : Nat) (h0 : 0 < n) (hn : n ≤ 9223372036854775808) (w : World) :
    Calls Tryz.prog 86 #[.int .i64 (-(n : Int))] w fun e w' => e = .returned (.string (s1 45 ++ ⟨(Lib.decDigits n).toArray⟩)) ∧ Below w.heap.size w w' := by
  have HL := Lib.hid (dec_short n (by omega))
  have hn0 : decide (-(n : Int) < 0) = true := by simp; omega
  go_enter Tryz.func86, Tryz.ntmps86
  go_wp2_with fail
  go_loopw [3, 4] (fun v i wr => ∃ k : Nat, ∃ acc : List UInt8, i = .int .i64 (-(k : Int)) ∧ v = .string ⟨acc.toArray⟩ ∧ k ≤ n ∧ Hid (Lib.decDigits n = Lib.decDigits k ++ acc) ∧ Below w.heap.size w wr) (fun _ i _ => (-(intOf i)).toNat)
  case atStart => exact ⟨n, [], rfl, rfl, Nat.le_refl _, Lib.hid (by simp), Below.refl _ _⟩
  case round =>
    obtain ⟨k, acc, rfl, rfl, hk, HE, hB⟩ := hrel
    have hl : acc.length ≤ 20 := by
      have h1 := HE.out
      have h2 := HL.out
      rw [h1, List.length_append] at h2; omega
    have hm1 : (-(k : Int)).tmod 10 = -((k % 10 : Nat) : Int) := by rw [Int.neg_tmod, Int.tmod_eq_emod_of_nonneg (by omega)]; omega
    have hd1 : (-(k : Int)).tdiv 10 = -((k / 10 : Nat) : Int) := by rw [Int.neg_tdiv, Int.tdiv_eq_ediv_of_nonneg (by omega)]; omega
    have hcv := conv_new1 (P := Tryz.prog) 75 9 5 Tryz.underlying75 Tryz.underlying5 Tryz.underlying9 (48 + ((k % 10 : Nat) : Int)) (by omega) (by omega) wr
    have hd9 : k % 10 < 10 := by omega
    have HX := Lib.hid (cons_mkW (48 + ((k % 10 : Nat) : Int)).toNat.toUInt8 acc)
    by_cases hq : k / 10 = 0
    · have HS := Lib.hid (dec_last k acc hq)
      have HR := Lib.hid (HE.out.trans HS.out)
      rw [hq] at hd1
      clear hq HE HS
      generalize (48 + ((k % 10 : Nat) : Int)).toNat.toUInt8 = c at *
      generalize k % 10 = d at *
      have hc1 : (⟨#[c]⟩ : ByteArray).size = 1 := rfl
      generalize (⟨#[c]⟩ : ByteArray) = cb at *
      have hB2 := hB.alloc hB.size (.cells #[.int .u8 (48 + (d : Int))] 5)
      by_cases hz : d = 0
      · have hz1 : decide (-(d : Int) < 0) = false := by simp; omega
        have hz2 : (48 : Int) + -(d : Int) = 48 + (d : Int) := by omega
        have hz3 : ¬ 0 < d := by omega
        clear hz
        go_wp2_with fail
        go_ret
        exact ⟨ret_str (by rw [HR.out, HX.out]; rfl), hB2⟩
      · have hz1 : decide (-(d : Int) < 0) = true := by simp; omega
        go_wp2_with fail
        go_ret
        exact ⟨ret_str (by rw [HR.out, HX.out]; rfl), hB2⟩
    · have HS := Lib.hid (dec_step k acc hq)
      have HR := Lib.hid (HE.out.trans HS.out)
      have hq2 : k / 10 < k := Nat.div_lt_self (by omega) (by decide)
      have hq3 : (-((k / 10 : Nat) : Int) == 0) = false := by simp; omega
      have hq4 : ¬ -((k / 10 : Nat) : Int) = 0 := by omega
      have hq5 : ¬ ((k / 10 : Nat) : Int) = 0 := by omega
      have hq6 : ¬ k / 10 = 0 := hq
      clear HE HS hq
      generalize (48 + ((k % 10 : Nat) : Int)).toNat.toUInt8 = c at *
      generalize k % 10 = d at *
      generalize k / 10 = q at *
      have hc1 : (⟨#[c]⟩ : ByteArray).size = 1 := rfl
      generalize (⟨#[c]⟩ : ByteArray) = cb at *
      have hB2 := hB.alloc hB.size (.cells #[.int .u8 (48 + (d : Int))] 5)
      by_cases hz : d = 0
      · have hz1 : decide (-(d : Int) < 0) = false := by simp; omega
        have hz2 : (48 : Int) + -(d : Int) = 48 + (d : Int) := by omega
        have hz3 : ¬ 0 < d := by omega
        clear hz
        go_wp2_with fail
        go_roundw
        case rel => exact ⟨q, c :: acc, rfl, congrArg Value.string HX.out, by omega, HR, hB2⟩
        case measure => simp [intOf]; omega
      · have hz1 : decide (-(d : Int) < 0) = true := by simp; omega
        go_wp2_with fail
        go_roundw
        case rel => exact ⟨q, c :: acc, rfl, congrArg Value.string HX.out, by omega, HR, hB2⟩
        case measure => simp [intOf]; omega
theorem r2_text (n : Int) (h0 : -9223372036854775808 ≤ n) (h1 : n ≤ 9223372036854775807) (w : World) :
    Calls Tryz.prog 86 #[.int .i64 n] w fun e w' => e = .returned (.string (fmI n)) ∧ Below w.heap.size w w' := by
  by_cases hn : 0 ≤ n
  · obtain ⟨k, rfl⟩ : ∃ k : Nat, n = k := ⟨n.toNat, by omega⟩
    rw [fmI_pos]; exact r2_text_pos k (by omega) w
  · obtain ⟨k, rfl⟩ : ∃ k : Nat, n = -(k : Int) := ⟨n.natAbs, by omega⟩
    rw [fmI_neg k (by omega)]; exact r2_text_neg k (by omega) (by omega) w
end Go.Proofs.YtgapnafkelokaaaGreatDoor
namespace Go.Proofs.YtgapnafkelokaaaGreatDoor
open Go.RowKit Hb
set_option maxRecDepth 100000
/-- The reference's writer as a value. -/
def rwV (o : WO) (TA : Option Addr) (TN TC : Nat) : Value := .agg #[.slice TA TN TC, .bool o.q, .bool o.ig, .bool o.nu]
set_option maxHeartbeats 800000 in
theorem r_name (o : WO) (TA : Option Addr) (TN TC : Nat) (s : ByteArray) (w : World) (hs : s.size ≤ 1000000) :
    Calls Tryz.prog 87 #[rwV o TA TN TC, .string s] w fun e w' => e = .returned (.string (nmW o s)) ∧ Below w.heap.size w w' := by
  have hB0 := (Below.refl w.heap.size w).alloc (Nat.le_refl _) (.cells #[.slice TA TN TC, .bool o.q, .bool o.ig, .bool o.nu] 70)
  have HA := Lib.hid (fun W => r11_atom s W hs)
  unfold rwV
  cases hq : o.q
  · have HN := Lib.hid (show nmW o s = s by unfold nmW; rw [hq]; rfl)
    rw [hq] at hB0
    clear hq
    go_enter Tryz.func87, Tryz.ntmps87
    go_wp2_with fail
    go_ret
    exact ⟨ret_str HN.out.symm, hB0⟩
  · have HN := Lib.hid (show nmW o s = ⟨(atomN s.data.toList).toArray⟩ by unfold nmW; rw [hq]; rfl)
    rw [hq] at hB0
    clear hq
    go_enter Tryz.func87, Tryz.ntmps87
    go_wp2_with fail
    refine (HA.out _).mono ?_; rintro e w1 ⟨rfl, hB1⟩
    have hB2 := hB0.trans (hB1.mono hB0.size)
    go_wp2_with fail
    go_ret
    exact ⟨ret_str HN.out.symm, hB2⟩
set_option maxHeartbeats 800000 in
theorem r_in (A : Option Addr) (n cap : Nat) (l : List ByteArray) (w : World) (hn : n = l.length) (hm : n ≤ 100000) (hS : StrsAt w A l) (hH : HeadOk A n cap) :
    Calls Tryz.prog 93 #[.slice A n cap] w fun e w' => ∃ v, e = .returned v ∧ Below w.heap.size w w' ∧ OwnS 9 w.heap.size w' v (brk l true) := by
  have H1 := Lib.hid (OwnS.one 9 w (s1 40))
  unfold s1 at H1
  have hB1 := (Below.refl w.heap.size w).alloc (Nat.le_refl _) (.cells #[.string ⟨#[40]⟩] 9)
  have hsz1 := hB1.size
  have HSRC := Lib.hid (strs_src hn (hS.below hB1) hH)
  have HN := Lib.hid hn
  clear hS hH hn
  go_enter Tryz.func93, Tryz.ntmps93
  go_wp2_with (first
    | ((with_reducible refine at_appSS ?_); refine wpList_append_row rfl _ _ 28 9 rfl Tryz.underlying28 _ 1 16 infoStr rfl (by decide) w.heap.size _ _ _ rfl H1.out A n cap _ rfl HSRC.out (strs_one _) (by simp; omega) (by simp; omega) hsz1 w hB1 ?_; intro v2 w2 ho2 hB2 hg2; have HO2 := Lib.hid ho2; have hs2 := hB2.size; clear ho2)
    | ((with_reducible refine at_appSS ?_); refine wpList_append_one rfl _ _ 28 9 rfl Tryz.underlying28 _ 1 16 infoStr rfl (by decide) w.heap.size _ _ _ rfl w2 HO2.out #[.string ⟨#[41]⟩] rfl (by simp [Value.oneCell']) rfl rfl (by simp; omega) (by simp; omega) hs2 ?_; intro v3 w3 ho3 hB3 hg3))
  go_ret
  refine ⟨v3, rfl, hB2.trans hB3, ?_⟩
  unfold OwnS
  have e1 : (brk l true).length = [s1 40].length + n + 1 := by rw [HN.out]; simp [brk]; omega
  have e2 : (brk l true).map Value.string = [s1 40].map Value.string ++ l.map Value.string ++ #[Value.string ⟨#[41]⟩].toList := by simp [brk, s1]
  rw [e1, e2]; exact ho3
/-- The same of a row of the call's own. -/
theorem r_inO {b : Nat} {v : Value} {l : List ByteArray} (w : World) (h : OwnS 9 b w v l) (hm : l.length ≤ 100000) :
    Calls Tryz.prog 93 #[v] w fun e w' => ∃ v', e = .returned v' ∧ Below w.heap.size w w' ∧ OwnS 9 w.heap.size w' v' (brk l true) := by
  obtain ⟨A, n, c, rfl, hn, hs, hh⟩ := h.strN
  exact r_in A n c l w hn (by omega) hs hh
set_option maxHeartbeats 800000 in
theorem r_digit (s : ByteArray) (i : Nat) (w : World) (_hs : s.size ≤ maxLen) (_hi : i ≤ 1) :
    Calls Tryz.prog 176 #[.string s, .int .i64 i] w fun e w' => e = .returned (.bool (digW s i)) ∧ w = w' := by
  unfold maxLen at _hs
  by_cases h : i < s.size
  · have hb := bAt_mk s i h
    have h0 := bAt_lo s.data.toList i
    have h1 := bAt_hi s.data.toList i
    have hlt : decide ((i : Int) < (s.size : Int)) = true := by simp; omega
    have HD := Lib.hid (show digW s i = (decide (48 ≤ bAt s.data.toList i) && decide (bAt s.data.toList i ≤ 57)) by unfold digW; rw [decide_eq_true h, Bool.true_and])
    generalize bAt s.data.toList i = c at *
    go_enter Tryz.func176, Tryz.ntmps176
    go_wp2_with fail
    all_goals go_ret
    all_goals exact ⟨ret_bool (by rw [HD.out]; grind), rfl⟩
  · have HD := Lib.hid (show digW s i = false by unfold digW; rw [decide_eq_false h, Bool.false_and])
    have hlt : decide ((i : Int) < (s.size : Int)) = false := by simp; omega
    go_enter Tryz.func176, Tryz.ntmps176
    go_wp2_with fail
    go_ret
    exact ⟨ret_bool HD.out.symm, rfl⟩
end Go.Proofs.YtgapnafkelokaaaGreatDoor
namespace Hb
open Go Go.RowKit
/-- The reference writer's box. -/
structure RwBox (w : World) (g : Nat) (o : WO) (TA : Option Addr) (TN TC : Nat) : Prop where
  lt : g < w.heap.size
  c0 : w.cell? ⟨g, 0, none⟩ = some (.slice TA TN TC)
  c1 : w.cell? ⟨g, 1, none⟩ = some (.bool o.q)
  c2 : w.cell? ⟨g, 2, none⟩ = some (.bool o.ig)
  c3 : w.cell? ⟨g, 3, none⟩ = some (.bool o.nu)
theorem RwBox.call {w w' : World} {g : Nat} {o : WO} {TA : Option Addr} {TN TC : Nat} (h : RwBox w g o TA TN TC) (hB : Below w.heap.size w w') : RwBox w' g o TA TN TC :=
  ⟨Nat.lt_of_lt_of_le h.lt hB.size, (hB.cell (p := ⟨_, _, none⟩) h.lt).trans h.c0, (hB.cell (p := ⟨_, _, none⟩) h.lt).trans h.c1, (hB.cell (p := ⟨_, _, none⟩) h.lt).trans h.c2, (hB.cell (p := ⟨_, _, none⟩) h.lt).trans h.c3⟩
theorem RwBox.start (w : World) (o : WO) (TA : Option Addr) (TN TC : Nat) (e : TypeId) : RwBox (w.alloc (.cells #[.slice TA TN TC, .bool o.q, .bool o.ig, .bool o.nu] e)) w.heap.size o TA TN TC :=
  ⟨by simp, World.cell?_alloc_new _ _ _ 0, World.cell?_alloc_new _ _ _ 1, World.cell?_alloc_new _ _ _ 2, World.cell?_alloc_new _ _ _ 3⟩
theorem TBx.start (w : World) (t : Tm) (A : Option Addr) (cap LN : Nat) (e : TypeId) (hL : LN = t.args.length) : TBx (w.alloc (.cells #[.int .i64 t.kind, .int .i64 t.num, .string t.name, .slice A LN cap] e)) w.heap.size t A cap :=
  ⟨by simp, World.cell?_alloc_new _ _ _ 0, World.cell?_alloc_new _ _ _ 1, World.cell?_alloc_new _ _ _ 2, by rw [← hL]; exact World.cell?_alloc_new _ _ _ 3⟩
/-- The first two boxes of a method of the reference's writer. -/
structure Rf2 (w0 w : World) (o : WO) (TA : Option Addr) (TN TC : Nat) (t : Tm) (A : Option Addr) (cap : Nat) : Prop where
  bel : Below w0.heap.size w0 w
  wb : RwBox w w0.heap.size o TA TN TC
  tb : TBx w (w0.heap.size + 1) t A cap
theorem Rf2.call {w0 w w' : World} {o : WO} {TA : Option Addr} {TN TC : Nat} {t : Tm} {A : Option Addr} {cap : Nat} (h : Rf2 w0 w o TA TN TC t A cap) (hB : Below w.heap.size w w') : Rf2 w0 w' o TA TN TC t A cap :=
  ⟨h.bel.trans (hB.mono h.bel.size), h.wb.call hB, h.tb.call hB⟩
theorem Rf2.start (w : World) (o : WO) (TA : Option Addr) (TN TC : Nat) (t : Tm) (A : Option Addr) (cap LN : Nat) (e1 e2 : TypeId) (hL : LN = t.args.length) :
    Rf2 w ((w.alloc (.cells #[.slice TA TN TC, .bool o.q, .bool o.ig, .bool o.nu] e1)).alloc (.cells #[.int .i64 t.kind, .int .i64 t.num, .string t.name, .slice A LN cap] e2)) o TA TN TC t A cap := by
  have h1 := RwBox.start w o TA TN TC e1
  have h2 := TBx.start (w.alloc (.cells #[.slice TA TN TC, .bool o.q, .bool o.ig, .bool o.nu] e1)) t A cap LN e2 hL
  rw [show (w.alloc (.cells #[.slice TA TN TC, .bool o.q, .bool o.ig, .bool o.nu] e1)).heap.size = w.heap.size + 1 by simp] at h2
  exact ⟨((Below.refl _ _).alloc (Nat.le_refl _) _).alloc (by simp) _, h1.call ((Below.refl _ _).alloc (Nat.le_refl _) _), h2⟩
def numW (o : WO) (t : Tm) : ByteArray := if isNum o t = true then letterW (t.arg 0).num else ⟨#[]⟩
theorem numW_no {o : WO} {t : Tm} (h : isNum o t = false) : numW o t = ⟨#[]⟩ := by unfold numW; rw [h]; rfl
theorem numW_yes {o : WO} {t : Tm} (h : isNum o t = true) : numW o t = letterW (t.arg 0).num := by unfold numW; rw [if_pos h]
end Hb
namespace Go.Proofs.YtgapnafkelokaaaGreatDoor
open Go.RowKit Hb
set_option maxRecDepth 100000
set_option maxHeartbeats 3200000 in
theorem r_numbered (o : WO) (TA : Option Addr) (TN TC : Nat) (t : Tm) (hfit : (t.args.all nodeFit) = true) (A : Option Addr) (cap : Nat) (w : World) (hT : TmsAt w.heap.size w A t.args) :
    Calls Tryz.prog 88 #[rwV o TA TN TC, tmV t A cap] w fun e w' => e = .returned (.tuple #[.string (numW o t), .bool (isNum o t)]) ∧ Below w.heap.size w w' := by
  obtain ⟨LN, HL⟩ : ∃ LN, Hid (LN = t.args.length) := ⟨_, Lib.hid rfl⟩
  have HX := Lib.hid (Rf2.start w o TA TN TC t A cap LN 70 24 HL.out)
  have HBX := HX.out.bel
  have hsz := HBX.size
  have hbx : Below w.heap.size w ((w.alloc (.cells #[.slice TA TN TC, .bool o.q, .bool o.ig, .bool o.nu] 70)).alloc (.cells #[.int .i64 t.kind, .int .i64 t.num, .string t.name, .slice A LN cap] 24)) := HBX
  have HIN : Hid (isNum o t = (o.nu && (t.name.toList == [36, 86, 65, 82] && (t.args.length == 1 && ((t.arg 0).kind == 1 && decide (0 ≤ (t.arg 0).num)))))) := Lib.hid rfl
  have HGET := Lib.hid (fun (h : LN = 1) => (hT.keep HBX).get 0 (by rw [← HL.out, h]; decide))
  have HARG := Lib.hid (fun (h : LN = 1) => Tm.arg_get t 0 (by rw [← HL.out, h]; decide))
  have HFIT := Lib.hid hfit
  clear hT hfit
  unfold tmV rwV
  rw [← HL.out] at HIN ⊢
  cases hc1 : o.nu
  · have HN := Lib.hid (show isNum o t = false by rw [HIN.out, hc1]; rfl)
    rw [HN.out, numW_no HN.out]
    rw [hc1] at hbx
    clear HIN HX HBX hsz HGET HARG
    go_enter Tryz.func88, Tryz.ntmps88
    go_wp2_with fail
    refine bodyPost_ret (v := .tuple #[.string ⟨#[]⟩, .bool false]) (by simp [results, Tryz.results88, go_sem]) rfl ⟨rfl, ?_⟩
    exact hbx
  · cases hc2 : (t.name.toList == [36, 86, 65, 82])
    · have hn2 : ¬ t.name.toList = [36, 86, 65, 82] := by simpa using hc2
      have HN := Lib.hid (show isNum o t = false by rw [HIN.out, hc1, hc2]; rfl)
      rw [HN.out, numW_no HN.out]
      rw [hc1] at hbx
      clear HIN HX HBX hsz HGET HARG
      go_enter Tryz.func88, Tryz.ntmps88
      go_wp2_with fail
      refine bodyPost_ret (v := .tuple #[.string ⟨#[]⟩, .bool false]) (by simp [results, Tryz.results88, go_sem]) rfl ⟨rfl, ?_⟩
      exact hbx
    · have hn2 : t.name.toList = [36, 86, 65, 82] := by simpa using hc2
      by_cases hl : LN = 1
      · subst hl
        have hl1 : 0 < t.args.length := by have := HL.out; omega
        obtain ⟨b, off, A', cap', rfl, hb, c0, c1, c2, c3, hs⟩ := HGET.out rfl
        have HAR := Lib.hid (HARG.out rfl)
        rw [HAR.out] at HIN
        have hfx : nodeFit t.args[0] = true := List.all_eq_true.1 HFIT.out _ (List.getElem_mem _)
        obtain ⟨hf0, hf1⟩ := (nodeFit_iff _).1 hfx
        rw [Nat.zero_mul, Nat.add_zero] at c0 c1 c2 c3
        have HRN : Hid (isNum o t = true → numW o t = letterW t.args[0].num) := Lib.hid (fun h => by rw [numW_yes h, HAR.out])
        clear hs hfx HGET HARG HAR HFIT c2 c3
        generalize t.args[0] = x at *
        cases hk : (x.kind == 1)
        · have hk2 : ¬ x.kind = 1 := by simpa using hk
          have HN := Lib.hid (show isNum o t = false by rw [HIN.out, hc1, hc2, hk]; rfl)
          rw [HN.out, numW_no HN.out]
          rw [hc1] at hbx c0 c1
          clear HIN HX HBX hsz HRN
          go_enter Tryz.func88, Tryz.ntmps88
          go_wp2_with fail
          refine bodyPost_ret (v := .tuple #[.string ⟨#[]⟩, .bool false]) (by simp [results, Tryz.results88, go_sem]) rfl ⟨rfl, ?_⟩
          exact hbx
        · have hk2 : x.kind = 1 := by simpa using hk
          rw [hk2] at c0
          by_cases hnn : 0 ≤ x.num
          · have HNY := Lib.hid (show isNum o t = true by rw [HIN.out, hc1, hc2, hk, decide_eq_true hnn]; rfl)
            rw [HNY.out, HRN.out HNY.out]
            generalize x.num = n at *
            have hd : ¬ n < 0 := by omega
            have hm : n.tmod 26 = n % 26 := Int.tmod_eq_emod_of_nonneg hnn
            have hq : n.tdiv 26 = n / 26 := Int.tdiv_eq_ediv_of_nonneg hnn
            have hm0 : 0 ≤ n % 26 := by omega
            have hm1 : n % 26 < 26 := by omega
            rw [hc1] at hbx c0 c1
            have hHX := HX.out
            rw [hc1] at hHX
            clear HIN HNY HX hsz HRN
            have hcv := conv_new1 (P := Tryz.prog) 75 9 5 Tryz.underlying75 Tryz.underlying5 Tryz.underlying9 (65 + n % 26) (by omega) (by omega) ((w.alloc (.cells #[.slice TA TN TC, .bool o.q, .bool o.ig, .bool true] 70)).alloc (.cells #[.int .i64 t.kind, .int .i64 t.num, .string t.name, .slice (some ⟨b, off, none⟩) 1 cap] 24))
            have hsz3 : ((w.alloc (.cells #[.slice TA TN TC, .bool o.q, .bool o.ig, .bool true] 70)).alloc (.cells #[.int .i64 t.kind, .int .i64 t.num, .string t.name, .slice (some ⟨b, off, none⟩) 1 cap] 24)).heap.size = w.heap.size + 1 + 1 := by simp
            rw [hsz3] at hcv
            have HLT := Lib.hid (letterW_eq n hnn)
            obtain ⟨c, hce⟩ : ∃ c : ByteArray, c = ⟨#[(65 + n % 26).toNat.toUInt8]⟩ := ⟨_, rfl⟩
            have hcs : c.size = 1 := by rw [hce]; rfl
            rw [← hce] at hcv HLT
            clear hce
            have hBB := hHX.bel.alloc hHX.bel.size (.cells #[.int .u8 (65 + n % 26)] 5)
            by_cases hlt : n < 26
            · have HL2 := Lib.hid (show letterW n = c by rw [HLT.out, if_pos hlt])
              clear hHX
              go_enter Tryz.func88, Tryz.ntmps88
              go_wp2_with fail
              refine bodyPost_ret (v := .tuple #[.string c, .bool true]) (by simp [results, Tryz.results88, go_sem]) rfl ⟨by rw [HL2.out], hBB⟩
            · have hge : 26 ≤ n := by omega
              have HL2 := Lib.hid (show letterW n = c ++ fmI (n / 26) by rw [HLT.out, if_neg hlt])
              have hq0 : -9223372036854775808 ≤ n / 26 := by omega
              have hq1 : n / 26 ≤ 9223372036854775807 := by omega
              have hfl := fmI_size (n / 26) hq0 hq1
              have HF := Lib.hid (fun W => r2_text (n / 26) hq0 hq1 W)
              clear hHX hq0 hq1
              go_enter Tryz.func88, Tryz.ntmps88
              go_wp2_with fail
              refine (HF.out _).mono ?_; rintro e w1 ⟨rfl, hB1⟩
              have hb2 := hBB.trans (hB1.mono hBB.size)
              go_wp2_with fail
              refine bodyPost_ret (v := .tuple #[.string (c ++ fmI (n / 26)), .bool true]) (by simp [results, Tryz.results88, go_sem]) rfl ⟨by rw [HL2.out], hb2⟩
          · have hnn2 : x.num < 0 := by omega
            have HN := Lib.hid (show isNum o t = false by rw [HIN.out, hc1, hc2, hk, decide_eq_false hnn]; rfl)
            rw [HN.out, numW_no HN.out]
            rw [hc1] at hbx c0 c1
            clear HIN HX HBX hsz HRN
            go_enter Tryz.func88, Tryz.ntmps88
            go_wp2_with fail
            refine bodyPost_ret (v := .tuple #[.string ⟨#[]⟩, .bool false]) (by simp [results, Tryz.results88, go_sem]) rfl ⟨rfl, ?_⟩
            exact hbx
      · have hl2 : (LN == 1) = false := by simpa using hl
        have HN := Lib.hid (show isNum o t = false by rw [HIN.out, hc1, hc2, hl2]; rfl)
        rw [HN.out, numW_no HN.out]
        rw [hc1] at hbx
        clear HIN HX HBX hsz HGET HARG
        go_enter Tryz.func88, Tryz.ntmps88
        go_wp2_with fail
        refine bodyPost_ret (v := .tuple #[.string ⟨#[]⟩, .bool false]) (by simp [results, Tryz.results88, go_sem]) rfl ⟨rfl, ?_⟩
        exact hbx
end Go.Proofs.YtgapnafkelokaaaGreatDoor
