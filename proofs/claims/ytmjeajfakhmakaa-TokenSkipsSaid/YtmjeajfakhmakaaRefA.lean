/- Contracts of layer 9's reference: token, next. -/
import Derived.Test.YtmjeajfakhmakaaRef8
import Derived.Test.YtmjeajfakhmakaaRef9
namespace Go.Proofs.Ytmjeajfakhmakaa
open Go.RowKit Hb
set_option maxRecDepth 100000

theorem cls_of (c k : Int) (h : cls c = k) (j : Int) (hj : ¬k = j) : (cls c == j) = false := by rw [h]; simpa using hj
theorem ne_of_cls (c k d : Int) (h : cls c = k) (hd : ¬cls d = k) : (c == d) = false := by
  simp only [beq_eq_false_iff_ne, ne_eq]
  intro e; rw [e] at h; exact hd h
theorem take_one (M : List UInt8) (p : Nat) (hp : p < M.length) : (M.drop p).take 1 = [(rawAt M p).toNat.toUInt8] := by
  have := take_drop_snoc M p 0 (by omega)
  rw [Nat.zero_add] at this
  rw [this, Nat.add_zero, ← rawAt_in M p hp]; simp
theorem named_no (kind : Int) (t : List UInt8) (a e : Int) (h : ¬100 < t.length) : namedR kind t a e = ⟨kind, t, 0, a, e, 0⟩ := by unfold namedR; rw [if_neg h]
theorem named_yes (kind : Int) (t : List UInt8) (a e : Int) (h : 100 < t.length) : namedR kind t a e = errR 2 := by unfold namedR; rw [if_pos h]

theorem txt_token (s : ByteArray) (tab : Int → Int) (ht : TabOk tab) (p : Nat) (hp : p < s.size) (hsz : s.size ≤ 16384) (hgap : ¬(rawAt (cvt tab s.data.toList) p = 47 ∧ rawAt (cvt tab s.data.toList) (p + 1) = 42)) (w : World) :
    Calls Try.prog 44 #[txtV s tab, .int .i64 p] w fun e w' => Gives (tokR (cvt tab s.data.toList) s.data.toList p) e ∧ Below w.heap.size w w' := by
  have hML : p < (cvt tab s.data.toList).length := by rw [cvt_len, size_data]; exact hp
  by_cases k2 : cls (rawAt (cvt tab s.data.toList) p) = 2
  · have HK : tokR (cvt tab s.data.toList) s.data.toList p = namedR 1 (((cvt tab s.data.toList).drop p).take (span alnum ((cvt tab s.data.toList).drop p))) p (p + span alnum ((cvt tab s.data.toList).drop p)) := by
      unfold tokR; rw [if_neg hgap, if_pos (.inl k2)]; unfold wordR wordKind; rw [if_neg (by omega)]
    rw [HK]
    by_cases hl : 100 < (((cvt tab s.data.toList).drop p).take (span alnum ((cvt tab s.data.toList).drop p))).length
    · rw [named_yes _ _ _ _ hl]
      exact token_small_long s tab ht p hp hsz (ne_of_cls _ 2 46 k2 (by decide +kernel)) (by simp [k2]) hl w
    · rw [named_no _ _ _ _ hl]
      exact token_small s tab ht p hp hsz (ne_of_cls _ 2 46 k2 (by decide +kernel)) (by simp [k2]) hl w
  by_cases k3 : cls (rawAt (cvt tab s.data.toList) p) = 3
  · have HK : tokR (cvt tab s.data.toList) s.data.toList p = namedR 3 (((cvt tab s.data.toList).drop p).take (span alnum ((cvt tab s.data.toList).drop p))) p (p + span alnum ((cvt tab s.data.toList).drop p)) := by
      unfold tokR; rw [if_neg hgap, if_pos (.inr k3)]; unfold wordR wordKind; rw [if_pos k3]
    rw [HK]
    by_cases hl : 100 < (((cvt tab s.data.toList).drop p).take (span alnum ((cvt tab s.data.toList).drop p))).length
    · rw [named_yes _ _ _ _ hl]
      exact token_capital_long s tab ht p hp hsz (ne_of_cls _ 3 46 k3 (by decide +kernel)) (by simp [k3]) (by simp [k3]) hl w
    · rw [named_no _ _ _ _ hl]
      exact token_capital s tab ht p hp hsz (ne_of_cls _ 3 46 k3 (by decide +kernel)) (by simp [k3]) (by simp [k3]) hl w
  by_cases k4 : cls (rawAt (cvt tab s.data.toList) p) = 4
  · have HK : tokR (cvt tab s.data.toList) s.data.toList p = numR (cvt tab s.data.toList) s.data.toList p := by
      unfold tokR; rw [if_neg hgap, if_neg (by omega), if_pos k4]
    rw [HK]
    cases hr : ((numR (cvt tab s.data.toList) s.data.toList p).err == 0) with
    | true => exact token_int_ok s tab ht p hp hsz (ne_of_cls _ 4 46 k4 (by decide +kernel)) (by simp [k4]) (by simp [k4]) (by simp [k4]) (by simp [k4]) hr w
    | false => exact token_int_no s tab ht p hp hsz (ne_of_cls _ 4 46 k4 (by decide +kernel)) (by simp [k4]) (by simp [k4]) (by simp [k4]) (by simp [k4]) hr w
  by_cases k5 : cls (rawAt (cvt tab s.data.toList) p) = 5
  · have HK : tokR (cvt tab s.data.toList) s.data.toList p = symR (cvt tab s.data.toList) p := by
      unfold tokR; rw [if_neg hgap, if_neg (by omega), if_neg k4, if_pos k5]
    rw [HK]
    by_cases c46 : rawAt (cvt tab s.data.toList) p = 46
    · have b46 : (rawAt (cvt tab s.data.toList) p == 46) = true := by simp [c46]
      cases he : endNext (rawAt (cvt tab s.data.toList) (p + 1)) with
      | true =>
        have HS : symR (cvt tab s.data.toList) p = ⟨7, [(rawAt (cvt tab s.data.toList) p).toNat.toUInt8], 0, p, p + 1, 0⟩ := by
          unfold symR; rw [if_pos ⟨c46, he⟩, c46]; rfl
        rw [HS]
        unfold endNext at he
        cases d1 : decide (rawAt (cvt tab s.data.toList) (p + 1) < 0) with
        | true => exact token_end1 s tab ht p hp hsz b46 d1 w
        | false =>
          cases d2 : (rawAt (cvt tab s.data.toList) (p + 1) == 37) with
          | true => exact token_end2 s tab ht p hp hsz b46 d1 d2 w
          | false => exact token_end3 s tab ht p hp hsz b46 d1 d2 (by rw [d1, d2] at he; simpa using he) w
      | false =>
        have HS : symR (cvt tab s.data.toList) p = namedR 1 (((cvt tab s.data.toList).drop p).take (span isSym ((cvt tab s.data.toList).drop p))) p (p + span isSym ((cvt tab s.data.toList).drop p)) := by
          unfold symR; rw [if_neg (fun h => by rw [he] at h; exact absurd h.2 (by decide))]
        rw [HS]
        unfold endNext at he
        simp only [Bool.or_eq_false_iff] at he
        by_cases hl : 100 < (((cvt tab s.data.toList).drop p).take (span isSym ((cvt tab s.data.toList).drop p))).length
        · rw [named_yes _ _ _ _ hl]
          exact token_dot_long s tab ht p hp hsz b46 (by simp [k5]) (by simp [k5]) (by simp [k5]) he.1 he.2.1 he.2.2 hl w
        · rw [named_no _ _ _ _ hl]
          exact token_dot s tab ht p hp hsz b46 (by simp [k5]) (by simp [k5]) (by simp [k5]) he.1 he.2.1 he.2.2 hl w
    · have b46 : (rawAt (cvt tab s.data.toList) p == 46) = false := by simp [c46]
      have HS : symR (cvt tab s.data.toList) p = namedR 1 (((cvt tab s.data.toList).drop p).take (span isSym ((cvt tab s.data.toList).drop p))) p (p + span isSym ((cvt tab s.data.toList).drop p)) := by
        unfold symR; rw [if_neg (fun h => c46 h.1)]
      rw [HS]
      by_cases hl : 100 < (((cvt tab s.data.toList).drop p).take (span isSym ((cvt tab s.data.toList).drop p))).length
      · rw [named_yes _ _ _ _ hl]
        exact token_sym_long s tab ht p hp hsz b46 (by simp [k5]) (by simp [k5]) (by simp [k5]) hl w
      · rw [named_no _ _ _ _ hl]
        exact token_sym s tab ht p hp hsz b46 (by simp [k5]) (by simp [k5]) (by simp [k5]) hl w
  have b2 : (cls (rawAt (cvt tab s.data.toList) p) == 2) = false := by simp [k2]
  have b3 : (cls (rawAt (cvt tab s.data.toList) p) == 3) = false := by simp [k3]
  have b4 : (cls (rawAt (cvt tab s.data.toList) p) == 4) = false := by simp [k4]
  have b5 : (cls (rawAt (cvt tab s.data.toList) p) == 5) = false := by simp [k5]
  have b46 : (rawAt (cvt tab s.data.toList) p == 46) = false := by
    simp only [beq_eq_false_iff_ne, ne_eq]; intro e; rw [e] at k5; exact k5 (by decide +kernel)
  by_cases k6 : cls (rawAt (cvt tab s.data.toList) p) = 6
  · have HK : tokR (cvt tab s.data.toList) s.data.toList p = ⟨soloKind (rawAt (cvt tab s.data.toList) p), [(rawAt (cvt tab s.data.toList) p).toNat.toUInt8], 0, p, p + 1, 0⟩ := by
      unfold tokR; rw [if_neg hgap, if_neg (by omega), if_neg k4, if_neg k5, if_pos k6]; unfold soloR; rw [take_one _ _ hML, named_no _ _ _ _ (by simp)]
    rw [HK]
    unfold soloKind
    by_cases c33 : rawAt (cvt tab s.data.toList) p = 33
    · rw [if_pos (.inl c33)]
      exact token_cut s tab ht p hp hsz b46 b2 b3 b5 b4 (by simp [c33]) w
    have b33 : (rawAt (cvt tab s.data.toList) p == 33) = false := by simp [c33]
    by_cases c59 : rawAt (cvt tab s.data.toList) p = 59
    · rw [if_pos (.inr c59)]
      exact token_semi s tab ht p hp hsz b46 b2 b3 b5 b4 b33 (by simp [c59]) w
    · rw [if_neg (by omega)]
      exact token_solo s tab ht p hp hsz b46 b2 b3 b5 b4 b33 (by simp [c59]) (by simp [k6]) w
  have b6 : (cls (rawAt (cvt tab s.data.toList) p) == 6) = false := by simp [k6]
  have b33 : (rawAt (cvt tab s.data.toList) p == 33) = false := by
    simp only [beq_eq_false_iff_ne, ne_eq]; intro e; rw [e] at k6; exact k6 (by decide +kernel)
  have b59 : (rawAt (cvt tab s.data.toList) p == 59) = false := by
    simp only [beq_eq_false_iff_ne, ne_eq]; intro e; rw [e] at k6; exact k6 (by decide +kernel)
  by_cases c39 : rawAt (cvt tab s.data.toList) p = 39
  · have HK : tokR (cvt tab s.data.toList) s.data.toList p = nmRes p (item (s.data.toList.drop (p + 1)) 39) := by
      unfold tokR; rw [if_neg hgap, if_neg (by omega), if_neg k4, if_neg k5, if_neg k6, if_pos (by rw [c39]; decide +kernel)]; unfold quoteR; rw [if_neg (by omega), if_pos c39]
    have b39 : (rawAt (cvt tab s.data.toList) p == 39) = true := by simp [c39]
    rw [HK]
    cases hi : item (s.data.toList.drop (p + 1)) 39 with
    | none => exact token_q39_no s tab ht p hp hsz b46 b2 b3 b5 b4 b33 b59 b6 b39 (by rw [c39]; unfold itmK; rw [hi]; rfl) w
    | some x =>
      have ek : itmK s.data.toList p (rawAt (cvt tab s.data.toList) p) = true := by rw [c39]; unfold itmK; rw [hi]; rfl
      have et : itmT s.data.toList p (rawAt (cvt tab s.data.toList) p) = x.1 := by rw [c39]; unfold itmT; rw [hi]
      have ee : itmE s.data.toList p (rawAt (cvt tab s.data.toList) p) = p + 1 + x.2 + 1 := by rw [c39]; unfold itmE; rw [hi]
      have HN : nmRes p (some x) = namedR 2 x.1 p (p + 1 + x.2 + 1) := rfl
      rw [HN]
      by_cases hl : 100 < x.1.length
      · rw [named_yes _ _ _ _ hl]
        exact token_q39_long s tab ht p hp hsz b46 b2 b3 b5 b4 b33 b59 b6 b39 ek (by rw [et]; exact hl) w
      · rw [named_no _ _ _ _ hl]
        have := token_q39_ok s tab ht p hp hsz b46 b2 b3 b5 b4 b33 b59 b6 b39 ek (by rw [et]; exact hl) w
        rw [et, ee] at this
        simpa using this
  have b39 : (rawAt (cvt tab s.data.toList) p == 39) = false := by simp [c39]
  by_cases c34 : rawAt (cvt tab s.data.toList) p = 34
  · have HK : tokR (cvt tab s.data.toList) s.data.toList p = strRes p (item (s.data.toList.drop (p + 1)) 34) := by
      unfold tokR; rw [if_neg hgap, if_neg (by omega), if_neg k4, if_neg k5, if_neg k6, if_pos (by rw [c34]; decide +kernel)]; unfold quoteR; rw [if_pos c34]
    have b34 : (rawAt (cvt tab s.data.toList) p == 34) = true := by simp [c34]
    rw [HK]
    cases hi : item (s.data.toList.drop (p + 1)) 34 with
    | none => exact token_q34_no s tab ht p hp hsz b46 b2 b3 b5 b4 b33 b59 b6 b39 b34 (by rw [c34]; unfold itmK; rw [hi]; rfl) w
    | some x =>
      have ek : itmK s.data.toList p (rawAt (cvt tab s.data.toList) p) = true := by rw [c34]; unfold itmK; rw [hi]; rfl
      have et : itmT s.data.toList p (rawAt (cvt tab s.data.toList) p) = x.1 := by rw [c34]; unfold itmT; rw [hi]
      have ee : itmE s.data.toList p (rawAt (cvt tab s.data.toList) p) = p + 1 + x.2 + 1 := by rw [c34]; unfold itmE; rw [hi]
      have HN : strRes p (some x) = ⟨5, x.1, 0, p, p + 1 + x.2 + 1, 0⟩ := rfl
      rw [HN]
      by_cases hl : 100 < x.1.length
      · have := token_q34_long s tab ht p hp hsz b46 b2 b3 b5 b4 b33 b59 b6 b39 b34 ek (by rw [et]; exact hl) w
        rw [et, ee] at this
        simpa using this
      · have := token_q34_ok s tab ht p hp hsz b46 b2 b3 b5 b4 b33 b59 b6 b39 b34 ek (by rw [et]; exact hl) w
        rw [et, ee] at this
        simpa using this
  have b34 : (rawAt (cvt tab s.data.toList) p == 34) = false := by simp [c34]
  have HK : tokR (cvt tab s.data.toList) s.data.toList p = errR 7 := by
    unfold tokR; rw [if_neg hgap, if_neg (by omega), if_neg k4, if_neg k5, if_neg k6]
    unfold quoteR; rw [if_neg c34, if_neg c39]; split <;> rfl
  rw [HK]
  exact token_none s tab ht p hp hsz b46 b2 b3 b5 b4 b33 b59 b6 b39 b34 w
end Go.Proofs.Ytmjeajfakhmakaa
