/- The law SpellJoins. -/
import Derived.Test.YtmjeajfakhmakaaDoorSpellA
import Derived.Test.YtmjeajfakhmakaaDoorOne
import Derived.Test.YtmjeajfakhmakaaDoorTopJ
import Derived.Test.YtmjeajfakhmakaaDoorSame
namespace Hb
open Go Go.RowKit
theorem own_diff {w : World} {base e size : Nat} {v : Value} {n : Nat} {xs : List Value} {base' e' size' : Nat} {v' : Value} {n' : Nat} {xs' : List Value} (h : w.ownsRow base e size v n xs) (h' : w.ownsRow base' e' size' v' n' xs') (hne : e ≠ e') : v.ownBlock = none ∨ v.ownBlock ≠ v'.ownBlock := by
  rcases h.2 with ⟨rfl, _⟩ | ⟨g, cap, cur, rfl, _, hh, _⟩
  · exact .inl rfl
  · refine .inr fun heq => ?_
    rcases h'.2 with ⟨rfl, _⟩ | ⟨g', cap', cur', rfl, _, hh', _⟩
    · simp [Value.ownBlock] at heq
    · have : g = g' := by simpa [Value.ownBlock] using heq
      subst this
      rw [hh] at hh'
      injection hh' with hh'
      injection hh' with _ h2 _
      exact hne h2
theorem bts_app (a b : List ByteArray) : bts (a ++ b) = bts a ++ bts b := by simp [bts]
theorem app_two (a : List UInt8) : ((⟨a.toArray⟩ : ByteArray) ++ ⟨#[32, 46]⟩).data.toList = a ++ [32, 46] := by simp
end Hb
namespace Go.Proofs.YtmjeajfakhmakaaDoor
open Go.RowKit Hb
set_option maxRecDepth 100000

theorem at_appSS {ops : Array Oper} {rest : List Oper} {a : Act} {Q : Exit → Act → World → Prop} {w : World} {d t p f x g} (h : wpList Tryd.prog ops Q (⟨d, .call { callee := .builtin .append, args := x, argTypes := #[26, 26] }, t, p, f, g⟩ :: rest) a w) : wpList Tryd.prog ops Q (⟨d, .call { callee := .builtin .append, args := x, argTypes := #[26, 26] }, t, p, f, g⟩ :: rest) a w := h
theorem at_appTT {ops : Array Oper} {rest : List Oper} {a : Act} {Q : Exit → Act → World → Prop} {w : World} {d t p f x g} (h : wpList Tryd.prog ops Q (⟨d, .call { callee := .builtin .append, args := x, argTypes := #[40, 40] }, t, p, f, g⟩ :: rest) a w) : wpList Tryd.prog ops Q (⟨d, .call { callee := .builtin .append, args := x, argTypes := #[40, 40] }, t, p, f, g⟩ :: rest) a w := h
def readOf (s : ByteArray) : NextR := nextTop s.data.toList 0 []
theorem wpList_append_str {w : World} {ops : Array Oper} {rest : List Oper} {o : Oper} {a : Act} {Q : Exit → Act → World → Prop} (hgd : o.guard = none) (s x : Operand)
    (ho : o.op = .call { callee := .builtin .append, args := #[s, x], argTypes := #[26, 26] })
    (base : Nat) (v : Value) (l : List ByteArray) (hs : a.eval s = v) (W : World) (hown : W.ownsRow base 9 1 v l.length (l.map Value.string)) (c : ByteArray)
    (hw : w = W.alloc (.cells #[.string c] 9)) (hx : a.eval x = .slice (some ⟨W.heap.size, 0, none⟩) 1 1) (h63 : l.length ≤ 70368744177) (hbase : base ≤ W.heap.size)
    (h : ∀ v' w', w'.ownsRow base 9 1 v' (l ++ [c]).length ((l ++ [c]).map Value.string) → Below base W w' → w.grownBy w' v.ownBlock → wpList Tryd.prog ops Q rest (a.put o.dst v') w') : wpList Tryd.prog ops Q (o :: rest) a w := by
  refine wpList_append_one hgd s x 26 9 ho Tryd.underlying26 _ 1 16 infoStr rfl (by decide) base v l.length _ hs W hown #[.string c] rfl (by simp [Value.oneCell']) hw hx (by omega) (by omega) hbase fun v' w' ho' hb' hg' => h v' w' ?_ hb' hg'
  rw [List.length_append, List.map_append]
  exact ho'
theorem wpList_append_tok {w : World} {ops : Array Oper} {rest : List Oper} {o : Oper} {a : Act} {Q : Exit → Act → World → Prop} (hgd : o.guard = none) (s x : Operand)
    (ho : o.op = .call { callee := .builtin .append, args := #[s, x], argTypes := #[40, 40] })
    (base : Nat) (v : Value) (m : Nat) (l : List NextR) (hs : a.eval s = v) (W : World) (hown : W.ownsRow base 36 6 v m (toksCells l)) (r : NextR)
    (hw : w = W.alloc (.cells #[.int .i64 r.r.kind, .string ⟨r.r.text.toArray⟩, .int .i64 r.r.n, .int .i64 r.r.at_, .int .i64 r.r.end_, .bool r.lay] 36)) (hx : a.eval x = .slice (some ⟨W.heap.size, 0, none⟩) 1 1) (h63 : m ≤ 70368744) (hbase : base ≤ W.heap.size)
    (h : ∀ v' w', w'.ownsRow base 36 6 v' (m + 1) (toksCells (l ++ [r])) → Below base W w' → w.grownBy w' v.ownBlock → wpList Tryd.prog ops Q rest (a.put o.dst v') w') : wpList Tryd.prog ops Q (o :: rest) a w := by
  refine wpList_append_one hgd s x 40 36 ho Tryd.underlying40 _ 6 56 infoTok rfl (by decide) base v m _ hs W hown #[.int .i64 r.r.kind, .string ⟨r.r.text.toArray⟩, .int .i64 r.r.n, .int .i64 r.r.at_, .int .i64 r.r.end_, .bool r.lay] rfl (by simp [Value.oneCell']) hw hx (by omega) (by omega) hbase fun v' w' ho' hb' hg' => h v' w' ?_ hb' hg'
  rw [toksCells_snoc]
  exact ho'
/-- The helper's answer, cell by cell. -/
theorem v_one {w0 w : World} (s : ByteArray) (r : NextR) (ok : Bool) (hr : readOf s = r) (ho : oneB r s.data.toList = ok) (hs : s.size ≤ 16384) (hB : Below w0.heap.size w0 w) :
    Calls Tryd.prog 29 #[.string s] w fun e w' => e = .returned (.tuple #[.agg #[.int .i64 r.r.kind, .string ⟨r.r.text.toArray⟩, .int .i64 r.r.n, .int .i64 r.r.at_, .int .i64 r.r.end_, .bool r.lay], .bool ok]) ∧ Below w0.heap.size w0 w' := by
  have := carry hB (law_one s w hs)
  have e : nextTop s.data.toList 0 [] = r := hr
  rw [e, ho] at this
  exact this

/-- What All gives at the joined texts of tokens. -/
theorem all_spell (T : List ByteArray) (hA : ∀ s ∈ T, oneB (readOf s) s.data.toList = true ∧ s.size ≤ 200) (hn : T.length ≤ 50) (q : ByteArray) (hq : (⟨(joinN (bts T)).toArray⟩ : ByteArray) = q) (w : World) :
    Calls Tryd.prog 28 #[.string (q ++ ⟨#[32, 46]⟩), .int .i64 0, .slice none 0 0] w fun e w' => ∃ A cap, ∃ l : List NextR, (e = .returned (.tuple #[.slice A (T.length + 1) cap, .int .i64 0, .int .i64 0]) ∧ Hid (l.length = T.length + 1 ∧ ∀ (j : Nat) (h : j < T.length), ∃ r : NextR, l[j]? = some r ∧ r.r.kind = (readOf T[j]).r.kind ∧ r.r.text = (readOf T[j]).r.text ∧ r.r.n = (readOf T[j]).r.n)) ∧ Below w.heap.size w w' ∧ Toks w' A l := by
  have hone : ∀ s ∈ T, TokText s.data.toList ∧ (readOf s).r = tokR s.data.toList s.data.toList 0 := fun s hs => one_text _ (by have := (hA s hs).2; rw [← size_data] at this; omega) (hA s hs).1
  have hTT : ∀ t ∈ bts T, TokText t := fun t ht => by
    unfold bts at ht
    rw [List.mem_map] at ht
    obtain ⟨s, hs, rfl⟩ := ht
    exact (hone s hs).1
  have hlen := joinN_len 200 T (fun s hs => (hA s hs).2)
  have h50 : T.length * (200 + 1) ≤ 50 * 201 := Nat.mul_le_mul_right _ hn
  have hTop := top_join (bts T) hTT (by omega)
  have hd : (q ++ ⟨#[32, 46]⟩).data.toList = joinN (bts T) ++ [32, 46] := by rw [← hq]; exact app_two _
  obtain ⟨l, hl2⟩ : ∃ l, l = toksOf 0 [] (bts T) ++ [endT (joinN (bts T)).length] := ⟨_, rfl⟩
  have hl1 : l.length = T.length + 1 := by rw [hl2, List.length_append, toksOf_len, bts_len]; simp
  have hlj : ∀ (j : Nat) (h : j < T.length), ∃ r : NextR, l[j]? = some r ∧ r.r.kind = (readOf T[j]).r.kind ∧ r.r.text = (readOf T[j]).r.text ∧ r.r.n = (readOf T[j]).r.n := fun j h => by
    have hjb : j < (bts T).length := by rw [bts_len]; exact h
    obtain ⟨b, y, hb⟩ := toksOf_at (bts T) 0 [] hTT j hjb
    have h1 := (hone T[j] (List.getElem_mem h)).2
    have h2 : (readOf T[j]).r.err = 0 := by
      have := (hA T[j] (List.getElem_mem h)).1
      unfold oneB at this
      simp only [Bool.and_eq_true, decide_eq_true_iff] at this
      exact this.1
    rw [bts_get T j h] at hb
    rw [← h1, shL_ok0 _ _ h2] at hb
    have hc := (List.getElem?_append_left (l₂ := [endT (joinN (bts T)).length]) (by rw [toksOf_len]; exact hjb)).trans hb
    rw [hl2]
    exact ⟨_, hc, rfl, rfl, rfl⟩
  rw [← hl2] at hTop
  clear hl2
  have H := token_all (q ++ ⟨#[32, 46]⟩) 0 none 0 0 [] w rfl (by decide) (by rw [← size_data, hd]; unfold maxLen; simp; omega) (Pairs.nil w none)
  rw [hd, hTop] at H
  refine H.mono ?_
  rintro e w' ⟨v, rfl, hB, ho⟩
  obtain ⟨A, cap, hv, ht⟩ := toks_own (l := l) ho
  refine ⟨A, cap, l, ⟨?_, ⟨hl1, hlj⟩⟩, hB, ht⟩
  rw [hv, hl1]

set_option maxHeartbeats 3200000 in
theorem law_spellJoins (A : Option Addr) (n cap : Nat) (l : List ByteArray) (w : World) (hn : n = l.length) (_hm : n ≤ maxLen) (hp : StrsAt w A l) (_hh : HeadOk A n cap) (_hz : ∀ s ∈ l, s.size ≤ maxLen) (hT : Tab15 w) :
    Calls Tryd.prog 10 #[.slice A n cap] w fun e w' => e = .returned (.bool true) ∧ Below w.heap.size w w' := by
  have HT := Lib.hid hT
  clear hT
  by_cases c1 : 50 < n
  · have b1 : decide ((50 : Int) < n) = true := by simp; omega
    clear c1 hn hp _hh _hz
    go_enter Tryd.func10, Tryd.ntmps10
    go_wp2_with fail
    refine (law_awake11 _ HT.out).mono ?_; rintro e w1 ⟨rfl, hB1⟩
    go_wp2_with fail
    go_ret
    exact ⟨rfl, hB1⟩
  have b1 : decide ((50 : Int) < n) = false := by simp; omega
  have hn50 : n ≤ 50 := by omega
  have HN := Lib.hid hn
  have HP := Lib.hid hp
  clear hn hp c1 _hh _hz
  go_enter Tryd.func10, Tryd.ntmps10
  go_wp2_with fail
  go_loopw [3, 4, 5] (fun vt vw i wr => ∃ k : Nat, ∃ T : List ByteArray, i = .int .i64 k ∧ k ≤ n ∧ T.length ≤ k ∧ Below w.heap.size w wr ∧ wr.ownsRow w.heap.size 9 1 vt T.length (T.map Value.string) ∧ wr.ownsRow w.heap.size 36 6 vw T.length (toksCells (T.map readOf)) ∧ Hid (∀ s ∈ T, oneB (readOf s) s.data.toList = true ∧ s.size ≤ 200)) (fun _ _ i _ => n - (intOf i).toNat)
  case atStart => exact ⟨0, [], rfl, Nat.zero_le _, Nat.le_refl _, Below.refl _ _, World.ownsRow_nil _ _ _ _, World.ownsRow_nil _ _ _ _, fun s h => absurd h (by simp)⟩
  case round =>
    obtain ⟨k, T, rfl, hk, hTk, hB, hownT, hownW, HA⟩ := hrel
    have hbs := hB.size
    obtain ⟨At, ct, rfl⟩ := own_slice hownT
    obtain ⟨Aw, cw, rfl⟩ := own_slice hownW
    by_cases hlt : k < n
    · have hkl : k < l.length := by have := HN.out; omega
      obtain ⟨g, off, rfl, hg, cc⟩ := HP.out k hkl
      have cc1 := (hB.cell (p := ⟨g, off + k, none⟩) hg).trans cc
      generalize l[k] = s at *
      by_cases c2 : 200 < s.size
      · have b2 : decide ((200 : Int) < s.size) = true := by simp; omega
        clear c2
        go_wp2_with fail
        refine (carry (w0 := w) hB (law_awake11 _ (HT.out.below hB))).mono ?_; rintro e w2 ⟨rfl, hB2⟩
        go_wp2_with fail
        go_ret
        exact ⟨rfl, hB2⟩
      · have b2 : decide ((200 : Int) < s.size) = false := by simp; omega
        have hs2 : s.size ≤ 200 := by omega
        clear c2
        generalize hr : readOf s = r at *
        have HR := Lib.hid hr
        clear hr
        cases hok : oneB r s.data.toList
        · have Hok := Lib.hid hok
          have HO := Lib.hid (law_one s wr (by omega))
          rw [show nextTop s.data.toList 0 [] = r from HR.out, Hok.out] at HO
          unfold oneTup at HO
          clear hok
          go_wp2_with fail
          refine HO.out.mono ?_; rintro e w1 ⟨rfl, hB1⟩
          have hs1 := hB1.size
          go_wp2_with fail
          go_roundw
          case rel => exact ⟨k + 1, T, by go_num, by omega, by omega, (hB.trans (hB1.mono hbs)).alloc (Nat.le_trans hbs hs1) _, (own_below hownT hB1).alloc _, (own_below hownW hB1).alloc _, HA.out⟩
          case measure => simp [intOf]; omega
        · have Hok := Lib.hid hok
          have HO := Lib.hid (law_one s wr (by omega))
          rw [show nextTop s.data.toList 0 [] = r from HR.out, Hok.out] at HO
          unfold oneTup at HO
          clear hok
          go_wp2_with fail
          refine HO.out.mono ?_; rintro e w1 ⟨rfl, hB1⟩
          have hs1 := hB1.size
          have hB2 := hB.trans (hB1.mono hbs)
          have hB3 := hB2.alloc (Nat.le_trans hbs hs1) (.cells #[.int .i64 r.r.kind, .string ⟨r.r.text.toArray⟩, .int .i64 r.r.n, .int .i64 r.r.at_, .int .i64 r.r.end_, .bool r.lay] 36)
          have HT3 := Lib.hid ((own_below hownT hB1).alloc (.cells #[.int .i64 r.r.kind, .string ⟨r.r.text.toArray⟩, .int .i64 r.r.n, .int .i64 r.r.at_, .int .i64 r.r.end_, .bool r.lay] 36))
          have HW3 := Lib.hid ((own_below hownW hB1).alloc (.cells #[.int .i64 r.r.kind, .string ⟨r.r.text.toArray⟩, .int .i64 r.r.n, .int .i64 r.r.at_, .int .i64 r.r.end_, .bool r.lay] 36))
          have hcc := (hB3.cell (p := ⟨g, off + k, none⟩) hg).trans cc
          have u0 : (w1.alloc (.cells #[.int .i64 r.r.kind, .string ⟨r.r.text.toArray⟩, .int .i64 r.r.n, .int .i64 r.r.at_, .int .i64 r.r.end_, .bool r.lay] 36)).cell? ⟨w1.heap.size, 0, none⟩ = some (.int .i64 r.r.kind) := World.cell?_alloc_new _ _ _ 0
          have u1 : (w1.alloc (.cells #[.int .i64 r.r.kind, .string ⟨r.r.text.toArray⟩, .int .i64 r.r.n, .int .i64 r.r.at_, .int .i64 r.r.end_, .bool r.lay] 36)).cell? ⟨w1.heap.size, 1, none⟩ = some (.string ⟨r.r.text.toArray⟩) := World.cell?_alloc_new _ _ _ 1
          have u2 : (w1.alloc (.cells #[.int .i64 r.r.kind, .string ⟨r.r.text.toArray⟩, .int .i64 r.r.n, .int .i64 r.r.at_, .int .i64 r.r.end_, .bool r.lay] 36)).cell? ⟨w1.heap.size, 2, none⟩ = some (.int .i64 r.r.n) := World.cell?_alloc_new _ _ _ 2
          have u3 : (w1.alloc (.cells #[.int .i64 r.r.kind, .string ⟨r.r.text.toArray⟩, .int .i64 r.r.n, .int .i64 r.r.at_, .int .i64 r.r.end_, .bool r.lay] 36)).cell? ⟨w1.heap.size, 3, none⟩ = some (.int .i64 r.r.at_) := World.cell?_alloc_new _ _ _ 3
          have u4 : (w1.alloc (.cells #[.int .i64 r.r.kind, .string ⟨r.r.text.toArray⟩, .int .i64 r.r.n, .int .i64 r.r.at_, .int .i64 r.r.end_, .bool r.lay] 36)).cell? ⟨w1.heap.size, 4, none⟩ = some (.int .i64 r.r.end_) := World.cell?_alloc_new _ _ _ 4
          have u5 : (w1.alloc (.cells #[.int .i64 r.r.kind, .string ⟨r.r.text.toArray⟩, .int .i64 r.r.n, .int .i64 r.r.at_, .int .i64 r.r.end_, .bool r.lay] 36)).cell? ⟨w1.heap.size, 5, none⟩ = some (.bool r.lay) := World.cell?_alloc_new _ _ _ 5
          have hlt3 : w1.heap.size < (w1.alloc (.cells #[.int .i64 r.r.kind, .string ⟨r.r.text.toArray⟩, .int .i64 r.r.n, .int .i64 r.r.at_, .int .i64 r.r.end_, .bool r.lay] 36)).heap.size := by simp
          have hbs3 := hB3.size
          have h01 : w.heap.size ≤ w1.heap.size := Nat.le_trans hbs hs1
          have HC1 := Lib.hid (own_below hownT hB1)
          have hTS : (36 : Nat) ≠ 9 := by decide
          have hl64 : T.length ≤ 70368744177 := by omega
          have hl63 : T.length ≤ 70368744 := by omega
          clear hownT hownW cc cc1 u0 u1 u2 u3 u4 u5
          go_wp2_with (first
            | ((with_reducible refine at_appSS ?_); go_must (refine wpList_append_str rfl _ _ rfl w.heap.size _ T rfl _ HT3.out s rfl (slice_next _ _) hl64 hbs3 ?_; intro v1 w4 hown4 hB4 hg4; have hW4 := (HW3.out.alloc (.cells #[.string s] 9)).kept hg4 (own_diff HW3.out HT3.out hTS); have t0 := hg4.cell (cell_two w1 _ _ _ 0 _ rfl) (own_ne HC1.out (Nat.le_refl _)); have t1 := hg4.cell (cell_two w1 _ _ _ 1 _ rfl) (own_ne HC1.out (Nat.le_refl _)); have t2 := hg4.cell (cell_two w1 _ _ _ 2 _ rfl) (own_ne HC1.out (Nat.le_refl _)); have t3 := hg4.cell (cell_two w1 _ _ _ 3 _ rfl) (own_ne HC1.out (Nat.le_refl _)); have t4 := hg4.cell (cell_two w1 _ _ _ 4 _ rfl) (own_ne HC1.out (Nat.le_refl _)); have t5 := hg4.cell (cell_two w1 _ _ _ 5 _ rfl) (own_ne HC1.out (Nat.le_refl _)); have hB5 := hB3.trans hB4; have hbs5 := hB5.size))
            | ((with_reducible refine at_appTT ?_); go_must (refine wpList_append_tok rfl _ _ rfl w.heap.size _ T.length (T.map readOf) rfl _ hW4 r rfl rfl hl63 hbs5 ?_; intro v2 w5 hown6 hB6 hg6; have hT6 := (hown4.alloc (.cells #[.int .i64 r.r.kind, .string ⟨r.r.text.toArray⟩, .int .i64 r.r.n, .int .i64 r.r.at_, .int .i64 r.r.end_, .bool r.lay] 36)).kept hg6 (own_diff hown4 hW4 hTS.symm))))
          go_roundw
          case rel =>
            refine ⟨k + 1, T ++ [s], by go_num, by omega, by rw [List.length_append]; simp; omega, hB5.trans hB6, hT6, ?_, fun u hu => ?_⟩
            · rw [List.map_append, List.length_append]
              change w5.ownsRow _ _ _ _ _ (toksCells (T.map readOf ++ [readOf s]))
              rw [HR.out]; exact hown6
            · rw [List.mem_append, List.mem_singleton] at hu
              rcases hu with hu | rfl
              · exact HA.out u hu
              · rw [HR.out]; exact ⟨Hok.out, hs2⟩
          case measure => simp [intOf] <;> omega
    · have hkn : k = n := by omega
      subst hkn
      clear hlt
      have HW := Lib.hid hownW
      obtain ⟨A1, c1, hv, hTA⟩ := strs_own hownT
      injection hv with hv1 _ hv2
      subst hv1 hv2
      have HTA := Lib.hid hTA
      generalize hq : (⟨(joinN (bts T)).toArray⟩ : ByteArray) = q
      have HQ := Lib.hid hq
      have hqs : q.size ≤ 20000 := by
        have h1 := joinN_len 200 T (fun u hu => (HA.out u hu).2)
        have h2 : T.length * (200 + 1) ≤ 50 * 201 := Nat.mul_le_mul_right _ (by omega)
        rw [← hq]; simp [ByteArray.size]; omega
      have HJ := Lib.hid (sp_join At T.length ct T wr rfl (by omega) hTA (fun u hu => by have := (HA.out u hu).2; omega))
      rw [hq] at HJ
      clear hq hTA hownT hownW
      have HL := Lib.hid (fun w' => all_spell T HA.out (by omega) q HQ.out w')
      go_wp2_with fail
      refine HJ.out.mono ?_; rintro e w1 ⟨rfl, hB1⟩
      have hs1 := hB1.size
      go_wp2_with fail
      refine (HL.out _).mono ?_; rintro e w2 ⟨A2, c2, L, ⟨rfl, HF⟩, hB2, hTk⟩
      have hs2 := hB2.size
      have hB' := hB.trans ((hB1.trans (hB2.mono hs1)).mono hbs)
      have hTW : ∃ A cap, Value.slice Aw T.length cw = .slice A T.length cap ∧ Toks wr A (T.map readOf) := by
        have := HW.out
        rw [show T.length = (T.map readOf).length by rw [List.length_map]] at this
        obtain ⟨A, cap, h1, h2⟩ := toks_own this
        rw [List.length_map] at h1
        exact ⟨A, cap, h1, h2⟩
      obtain ⟨A3, c3, hv3, hTW⟩ := hTW
      injection hv3 with hv4 _ hv5
      subst hv4 hv5
      have HTW := Lib.hid ((hTW.below hB1).below hB2)
      have HTk := Lib.hid hTk
      clear hTk hTW
      go_wp2_with fail
      go_loopw [11] (fun i w5 => ∃ k m : Nat, k ≤ T.length ∧ i = .int .i64 k ∧ w5 = w2.drewN m) (fun i _ => T.length - (intOf i).toNat)
      case atStart => exact ⟨0, 0, Nat.zero_le _, rfl, rfl⟩
      case round =>
        obtain ⟨k2, m, hk2, rfl, rfl⟩ := hrel
        by_cases hlt2 : k2 < T.length
        · obtain ⟨b, off, rfl, t⟩ := HTW.out k2 (by rw [List.length_map]; exact hlt2)
          obtain ⟨b', off', rfl, t'⟩ := HTk.out k2 (by rw [HF.out.1]; omega)
          obtain ⟨r, hr, hr1, hr2, hr3⟩ := HF.out.2 k2 hlt2
          rw [List.getElem?_eq_getElem (by rw [HF.out.1]; omega)] at hr
          injection hr with hr
          rw [List.getElem_map] at t
          rw [hr] at t'
          generalize readOf T[k2] = r0 at *
          obtain ⟨tl, t0, t1, t2, t3, t4, t5⟩ := t
          obtain ⟨tl', t0', t1', t2', t3', t4', t5'⟩ := t'
          rw [hr1] at t0'
          rw [hr2] at t1'
          rw [hr3] at t2'
          clear hr hr1 hr2 hr3
          go_wp2_with fail
          go_quiet (fail)
          go_wp2_with fail
          go_roundw
          case rel => exact ⟨k2 + 1, _, by omega, by go_num, rfl⟩
          case measure => simp [intOf]; omega
        · have hB3 := bl_drewN hB' m
          go_wp2_with fail
          refine (carry (w0 := w) hB3 (law_awake11 _ (HT.out.below hB3))).mono ?_; rintro e w7 ⟨rfl, hB7⟩
          go_wp2_with fail
          go_ret
          exact ⟨rfl, hB7⟩
end Go.Proofs.YtmjeajfakhmakaaDoor
