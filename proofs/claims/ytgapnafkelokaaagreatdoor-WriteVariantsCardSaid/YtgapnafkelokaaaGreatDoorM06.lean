/- DERIVED: THE SHELF's CONTRACTS AT THIS DUMP, IN PLAIN WORDS (tools/lay-plain.mjs out of 'TryzShelf.lean', which tools/lay-shelf.mjs wrote): THE SAME DECLARATIONS UNDER THE SAME NAMES: 'import', 'namespace', 'open', 'def', 'theorem' AND NOTHING ELSE: no command of the shelf's: FOR A HAND-IN. Each laying: the table of numbers ('.._ren') and one theorem, a field a fact of the dump's own or the kernel's comparison; each contract: ONE APPLICATION. Contracts of spell: all, Plain. Contracts of strconv: FormatInt in base 16 of a character. Contracts: chars.Escape; spell.Plain. Contracts of spell: Quote, Atom, Join. -/
import Derived.Shelf.Strings.Builder1
import Derived.Shelf.Small.Strs
import Derived.Shelf.Strings.BuilderF
import Derived.Shelf.Strings.BuilderK
import Derived.Shelf.Strconv.Itoa0
import Derived.Shelf.Strconv.Itoa1
import Derived.Shelf.LaysM
import Derived.Shelf.Strconv.Itoa2
import Derived.Shelf.Strconv.Itoa3
import Derived.Shelf.Strconv.Itoa4
import Derived.Shelf.Strings.Search1
import Derived.Shelf.Strings.Prefix
import Derived.Shelf.Strings.BuilderCap
import Derived.Test.YtgapnafkelokaaaGreatDoorProg
import Derived.Test.YtgapnafkelokaaaGreatDoorM05
import Derived.LoopN
import Derived.Laws.IdiomStrings
import Derived.Laws.EntriesVeiled
import Derived.Test.YtgapnafkelokaaaGreatDoorM04
namespace Go.Proofs
open Go.Shelf
def Tryz.lays169_ren : Go.Shelf.Ren := ⟨fun | 169 => 62 | n => n, fun | 70 => 106 | 9 => 9 | 0 => 0 | 72 => 108 | 37 => 75 | 127 => 150 | 3 => 3 | 5 => 5 | n => n, fun | n => n⟩
theorem Tryz.lays169 : Go.Proofs.Lays.n169 Tryz.prog Tryz.lays169_ren := {
  mixed := by kernel_rfl
  f169 := Tryz.func62.trans (congrArg some (by kernel_rfl))
  t0 := Tryz.underlying0
  a0 := Tryz.isAgg0
  z0 := Tryz.sizeOf0
  v0 := Tryz.zeroValue0
  t3 := Tryz.underlying3
  a3 := Tryz.isAgg3
  z3 := Tryz.sizeOf3
  v3 := Tryz.zeroValue3
  t9 := Tryz.underlying9
  a9 := Tryz.isAgg9
  z9 := Tryz.sizeOf9
  v9 := Tryz.zeroValue9
  t37 := Tryz.underlying75
  a37 := Tryz.isAgg75
  z37 := Tryz.sizeOf75
  v37 := Tryz.zeroValue75
  t70 := Tryz.underlying106
  a70 := Tryz.isAgg106
  z70 := Tryz.sizeOf106
  v70 := Tryz.zeroValue106
  t72 := Tryz.underlying108
  a72 := Tryz.isAgg108
  z72 := Tryz.sizeOf108
  v72 := Tryz.zeroValue108
  t127 := Tryz.underlying150
  a127 := Tryz.isAgg150
  z127 := Tryz.sizeOf150
  v127 := Tryz.zeroValue150 }
theorem Tryz.Builder_Extra_169 : Builder.Extra Tryz.prog Tryz.lays169_ren := {
  sizeBuilder := by kernel_rfl
  liesBuilder := by kernel_rfl
  t5 := Tryz.underlying5
  a5 := Tryz.isAgg5
  z5 := Tryz.sizeOf5
  v5 := Tryz.zeroValue5
  infoByte := by kernel_rfl
  cellsByte := by kernel_rfl
  sizeByte := by kernel_rfl
  neB5 := by decide }
open Go.RowKit in
open Go.RowKit in
open Go.RowKit in
/-- (*strings.Builder).String: "String returns the accumulated string.": WHATEVER THE BUILDER HOLDS. (LAID: no walk: one application.) -/
theorem Tryz.Builder_String_any (B b : Nat) (l : List UInt8) (w : World) (h : Lib.IsBuilder 108 5 B b (Lib.byteCells l) w) (hBw : B ≤ w.heap.size) :
    Calls Tryz.prog 62 #[.pointer (some ⟨b, 0, none⟩)] w fun e w' => e = .returned (.string ⟨l.toArray⟩) ∧ Below B w w' := Any.Builder_String_any Tryz.lays169 Tryz.Builder_Extra_169 B b l w h hBw
open Go.RowKit in
open Go.RowKit in
open Go.RowKit in
open Go.RowKit in
open Go.RowKit in
open Go.RowKit in
open Go.RowKit in
open Go.Lib in
open Go.Lib in
open Go.Lib in
open Go.Lib in
open Go.RowKit Go.Sort Go.Lib in
open Go.RowKit Go.Sort Go.Lib in
open Go.RowKit Go.Sort Go.Lib in
def Tryz.laysM173_ren : Go.Shelf.Ren := ⟨fun | 173 => 81 | 246 => 117 | 283 => 163 | 284 => 164 | 285 => 165 | 286 => 166 | 129 => 192 | 317 => 191 | 318 => 193 | 319 => 194 | 320 => 195 | 337 => 212 | 338 => 213 | n => n, fun | 2 => 2 | 3 => 3 | 9 => 9 | 4 => 4 | 171 => 196 | 0 => 0 | 53 => 197 | 37 => 75 | 5 => 5 | 173 => 200 | 212 => 218 | 51 => 219 | 20 => 20 | 213 => 220 | 46 => 221 | 232 => 234 | 233 => 235 | n => n, fun | 17 => 0 | 18 => 2 | 19 => 3 | n => n⟩
theorem Tryz.laysM173 : Go.Proofs.LaysM.n173 Tryz.prog Tryz.laysM173_ren := {
  mixed := by kernel_rfl
  f129 := Tryz.func192.trans (congrArg some (by kernel_rfl))
  f173 := Tryz.func81.trans (congrArg some (by kernel_rfl))
  f246 := Tryz.func117.trans (congrArg some (by kernel_rfl))
  f283 := Tryz.func163.trans (congrArg some (by kernel_rfl))
  f284 := Tryz.func164.trans (congrArg some (by kernel_rfl))
  f285 := Tryz.func165.trans (congrArg some (by kernel_rfl))
  f286 := Tryz.func166.trans (congrArg some (by kernel_rfl))
  f317 := Tryz.func191.trans (congrArg some (by kernel_rfl))
  f318 := Tryz.func193.trans (congrArg some (by kernel_rfl))
  f319 := Tryz.func194.trans (congrArg some (by kernel_rfl))
  f320 := Tryz.func195.trans (congrArg some (by kernel_rfl))
  f337 := Tryz.func212.trans (congrArg some (by kernel_rfl))
  f338 := Tryz.func213.trans (congrArg some (by kernel_rfl))
  t0 := Tryz.underlying0
  a0 := Tryz.isAgg0
  z0 := Tryz.sizeOf0
  v0 := Tryz.zeroValue0
  t2 := Tryz.underlying2
  a2 := Tryz.isAgg2
  z2 := Tryz.sizeOf2
  v2 := Tryz.zeroValue2
  t3 := Tryz.underlying3
  a3 := Tryz.isAgg3
  z3 := Tryz.sizeOf3
  v3 := Tryz.zeroValue3
  t4 := Tryz.underlying4
  a4 := Tryz.isAgg4
  z4 := Tryz.sizeOf4
  v4 := Tryz.zeroValue4
  t5 := Tryz.underlying5
  a5 := Tryz.isAgg5
  z5 := Tryz.sizeOf5
  v5 := Tryz.zeroValue5
  t9 := Tryz.underlying9
  a9 := Tryz.isAgg9
  z9 := Tryz.sizeOf9
  v9 := Tryz.zeroValue9
  t20 := Tryz.underlying20
  a20 := Tryz.isAgg20
  z20 := Tryz.sizeOf20
  v20 := Tryz.zeroValue20
  t37 := Tryz.underlying75
  a37 := Tryz.isAgg75
  z37 := Tryz.sizeOf75
  v37 := Tryz.zeroValue75
  t46 := Tryz.underlying221
  a46 := Tryz.isAgg221
  z46 := Tryz.sizeOf221
  v46 := Tryz.zeroValue221
  t51 := Tryz.underlying219
  a51 := Tryz.isAgg219
  z51 := Tryz.sizeOf219
  v51 := Tryz.zeroValue219
  t53 := Tryz.underlying197
  a53 := Tryz.isAgg197
  z53 := Tryz.sizeOf197
  v53 := Tryz.zeroValue197
  t171 := Tryz.underlying196
  a171 := Tryz.isAgg196
  z171 := Tryz.sizeOf196
  v171 := Tryz.zeroValue196
  t173 := Tryz.underlying200
  a173 := Tryz.isAgg200
  z173 := Tryz.sizeOf200
  v173 := Tryz.zeroValue200
  t212 := Tryz.underlying218
  a212 := Tryz.isAgg218
  z212 := Tryz.sizeOf218
  v212 := Tryz.zeroValue218
  t213 := Tryz.underlying220
  a213 := Tryz.isAgg220
  z213 := Tryz.sizeOf220
  t232 := Tryz.underlying234
  a232 := Tryz.isAgg234
  z232 := Tryz.sizeOf234
  v232 := Tryz.zeroValue234
  t233 := Tryz.underlying235
  a233 := Tryz.isAgg235
  z233 := Tryz.sizeOf235
  v233 := Tryz.zeroValue235
  g17 := by kernel_rfl
  g18 := by kernel_rfl
  g19 := by kernel_rfl
  i0 := by kernel_rfl
  i2 := by kernel_rfl
  i3 := by kernel_rfl
  i4 := by kernel_rfl
  i5 := by kernel_rfl
  i9 := by kernel_rfl
  i20 := by kernel_rfl
  i37 := by kernel_rfl
  i46 := by kernel_rfl
  i51 := by kernel_rfl
  i53 := by kernel_rfl
  i171 := by kernel_rfl
  i173 := by kernel_rfl
  i212 := by kernel_rfl
  i232 := by kernel_rfl
  i233 := by kernel_rfl
  m17 := by kernel_rfl
  m18 := by kernel_rfl
  m19 := by kernel_rfl }
open Go.RowKit Go.Sort Go.Lib in
/-- strconv.FormatInt: "FormatInt returns the string representation of i in the given base": AT BASE 10: i's decimal numeral, for every int64. (LAID: no walk: one application.) -/
theorem Tryz.strconv_FormatInt_10 (n : Int) (h0 : -9223372036854775808 ≤ n) (h1 : n ≤ 9223372036854775807) (w : World) (htab : Lib.TabIs Tryz.prog w "internal/strconv.uint64pow10" .u64 Lib.pow10Tab) :
    Calls Tryz.prog 81 #[.int .i64 n, .int .i64 10] w fun e w' => e = .returned (.string ⟨(Lib.itoa n).toArray⟩) ∧ ∃ k os, w' = grow (w.drewN k) os := Any.strconv_FormatInt_10 Tryz.laysM173 n h0 h1 w htab
open Go.RowKit Go.Sort Go.Lib in
open Go.RowKit Go.Lib in
open Go.RowKit Go.Lib in
def Tryz.lays99_ren : Go.Shelf.Ren := ⟨fun | 99 => 200 | 206 => 214 | n => n, fun | 9 => 9 | 4 => 4 | 3 => 3 | n => n, fun | n => n⟩
theorem Tryz.lays99 : Go.Proofs.Lays.n99 Tryz.prog Tryz.lays99_ren := {
  mixed := by kernel_rfl
  f99 := Tryz.func200.trans (congrArg some (by kernel_rfl))
  f206 := Tryz.func214.trans (congrArg some (by kernel_rfl))
  t3 := Tryz.underlying3
  a3 := Tryz.isAgg3
  z3 := Tryz.sizeOf3
  v3 := Tryz.zeroValue3
  t4 := Tryz.underlying4
  a4 := Tryz.isAgg4
  z4 := Tryz.sizeOf4
  v4 := Tryz.zeroValue4
  t9 := Tryz.underlying9
  a9 := Tryz.isAgg9
  z9 := Tryz.sizeOf9
  v9 := Tryz.zeroValue9 }
open Go.RowKit Go.Lib in
/-- strings.HasPrefix: "HasPrefix reports whether the string s begins with prefix.": IT RETURNS 'Lib.hasPrefix s prefix'; the world is as it was. (LAID: no walk: one application.) -/
theorem Tryz.strings_HasPrefix (s p : ByteArray) (w : World) :
    Calls Tryz.prog 200 #[.string s, .string p] w fun e w' => e = .returned (.bool (Lib.hasPrefix s.data.toList p.data.toList)) ∧ w' = w := Any.strings_HasPrefix Tryz.lays99 s p w
end Go.Proofs
namespace Go.Proofs.YtgapnafkelokaaaGreatDoor
open Go.RowKit Hb
set_option maxRecDepth 100000
theorem every_snoc (q : Int → Bool) (s : List UInt8) (k : Nat) (h : k < s.length) : every q (s.take (k + 1)) = (every q (s.take k) && q (bAt s k)) := by
  unfold every; rw [List.take_succ_eq_append_getElem h, List.all_append, ← bAt_get _ _ h]; simp
theorem every_no (q : Int → Bool) (s : List UInt8) (k : Nat) (h : k < s.length) (hq : q (bAt s k) = false) : every q s = false := by
  unfold every; rw [List.all_eq_false]; exact ⟨s[k], List.getElem_mem h, by rw [bAt_get _ _ h, hq]; simp⟩
def allN (q : Int → Bool) (s : List UInt8) : Bool := every q s && !s.isEmpty
set_option maxHeartbeats 400000 in
theorem sp_all_alnum (s : ByteArray) (w : World) (hs : s.size ≤ maxLen) :
    Calls Tryz.prog 198 #[.string s, .func (.func 95) #[] #[]] w fun e w' => e = .returned (.bool (allN alnum s.data.toList)) ∧ Below w.heap.size w w' := by
  unfold maxLen at hs
  go_enter Tryz.func198, Tryz.ntmps198
  go_wp2_with fail
  go_loopw [8] (fun i wr => ∃ k : Nat, k ≤ s.size ∧ i = .int .i64 k ∧ every alnum (s.data.toList.take k) = true ∧ Below w.heap.size w wr) (fun i _ => s.size - (intOf i).toNat)
  case atStart => exact ⟨0, Nat.zero_le _, rfl, rfl, Below.refl _ _⟩
  case round =>
    obtain ⟨k, hk, rfl, hev, hB⟩ := hrel
    have Hev := Lib.hid hev
    clear hev
    have hbs := hB.size
    by_cases hlt : k < s.size
    · have hb := bAt_mk s k hlt
      have hb0 := bAt_lo s.data.toList k
      have hb1 := bAt_hi s.data.toList k
      have Hs := Lib.hid (every_snoc alnum s.data.toList k (by simpa using hlt))
      have Hn := Lib.hid (every_no alnum s.data.toList k (by simpa using hlt))
      cases hq : alnum (bAt s.data.toList k)
      all_goals
        have Hq := Lib.hid hq
        clear hq
        generalize bAt s.data.toList k = c at *
        go_wp2_with fail
        refine (carry (w0 := w) hB (sp_alnum _ _ (by assumption) (by assumption))).mono ?_; rintro e w1 ⟨rfl, hB1⟩; rw [Hq.out]
        go_wp2_with fail
      · go_ret
        exact ⟨ret_bool (by unfold allN; rw [Hn.out Hq.out]; rfl), hB1⟩
      · go_roundw
        case rel => exact ⟨k + 1, by omega, by go_num, by rw [Hs.out, Hev.out, Hq.out]; rfl, hB1⟩
        case measure => simp [intOf]; omega
    · have Hx := Lib.hid (show every alnum s.data.toList = true by have := Hev.out; rwa [List.take_of_length_le (by simp; omega)] at this)
      by_cases h0 : s.size = 0
      · have e1 := (empty_of s h0).1
        have e2 : s.toList.isEmpty = true := by rw [e1]; rfl
        have E3 := Lib.hid (empty_of s h0).2
        clear h0
        go_wp2_with fail
        go_ret
        exact ⟨ret_bool (by unfold allN; rw [Hx.out, E3.out]; rfl), hB⟩
      · have e1 := tl_ne s (by omega)
        have e2 := tl_ne2 s (by omega)
        have E3 := Lib.hid (show s.data.toList.isEmpty = false by rw [← tl_data]; exact e2)
        clear h0
        go_wp2_with fail
        go_ret
        exact ⟨ret_bool (by unfold allN; rw [Hx.out, E3.out]; rfl), hB⟩
set_option maxHeartbeats 400000 in
theorem sp_all_sym (s : ByteArray) (w : World) (hs : s.size ≤ maxLen) :
    Calls Tryz.prog 198 #[.string s, .func (.func 96) #[] #[]] w fun e w' => e = .returned (.bool (allN isSym s.data.toList)) ∧ Below w.heap.size w w' := by
  unfold maxLen at hs
  go_enter Tryz.func198, Tryz.ntmps198
  go_wp2_with fail
  go_loopw [8] (fun i wr => ∃ k : Nat, k ≤ s.size ∧ i = .int .i64 k ∧ every isSym (s.data.toList.take k) = true ∧ Below w.heap.size w wr) (fun i _ => s.size - (intOf i).toNat)
  case atStart => exact ⟨0, Nat.zero_le _, rfl, rfl, Below.refl _ _⟩
  case round =>
    obtain ⟨k, hk, rfl, hev, hB⟩ := hrel
    have Hev := Lib.hid hev
    clear hev
    have hbs := hB.size
    by_cases hlt : k < s.size
    · have hb := bAt_mk s k hlt
      have hb0 := bAt_lo s.data.toList k
      have hb1 := bAt_hi s.data.toList k
      have Hs := Lib.hid (every_snoc isSym s.data.toList k (by simpa using hlt))
      have Hn := Lib.hid (every_no isSym s.data.toList k (by simpa using hlt))
      cases hq : isSym (bAt s.data.toList k)
      all_goals
        have Hq := Lib.hid hq
        clear hq
        generalize bAt s.data.toList k = c at *
        go_wp2_with fail
        refine (carry (w0 := w) hB (sp_symbol _ _ (by assumption) (by assumption))).mono ?_; rintro e w1 ⟨rfl, hB1⟩; rw [Hq.out]
        go_wp2_with fail
      · go_ret
        exact ⟨ret_bool (by unfold allN; rw [Hn.out Hq.out]; rfl), hB1⟩
      · go_roundw
        case rel => exact ⟨k + 1, by omega, by go_num, by rw [Hs.out, Hev.out, Hq.out]; rfl, hB1⟩
        case measure => simp [intOf]; omega
    · have Hx := Lib.hid (show every isSym s.data.toList = true by have := Hev.out; rwa [List.take_of_length_le (by simp; omega)] at this)
      by_cases h0 : s.size = 0
      · have e1 := (empty_of s h0).1
        have e2 : s.toList.isEmpty = true := by rw [e1]; rfl
        have E3 := Lib.hid (empty_of s h0).2
        clear h0
        go_wp2_with fail
        go_ret
        exact ⟨ret_bool (by unfold allN; rw [Hx.out, E3.out]; rfl), hB⟩
      · have e1 := tl_ne s (by omega)
        have e2 := tl_ne2 s (by omega)
        have E3 := Lib.hid (show s.data.toList.isEmpty = false by rw [← tl_data]; exact e2)
        clear h0
        go_wp2_with fail
        go_ret
        exact ⟨ret_bool (by unfold allN; rw [Hx.out, E3.out]; rfl), hB⟩
/-- The first test: a name that wants no quotes. -/
def plain1 (s : List UInt8) : Bool := decide (s = [91, 93]) || (decide (s = [123, 125]) || (decide (s = [33]) || decide (s = [59])))
set_option maxHeartbeats 400000 in
theorem sp_plain1 (s : ByteArray) (b : Nat) (w : World) (hp : w.cell? ⟨b, 0, none⟩ = some (.string s)) :
    Calls Tryz.prog 196 #[.pointer (some ⟨b, 0, none⟩)] w fun e w' => e = .returned (.bool (plain1 s.data.toList)) ∧ Below w.heap.size w w' := by
  have HT := Lib.hid (tl_data s)
  go_enter Tryz.func196, Tryz.ntmps196
  go_wp2_with fail
  all_goals
    go_ret
    exact ⟨ret_bool (by unfold plain1; rw [← HT.out]; grind), Below.refl _ _⟩
/-- The second. -/
def plain2 (s : List UInt8) : Bool := allN alnum s && cls (bAt s 0) == 2
set_option maxHeartbeats 400000 in
theorem sp_plain2 (s : ByteArray) (b : Nat) (w : World) (hp : w.cell? ⟨b, 0, none⟩ = some (.string s)) (hb : b < w.heap.size) (hs : s.size ≤ maxLen) :
    Calls Tryz.prog 197 #[.pointer (some ⟨b, 0, none⟩)] w fun e w' => e = .returned (.bool (plain2 s.data.toList)) ∧ Below w.heap.size w w' := by
  cases ha : allN alnum s.data.toList
  · have Ha := Lib.hid ha
    clear ha
    go_enter Tryz.func197, Tryz.ntmps197
    go_wp2_with fail
    refine (sp_all_alnum _ _ hs).mono ?_; rintro e w1 ⟨rfl, hB1⟩; rw [Ha.out]
    go_wp2_with fail
    go_ret
    exact ⟨ret_bool (by unfold plain2; rw [Ha.out]; rfl), hB1⟩
  · have h0 : 0 < s.size := by
      rcases Nat.eq_zero_or_pos s.size with h | h
      · rw [(empty_of s h).2] at ha; cases ha
      · exact h
    have Ha := Lib.hid ha
    clear ha
    have hbb := bAt_mk s 0 h0
    have hb1 := bAt_hi s.data.toList 0
    have hb0 := bAt_lo s.data.toList 0
    generalize hc : bAt s.data.toList 0 = c at *
    have Hc := Lib.hid hc
    clear hc
    go_enter Tryz.func197, Tryz.ntmps197
    go_wp2_with fail
    refine (sp_all_alnum _ _ hs).mono ?_; rintro e w1 ⟨rfl, hB1⟩; rw [Ha.out]
    have hp1 := (hB1.cell (p := ⟨b, 0, none⟩) hb).trans hp
    go_wp2_with fail
    refine (carry (w0 := w) hB1 (chars_class _ _)).mono ?_; rintro e w2 ⟨rfl, hB2⟩
    go_wp2_with fail
    go_ret
    exact ⟨ret_bool (by unfold plain2; rw [Ha.out, Hc.out]; rfl), hB2⟩
/-- The third. -/
def plain3 (s : List UInt8) : Bool := allN isSym s && (!decide (s = [46]) && !Lib.hasPrefix s [47, 42])
set_option maxHeartbeats 400000 in
theorem sp_plain3 (s : ByteArray) (b : Nat) (w : World) (hp : w.cell? ⟨b, 0, none⟩ = some (.string s)) (hb : b < w.heap.size) (hs : s.size ≤ maxLen) :
    Calls Tryz.prog 199 #[.pointer (some ⟨b, 0, none⟩)] w fun e w' => e = .returned (.bool (plain3 s.data.toList)) ∧ Below w.heap.size w w' := by
  have HT := Lib.hid (tl_data s)
  cases ha : allN isSym s.data.toList
  · have Ha := Lib.hid ha
    clear ha
    go_enter Tryz.func199, Tryz.ntmps199
    go_wp2_with fail
    refine (sp_all_sym _ _ hs).mono ?_; rintro e w1 ⟨rfl, hB1⟩; rw [Ha.out]
    go_wp2_with fail
    go_ret
    exact ⟨ret_bool (by unfold plain3; rw [Ha.out]; rfl), hB1⟩
  · have Ha := Lib.hid ha
    clear ha
    go_enter Tryz.func199, Tryz.ntmps199
    go_wp2_with fail
    refine (sp_all_sym _ _ hs).mono ?_; rintro e w1 ⟨rfl, hB1⟩; rw [Ha.out]
    have hp1 := (hB1.cell (p := ⟨b, 0, none⟩) hb).trans hp
    go_wp2_with (go_at_call 200; refine (Tryz.strings_HasPrefix _ _ _).mono ?_; rintro e w2 ⟨rfl, rfl⟩)
    all_goals
      go_ret
      exact ⟨ret_bool (by unfold plain3; rw [Ha.out, ← HT.out]; first | rfl | grind), hB1⟩
end Go.Proofs.YtgapnafkelokaaaGreatDoor
namespace Go.Proofs.YtgapnafkelokaaaGreatDoor
open Go.RowKit Hb
set_option maxRecDepth 100000
set_option maxHeartbeats 400000 in
theorem tz64 (w : World) (hT : w.cell? ⟨3, 15, none⟩ = some (.int .u8 4)) :
    Calls Tryz.prog 213 #[.int .u64 16] w fun e w' => e = .returned (.int .i64 4) ∧ w = w' := by
  have hx : IntKind.u64.wrap (bits BinOp.and IntKind.u64 16 (IntKind.u64.wrap (-16)) * 285870213051353865) / 288230376151711744 = 15 := by decide +kernel
  go_enter Tryz.func213, Tryz.ntmps213
  go_wp2
  go_ret
  exact ⟨rfl, rfl⟩
set_option maxHeartbeats 400000 in
theorem tz (w : World) (hT : w.cell? ⟨3, 15, none⟩ = some (.int .u8 4)) :
    Calls Tryz.prog 195 #[.int .u64 16] w fun e w' => e = .returned (.int .i64 4) ∧ w = w' := by
  go_enter Tryz.func195, Tryz.ntmps195
  go_wp2_with fail
  refine (tz64 _ hT).mono ?_; rintro e w1 ⟨rfl, rfl⟩
  go_wp2_with fail
  go_ret
  exact ⟨rfl, rfl⟩
set_option maxHeartbeats 400000 in
theorem pow2 (w : World) :
    Calls Tryz.prog 194 #[.int .i64 16] w fun e w' => e = .returned (.bool true) ∧ w = w' := by
  have hx : bits BinOp.and IntKind.i64 16 15 = 0 := by decide +kernel
  go_enter Tryz.func194, Tryz.ntmps194
  go_wp2_with fail
  go_ret
  exact ⟨rfl, rfl⟩
theorem conv_b1 (W : World) (b off : Nat) (x : UInt8) (h : W.cell? ⟨b, off, none⟩ = some (.int .u8 (x.toNat : Int))) :
    (convert 75 9 (.slice (some ⟨b, off, none⟩) 1 1)).run Tryz.prog W = .ok (.string ⟨#[x]⟩) W := by
  refine run_convert_bytes_back W 75 9 5 ⟨b, off, none⟩ 1 [x] Tryz.underlying75 Tryz.underlying5 Tryz.underlying9 fun j hj => ?_
  have : j = 0 := by simp at hj; omega
  subst this
  simpa [Addr.add] using h
theorem conv_b2 (W : World) (b off : Nat) (x y : UInt8) (h : W.cell? ⟨b, off, none⟩ = some (.int .u8 (x.toNat : Int))) (h2 : W.cell? ⟨b, off + 1, none⟩ = some (.int .u8 (y.toNat : Int))) :
    (convert 75 9 (.slice (some ⟨b, off, none⟩) 2 2)).run Tryz.prog W = .ok (.string ⟨#[x, y]⟩) W := by
  refine run_convert_bytes_back W 75 9 5 ⟨b, off, none⟩ 2 [x, y] Tryz.underlying75 Tryz.underlying5 Tryz.underlying9 fun j hj => ?_
  match j, hj with
  | 0, _ => simpa [Addr.add] using h
  | 1, _ => simpa [Addr.add] using h2
theorem digs16 : ∀ n : Nat, n < 16 → ∀ h : n < (ByteArray.mk #[48, 49, 50, 51, 52, 53, 54, 55, 56, 57, 97, 98, 99, 100, 101, 102, 103, 104, 105, 106, 107, 108, 109, 110, 111, 112, 113, 114, 115, 116, 117, 118, 119, 120, 121, 122]).size, ((ByteArray.mk #[48, 49, 50, 51, 52, 53, 54, 55, 56, 57, 97, 98, 99, 100, 101, 102, 103, 104, 105, 106, 107, 108, 109, 110, 111, 112, 113, 114, 115, 116, 117, 118, 119, 120, 121, 122])[n]'h).toNat = (hexd n).toNat := by decide +kernel
theorem and15 : ∀ n : Nat, n < 256 → bits BinOp.and IntKind.u64 (n : Int) 15 = ((n % 16 : Nat) : Int) := by decide +kernel
set_option maxHeartbeats 1000000 in
theorem fmtBits_lo (c : Int) (w : World) (h0 : 0 ≤ c) (h1 : c < 16) (hT : w.cell? ⟨3, 15, none⟩ = some (.int .u8 4)) (hg : 3 < w.heap.size) :
    Calls Tryz.prog 166 #[.slice none 0 0, .int .u64 c, .int .i64 16, .bool false, .bool false] w fun e w' => e = .returned (.tuple #[.slice none 0 0, .string ⟨#[hexd c.toNat]⟩]) ∧ Below w.heap.size w w' := by
  have hb : decide ((16 : Int) ≤ c) = false := by simp; omega
  go_enter Tryz.func166, Tryz.ntmps166
  go_wp2_with fail
  refine (pow2 _).mono ?_; rintro e w1 ⟨rfl, rfl⟩
  go_wp2_with fail
  refine (tz _ ?_).mono ?_
  · rw [World.cell?_alloc_lt _ _ _ (by simpa using hg)]; exact hT
  rintro e w1 ⟨rfl, rfl⟩
  go_wp2_with fail
  refine wp_loop_rounds 1 ?_
  rw [rounds_succ]
  go_wp2_with fail
  rw [conv_b1 _ _ _ (hexd c.toNat) (by
    rw [World.cell?_alloc_new, digs16 _ (by omega)]
    simp)]
  simp only [Result.andThen]
  rw [Oper.upon_value]
  go_wp2_with fail
  go_ret2
  exact ⟨rfl, (Below.refl _ _).alloc (Nat.le_refl _) _⟩
set_option maxHeartbeats 1000000 in
theorem fmtBits_hi (c : Int) (w : World) (h0 : 16 ≤ c) (h1 : c ≤ 255) (hT : w.cell? ⟨3, 15, none⟩ = some (.int .u8 4)) (hg : 3 < w.heap.size) :
    Calls Tryz.prog 166 #[.slice none 0 0, .int .u64 c, .int .i64 16, .bool false, .bool false] w fun e w' => e = .returned (.tuple #[.slice none 0 0, .string ⟨#[hexd (c.toNat / 16), hexd (c.toNat % 16)]⟩]) ∧ Below w.heap.size w w' := by
  have hb : decide ((16 : Int) ≤ c) = true := by simp; omega
  obtain ⟨n, rfl⟩ := Int.eq_ofNat_of_zero_le (show 0 ≤ c by omega)
  have hand := and15 n (by omega)
  have Hm := Lib.hid (show n % 16 < 16 from Nat.mod_lt _ (by decide))
  have hm := Hm.out
  generalize hd : n % 16 = d at *
  have Hd := Lib.hid hd
  clear hd
  have hq : (n : Int) / 16 = ((n / 16 : Nat) : Int) := by omega
  have hq2 : n / 16 < 16 := by omega
  have hb2 : decide ((16 : Int) ≤ ((n / 16 : Nat) : Int)) = false := by simp; omega
  generalize hx : n / 16 = q at *
  have Hx := Lib.hid hx
  clear hx
  go_enter Tryz.func166, Tryz.ntmps166
  go_wp2_with fail
  refine (pow2 _).mono ?_; rintro e w1 ⟨rfl, rfl⟩
  go_wp2_with fail
  refine (tz _ ?_).mono ?_
  · rw [World.cell?_alloc_lt _ _ _ (by simpa using hg)]; exact hT
  rintro e w1 ⟨rfl, rfl⟩
  go_wp2_with fail
  refine wp_loop_rounds 2 ?_
  rw [rounds_succ]
  go_wp2_with fail
  rw [rounds_succ]
  go_wp2_with fail
  rw [conv_b2 _ _ _ (hexd q) (hexd d) (by
    rw [World.cell?_alloc_new, digs16 q hq2]
    simp) (by
    rw [World.cell?_alloc_new, digs16 d hm]
    simp)]
  simp only [Result.andThen]
  rw [Oper.upon_value]
  go_wp2_with fail
  go_ret2
  exact ⟨ret_val (congrArg (fun l : Array UInt8 => Value.tuple #[.slice none 0 0, .string ⟨l⟩]) (by rw [Int.toNat_natCast, Hx.out, Hd.out])), (Below.refl _ _).alloc (Nat.le_refl _) _⟩
/-- A character's digits in base 16. -/
def hex2 (c : Int) : List UInt8 := if 16 ≤ c then [hexd (c.toNat / 16), hexd (c.toNat % 16)] else [hexd c.toNat]
theorem fmtBits (c : Int) (w : World) (h0 : 0 ≤ c) (h1 : c ≤ 255) (hT : w.cell? ⟨3, 15, none⟩ = some (.int .u8 4)) (hg : 3 < w.heap.size) :
    Calls Tryz.prog 166 #[.slice none 0 0, .int .u64 c, .int .i64 16, .bool false, .bool false] w fun e w' => e = .returned (.tuple #[.slice none 0 0, .string ⟨(hex2 c).toArray⟩]) ∧ Below w.heap.size w w' := by
  unfold hex2
  by_cases h : 16 ≤ c
  · rw [if_pos h]; exact fmtBits_hi c w h h1 hT hg
  · rw [if_neg h]; exact fmtBits_lo c w h0 (by omega) hT hg
set_option maxHeartbeats 400000 in
theorem int_fmt16 (c : Int) (w : World) (h0 : 0 ≤ c) (h1 : c ≤ 255) (hT : w.cell? ⟨3, 15, none⟩ = some (.int .u8 4)) (hg : 3 < w.heap.size) :
    Calls Tryz.prog 117 #[.int .i64 c, .int .i64 16] w fun e w' => e = .returned (.string ⟨(hex2 c).toArray⟩) ∧ Below w.heap.size w w' := by
  have hb : decide (c < 0) = false := by simp; omega
  go_enter Tryz.func117, Tryz.ntmps117
  go_wp2_with fail
  refine (fmtBits c _ h0 h1 hT hg).mono ?_; rintro e w1 ⟨rfl, hB1⟩
  go_wp2_with fail
  go_ret
  exact ⟨rfl, hB1⟩
set_option maxHeartbeats 400000 in
theorem fmt16 (c : Int) (w : World) (h0 : 0 ≤ c) (h1 : c ≤ 255) (hT : w.cell? ⟨3, 15, none⟩ = some (.int .u8 4)) (hg : 3 < w.heap.size) :
    Calls Tryz.prog 81 #[.int .i64 c, .int .i64 16] w fun e w' => e = .returned (.string ⟨(hex2 c).toArray⟩) ∧ Below w.heap.size w w' := by
  go_enter Tryz.func81, Tryz.ntmps81
  go_wp2_with fail
  refine (int_fmt16 c _ h0 h1 hT hg).mono ?_; rintro e w1 ⟨rfl, hB1⟩
  go_wp2_with fail
  go_ret
  exact ⟨rfl, hB1⟩
end Go.Proofs.YtgapnafkelokaaaGreatDoor
namespace Go.Proofs.YtgapnafkelokaaaGreatDoor
open Go.RowKit Hb
set_option maxRecDepth 100000
/-- The table that FormatInt reads. -/
def Tab15 (w : World) : Prop := 3 < w.heap.size ∧ w.cell? ⟨3, 15, none⟩ = some (.int .u8 4)
theorem Tab15.below {w w' : World} (h : Tab15 w) (hB : Below w.heap.size w w') : Tab15 w' := ⟨Nat.lt_of_lt_of_le h.1 hB.size, (hB.cell (p := ⟨_, 15, none⟩) h.1).trans h.2⟩
theorem esc_hexN : ∀ n : Nat, n < 256 → (n < 7 ∨ (13 < n ∧ n < 32) ∨ 126 < n) → [92, 120] ++ hex2 n ++ [92] = esc n := by decide +kernel
set_option maxHeartbeats 1000000 in
theorem chars_escape_hex (c : Int) (w : World) (h0 : 0 ≤ c) (h1 : c ≤ 255) (h2 : c < 7 ∨ (13 < c ∧ c < 32) ∨ 126 < c) (hT : Tab15 w) :
    Calls Tryz.prog 203 #[.int .i64 c] w fun e w' => e = .returned (.tuple #[.string ⟨(esc c).toArray⟩, .bool (isCh c)]) ∧ Below w.heap.size w w' := by
  have HE := Lib.hid (show [92, 120] ++ hex2 c ++ [92] = esc c by
    obtain ⟨n, rfl⟩ := Int.eq_ofNat_of_zero_le h0
    exact esc_hexN n (by omega) (by omega))
  have HI := Lib.hid (show isCh c = true from (isCh_iff c).2 ⟨h0, h1⟩)
  have q1 : (c == 39) = false := by simp; omega
  have q2 : (c == 92) = false := by simp; omega
  have HT := Lib.hid hT
  clear hT
  have hxs : (hex2 c).length ≤ 2 := by unfold hex2; split <;> simp
  generalize hx : hex2 c = x at *
  have HX := Lib.hid hx
  clear hx
  rcases h2 with h2 | h2 | h2
  all_goals
    go_enter Tryz.func203, Tryz.ntmps203
    go_wp2_with fail
    refine (chars_is _ _).mono ?_; rintro e w1 ⟨rfl, rfl⟩; rw [HI.out]
    go_wp2_with fail
    refine (fmt16 c _ h0 h1 HT.out.2 HT.out.1).mono ?_; rintro e w1 ⟨rfl, hB1⟩; rw [HX.out]
    go_wp2_with fail
    go_ret2
    refine ⟨ret_sb ?_ HI.out.symm, hB1⟩
    rw [← HE.out]
    apply ByteArray.ext
    simp
set_option maxHeartbeats 1000000 in
theorem chars_escape_plain (c : Int) (w : World) (h0 : 32 ≤ c) (h1 : c ≤ 126) (h2 : ¬ c = 39) (h3 : ¬ c = 92) :
    Calls Tryz.prog 203 #[.int .i64 c] w fun e w' => e = .returned (.tuple #[.string ⟨(esc c).toArray⟩, .bool (isCh c)]) ∧ Below w.heap.size w w' := by
  have HE := Lib.hid (show esc c = [c.toNat.toUInt8] by unfold esc; grind)
  have HC := Lib.hid (show isCh c = true by simp [isCh]; omega)
  have q2 : (c == 39) = false := by grind
  have q3 : (c == 92) = false := by grind
  clear h2 h3
  have hk := fun (w : World) => conv_new1 (P := Tryz.prog) 75 9 5 Tryz.underlying75 Tryz.underlying5 Tryz.underlying9 c (by omega) (by omega) w
  go_enter Tryz.func203, Tryz.ntmps203
  go_wp2_with (first | (go_at_call 102; refine (chars_is _ _).mono ?_; rintro e w' ⟨rfl, rfl⟩; rw [HC.out]))
  go_ret2
  exact ⟨ret_sb (by rw [HE.out]) HC.out.symm, (Below.refl _ _).alloc (Nat.le_refl _) _⟩
set_option maxHeartbeats 1000000 in
theorem chars_escape_quote (c : Int) (w : World) (h2 : c = 39 ∨ c = 92) :
    Calls Tryz.prog 203 #[.int .i64 c] w fun e w' => e = .returned (.tuple #[.string ⟨(esc c).toArray⟩, .bool (isCh c)]) ∧ Below w.heap.size w w' := by
  rcases h2 with rfl | rfl
  all_goals
    have hk := fun (n : Int) (h0 : 0 ≤ n) (h1 : n ≤ 255) (w : World) => conv_new1 (P := Tryz.prog) 75 9 5 Tryz.underlying75 Tryz.underlying5 Tryz.underlying9 n h0 h1 w
    have hk1 := hk 39 (by decide) (by decide)
    have hk2 := hk 92 (by decide) (by decide)
    clear hk
    go_enter Tryz.func203, Tryz.ntmps203
    go_wp2_with (first | (go_at_call 102; refine (chars_is _ _).mono ?_; rintro e w' ⟨rfl, rfl⟩; rw [show isCh _ = true from rfl]))
    go_ret2
    exact ⟨ret_sb rfl rfl, (Below.refl _ _).alloc (Nat.le_refl _) _⟩
set_option maxHeartbeats 1000000 in
theorem chars_escape_letter (c : Int) (w : World) (h0 : 7 ≤ c) (h1 : c ≤ 13) :
    Calls Tryz.prog 203 #[.int .i64 c] w fun e w' => e = .returned (.tuple #[.string ⟨(esc c).toArray⟩, .bool (isCh c)]) ∧ Below w.heap.size w w' := by
  have hc : c = 7 ∨ c = 8 ∨ c = 9 ∨ c = 10 ∨ c = 11 ∨ c = 12 ∨ c = 13 := by omega
  rcases hc with rfl | rfl | rfl | rfl | rfl | rfl | rfl
  all_goals
    go_enter Tryz.func203, Tryz.ntmps203
    go_wp2_with (first | (go_at_call 102; refine (chars_is _ _).mono ?_; rintro e w' ⟨rfl, rfl⟩; rw [show isCh _ = true from rfl]))
    go_ret2
    exact ⟨ret_sb rfl rfl, Below.refl _ _⟩
theorem chars_escape (c : Int) (w : World) (h0 : 0 ≤ c) (h1 : c ≤ 255) (hT : Tab15 w) :
    Calls Tryz.prog 203 #[.int .i64 c] w fun e w' => e = .returned (.tuple #[.string ⟨(esc c).toArray⟩, .bool (isCh c)]) ∧ Below w.heap.size w w' := by
  by_cases a : 7 ≤ c ∧ c ≤ 13
  · exact chars_escape_letter c w a.1 a.2
  by_cases b : c = 39 ∨ c = 92
  · exact chars_escape_quote c w b
  by_cases d : 32 ≤ c ∧ c ≤ 126
  · exact chars_escape_plain c w d.1 d.2 (by omega) (by omega)
  · exact chars_escape_hex c w h0 h1 (by omega) hT
/-- The tests of Plain, in order. -/
def plainT : Nat → List UInt8 → Bool
  | 0 => plain1
  | 1 => plain2
  | _ => plain3
def plainF : Nat → FuncId
  | 0 => 196
  | 1 => 197
  | _ => 199
set_option maxHeartbeats 400000 in
theorem sp_plain4 (k : Nat) (hk : k < 3) (s : ByteArray) (b : Nat) (w : World) (hp : w.cell? ⟨b, 0, none⟩ = some (.string s)) (hb : b < w.heap.size) (hs : s.size ≤ maxLen) :
    Calls Tryz.prog 202 #[.func (.func (plainF k)) #[] #[.pointer (some ⟨b, 0, none⟩)]] w fun e w' => e = .returned (.bool (plainT k s.data.toList)) ∧ Below w.heap.size w w' := by
  have H1 := Lib.hid (sp_plain1 s b w hp)
  have H2 := Lib.hid (sp_plain2 s b w hp hb hs)
  have H3 := Lib.hid (sp_plain3 s b w hp hb hs)
  match k, hk with
  | 0, _ =>
    unfold plainF plainT
    go_enter Tryz.func202, Tryz.ntmps202
    go_wp2_with fail
    refine H1.out.mono ?_; rintro e w1 ⟨rfl, hB1⟩
    go_wp2_with fail
    go_ret
    exact ⟨rfl, hB1⟩
  | 1, _ =>
    unfold plainF plainT
    go_enter Tryz.func202, Tryz.ntmps202
    go_wp2_with fail
    refine H2.out.mono ?_; rintro e w1 ⟨rfl, hB1⟩
    go_wp2_with fail
    go_ret
    exact ⟨rfl, hB1⟩
  | 2, _ =>
    unfold plainF plainT
    go_enter Tryz.func202, Tryz.ntmps202
    go_wp2_with fail
    refine H3.out.mono ?_; rintro e w1 ⟨rfl, hB1⟩
    go_wp2_with fail
    go_ret
    exact ⟨rfl, hB1⟩
/-- The first test that says yes. -/
def plainIx (s : List UInt8) : Int := if plain1 s = true then 0 else if plain2 s = true then 1 else if plain3 s = true then 2 else -1
set_option maxHeartbeats 800000 in
theorem sp_ixFunc (g : Nat) (s : ByteArray) (b : Nat) (w : World) (hp : w.cell? ⟨b, 0, none⟩ = some (.string s)) (hb : b < w.heap.size) (hs : s.size ≤ maxLen) (hg : g < w.heap.size)
    (hc : ∀ k : Nat, k < 3 → w.cell? ⟨g, k, none⟩ = some (.func (.func (plainF k)) #[] #[.pointer (some ⟨b, 0, none⟩)])) :
    Calls Tryz.prog 215 #[.slice (some ⟨g, 0, none⟩) 3 3, .func (.func 202) #[] #[]] w fun e w' => e = .returned (.int .i64 (plainIx s.data.toList)) ∧ Below w.heap.size w w' := by
  have HC := Lib.hid hc
  have HP := Lib.hid hp
  clear hc hp
  go_enter Tryz.func215, Tryz.ntmps215
  go_wp2_with fail
  go_loopw [8] (fun i wr => ∃ k : Nat, k ≤ 3 ∧ i = .int .i64 k ∧ Hid (∀ j, j < k → plainT j s.data.toList = false) ∧ Below w.heap.size w wr) (fun i _ => 3 - (intOf i).toNat)
  case atStart => exact ⟨0, Nat.zero_le _, rfl, fun j h => absurd h (by omega), Below.refl _ _⟩
  case round =>
    obtain ⟨k, hk, rfl, HJ, hB⟩ := hrel
    have hbs := hB.size
    by_cases hlt : k < 3
    · have c1 := (hB.cell (p := ⟨g, k, none⟩) hg).trans (HC.out k hlt)
      have H4 := Lib.hid (carry hB (sp_plain4 k hlt s b wr ((hB.cell (p := ⟨b, 0, none⟩) hb).trans HP.out) (by omega) hs))
      generalize hf : plainF k = F at *
      have HF := Lib.hid hf
      clear hf
      cases hq : plainT k s.data.toList
      all_goals
        have Hq := Lib.hid hq
        clear hq
        go_wp2_with fail
        refine H4.out.mono ?_; rintro e w1 ⟨rfl, hB1⟩; rw [Hq.out]
        go_wp2_with fail
      · go_roundw
        case rel => exact ⟨k + 1, by omega, by go_num, fun j hj => (by
          by_cases hjk : j = k
          · rw [hjk]; exact Hq.out
          · exact HJ.out j (by omega)), hB1⟩
        case measure => simp [intOf]; omega
      · go_ret
        refine ⟨ret_int ?_, hB1⟩
        unfold plainIx
        match k, hlt, HJ, Hq with
        | 0, _, HJ, Hq => rw [if_pos (show plain1 _ = true from Hq.out)]; rfl
        | 1, _, HJ, Hq => rw [if_neg (by have := HJ.out 0 (by omega); exact fun h => by rw [show plain1 _ = false from this] at h; cases h), if_pos (show plain2 _ = true from Hq.out)]; rfl
        | 2, _, HJ, Hq => rw [if_neg (by have := HJ.out 0 (by omega); exact fun h => by rw [show plain1 _ = false from this] at h; cases h), if_neg (by have := HJ.out 1 (by omega); exact fun h => by rw [show plain2 _ = false from this] at h; cases h), if_pos (show plain3 _ = true from Hq.out)]; rfl
    · have h3 : k = 3 := by omega
      subst h3
      go_wp2_with fail
      go_ret
      refine ⟨ret_int ?_, hB⟩
      unfold plainIx
      rw [if_neg (by have := HJ.out 0 (by omega); exact fun h => by rw [show plain1 _ = false from this] at h; cases h), if_neg (by have := HJ.out 1 (by omega); exact fun h => by rw [show plain2 _ = false from this] at h; cases h), if_neg (by have := HJ.out 2 (by omega); exact fun h => by rw [show plain3 _ = false from this] at h; cases h)]
theorem plain_parts (s : List UInt8) : plainN s = (decide (s.length ≤ 100) && decide (0 ≤ plainIx s)) := by
  have e1 : decide (0 ≤ plainIx s) = (plain1 s || (plain2 s || plain3 s)) := by
    unfold plainIx
    cases plain1 s <;> cases plain2 s <;> cases plain3 s <;> rfl
  rw [e1]
  unfold plainN special plain1 plain2 plain3 allN Lib.hasPrefix
  have h1 : ∀ a : List UInt8, (s == a) = decide (s = a) := fun a => by rw [Bool.eq_iff_iff]; simp
  have h2 : (([47, 42] : List UInt8).isPrefixOf s) = (s.take 2 == [47, 42]) := by
    match s with
    | [] => rfl
    | [a] => simp [List.isPrefixOf]
    | a :: b :: l => rw [Bool.eq_iff_iff]; simp [List.isPrefixOf]; constructor <;> (rintro ⟨h, h'⟩; exact ⟨h.symm, h'.symm⟩)
  rw [h2, h1, h1, h1, h1, h1]
  cases hs : s with
  | nil => decide +kernel
  | cons a l =>
    have h3 : rawAt (a :: l) 0 = bAt (a :: l) 0 := rawAt_in _ _ (by simp)
    rw [h3]
    simp only [List.isEmpty_cons, Bool.not_false, Bool.and_true, Bool.true_and]
set_option maxHeartbeats 400000 in
theorem sp_contains (g : Nat) (s : ByteArray) (b : Nat) (w : World) (hp : w.cell? ⟨b, 0, none⟩ = some (.string s)) (hb : b < w.heap.size) (hs : s.size ≤ maxLen) (hg : g < w.heap.size)
    (hc : ∀ k : Nat, k < 3 → w.cell? ⟨g, k, none⟩ = some (.func (.func (plainF k)) #[] #[.pointer (some ⟨b, 0, none⟩)])) :
    Calls Tryz.prog 201 #[.slice (some ⟨g, 0, none⟩) 3 3, .func (.func 202) #[] #[]] w fun e w' => e = .returned (.bool (decide (0 ≤ plainIx s.data.toList))) ∧ Below w.heap.size w w' := by
  have H := Lib.hid (sp_ixFunc g s b w hp hb hs hg hc)
  clear hc hp
  generalize plainIx s.data.toList = r at *
  go_enter Tryz.func201, Tryz.ntmps201
  go_wp2_with fail
  refine H.out.mono ?_; rintro e w1 ⟨rfl, hB1⟩
  go_wp2_with fail
  go_ret
  exact ⟨rfl, hB1⟩
set_option maxHeartbeats 800000 in
theorem sp_plain (s : ByteArray) (w : World) (hs : s.size ≤ maxLen) :
    Calls Tryz.prog 167 #[.string s] w fun e w' => e = .returned (.bool (plainN s.data.toList)) ∧ Below w.heap.size w w' := by
  have HP := Lib.hid (plain_parts s.data.toList)
  rw [size_data] at HP
  by_cases h1 : 100 < s.size
  · have b1 : decide ((100 : Int) < s.size) = true := by simp; omega
    have HQ := Lib.hid (show decide (s.size ≤ 100) = false by simp; omega)
    clear h1
    go_enter Tryz.func167, Tryz.ntmps167
    go_wp2_with fail
    go_ret
    exact ⟨ret_bool (by rw [HP.out, HQ.out]; rfl), (Below.refl _ _).alloc (Nat.le_refl _) _⟩
  · have b1 : decide ((100 : Int) < s.size) = false := by simp; omega
    have HQ := Lib.hid (show decide (s.size ≤ 100) = true by simp; omega)
    clear h1
    go_enter Tryz.func167, Tryz.ntmps167
    go_wp2_with fail
    refine (sp_contains (w.heap.size + 1) s w.heap.size _ ?_ ?_ hs ?_ ?_).mono ?_
    · rw [World.cell?_alloc_lt _ _ _ (by simp), World.cell?_alloc_new]; rfl
    · simp; omega
    · simp
    · intro k hk
      have e : (w.alloc (.cells #[.string s] 9)).heap.size = w.heap.size + 1 := by simp
      rw [← e, World.cell?_alloc_new]
      match k, hk with
      | 0, _ => rfl
      | 1, _ => rfl
      | 2, _ => rfl
    rintro e w1 ⟨rfl, hB1⟩
    go_wp2_with fail
    go_ret
    exact ⟨ret_bool (by rw [HP.out, HQ.out]; rfl), (((Below.refl _ _).alloc (Nat.le_refl _) _).alloc (by simp) _).trans (hB1.mono (by simp; omega))⟩
end Go.Proofs.YtgapnafkelokaaaGreatDoor
namespace Hb
open Go Go.RowKit
theorem btws_take (s : List UInt8) (k : Nat) (h : k < s.length) : btws 39 (s.take (k + 1)) = btws 39 (s.take k) ++ esc (bAt s k) := by
  rw [List.take_succ_eq_append_getElem h, btws_snoc, btw_39, bAt_get _ _ h]
theorem esc_len (c : Int) : (esc c).length ≤ 5 := by
  unfold esc; repeat' split
  all_goals simp
theorem btws_le (s : List UInt8) : (btws 39 s).length ≤ 5 * s.length := by
  induction s with
  | nil => simp [btws]
  | cons b s ih => have := esc_len (b.toNat : Int); rw [btws_cons, btw_39, List.length_append, List.length_cons]; omega
theorem strCells_mk (l : List UInt8) : Lib.strCells ⟨l.toArray⟩ = byteCells l := rfl
theorem byteCells_app (a b : List UInt8) : byteCells (a ++ b) = byteCells a ++ byteCells b := by simp [byteCells]
def bts (l : List ByteArray) : List (List UInt8) := l.map fun s => s.data.toList
theorem sep_nil (b : List UInt8) : sepOf [] b = [] := rfl
theorem bts_len (l : List ByteArray) : (bts l).length = l.length := by simp [bts]
theorem bts_get (l : List ByteArray) (k : Nat) (h : k < l.length) : (bts l)[k]'(by rw [bts_len]; exact h) = l[k].data.toList := by simp [bts]
theorem joinFrom_snoc2 (a b : List UInt8) : ∀ (l : List (List UInt8)) (p : List UInt8), joinFrom p (l ++ [a] ++ [b]) = joinFrom p (l ++ [a]) ++ (sepOf a b ++ b)
  | [], p => by simp [joinFrom]
  | x :: l, p => by
    have := joinFrom_snoc2 a b l x
    show sepOf p x ++ x ++ joinFrom x (l ++ [a] ++ [b]) = (sepOf p x ++ x ++ joinFrom x (l ++ [a])) ++ (sepOf a b ++ b)
    rw [this, List.append_assoc (sepOf p x ++ x)]
theorem bts_take (l : List ByteArray) (k : Nat) : bts (l.take k) = (bts l).take k := by unfold bts; rw [List.map_take]
theorem joinN_zero (l : List ByteArray) (h : 0 < l.length) : joinN (bts (l.take 1)) = l[0].data.toList := by
  match l, h with
  | s :: l, _ => simp [bts, joinN, joinFrom, sep_nil]
theorem joinN_succ (l : List ByteArray) (k : Nat) (h : k + 1 < l.length) : joinN (bts (l.take (k + 1 + 1))) = joinN (bts (l.take (k + 1))) ++ (sepOf l[k].data.toList l[k + 1].data.toList ++ l[k + 1].data.toList) := by
  rw [bts_take, bts_take, List.take_succ_eq_append_getElem (by rw [bts_len]; exact h), List.take_succ_eq_append_getElem (by rw [bts_len]; omega), bts_get _ _ h, bts_get _ _ (by omega)]
  exact joinFrom_snoc2 _ _ _ _
theorem joinFrom_len (m : Nat) : ∀ (l : List (List UInt8)) (p : List UInt8), (∀ s ∈ l, s.length ≤ m) → (joinFrom p l).length ≤ l.length * (m + 1)
  | [], _, _ => by simp [joinFrom]
  | s :: l, p, h => by
    have h1 := joinFrom_len m l s fun x hx => h x (List.mem_cons_of_mem _ hx)
    have h2 := h s (List.mem_cons_self ..)
    have h3 : (sepOf p s).length ≤ 1 := by unfold sepOf; split <;> simp
    rw [joinFrom, List.length_append, List.length_append, List.length_cons, Nat.add_mul]; omega
theorem joinN_len (m : Nat) (l : List ByteArray) (h : ∀ s ∈ l, s.size ≤ m) : (joinN (bts l)).length ≤ l.length * (m + 1) := by
  have := joinFrom_len m (bts l) [] (fun s hs => by
    unfold bts at hs
    rw [List.mem_map] at hs
    obtain ⟨x, hx, rfl⟩ := hs
    rw [size_data]; exact h x hx)
  unfold bts at this ⊢
  rw [List.length_map] at this; exact this
end Hb
namespace Go.Proofs.YtgapnafkelokaaaGreatDoor
open Go.RowKit Hb
set_option maxRecDepth 100000
theorem b_writeList (B b : Nat) (acc l : List UInt8) (w : World) (h : Lib.IsBuilder 108 5 B b (byteCells acc) w) (hlen : acc.length + l.length ≤ 140737488355328) (hBw : B ≤ w.heap.size) :
    Calls Tryz.prog 60 #[.pointer (some ⟨b, 0, none⟩), .string ⟨l.toArray⟩] w fun e w' => e = .returned (.tuple #[.int .i64 l.length, .nilIface]) ∧ (Lib.IsBuilder 108 5 B b (byteCells (acc ++ l)) w' ∧ Below B w w') :=
  (b_writeString B b (byteCells acc) ⟨l.toArray⟩ w h (by rw [byteCells_len]; exact hlen) hBw).mono fun _ _ ⟨he, h1, h2⟩ => ⟨he, .inr (by rw [byteCells_app]; exact h1), h2⟩
set_option maxHeartbeats 1000000 in
theorem sp_quote (s : ByteArray) (w : World) (hs : s.size ≤ 1000000) (hT : Tab15 w) :
    Calls Tryz.prog 168 #[.string s] w fun e w' => e = .returned (.string ⟨(quoteN s.data.toList).toArray⟩) ∧ Below w.heap.size w w' := by
  have HT := Lib.hid hT
  clear hT
  have HQ := Lib.hid (show quoteN s.data.toList = 39 :: btws 39 s.data.toList ++ [39] from rfl)
  have HL := Lib.hid (btws_le s.data.toList)
  rw [size_data] at HL
  have hN := isb_new 108 5 w
  have HN := Lib.hid hN
  clear hN
  go_enter Tryz.func168, Tryz.ntmps168
  go_wp2_with fail
  refine (b_writeList w.heap.size w.heap.size [] [39] _ HN.out (by simp) (by simp)).mono ?_
  rintro e w1 ⟨rfl, hI, hB⟩
  rw [List.nil_append] at hI
  have hB1 := ((Below.refl w.heap.size w).alloc (Nat.le_refl _) (.cells #[.pointer none, .slice none 0 0] 108)).trans hB
  have HI := Lib.hid hI
  clear hI hB
  go_wp2_with fail
  go_loopw [13] (fun i wr => ∃ k : Nat, k ≤ s.size ∧ i = .int .i64 k ∧ Hid (Lib.IsBuilder 108 5 w.heap.size w.heap.size (byteCells (39 :: btws 39 (s.data.toList.take k))) wr) ∧ Below w.heap.size w wr) (fun i _ => s.size - (intOf i).toNat)
  case atStart => exact ⟨0, Nat.zero_le _, rfl, HI.out, hB1⟩
  case round =>
    obtain ⟨k, hk, rfl, HI, hB⟩ := hrel
    have hbs := hB.size
    by_cases hlt : k < s.size
    · have hb := bAt_mk s k hlt
      have hb0 := bAt_lo s.data.toList k
      have hb1 := bAt_hi s.data.toList k
      have Hs := Lib.hid (btws_take s.data.toList k (by simpa using hlt))
      have Hle := Lib.hid (show (39 :: btws 39 (s.data.toList.take k)).length + (esc (bAt s.data.toList k)).length ≤ 140737488355328 by
        have h1 := btws_le (s.data.toList.take k)
        have h2 := esc_len (bAt s.data.toList k)
        rw [List.length_take] at h1
        rw [List.length_cons]; omega)
      generalize bAt s.data.toList k = c at *
      have HE := Lib.hid (chars_escape c wr hb0 hb1 (HT.out.below hB))
      go_wp2_with fail
      refine HE.out.mono ?_; rintro e w2 ⟨rfl, hB2⟩
      have HI2 := Lib.hid (isb_below HI.out hB2)
      have hb2 := hB2.size
      go_wp2_with fail
      refine (b_writeList w.heap.size w.heap.size _ (esc c) _ HI2.out Hle.out (by omega)).mono ?_
      rintro e w3 ⟨rfl, hI3, hB3⟩
      go_wp2_with fail
      go_roundw
      case rel => exact ⟨k + 1, by omega, by go_num, by rw [Hs.out]; exact hI3, (hB.trans (hB2.mono hbs)).trans hB3⟩
      case measure => simp [intOf]; omega
    · have hx : s.data.toList.take k = s.data.toList := List.take_of_length_le (by simp; omega)
      rw [hx] at HI
      clear hx
      go_wp2_with fail
      refine (b_writeList w.heap.size w.heap.size _ [39] _ HI.out (by have := HL.out; simp; omega) hbs).mono ?_
      rintro e w2 ⟨rfl, hI2, hB2⟩
      have hs2 := hB2.size
      go_wp2_with fail
      refine (Tryz.Builder_String_any w.heap.size w.heap.size _ _ hI2 (by omega)).mono ?_
      rintro e w3 ⟨rfl, hB3⟩
      go_wp2_with fail
      go_ret
      exact ⟨ret_str (by rw [HQ.out]; rfl), (hB.trans hB2).trans hB3⟩
set_option maxHeartbeats 400000 in
theorem sp_atom (s : ByteArray) (w : World) (hs : s.size ≤ 1000000) (hT : Tab15 w) :
    Calls Tryz.prog 119 #[.string s] w fun e w' => e = .returned (.string ⟨(atomN s.data.toList).toArray⟩) ∧ Below w.heap.size w w' := by
  have HT := Lib.hid hT
  clear hT
  have HP := Lib.hid (sp_plain s w (by unfold maxLen; omega))
  cases hp : plainN s.data.toList
  all_goals
    have Hp := Lib.hid hp
    clear hp
    go_enter Tryz.func119, Tryz.ntmps119
    go_wp2_with fail
    refine HP.out.mono ?_; rintro e w1 ⟨rfl, hB1⟩; rw [Hp.out]
    have hs1 := hB1.size
    go_wp2_with fail
  · refine (sp_quote s _ hs (HT.out.below hB1)).mono ?_; rintro e w2 ⟨rfl, hB2⟩
    go_wp2_with fail
    go_ret
    exact ⟨ret_str (by unfold atomN; rw [Hp.out]; rfl), hB1.trans (hB2.mono hs1)⟩
  · go_ret
    exact ⟨ret_str (by unfold atomN; rw [Hp.out]; simp), hB1⟩
set_option maxHeartbeats 1000000 in
theorem sp_join (A : Option Addr) (n cap : Nat) (l : List ByteArray) (w : World) (hn : n = l.length) (hm : n ≤ 100000) (hp : StrsAt w A l) (hz : ∀ s ∈ l, s.size ≤ 1000000) :
    Calls Tryz.prog 35 #[.slice A n cap] w fun e w' => e = .returned (.string ⟨(joinN (bts l)).toArray⟩) ∧ Below w.heap.size w w' := by
  have HN := Lib.hid hn
  have HP := Lib.hid hp
  have HZ := Lib.hid hz
  clear hp hz
  have HB := Lib.hid (isb_new 108 5 w)
  have hj : ∀ k, k ≤ n → (joinN (bts (l.take k))).length ≤ 100000 * 1000001 := fun k hk => by
    have := joinN_len 1000000 (l.take k) (fun s hs => HZ.out s (List.mem_of_mem_take hs))
    rw [List.length_take] at this
    refine Nat.le_trans this (Nat.mul_le_mul_right _ ?_)
    omega
  have HJ := Lib.hid hj
  clear hj
  clear hn
  go_enter Tryz.func35, Tryz.ntmps35
  go_wp2_with fail
  go_loopw [10] (fun i wr => ∃ k : Nat, k ≤ n ∧ i = .int .i64 k ∧ Hid (Lib.IsBuilder 108 5 w.heap.size w.heap.size (byteCells (joinN (bts (l.take k)))) wr) ∧ Below w.heap.size w wr) (fun i _ => n - (intOf i).toNat)
  case atStart => exact ⟨0, Nat.zero_le _, rfl, HB.out, (Below.refl w.heap.size w).alloc (Nat.le_refl _) _⟩
  case round =>
    obtain ⟨k, hk, rfl, HI, hB⟩ := hrel
    have hbs := hB.size
    by_cases hlt : k < n
    · have hkl : k < l.length := by have := HN.out; omega
      obtain ⟨g, off, rfl, hg, c1⟩ := (HP.out.below hB) k hkl
      have hz1 := HZ.out l[k] (List.getElem_mem hkl)
      by_cases h0 : k = 0
      · subst h0
        have Hs := Lib.hid (joinN_zero l hkl)
        have e0 : joinN (bts (l.take 0)) = [] := rfl
        rw [e0] at HI
        clear e0
        rw [Nat.add_zero] at c1
        generalize l[0] = s at *
        go_wp2_with fail
        refine (b_writeList w.heap.size w.heap.size [] s.data.toList _ HI.out (by rw [size_data]; simp; omega) hbs).mono ?_
        rintro e w3 ⟨rfl, hI3, hB3⟩
        go_wp2_with fail
        go_roundw
        case rel => exact ⟨0 + 1, by omega, by go_num, by rw [Hs.out]; exact hI3, hB.trans hB3⟩
        case measure => simp [intOf]; omega
      · obtain ⟨j, rfl⟩ : ∃ j, k = j + 1 := ⟨k - 1, by omega⟩
        obtain ⟨g', off', hA, _, c0⟩ := (HP.out.below hB) j (by omega)
        obtain ⟨rfl, rfl⟩ : g' = g ∧ off' = off := by injection hA with hA; injection hA with h1 h2 _; exact ⟨h1.symm, h2.symm⟩
        have hz0 := HZ.out l[j] (List.getElem_mem (by omega))
        have Hs := Lib.hid (joinN_succ l j hkl)
        clear hA h0
        generalize l[j + 1] = s at *
        generalize l[j] = p at *
        have HG := Lib.hid (sp_glue p s wr (by unfold maxLen; omega))
        have HL := Lib.hid (HJ.out (j + 1) (by omega))
        generalize joinN (bts (l.take (j + 1))) = acc at *
        have hjn : decide ((j : Int) + 1 < n) = true := by simp; omega
        cases hg' : glueN p.data.toList s.data.toList
        · have Hg := Lib.hid hg'
          clear hg'
          go_wp2_with fail
          refine HG.out.mono ?_; rintro e w2 ⟨rfl, hB2⟩; rw [Hg.out]
          have HI2 := Lib.hid (isb_below HI.out hB2)
          have hb2 := hB2.size
          go_wp2_with fail
          refine (b_writeList w.heap.size w.heap.size acc s.data.toList _ HI2.out (by have := HL.out; rw [size_data]; omega) (by omega)).mono ?_
          rintro e w3 ⟨rfl, hI3, hB3⟩
          go_wp2_with fail
          go_roundw
          case rel => exact ⟨j + 1 + 1, by omega, by go_num, by rw [Hs.out]; unfold sepOf; rw [Hg.out]; exact hI3, (hB.trans (hB2.mono hbs)).trans hB3⟩
          case measure => simp [intOf]; omega
        · have Hg := Lib.hid hg'
          clear hg'
          go_wp2_with fail
          refine HG.out.mono ?_; rintro e w2 ⟨rfl, hB2⟩; rw [Hg.out]
          have HI2 := Lib.hid (isb_below HI.out hB2)
          have hb2 := hB2.size
          go_wp2_with fail
          refine (b_writeList w.heap.size w.heap.size acc [32] _ HI2.out (by have := HL.out; simp; omega) (by omega)).mono ?_
          rintro e w3 ⟨rfl, hI3, hB3⟩
          have HI3 := Lib.hid hI3
          clear hI3
          have hb3 := hB3.size
          go_wp2_with fail
          refine (b_writeList w.heap.size w.heap.size _ s.data.toList _ HI3.out (by have := HL.out; rw [size_data, List.length_append]; simp; omega) (by omega)).mono ?_
          rintro e w4 ⟨rfl, hI4, hB4⟩
          go_wp2_with fail
          go_roundw
          case rel => exact ⟨j + 1 + 1, by omega, by go_num, by rw [Hs.out]; unfold sepOf; rw [Hg.out, if_pos rfl, ← List.append_assoc]; exact hI4, ((hB.trans (hB2.mono hbs)).trans hB3).trans hB4⟩
          case measure => simp [intOf]; omega
    · have hx : l.take k = l := List.take_of_length_le (by have := HN.out; omega)
      rw [hx] at HI
      clear hx
      go_wp2_with fail
      refine (Tryz.Builder_String_any w.heap.size w.heap.size _ _ HI.out hbs).mono ?_
      rintro e w3 ⟨rfl, hB3⟩
      go_wp2_with fail
      go_ret
      exact ⟨rfl, hB.trans hB3⟩
end Go.Proofs.YtgapnafkelokaaaGreatDoor
