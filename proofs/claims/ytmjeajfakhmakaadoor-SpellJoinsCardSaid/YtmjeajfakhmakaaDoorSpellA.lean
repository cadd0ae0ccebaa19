/- The walks of the laws' helper awake, and of the law SpellExamples. -/
import Derived.Test.YtmjeajfakhmakaaDoorSpell5
namespace Hb
open Go Go.RowKit
theorem strs_new (w : World) (l : List ByteArray) (t : TypeId) : StrsAt (w.alloc (.cells (l.map Value.string).toArray t)) (some ⟨w.heap.size, 0, none⟩) l := fun j hj => by
  refine ⟨_, _, rfl, by simp, ?_⟩
  rw [World.cell?_alloc_new]
  simp [List.getElem?_eq_getElem hj]
end Hb
namespace Go.Proofs.YtmjeajfakhmakaaDoor
open Go.RowKit Hb
set_option maxRecDepth 100000
theorem v_plain {w0 w : World} (s : ByteArray) (v : Bool) (hv : plainN s.data.toList = v) (hs : s.size ≤ maxLen) (hB : Below w0.heap.size w0 w) :
    Calls Tryd.prog 11 #[.string s] w fun e w' => e = .returned (.bool v) ∧ Below w0.heap.size w0 w' := by
  rw [← hv]; exact carry hB (sp_plain s w hs)
theorem v_atom {w0 w : World} (s r : ByteArray) (hr : (⟨(atomN s.data.toList).toArray⟩ : ByteArray) = r) (hs : s.size ≤ 1000000) (hT : Tab15 w0) (hB : Below w0.heap.size w0 w) :
    Calls Tryd.prog 12 #[.string s] w fun e w' => e = .returned (.string r) ∧ Below w0.heap.size w0 w' := by
  rw [← hr]; exact carry hB (sp_atom s w hs (hT.below hB))
theorem v_quote {w0 w : World} (s r : ByteArray) (hr : (⟨(quoteN s.data.toList).toArray⟩ : ByteArray) = r) (hs : s.size ≤ 1000000) (hT : Tab15 w0) (hB : Below w0.heap.size w0 w) :
    Calls Tryd.prog 13 #[.string s] w fun e w' => e = .returned (.string r) ∧ Below w0.heap.size w0 w' := by
  rw [← hr]; exact carry hB (sp_quote s w hs (hT.below hB))
theorem v_glue {w0 w : World} (a b : ByteArray) (v : Bool) (hv : glueN a.data.toList b.data.toList = v) (hs : a.size ≤ maxLen) (hB : Below w0.heap.size w0 w) :
    Calls Tryd.prog 14 #[.string a, .string b] w fun e w' => e = .returned (.bool v) ∧ Below w0.heap.size w0 w' := by
  rw [← hv]; exact carry hB (sp_glue a b w hs)
/-- Join of a literal. -/
theorem v_join {w0 w : World} (l : List ByteArray) (n : Nat) (t : TypeId) (r : ByteArray) (hn : n = l.length) (hr : (⟨(joinN (bts l)).toArray⟩ : ByteArray) = r) (hl : n ≤ 1000) (hz : ∀ s ∈ l, s.size ≤ 1000000) (hB : Below w0.heap.size w0 w) (W : World) (hW : W = w.alloc (.cells (l.map Value.string).toArray t)) :
    Calls Tryd.prog 15 #[.slice (some ⟨w.heap.size, 0, none⟩) n n] W fun e w' => e = .returned (.string r) ∧ Below w0.heap.size w0 w' := by
  subst hW
  rw [← hr]
  exact carry (hB.alloc hB.size _) (sp_join _ n n l _ hn hl (strs_new w l t) hz)

set_option maxHeartbeats 1600000 in
theorem law_awake11 (w : World) (hT : Tab15 w) : Calls Tryd.prog 16 #[] w fun e w' => e = .returned (.bool true) ∧ Below w.heap.size w w' := by
  have HT := Lib.hid hT
  clear hT
  go_enter Tryd.func16, Tryd.ntmps16
  go_wp2_with fail
  refine (v_plain (w0 := w) _ true (by decide +kernel) (by decide) (Below.refl _ _)).mono ?_; rintro e w1 ⟨rfl, hB1⟩
  go_wp2_with fail
  refine (v_plain (w0 := w) _ false (by decide +kernel) (by decide) hB1).mono ?_; rintro e w2 ⟨rfl, hB2⟩
  go_wp2_with fail
  refine (v_atom (w0 := w) _ ⟨#[39, 105, 116, 92, 39, 115, 39]⟩ (by decide +kernel) (by decide) HT.out hB2).mono ?_; rintro e w3 ⟨rfl, hB3⟩
  go_wp2_with fail
  refine (v_glue (w0 := w) _ _ true (by decide +kernel) (by decide) hB3).mono ?_; rintro e w4 ⟨rfl, hB4⟩
  go_wp2_with fail
  refine (v_join (w0 := w) [⟨#[97]⟩, ⟨#[61]⟩, ⟨#[92, 43]⟩, ⟨#[98]⟩, ⟨#[45]⟩, ⟨#[45, 49]⟩] 6 _ ⟨#[97, 61, 32, 92, 43, 98, 45, 32, 45, 49]⟩ rfl (by decide +kernel) (by decide) (by decide) hB4 _ rfl).mono ?_; rintro e w5 ⟨rfl, hB5⟩
  go_wp2_with fail
  go_ret
  exact ⟨rfl, hB5⟩

set_option maxHeartbeats 1600000 in
theorem law_spellExamples (w : World) (hT : Tab15 w) : Calls Tryd.prog 3 #[] w fun e w' => e = .returned (.bool true) ∧ Below w.heap.size w w' := by
  have HT := Lib.hid hT
  clear hT
  go_enter Tryd.func3, Tryd.ntmps3
  go_wp2_with fail
  refine (v_plain (w0 := w) _ true (by decide +kernel) (by decide) (Below.refl _ _)).mono ?_; rintro e w1 ⟨rfl, hB1⟩
  go_wp2_with fail
  refine (v_plain (w0 := w) _ false (by decide +kernel) (by decide) hB1).mono ?_; rintro e w2 ⟨rfl, hB2⟩; clear hB1
  go_wp2_with fail
  refine (v_plain (w0 := w) _ false (by decide +kernel) (by decide) hB2).mono ?_; rintro e w3 ⟨rfl, hB3⟩; clear hB2
  go_wp2_with fail
  refine (v_plain (w0 := w) _ false (by decide +kernel) (by decide) hB3).mono ?_; rintro e w4 ⟨rfl, hB4⟩; clear hB3
  go_wp2_with fail
  refine (v_plain (w0 := w) _ false (by decide +kernel) (by decide) hB4).mono ?_; rintro e w5 ⟨rfl, hB5⟩; clear hB4
  go_wp2_with fail
  refine (v_atom (w0 := w) _ ⟨#[39, 97, 32, 98, 39]⟩ (by decide +kernel) (by decide) HT.out hB5).mono ?_; rintro e w6 ⟨rfl, hB6⟩; clear hB5
  go_wp2_with fail
  refine (v_atom (w0 := w) _ ⟨#[91, 93]⟩ (by decide +kernel) (by decide) HT.out hB6).mono ?_; rintro e w7 ⟨rfl, hB7⟩; clear hB6
  go_wp2_with fail
  refine (v_atom (w0 := w) _ ⟨#[39, 39]⟩ (by decide +kernel) (by decide) HT.out hB7).mono ?_; rintro e w8 ⟨rfl, hB8⟩; clear hB7
  go_wp2_with fail
  refine (v_quote (w0 := w) _ ⟨#[39, 97, 39]⟩ (by decide +kernel) (by decide) HT.out hB8).mono ?_; rintro e w9 ⟨rfl, hB9⟩; clear hB8
  go_wp2_with fail
  refine (v_glue (w0 := w) _ _ true (by decide +kernel) (by decide) hB9).mono ?_; rintro e w10 ⟨rfl, hB10⟩; clear hB9
  go_wp2_with fail
  refine (v_glue (w0 := w) _ _ false (by decide +kernel) (by decide) hB10).mono ?_; rintro e w11 ⟨rfl, hB11⟩; clear hB10
  go_wp2_with fail
  refine (v_glue (w0 := w) _ _ true (by decide +kernel) (by decide) hB11).mono ?_; rintro e w12 ⟨rfl, hB12⟩; clear hB11
  go_wp2_with fail
  refine (v_glue (w0 := w) _ _ true (by decide +kernel) (by decide) hB12).mono ?_; rintro e w13 ⟨rfl, hB13⟩; clear hB12
  go_wp2_with fail
  refine (v_glue (w0 := w) _ _ false (by decide +kernel) (by decide) hB13).mono ?_; rintro e w14 ⟨rfl, hB14⟩; clear hB13
  go_wp2_with fail
  refine (v_join (w0 := w) [⟨#[49]⟩, ⟨#[109, 111, 100]⟩, ⟨#[40]⟩, ⟨#[88]⟩, ⟨#[32]⟩, ⟨#[45]⟩, ⟨#[41]⟩] 7 _ ⟨#[49, 32, 109, 111, 100, 40, 88, 32, 45, 41]⟩ rfl (by decide +kernel) (by decide) (by decide) hB14 _ rfl).mono ?_; rintro e w15 ⟨rfl, hB15⟩; clear hB14
  have hs15 := hB15.size
  go_wp2_with fail
  refine (carry (w0 := w) hB15 (law_awake11 _ (HT.out.below hB15))).mono ?_; rintro e w16 ⟨rfl, hB16⟩; clear hB15
  go_wp2_with fail
  go_ret
  exact ⟨rfl, hB16⟩
end Go.Proofs.YtmjeajfakhmakaaDoor
