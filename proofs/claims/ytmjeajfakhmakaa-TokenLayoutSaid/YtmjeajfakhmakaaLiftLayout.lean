/- Proved here: hornbeamlaw09.TokenLayout returns true for every text and every list of pieces, and its arguments read as before (Rows.TokenLayoutSaid). -/
import Derived.Test.YtmjeajfakhmakaaRows
import Derived.Test.YtmjeajfakhmakaaLawLayout
import Derived.Test.YtmjeajfakhmakaaArgs3
import Derived.ProofKit
import Derived.ChangeMaps5
namespace Go.Proofs.Ytmjeajfakhmakaa
open Go.ChangeShapes Go.WideShapes Go.ChangeAt Go.RowKit Hb

theorem own_knob8 : ownKnob Try.prog.godebug = none := by kernel_rfl
theorem laid_out8 : laidOutB Try.prog = true := by kernel_rfl

set_option maxRecDepth 100000 in
theorem layout_lifted (os : Os) (started : os.Started) (H : Type) (enc : TypeId × Value → H) :
    ReturnsInHanded {} Try.checked os 7 .any (Rows.tokenLayoutSpec.pre6 enc Try.prog Try.f7 Rows.tokenLayoutRow.domain false) (Rows.tokenLayoutSpec.post enc Try.prog Try.f7 false true false false) := by
  refine returnsInHanded_of_change (C := Try.checked) own_knob8 started (by kernel_rfl) Try.func7
    (ChangeSpec.witness6 (enc := enc) (C := Try.checked) false ⟨#[], #[.string ⟨#[]⟩, .slice none 0 0], []⟩ 8 (by kernel_rfl) (by kernel_rfl) (by kernel_rfl) (by kernel_rfl)) ?_
  intro W base args ds gs before hval0 hW hcnd _
  have hval : ∀ (j : Nat) t v, Try.f7.params[j]? = some t → args[j]? = some v → Value.okWide Try.prog W .any base t v := hval0
  have hW' := hW
  obtain ⟨p, q, hA0, hV, rfl, hfz, hnd⟩ := hW
  have hA : DataW.TrodAll enc Try.prog W 0 (fun _ => true) true Try.f7.params.toList args.toList ds p := hA0
  rw [Try.params7] at hA hval
  obtain ⟨v0, v1, d0, d1, p0, p1, rfl, rfl, rfl, h0, h1⟩ := trodAll_two hA
  obtain ⟨rfl, rfl⟩ := trodVars_none hV
  obtain ⟨A, n, cap, l, e2, hn, hm, hp⟩ := open_ints (hval 1 38 v1 rfl rfl) h1
  have k0 := h0
  obtain ⟨s, rfl, _, _, hs⟩ := Go.ChangeMaps.open_string Try.underlying9 (hval 0 9 v0 rfl rfl) h0
  subst e2
  clear hA0 hval0
  simp only [List.append_nil] at hW'
  refine (law_layout s A n cap l W hn hm hs hp).mono fun e W' ⟨he, hw⟩ => ?_
  subst he
  have hlt : ∀ x ∈ p0 ++ p1, x.block < W.heap.size := fun x hx => hW'.lt x hx
  exact ⟨_, rfl, [d0, d1], [], _, [], _, [], hW', trodAll_mk1 (shut_bool Try.underlying4 true),
    trodAll_mk2 (Below.trod laid_out8 (by kernel_rfl) (of_decide_eq_true (by kernel_rfl)) k0 hw (fun x hx => hlt x (by simp [hx]))) (Below.trod laid_out8 (by kernel_rfl) (of_decide_eq_true (by kernel_rfl)) h1 hw (fun x hx => hlt x (by simp [hx]))),
    rfl, hw.frame _, fun h => by cases h⟩

theorem tokenLayout_holds : Rows.TokenLayoutSaid :=
  OpenClaim.holds_of_wide 7 Try.f7 rfl rfl rfl rfl rfl rfl rfl ⟨rfl, rfl, rfl, rfl, rfl⟩ rfl rfl rfl rfl rfl (by kernel_rfl) Try.func7 (by kernel_rfl)
    (of_decide_eq_true (by kernel_rfl)) (by unfold Func.isWrapper; first | (rw [if_pos (by decide +kernel)]; kernel_rfl) | (rw [if_neg (by decide +kernel)]; exact ⟨rfl, rfl⟩))
    (fun os started H enc _ => layout_lifted os started H enc)
end Go.Proofs.Ytmjeajfakhmakaa
