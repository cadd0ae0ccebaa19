/- Proved here: hornbeamlaw09.TokenExamples returns true, whatever the machine and its start (Rows.TokenExamplesSaid). -/
import Derived.Test.YtmjeajfakhmakaaRows
import Derived.Test.YtmjeajfakhmakaaExamples
import Derived.ProofKit
namespace Go.Proofs.Ytmjeajfakhmakaa
open Go.ChangeShapes Go.WideShapes Go.ChangeAt Go.RowKit Hb

theorem own_knob : ownKnob Try.prog.godebug = none := by kernel_rfl

set_option maxRecDepth 100000 in
theorem examples_lifted (os : Os) (started : os.Started) (H : Type) (enc : TypeId × Value → H) :
    ReturnsInHanded {} Try.checked os 9 .any (Rows.tokenExamplesSpec.pre6 enc Try.prog Try.f9 Rows.tokenExamplesRow.domain false) (Rows.tokenExamplesSpec.post enc Try.prog Try.f9 false true false false) := by
  refine returnsInHanded_of_change (C := Try.checked) own_knob started (by kernel_rfl) Try.func9
    (ChangeSpec.witness6 (enc := enc) (C := Try.checked) false ⟨#[], #[], []⟩ 8 (by kernel_rfl) (by kernel_rfl) (by kernel_rfl) (by kernel_rfl)) ?_
  intro W base args ds gs before hval0 hW hcnd _
  have hW' := hW
  obtain ⟨p, q, hA0, hV, rfl, hfz, hnd⟩ := hW
  have hA : DataW.TrodAll enc Try.prog W 0 (fun _ => true) true Try.f9.params.toList args.toList ds p := hA0
  rw [Try.params9] at hA
  obtain ⟨rfl, rfl, rfl⟩ := trodAll_none hA
  obtain ⟨rfl, rfl⟩ := trodVars_none hV
  clear hA0 hval0
  simp only [List.append_nil] at hW'
  refine (law_examples W).mono fun e W' ⟨he, hw⟩ => ?_
  subst he
  exact ⟨_, rfl, [], [], [], [], [], [], hW', trodAll_mk1 (shut_bool Try.underlying4 true), rfl, rfl, hw.frame _, fun h => by cases h⟩

theorem tokenExamples_holds : Rows.TokenExamplesSaid :=
  OpenClaim.holds_of_wide 9 Try.f9 rfl rfl rfl rfl rfl rfl rfl ⟨rfl, rfl, rfl, rfl, rfl⟩ rfl rfl rfl rfl rfl (by kernel_rfl) Try.func9 (by kernel_rfl)
    (of_decide_eq_true (by kernel_rfl)) (by unfold Func.isWrapper; first | (rw [if_pos (by decide +kernel)]; kernel_rfl) | (rw [if_neg (by decide +kernel)]; exact ⟨rfl, rfl⟩))
    (fun os started H enc _ => examples_lifted os started H enc)
end Go.Proofs.Ytmjeajfakhmakaa
