/- Proved here: hornbeamlaw10.ReadTerms returns true for every input, and its arguments read as before (Rows.ReadTermsSaid). -/
import Derived.Test.YtbojljpldcijgaaGreatChecked
import Derived.Test.YtbojljpldcijgaaGreatRows
import Derived.Test.YtbojljpldcijgaaGreatR44
import Derived.Test.YtbojljpldcijgaaGreatR47
import Derived.ProofKit
import Derived.ChangeMaps5
import Derived.Carry
namespace Go.Proofs.YtbojljpldcijgaaGreat
open Go.ChangeShapes Go.WideShapes Go.ChangeAt Go.RowKit Hb

theorem own_readTerms : ownKnob Tryz.prog.godebug = none := by kernel_rfl
theorem laid_readTerms : laidOutB Tryz.prog = true := by kernel_rfl

set_option maxRecDepth 100000 in
theorem readTerms_lifted (os : Os) (started : os.Started) (H : Type) (enc : TypeId × Value → H) :
    ReturnsInHanded {} Tryz.checked os 3 .any (Rows.readTermsSpec.pre6 enc Tryz.prog Tryz.f3 Rows.readTermsRow.domain false) (Rows.readTermsSpec.post enc Tryz.prog Tryz.f3 false true false false) := by
  refine returnsInHanded_of_change (C := Tryz.checked) own_readTerms started (by kernel_rfl) Tryz.func3
    (ChangeSpec.witness6 (enc := enc) (C := Tryz.checked) false ⟨#[], #[.string ⟨#[]⟩, .int .i64 0, .agg #[.slice none 0 0, .int .i64 0, .int .i64 0, .bool false, .bool false, .slice none 0 0]], []⟩ 8 (by kernel_rfl) (by kernel_rfl) (by kernel_rfl) (by kernel_rfl)) ?_
  intro W base args ds gs before hval0 hW hcnd _
  have hval : ∀ (j : Nat) t v, Tryz.f3.params[j]? = some t → args[j]? = some v → Value.okWide Tryz.prog W .any base t v := hval0
  have hW' := hW
  obtain ⟨p, q, hA0, hV, rfl, hfz, hnd⟩ := hW
  have hA : DataW.TrodAll enc Tryz.prog W 0 (fun _ => true) true Tryz.f3.params.toList args.toList ds p := hA0
  rw [Tryz.params3] at hA hval
  obtain ⟨v0, v1, v2, d0, d1, d2, p0, p1, p2, rfl, rfl, rfl, h0, h1, h2⟩ := trodAll_three hA
  obtain ⟨rfl, rfl⟩ := trodVars_none hV
  have k0 := h0
  have k1 := h1
  have k2 := h2
  obtain ⟨s0, rfl, _, _, hs0⟩ := Go.ChangeMaps.open_string Tryz.underlying9 (hval 0 9 v0 rfl rfl) h0
  obtain ⟨i1, rfl, _, _, hi1⟩ := open_int Tryz.underlying3 (hval 1 3 v1 rfl rfl) h1
  obtain ⟨O2, on2, oc2, f2, C2, cn2, cc2, l2, cl2, rfl, hT2, hom2, hcl2, hcm2, hcp2, hc02⟩ := AJ (hval 2 27 v2 rfl rfl) h2
  clear hA0 hval0
  simp only [List.append_nil] at hW'
  refine (BR s0 i1 O2 on2 oc2 f2.q f2.u f2.c f2.d C2 cn2 cc2 l2 cl2 W hT2 hcl2 hcm2 hcp2 hs0).mono fun e W' ⟨he, hw⟩ => ?_
  subst he
  have hlt : ∀ x ∈ p0 ++ p1 ++ p2, x.block < W.heap.size := fun x hx => hW'.lt x hx
  exact ⟨_, rfl, [d0, d1, d2], [], _, [], _, [], hW', trodAll_mk1 (shut_bool Tryz.underlying4 true),
    trodAll_mk3 (Below.trod laid_readTerms (by kernel_rfl) (of_decide_eq_true (by kernel_rfl)) k0 hw (fun x hx => hlt x (by simp [hx]))) (Below.trod laid_readTerms (by kernel_rfl) (of_decide_eq_true (by kernel_rfl)) k1 hw (fun x hx => hlt x (by simp [hx]))) (Below.trod laid_readTerms (by kernel_rfl) (of_decide_eq_true (by kernel_rfl)) k2 hw (fun x hx => hlt x (by simp [hx]))),
    rfl, hw.frame _, fun h => by cases h⟩

theorem readTerms_holds : Rows.ReadTermsSaid :=
  OpenClaim.holds_of_wide 3 Tryz.f3 rfl rfl rfl rfl rfl rfl rfl ⟨rfl, rfl, rfl, rfl, rfl⟩ rfl rfl rfl rfl rfl (by kernel_rfl) Tryz.func3 (by kernel_rfl)
    (of_decide_eq_true (by kernel_rfl)) (by unfold Func.isWrapper; first | (rw [if_pos (by decide +kernel)]; kernel_rfl) | (rw [if_neg (by decide +kernel)]; exact ⟨rfl, rfl⟩))
    (fun os started H enc _ => readTerms_lifted os started H enc)
end Go.Proofs.YtbojljpldcijgaaGreat
