/- Proved here: hornbeamlaw10.ReadAlls returns true for every input, and its arguments read as before (Rows.ReadAllsSaid). -/
import Derived.Test.YtbojljpldcijgaaGreatChecked
import Derived.Test.YtbojljpldcijgaaGreatRows
import Derived.Test.YtbojljpldcijgaaGreatR46
import Derived.Test.YtbojljpldcijgaaGreatR47
import Derived.ProofKit
import Derived.ChangeMaps5
import Derived.Carry
namespace Go.Proofs.YtbojljpldcijgaaGreat
open Go.ChangeShapes Go.WideShapes Go.ChangeAt Go.RowKit Hb

theorem own_readAlls : ownKnob Tryz.prog.godebug = none := by kernel_rfl
theorem laid_readAlls : laidOutB Tryz.prog = true := by kernel_rfl

set_option maxRecDepth 100000 in
theorem readAlls_lifted (os : Os) (started : os.Started) (H : Type) (enc : TypeId × Value → H) :
    ReturnsInHanded {} Tryz.checked os 7 .any (Rows.readAllsSpec.pre6 enc Tryz.prog Tryz.f7 Rows.readAllsRow.domain false) (Rows.readAllsSpec.post enc Tryz.prog Tryz.f7 false true false false) := by
  refine returnsInHanded_of_change (C := Tryz.checked) own_readAlls started (by kernel_rfl) Tryz.func7
    (ChangeSpec.witness6 (enc := enc) (C := Tryz.checked) false ⟨#[], #[.string ⟨#[]⟩, .agg #[.slice none 0 0, .int .i64 0, .int .i64 0, .bool false, .bool false, .slice none 0 0]], []⟩ 8 (by kernel_rfl) (by kernel_rfl) (by kernel_rfl) (by kernel_rfl)) ?_
  intro W base args ds gs before hval0 hW hcnd _
  have hval : ∀ (j : Nat) t v, Tryz.f7.params[j]? = some t → args[j]? = some v → Value.okWide Tryz.prog W .any base t v := hval0
  have hW' := hW
  obtain ⟨p, q, hA0, hV, rfl, hfz, hnd⟩ := hW
  have hA : DataW.TrodAll enc Tryz.prog W 0 (fun _ => true) true Tryz.f7.params.toList args.toList ds p := hA0
  rw [Tryz.params7] at hA hval
  obtain ⟨v0, v1, d0, d1, p0, p1, rfl, rfl, rfl, h0, h1⟩ := trodAll_two hA
  obtain ⟨rfl, rfl⟩ := trodVars_none hV
  have k0 := h0
  have k1 := h1
  obtain ⟨s0, rfl, _, _, hs0⟩ := Go.ChangeMaps.open_string Tryz.underlying9 (hval 0 9 v0 rfl rfl) h0
  obtain ⟨O1, on1, oc1, f1, C1, cn1, cc1, l1, cl1, rfl, hT1, hom1, hcl1, hcm1, hcp1, hc01⟩ := AJ (hval 1 27 v1 rfl rfl) h1
  clear hA0 hval0
  simp only [List.append_nil] at hW'
  refine (Ce s0 O1 on1 oc1 f1.q f1.u f1.c f1.d C1 cn1 cc1 l1 cl1 W hT1 hcl1 hcm1 hcp1 hs0).mono fun e W' ⟨he, hw⟩ => ?_
  subst he
  have hlt : ∀ x ∈ p0 ++ p1, x.block < W.heap.size := fun x hx => hW'.lt x hx
  exact ⟨_, rfl, [d0, d1], [], _, [], _, [], hW', trodAll_mk1 (shut_bool Tryz.underlying4 true),
    trodAll_mk2 (Below.trod laid_readAlls (by kernel_rfl) (of_decide_eq_true (by kernel_rfl)) k0 hw (fun x hx => hlt x (by simp [hx]))) (Below.trod laid_readAlls (by kernel_rfl) (of_decide_eq_true (by kernel_rfl)) k1 hw (fun x hx => hlt x (by simp [hx]))),
    rfl, hw.frame _, fun h => by cases h⟩

theorem readAlls_holds : Rows.ReadAllsSaid :=
  OpenClaim.holds_of_wide 7 Tryz.f7 rfl rfl rfl rfl rfl rfl rfl ⟨rfl, rfl, rfl, rfl, rfl⟩ rfl rfl rfl rfl rfl (by kernel_rfl) Tryz.func7 (by kernel_rfl)
    (of_decide_eq_true (by kernel_rfl)) (by unfold Func.isWrapper; first | (rw [if_pos (by decide +kernel)]; kernel_rfl) | (rw [if_neg (by decide +kernel)]; exact ⟨rfl, rfl⟩))
    (fun os started H enc _ => readAlls_lifted os started H enc)
end Go.Proofs.YtbojljpldcijgaaGreat
