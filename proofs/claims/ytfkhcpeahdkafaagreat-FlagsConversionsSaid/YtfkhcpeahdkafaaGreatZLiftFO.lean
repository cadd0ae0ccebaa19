/- Proved here: hornbeamlaw08.FlagsConversions returns true for every input, and its arguments read as before (Rows.FlagsConversionsSaid). -/
import Derived.Test.YtfkhcpeahdkafaaGreatRows
import Derived.Test.YtfkhcpeahdkafaaGreatH36
import Derived.Test.YtfkhcpeahdkafaaGreatZArgS
import Derived.ProofKit
import Derived.ChangeMaps5
import Derived.Carry
namespace Go.Proofs.YtfkhcpeahdkafaaGreat
open Go.ChangeShapes Go.WideShapes Go.ChangeAt Go.RowKit Hb

theorem own_flagsConversions : ownKnob Tryz.prog.godebug = none := by kernel_rfl
theorem laid_flagsConversions : laidOutB Tryz.prog = true := by kernel_rfl

set_option maxRecDepth 100000 in
theorem flagsConversions_lifted (os : Os) (started : os.Started) (H : Type) (enc : TypeId × Value → H) :
  ReturnsInHanded {} Tryz.checked os 8 .any (Rows.flagsConversionsSpec.pre6 enc Tryz.prog Tryz.f8 Rows.flagsConversionsRow.domain false) (Rows.flagsConversionsSpec.post enc Tryz.prog Tryz.f8 false true false false) := by
 refine returnsInHanded_of_change (C := Tryz.checked) own_flagsConversions started (by kernel_rfl) Tryz.func8
  (ChangeSpec.witness6 (enc := enc) (C := Tryz.checked) false ⟨#[], #[.agg #[.slice none 0 0, .int .i64 0, .int .i64 0, .bool false, .bool false, .slice none 0 0], .int .u8 0, .int .u8 0, .int .u8 0], []⟩ 8 (by kernel_rfl) (by kernel_rfl) (by kernel_rfl) (by kernel_rfl)) ?_
 intro W base args ds gs before hval0 hW hcnd _
 have hval : ∀ (j : Nat) t v, Tryz.f8.params[j]? = some t → args[j]? = some v → Value.okWide Tryz.prog W .any base t v := hval0
 have hW' := hW
 obtain ⟨p, q, hA0, hV, rfl, hfz, hnd⟩ := hW
 have hA : DataW.TrodAll enc Tryz.prog W 0 (fun _ => true) true Tryz.f8.params.toList args.toList ds p := hA0
 rw [Tryz.params8] at hA hval
 obtain ⟨v0, v1, v2, v3, d0, d1, d2, d3, p0, p1, p2, p3, rfl, rfl, rfl, h0, h1, h2, h3⟩ := trodAll_four hA
 obtain ⟨rfl, rfl⟩ := trodVars_none hV
 have k0 := h0
 have k1 := h1
 have k2 := h2
 have k3 := h3
 obtain ⟨O0, on0, oc0, f0, C0, cn0, cc0, l0, cl0, rfl, hT0, hom0, hcl0, hcm0, hcp0, hc00⟩ := open_syntax (hval 0 43 v0 rfl rfl) h0
 obtain ⟨i1, rfl, _, _, hi1⟩ := open_int Tryz.underlying5 (hval 1 5 v1 rfl rfl) h1
 obtain ⟨i2, rfl, _, _, hi2⟩ := open_int Tryz.underlying5 (hval 2 5 v2 rfl rfl) h2
 obtain ⟨i3, rfl, _, _, hi3⟩ := open_int Tryz.underlying5 (hval 3 5 v3 rfl rfl) h3
 clear hA0 hval0
 simp only [List.append_nil] at hW'
 refine (law_conversions O0 on0 oc0 f0.q f0.u f0.c f0.d C0 cn0 cc0 i1 i2 i3 hi1 hi2 hi3 l0 cl0 W hT0 hcl0 hcm0 hcp0 hc00).mono fun e W' ⟨he, hw⟩ => ?_
 subst he
 have hlt : ∀ x ∈ p0 ++ p1 ++ p2 ++ p3, x.block < W.heap.size := fun x hx => hW'.lt x hx
 exact ⟨_, rfl, [d0, d1, d2, d3], [], _, [], _, [], hW', trodAll_mk1 (shut_bool Tryz.underlying4 true),
  trodAll_mk4 (Below.trod laid_flagsConversions (by kernel_rfl) (of_decide_eq_true (by kernel_rfl)) k0 hw (fun x hx => hlt x (by simp [hx]))) (Below.trod laid_flagsConversions (by kernel_rfl) (of_decide_eq_true (by kernel_rfl)) k1 hw (fun x hx => hlt x (by simp [hx]))) (Below.trod laid_flagsConversions (by kernel_rfl) (of_decide_eq_true (by kernel_rfl)) k2 hw (fun x hx => hlt x (by simp [hx]))) (Below.trod laid_flagsConversions (by kernel_rfl) (of_decide_eq_true (by kernel_rfl)) k3 hw (fun x hx => hlt x (by simp [hx]))),
  rfl, hw.frame _, fun h => by cases h⟩

theorem flagsConversions_holds : Rows.FlagsConversionsSaid :=
 OpenClaim.holds_of_wide 8 Tryz.f8 rfl rfl rfl rfl rfl rfl rfl ⟨rfl, rfl, rfl, rfl, rfl⟩ rfl rfl rfl rfl rfl (by kernel_rfl) Tryz.func8 (by kernel_rfl)
  (of_decide_eq_true (by kernel_rfl)) (by unfold Func.isWrapper; first | (rw [if_pos (by decide +kernel)]; kernel_rfl) | (rw [if_neg (by decide +kernel)]; exact ⟨rfl, rfl⟩))
  (fun os started H enc _ => flagsConversions_lifted os started H enc)
end Go.Proofs.YtfkhcpeahdkafaaGreat
