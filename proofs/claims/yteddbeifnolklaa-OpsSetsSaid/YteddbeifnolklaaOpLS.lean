/- Operators: the reference's Set; the law OpsSets. -/
import Derived.Test.YteddbeifnolklaaOpLL
namespace Hb
open Go Go.RowKit
theorem without_rest (l : List OpR) (o : OpR) : withoutL l (clsOp o.typ) o.name = restL o l := by
  unfold withoutL restL
  congr 1
  funext a
  rw [isOp_eq]
/-- The reference's test for names that cannot be set. -/
def nameBad (o : OpR) : Bool := isN o [44] || isN o [91, 93] || isN o [123, 125] || (isN o [124] && (!clsOp o.typ == 2 || (decide (0 < o.prec) && decide (o.prec < 1001))))
/-- The reference's test for a neighbour of the other class. -/
def mixBad (l : List OpR) (o : OpR) : Bool := decide (1 < clsOp o.typ) && decide (0 < o.prec) && (findR l o.name (5 - clsOp o.typ)).isSome
theorem fixed_ref (l : List OpR) (o : OpR) (h0 : 0 ≤ o.prec) (hc : clsOp o.typ ≠ 0) : fixedS l o = (nameBad o || mixBad l o) := by
  have h1 := cls_ge o.typ
  unfold fixedS nameBad mixBad
  have e : decide (o.prec ≤ 1000) = decide (o.prec < 1001) := by
    rw [Bool.eq_iff_iff, decide_eq_true_iff, decide_eq_true_iff]; omega
  rw [e]
  cases isN o [44]
  · cases isN o [91, 93]
    · cases isN o [123, 125]
      · simp only [Bool.false_or]
        cases (isN o [124] && (!clsOp o.typ == 2 || (decide (0 < o.prec) && decide (o.prec < 1001))))
        · simp only [Bool.false_or]
          by_cases hp : o.prec = 0
          · simp [hp]
          · by_cases hc1 : clsOp o.typ = 1
            · simp [hc1]
            · have g1 : decide (1 < clsOp o.typ) = true := by simp; omega
              have g2 : decide (0 < o.prec) = true := by simp; omega
              have g3 : (o.prec == 0) = false := by simpa using hp
              have g4 : (clsOp o.typ == 1) = false := by simpa using hc1
              rw [g1, g2, g3, g4]
              rfl
        · simp
      · simp
    · simp
  · simp
end Hb
namespace Go.Proofs.Yteddbeifnolklaa
open Go.RowKit Hb
set_option maxRecDepth 100000
set_option maxHeartbeats 6400000 in
theorem ref_set (A : Option Addr) (n cap : Nat) (l : List OpR) (prec typ : Int) (name : ByteArray) (w : World) (hm : n ≤ 400) (hT : Tab w A n cap l) :
    Calls Try.prog 18 #[.slice A n cap, .int .i64 prec, .int .i64 typ, .string name] w fun e w' => ∃ A' n' cap', e = .returned (.tuple #[.slice A' n' cap', .int .i64 (setR l ⟨name, typ, prec⟩).2]) ∧ Below w.heap.size w w' ∧ Tab w' A' n' cap' (setR l ⟨name, typ, prec⟩).1 := by
  have HV := Lib.hid (ref_valid A n cap l w hT.len hm hT.ops)
  have HTA := Lib.hid hT
  have HCL := Lib.hid (ref_class typ)
  cases hbad : (!opsValid l || decide (prec < 0) || decide (1200 < prec) || clsOp typ == 0 || decide (100 < name.size))
  · have HG := Lib.hid hbad
    simp at hbad
    obtain ⟨⟨⟨⟨hv, hb1⟩, hb2⟩, hb3⟩, hb4⟩ := hbad
    have HVL := Lib.hid hv
    rw [hv] at HV
    clear hv hT
    obtain ⟨o, HOE⟩ : ∃ o : OpR, Hid (o = ⟨name, typ, prec⟩) := ⟨_, Lib.hid rfl⟩
    rw [← HOE.out]
    have HG' : Hid ((!opsValid l || decide (o.prec < 0) || decide (1200 < o.prec) || clsOp o.typ == 0 || decide (100 < o.name.size)) = false) := by rw [HOE.out]; exact HG
    have HFX : Hid (fixedS l o = (nameBad o || mixBad l o)) := Lib.hid (fixed_ref l o (by rw [HOE.out]; exact hb1) (by rw [HOE.out]; exact hb3))
    have HNB : Hid (nameBad o = (name.toList == [44] || name.toList == [91, 93] || name.toList == [123, 125] || (name.toList == [124] && (!clsOp typ == 2 || (decide (0 < prec) && decide (prec < 1001)))))) := by rw [HOE.out]; exact Lib.hid rfl
    have HMB : Hid (mixBad l o = (decide (1 < clsOp typ) && decide (0 < prec) && (findR l name (5 - clsOp typ)).isSome)) := by rw [HOE.out]; exact Lib.hid rfl
    have HWO : Hid (withoutL l (clsOp typ) name = restL o l) := by rw [HOE.out]; exact Lib.hid (without_rest l ⟨name, typ, prec⟩)
    have HNW : Hid (newL l o = if 0 < prec then insO o (restL o l) else restL o l) := by rw [HOE.out]; exact Lib.hid rfl
    have HWI : Hid (∀ W A' n' c' (t : List OpR), n' ≤ 400 → Tab W A' n' c' t → Calls Try.prog 46 #[.slice A' n' c', .agg #[.string name, .int .i64 typ, .int .i64 prec]] W fun e w' => ∃ A'' n'' cap'', e = .returned (.slice A'' n'' cap'') ∧ Below W.heap.size W w' ∧ Tab w' A'' n'' cap'' (insO o t)) := Lib.hid fun W A' n' c' t h1 h2 => by
      rw [HOE.out]; exact ref_with A' n' c' t ⟨name, typ, prec⟩ W h1 h2
    have hl100 : n ≤ 100 := by have := (opsValid_at l HVL.out).1; have := HTA.out.len; omega
    have hc0 := cls_ge typ
    have hc3 := cls_le typ
    clear HG HOE
    have b1 : decide (prec < 0) = false := by simpa using hb1
    have b2 : decide (1200 < prec) = false := by simpa using hb2
    have b3 : (clsOp typ == 0) = false := by simpa using hb3
    have b4 : decide ((100 : Int) < (name.size : Int)) = false := by simp; omega
    have HFD := Lib.hid (fun W (h : Tab W A n cap l) => ref_find_tab h hm (5 - clsOp typ) name)
    have HWT := Lib.hid (fun W (h : Tab W A n cap l) => ref_without A n cap l (clsOp typ) name W hm h)
    rw [HWO.out] at HWT
    clear HWO
    generalize clsOp typ = c at *
    generalize (findR l name (5 - c)).isSome = pF at *
    generalize (findR l name (5 - c)).getD op0 = XF at *
    cases hnb : nameBad o
    · have HNBF : Hid ((name.toList == [44] || name.toList == [91, 93] || name.toList == [123, 125] || (name.toList == [124] && (!c == 2 || (decide (0 < prec) && decide (prec < 1001))))) = false) := by rw [← HNB.out]; exact Lib.hid hnb
      rw [hnb, Bool.false_or] at HFX
      clear hnb HNB
      have hsp : ((name.toList == [44]) = false ∧ ¬name.toList = [44]) ∧ ((name.toList == [91, 93]) = false ∧ ¬name.toList = [91, 93]) ∧ ((name.toList == [123, 125]) = false ∧ ¬name.toList = [123, 125]) ∧ (((name.toList == [124]) = false ∧ ¬name.toList = [124]) ∨ ((name.toList == [124]) = true ∧ name.toList = [124] ∧ c = 2 ∧ (decide (0 < prec) = false ∨ (decide (0 < prec) = true ∧ decide (prec < 1001) = false)))) := by
        have := HNBF.out
        simp at this ⊢
        grind
      obtain ⟨⟨s1, s1'⟩, ⟨s2, s2'⟩, ⟨s3, s3'⟩, s4⟩ := hsp
      clear HNBF
      rcases s4 with ⟨s4, s4'⟩ | ⟨s4, s4', hc2, hpc | ⟨hpc, hpd⟩⟩
      · skip
        by_cases hpp : 0 < prec
        · have bp : decide (0 < prec) = true := by simpa using hpp
          by_cases hc1 : 1 < c
          · have bc : decide (1 < c) = true := by simpa using hc1
            rw [bp, bc] at HMB
            have w5 : IntKind.i64.wrap (5 - c) = 5 - c := IntWalk.i64_in _ (by omega)
            cases pF
            · have HFF : Hid (fixedS l o = false) := by rw [HFX.out, HMB.out]; exact Lib.hid rfl
              go_enter Try.func18, Try.ntmps18
              go_wp2_with fail
              refine (HCL.out w).mono ?_; rintro e w1 ⟨rfl, rfl⟩
              go_wp2_with fail
              refine HV.out.mono ?_; rintro e w1 ⟨rfl, hB1⟩
              go_wp2_with fail
              refine (HFD.out _ (HTA.out.below hB1)).mono ?_; rintro e w2 ⟨rfl, hB2⟩
              have hB12 := hB1.trans (hB2.mono hB1.size)
              have hB12a := hB12.alloc hB12.size (.cells #[.string XF.name, .int .i64 XF.typ, .int .i64 XF.prec] 34)
              go_wp2_with fail
              refine (HWT.out _ (HTA.out.below hB12a)).mono ?_; rintro e w3 ⟨A3, n3, c3, rfl, hB3, hT3⟩
              have HT3 := Lib.hid hT3
              have hn3 : n3 ≤ 100 := by have h1 := hT3.len; have h2 := filt_le o l; have h3 := HTA.out.len; omega
              have hB03 := (hB12a).trans (hB3.mono (hB12a).size)
              clear hT3
              go_wp2_with fail
              refine (HWI.out w3 A3 n3 c3 (restL o l) (by omega) HT3.out).mono ?_; rintro e w4 ⟨A4, n4, c4, rfl, hB4, hT4⟩
              have HT4 := Lib.hid hT4
              have hB04 := hB03.trans (hB4.mono hB03.size)
              rw [if_pos hpp] at HNW
              rw [← HNW.out] at HT4
              have HN4 := Lib.hid HT4.out.len
              clear hT4
              by_cases hfull : 100 < n4
              · have b5 : decide ((100 : Int) < (n4 : Int)) = true := by simp; omega
                have HR := Lib.hid (setR_full HG'.out HFF.out (by rw [← HN4.out]; exact hfull))
                go_wp2_with fail
                go_ret2
                exact ⟨none, 0, 0, by rw [HR.out]; rfl, hB04, by rw [HR.out]; exact Tab.none _⟩
              · have b5 : decide ((100 : Int) < (n4 : Int)) = false := by simp; omega
                have HR := Lib.hid (setR_ok HG'.out HFF.out (by rw [← HN4.out]; exact hfull))
                go_wp2_with fail
                go_ret2
                exact ⟨A4, n4, c4, by rw [HR.out]; rfl, hB04, by rw [HR.out]; exact HT4.out⟩
            · have HFF : Hid (fixedS l o = true) := by rw [HFX.out, HMB.out]; exact Lib.hid rfl
              have HR := Lib.hid (setR_fix HG'.out HFF.out)
              go_enter Try.func18, Try.ntmps18
              go_wp2_with fail
              refine (HCL.out w).mono ?_; rintro e w1 ⟨rfl, rfl⟩
              go_wp2_with fail
              refine HV.out.mono ?_; rintro e w1 ⟨rfl, hB1⟩
              go_wp2_with fail
              refine (HFD.out _ (HTA.out.below hB1)).mono ?_; rintro e w2 ⟨rfl, hB2⟩
              have hB12 := hB1.trans (hB2.mono hB1.size)
              have hB12a := hB12.alloc hB12.size (.cells #[.string XF.name, .int .i64 XF.typ, .int .i64 XF.prec] 34)
              go_wp2_with fail
              go_ret2
              exact ⟨none, 0, 0, by rw [HR.out]; rfl, hB12a, by rw [HR.out]; exact Tab.none _⟩
          · have bc : decide (1 < c) = false := by simpa using hc1
            rw [bp, bc] at HMB
            have HFF : Hid (fixedS l o = false) := by rw [HFX.out, HMB.out]; exact Lib.hid rfl
            go_enter Try.func18, Try.ntmps18
            go_wp2_with fail
            refine (HCL.out w).mono ?_; rintro e w1 ⟨rfl, rfl⟩
            go_wp2_with fail
            refine HV.out.mono ?_; rintro e w1 ⟨rfl, hB1⟩
            go_wp2_with fail
            refine (HWT.out _ (HTA.out.below hB1)).mono ?_; rintro e w3 ⟨A3, n3, c3, rfl, hB3, hT3⟩
            have HT3 := Lib.hid hT3
            have hn3 : n3 ≤ 100 := by have h1 := hT3.len; have h2 := filt_le o l; have h3 := HTA.out.len; omega
            have hB03 := (hB1).trans (hB3.mono (hB1).size)
            clear hT3
            go_wp2_with fail
            refine (HWI.out w3 A3 n3 c3 (restL o l) (by omega) HT3.out).mono ?_; rintro e w4 ⟨A4, n4, c4, rfl, hB4, hT4⟩
            have HT4 := Lib.hid hT4
            have hB04 := hB03.trans (hB4.mono hB03.size)
            rw [if_pos hpp] at HNW
            rw [← HNW.out] at HT4
            have HN4 := Lib.hid HT4.out.len
            clear hT4
            by_cases hfull : 100 < n4
            · have b5 : decide ((100 : Int) < (n4 : Int)) = true := by simp; omega
              have HR := Lib.hid (setR_full HG'.out HFF.out (by rw [← HN4.out]; exact hfull))
              go_wp2_with fail
              go_ret2
              exact ⟨none, 0, 0, by rw [HR.out]; rfl, hB04, by rw [HR.out]; exact Tab.none _⟩
            · have b5 : decide ((100 : Int) < (n4 : Int)) = false := by simp; omega
              have HR := Lib.hid (setR_ok HG'.out HFF.out (by rw [← HN4.out]; exact hfull))
              go_wp2_with fail
              go_ret2
              exact ⟨A4, n4, c4, by rw [HR.out]; rfl, hB04, by rw [HR.out]; exact HT4.out⟩
        · have bp : decide (0 < prec) = false := by simpa using hpp
          rw [bp, Bool.and_false, Bool.false_and] at HMB
          have HFF : Hid (fixedS l o = false) := by rw [HFX.out, HMB.out]; exact Lib.hid rfl
          by_cases hc1 : 1 < c
          · have bc : decide (1 < c) = true := by simpa using hc1
            go_enter Try.func18, Try.ntmps18
            go_wp2_with fail
            refine (HCL.out w).mono ?_; rintro e w1 ⟨rfl, rfl⟩
            go_wp2_with fail
            refine HV.out.mono ?_; rintro e w1 ⟨rfl, hB1⟩
            go_wp2_with fail
            refine (HWT.out _ (HTA.out.below hB1)).mono ?_; rintro e w3 ⟨A3, n3, c3, rfl, hB3, hT3⟩
            have HT3 := Lib.hid hT3
            have hn3 : n3 ≤ 100 := by have h1 := hT3.len; have h2 := filt_le o l; have h3 := HTA.out.len; omega
            have hB03 := (hB1).trans (hB3.mono (hB1).size)
            clear hT3
            go_wp2_with fail
            rw [if_neg (show ¬0 < prec by omega)] at HNW
            rw [← HNW.out] at HT3
            have HN3 := Lib.hid HT3.out.len
            have b5 : decide ((100 : Int) < (n3 : Int)) = false := by simp; omega
            have HR := Lib.hid (setR_ok HG'.out HFF.out (by rw [← HN3.out]; omega))
            go_wp2_with fail
            go_ret2
            exact ⟨A3, n3, c3, by rw [HR.out]; rfl, hB03, by rw [HR.out]; exact HT3.out⟩
          · have bc : decide (1 < c) = false := by simpa using hc1
            go_enter Try.func18, Try.ntmps18
            go_wp2_with fail
            refine (HCL.out w).mono ?_; rintro e w1 ⟨rfl, rfl⟩
            go_wp2_with fail
            refine HV.out.mono ?_; rintro e w1 ⟨rfl, hB1⟩
            go_wp2_with fail
            refine (HWT.out _ (HTA.out.below hB1)).mono ?_; rintro e w3 ⟨A3, n3, c3, rfl, hB3, hT3⟩
            have HT3 := Lib.hid hT3
            have hn3 : n3 ≤ 100 := by have h1 := hT3.len; have h2 := filt_le o l; have h3 := HTA.out.len; omega
            have hB03 := (hB1).trans (hB3.mono (hB1).size)
            clear hT3
            go_wp2_with fail
            rw [if_neg (show ¬0 < prec by omega)] at HNW
            rw [← HNW.out] at HT3
            have HN3 := Lib.hid HT3.out.len
            have b5 : decide ((100 : Int) < (n3 : Int)) = false := by simp; omega
            have HR := Lib.hid (setR_ok HG'.out HFF.out (by rw [← HN3.out]; omega))
            go_wp2_with fail
            go_ret2
            exact ⟨A3, n3, c3, by rw [HR.out]; rfl, hB03, by rw [HR.out]; exact HT3.out⟩
      · have hnp : ¬0 < prec := by simpa using hpc
        subst hc2
        by_cases hpp : 0 < prec
        · have bp : decide (0 < prec) = true := by simpa using hpp
          exact absurd hpp hnp
        · have bp : decide (0 < prec) = false := by simpa using hpp
          rw [bp, Bool.and_false, Bool.false_and] at HMB
          have HFF : Hid (fixedS l o = false) := by rw [HFX.out, HMB.out]; exact Lib.hid rfl
          by_cases hc1 : 1 < (2 : Int)
          · have bc : decide (1 < (2 : Int)) = true := by decide
            go_enter Try.func18, Try.ntmps18
            go_wp2_with fail
            refine (HCL.out w).mono ?_; rintro e w1 ⟨rfl, rfl⟩
            go_wp2_with fail
            refine HV.out.mono ?_; rintro e w1 ⟨rfl, hB1⟩
            go_wp2_with fail
            refine (HWT.out _ (HTA.out.below hB1)).mono ?_; rintro e w3 ⟨A3, n3, c3, rfl, hB3, hT3⟩
            have HT3 := Lib.hid hT3
            have hn3 : n3 ≤ 100 := by have h1 := hT3.len; have h2 := filt_le o l; have h3 := HTA.out.len; omega
            have hB03 := (hB1).trans (hB3.mono (hB1).size)
            clear hT3
            go_wp2_with fail
            rw [if_neg (show ¬0 < prec by omega)] at HNW
            rw [← HNW.out] at HT3
            have HN3 := Lib.hid HT3.out.len
            have b5 : decide ((100 : Int) < (n3 : Int)) = false := by simp; omega
            have HR := Lib.hid (setR_ok HG'.out HFF.out (by rw [← HN3.out]; omega))
            go_wp2_with fail
            go_ret2
            exact ⟨A3, n3, c3, by rw [HR.out]; rfl, hB03, by rw [HR.out]; exact HT3.out⟩
          · exact absurd (show (1 : Int) < 2 by decide) hc1
      · have hps : 0 < prec := by simpa using hpc
        have hpe : ¬prec < 1001 := by simpa using hpd
        subst hc2
        by_cases hpp : 0 < prec
        · have bp : decide (0 < prec) = true := by simpa using hpp
          by_cases hc1 : 1 < (2 : Int)
          · have bc : decide (1 < (2 : Int)) = true := by decide
            rw [bp, bc] at HMB
            rw [show (5 : Int) - 2 = 3 from rfl] at HFD
            cases pF
            · have HFF : Hid (fixedS l o = false) := by rw [HFX.out, HMB.out]; exact Lib.hid rfl
              go_enter Try.func18, Try.ntmps18
              go_wp2_with fail
              refine (HCL.out w).mono ?_; rintro e w1 ⟨rfl, rfl⟩
              go_wp2_with fail
              refine HV.out.mono ?_; rintro e w1 ⟨rfl, hB1⟩
              go_wp2_with fail
              refine (HFD.out _ (HTA.out.below hB1)).mono ?_; rintro e w2 ⟨rfl, hB2⟩
              have hB12 := hB1.trans (hB2.mono hB1.size)
              have hB12a := hB12.alloc hB12.size (.cells #[.string XF.name, .int .i64 XF.typ, .int .i64 XF.prec] 34)
              go_wp2_with fail
              refine (HWT.out _ (HTA.out.below hB12a)).mono ?_; rintro e w3 ⟨A3, n3, c3, rfl, hB3, hT3⟩
              have HT3 := Lib.hid hT3
              have hn3 : n3 ≤ 100 := by have h1 := hT3.len; have h2 := filt_le o l; have h3 := HTA.out.len; omega
              have hB03 := (hB12a).trans (hB3.mono (hB12a).size)
              clear hT3
              go_wp2_with fail
              refine (HWI.out w3 A3 n3 c3 (restL o l) (by omega) HT3.out).mono ?_; rintro e w4 ⟨A4, n4, c4, rfl, hB4, hT4⟩
              have HT4 := Lib.hid hT4
              have hB04 := hB03.trans (hB4.mono hB03.size)
              rw [if_pos hpp] at HNW
              rw [← HNW.out] at HT4
              have HN4 := Lib.hid HT4.out.len
              clear hT4
              by_cases hfull : 100 < n4
              · have b5 : decide ((100 : Int) < (n4 : Int)) = true := by simp; omega
                have HR := Lib.hid (setR_full HG'.out HFF.out (by rw [← HN4.out]; exact hfull))
                go_wp2_with fail
                go_ret2
                exact ⟨none, 0, 0, by rw [HR.out]; rfl, hB04, by rw [HR.out]; exact Tab.none _⟩
              · have b5 : decide ((100 : Int) < (n4 : Int)) = false := by simp; omega
                have HR := Lib.hid (setR_ok HG'.out HFF.out (by rw [← HN4.out]; exact hfull))
                go_wp2_with fail
                go_ret2
                exact ⟨A4, n4, c4, by rw [HR.out]; rfl, hB04, by rw [HR.out]; exact HT4.out⟩
            · have HFF : Hid (fixedS l o = true) := by rw [HFX.out, HMB.out]; exact Lib.hid rfl
              have HR := Lib.hid (setR_fix HG'.out HFF.out)
              go_enter Try.func18, Try.ntmps18
              go_wp2_with fail
              refine (HCL.out w).mono ?_; rintro e w1 ⟨rfl, rfl⟩
              go_wp2_with fail
              refine HV.out.mono ?_; rintro e w1 ⟨rfl, hB1⟩
              go_wp2_with fail
              refine (HFD.out _ (HTA.out.below hB1)).mono ?_; rintro e w2 ⟨rfl, hB2⟩
              have hB12 := hB1.trans (hB2.mono hB1.size)
              have hB12a := hB12.alloc hB12.size (.cells #[.string XF.name, .int .i64 XF.typ, .int .i64 XF.prec] 34)
              go_wp2_with fail
              go_ret2
              exact ⟨none, 0, 0, by rw [HR.out]; rfl, hB12a, by rw [HR.out]; exact Tab.none _⟩
          · exact absurd (show (1 : Int) < 2 by decide) hc1
        · have bp : decide (0 < prec) = false := by simpa using hpp
          exact absurd hps hpp
    · have HFF : Hid (fixedS l o = true) := by rw [HFX.out, hnb]; exact Lib.hid rfl
      have HR := Lib.hid (setR_fix HG'.out HFF.out)
      have hsp : name.toList = [44] ∨ (¬name.toList = [44] ∧ name.toList = [91, 93]) ∨ (¬name.toList = [44] ∧ ¬name.toList = [91, 93] ∧ name.toList = [123, 125]) ∨ (¬name.toList = [44] ∧ ¬name.toList = [91, 93] ∧ ¬name.toList = [123, 125] ∧ name.toList = [124] ∧ (¬c = 2 ∨ (c = 2 ∧ 0 < prec ∧ prec < 1001))) := by
        have := HNB.out
        rw [hnb] at this
        simp at this
        grind
      clear hnb HNB
      rcases hsp with s1 | ⟨s1, s2⟩ | ⟨s1, s2, s3⟩ | ⟨s1, s2, s3, s4, hc2 | ⟨hc2, hp1, hp2⟩⟩
      all_goals
        go_enter Try.func18, Try.ntmps18
        go_wp2_with fail
        refine (HCL.out w).mono ?_; rintro e w1 ⟨rfl, rfl⟩
        go_wp2_with fail
        refine HV.out.mono ?_; rintro e w1 ⟨rfl, hB1⟩
        go_wp2_with fail
        go_ret2
        exact ⟨none, 0, 0, by rw [HR.out]; rfl, hB1, by rw [HR.out]; exact Tab.none _⟩
  · have HR := Lib.hid (setR_bad (l := l) (o := ⟨name, typ, prec⟩) hbad)
    cases hv : opsValid l
    · rw [hv] at HV
      clear hv hbad hT
      generalize clsOp typ = c at *
      go_enter Try.func18, Try.ntmps18
      go_wp2_with fail
      refine (HCL.out w).mono ?_; rintro e w1 ⟨rfl, rfl⟩
      go_wp2_with fail
      refine HV.out.mono ?_; rintro e w1 ⟨rfl, hB1⟩
      go_wp2_with fail
      go_ret2
      exact ⟨none, 0, 0, by rw [HR.out]; rfl, hB1, by rw [HR.out]; exact Tab.none _⟩
    · rw [hv] at HV hbad
      have HBD : Hid (prec < 0 ∨ 1200 < prec ∨ clsOp typ = 0 ∨ (100 : Int) < name.size) := by
        simp at hbad
        refine Lib.hid ?_
        rcases hbad with ((h | h) | h) | h
        · exact .inl h
        · exact .inr (.inl h)
        · exact .inr (.inr (.inl h))
        · exact .inr (.inr (.inr (by omega)))
      clear hv hbad hT
      generalize clsOp typ = c at *
      go_enter Try.func18, Try.ntmps18
      go_wp2_with fail
      refine (HCL.out w).mono ?_; rintro e w1 ⟨rfl, rfl⟩
      go_wp2_with fail
      refine HV.out.mono ?_; rintro e w1 ⟨rfl, hB1⟩
      by_cases h1 : prec < 0
      · go_wp2_with fail
        go_ret2
        exact ⟨none, 0, 0, by rw [HR.out]; rfl, hB1, by rw [HR.out]; exact Tab.none _⟩
      by_cases h2 : 1200 < prec
      · go_wp2_with fail
        go_ret2
        exact ⟨none, 0, 0, by rw [HR.out]; rfl, hB1, by rw [HR.out]; exact Tab.none _⟩
      have b1 : decide (prec < 0) = false := by simpa using h1
      have b2 : decide (1200 < prec) = false := by simpa using h2
      by_cases h3 : c = 0
      · go_wp2_with fail
        go_ret2
        exact ⟨none, 0, 0, by rw [HR.out]; rfl, hB1, by rw [HR.out]; exact Tab.none _⟩
      · have b3 : (c == 0) = false := by simpa using h3
        have b4 : decide ((100 : Int) < (name.size : Int)) = true := by
          rcases HBD.out with h | h | h | h
          · exact absurd h h1
          · exact absurd h h2
          · exact absurd h h3
          · simpa using h
        go_wp2_with fail
        go_ret2
        exact ⟨none, 0, 0, by rw [HR.out]; rfl, hB1, by rw [HR.out]; exact Tab.none _⟩
set_option maxHeartbeats 6400000 in
theorem law_sets (A : Option Addr) (n cap : Nat) (l : List OpR) (prec typ : Int) (name : ByteArray) (w : World) (hn : n = l.length) (hm : n ≤ maxLen) (hp : OpsAt w A l) (hz : n = 0 → (Value.slice A n cap = .slice none 0 0 ∨ ∃ ad, A = some ad)) :
    Calls Try.prog 4 #[.slice A n cap, .int .i64 prec, .int .i64 typ, .string name] w fun e w' => e = .returned (.bool true) ∧ Below w.heap.size w w' := by
  unfold maxLen at hm
  by_cases h3 : 300 < n
  · have b1 : decide ((300 : Int) < (n : Int)) = true := by simp; omega
    clear hp hn hz
    go_enter Try.func4, Try.ntmps4
    go_wp2_with fail
    refine (law_awake w).mono ?_; rintro e w1 ⟨rfl, hB1⟩
    go_wp2_with fail
    go_ret
    exact ⟨rfl, hB1⟩
  have b1 : decide ((300 : Int) < (n : Int)) = false := by simp; omega
  have hm4 : n ≤ 400 := by omega
  have HCl := Lib.hid (ref_clone7 A n cap l w hn hm4 hp hz)
  have HT : Hid (Tab w A n cap l) := Lib.hid ⟨hn, hp, hz⟩
  clear hp hn hz h3
  have K1 := Lib.hid (fun A' c' W (h : Tab W A' n c' l) => ops_set A' n c' l prec typ name W hm4 h)
  have K2 := Lib.hid (fun A' c' W (h : Tab W A' n c' l) => ref_set A' n c' l prec typ name W hm4 h)
  have HLE : Hid ((setR l ⟨name, typ, prec⟩).1.length ≤ 100) := by
    refine Lib.hid ?_
    by_cases hok : (setR l ⟨name, typ, prec⟩).2 = 0
    · have hs := (setR_iff _ _).1 hok
      rw [setR_new hs]; exact hs.len
    · rw [setR_none hok]; simp
  generalize setR l ⟨name, typ, prec⟩ = r at *
  obtain ⟨t, x⟩ := r
  have K1' : Hid (∀ A' c' W, Tab W A' n c' l → Calls Try.prog 17 #[.slice A' n c', .int .i64 prec, .int .i64 typ, .string name] W fun e w' => ∃ A'' n' cap', e = .returned (.tuple #[.slice A'' n' cap', .int .i64 x]) ∧ Below W.heap.size W w' ∧ Tab w' A'' n' cap' t) := K1
  have K2' : Hid (∀ A' c' W, Tab W A' n c' l → Calls Try.prog 18 #[.slice A' n c', .int .i64 prec, .int .i64 typ, .string name] W fun e w' => ∃ A'' n' cap', e = .returned (.tuple #[.slice A'' n' cap', .int .i64 x]) ∧ Below W.heap.size W w' ∧ Tab w' A'' n' cap' t) := K2
  clear K1 K2
  go_enter Try.func4, Try.ntmps4
  go_wp2_with fail
  refine HCl.out.mono ?_; rintro e w1 ⟨A1, c1, rfl, hB1, hO1⟩
  have HU1 := Lib.hid (Tab.own hO1)
  have HT1 := Lib.hid (HT.out.below hB1)
  have HB1 := Lib.hid hB1
  clear hO1 hB1 HCl
  go_wp2_with fail
  refine (K1'.out A1 c1 w1 HU1.out).mono ?_; rintro e w2 ⟨A2, n2, c2, rfl, hB2, hT2⟩
  have HS2 := Lib.hid hT2
  have HU2 := Lib.hid (HU1.out.below hB2)
  have HT2 := Lib.hid (HT1.out.below hB2)
  have HB2 := Lib.hid (HB1.out.trans (hB2.mono HB1.out.size))
  have hn2 : n2 ≤ 400 := by have h1 := hT2.len; have h2 := HLE.out; omega
  clear hB2 hT2 HU1 HT1 HB1
  go_wp2_with fail
  refine (K2'.out A cap w2 HT2.out).mono ?_; rintro e w3 ⟨A3, n3, c3, rfl, hB3, hT3⟩
  have HR3 := Lib.hid hT3
  have HS3 := Lib.hid (HS2.out.below hB3)
  have HU3 := Lib.hid (HU2.out.below hB3)
  have HT3 := Lib.hid (HT2.out.below hB3)
  have HB3 := Lib.hid (HB2.out.trans (hB3.mono HB2.out.size))
  clear hB3 hT3 HU2 HT2 HB2 HS2
  go_wp2_with fail
  refine (same_tab HS3.out HR3.out hn2).mono ?_; rintro e w4 ⟨rfl, hB4⟩
  have HU4 := Lib.hid (HU3.out.below hB4)
  have HT4 := Lib.hid (HT3.out.below hB4)
  have HB4 := Lib.hid (HB3.out.trans (hB4.mono HB3.out.size))
  clear hB4 HU3 HT3 HB3
  go_wp2_with fail
  refine (same_tab HU4.out HT4.out hm4).mono ?_; rintro e w5 ⟨rfl, hB5⟩
  have HB5 := Lib.hid (HB4.out.trans (hB5.mono HB4.out.size))
  go_wp2_with fail
  refine (law_awake _).mono ?_; rintro e w6 ⟨rfl, hB6⟩
  go_wp2_with fail
  go_ret
  exact ⟨rfl, HB5.out.trans (hB6.mono HB5.out.size)⟩
end Go.Proofs.Yteddbeifnolklaa
