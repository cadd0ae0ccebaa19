/- Parts of the proof. -/
import Derived.Test.YtpokpgkjaifccaaGreatDoorRRH01
import Derived.Test.YtpokpgkjaifccaaGreatDoorRRH17
import Derived.RangeFuncBox
namespace Hb
open Go Go.RowKit
def spC (x:Nat×Nat):List Value:=[.int .i64 x.1,.int .i64 x.2]
def spCs (l:List (Nat×Nat)):List Value:=l.flatMap spC
theorem row_low {W:World} {b c k size:Nat} {e:TypeId} {v:Value} {xs:List Value} (h:W.ownsRow b e size v k xs) (hb:c≤b):W.ownsRow c e size v k xs:=by
 refine ⟨h.1,?_⟩
 rcases h.2 with h' | ⟨g,cap,cur,h1,h2,h3⟩
 ·exact .inl h'
 ·exact .inr ⟨g,cap,cur,h1,Nat.le_trans hb h2,h3⟩
theorem ownsRow_bx {W W2:World} {l base k size:Nat} {e:TypeId} {v:Value} {xs:List Value} (h:W.ownsRow base e size v k xs) (ho:∃o:Obj,W.heap[l]? = some o∧o.isCells=false) (hX:Bx l W.heap.size W W2):W2.ownsRow base e size v k xs :=
 h.kept (row:=some l) ⟨hX.os,hX.tape,hX.output,hX.size,fun k hk hne=>hX.block k hk (fun e=>hne (by rw [e]))⟩ (by
  rcases h.2 with ⟨rfl,_⟩ | ⟨g,cap,cur,rfl,_,hgb,_⟩
  ·exact .inl rfl
  ·refine .inr fun e'=>?_
   obtain ⟨o,ho,hc⟩:=ho
   have:g=l:=by first | simpa [Value.ownBlock] using e' | simpa [Value.ownBlock] using e'.symm
   subst this
   rw [hgb] at ho;cases ho;cases hc)
theorem boxed_bx {W W2:World} {l B:Nat} {t:TypeId} {v:Value} (h:Boxed W B t v) (hne:B≠l) (hX:Bx l W.heap.size W W2):Boxed W2 B t v:=(hX.block B h.lt hne).trans h
theorem not_cells_alloc {W:World} {l:Nat} (o':Obj) (h:∃o:Obj,W.heap[l]? = some o∧o.isCells=false):∃o:Obj,(W.alloc o').heap[l]? = some o∧o.isCells=false:=by
 obtain ⟨o,ho,hc⟩:=h
 exact ⟨o,(((Below.refl W.heap.size W).alloc (Nat.le_refl _) o').block l (Array.getElem?_eq_some_iff.1 ho).1).trans ho,hc⟩
theorem spCs_snoc (l:List (Nat×Nat)) (x:Nat×Nat):spCs (l++[x])=spCs l++spC x:=by simp [spCs]
theorem spRow_len (k m:Nat):(spRow k m).length=m:=by simp [spRow]
theorem flat_len (n:Nat):∀k,((List.range k).flatMap (fun lo=>spRow lo (n+1-lo))).length≤k * (n+1):=by
 intro k
 induction k with
 | zero=>simp
 | succ k ih=>
  rw [List.range_succ,List.flatMap_append,List.length_append,Nat.succ_mul]
  simp only [List.flatMap_cons,List.flatMap_nil,List.append_nil,spRow_len]
  omega
theorem spansL_len (n:Nat) (hn:n≤100):(spansL n).length≤10201:=by
 have h:=flat_len n (n+1)
 have:(n+1) * (n+1)≤101 * 101:=Nat.mul_le_mul (by omega) (by omega)
 unfold spansL
 omega
end Hb
namespace Go.Proofs.YtpokpgkjaifccaaGreatDoorRR
open Go.RowKit Hb Go.Shelf
attribute [local go_sem] Oper.semAt_some
set_option maxRecDepth 100000
theorem infoSpan:(Tryz.prog.info? 27).map (fun i=>(i.zero,i.size,i.bytes))=some (some (.agg #[.int .i64 0,.int .i64 0]),2,16):=by kernel_rfl
set_option maxHeartbeats 2000000 in
theorem a_appendSeq (n Bn : Nat) (w : World) (hn : n ≤ 100) (hX : Bk w Bn [.int .i64 n]) :
    Calls Tryz.prog 50 #[.slice none 0 0, .func (.func 51) #[] #[.pointer (some ⟨Bn, 0, none⟩)]] w fun e w' => ∃ v, e = .returned v ∧ w'.ownsRow w.heap.size 27 2 v (spansL n).length (spCs (spansL n)) ∧ Below w.heap.size w w' := by
  obtain ⟨i0, hi0, hz0, hz1, hz2⟩ := info_parts infoSpan
  have HB0 := zq ((Below.refl w.heap.size w).alloc (Nat.le_refl _) (.cells #[.slice none 0 0] 24))
  have HX0 := zq (hX.call HB0.out)
  have HLT : Hid (Bn < w.heap.size) := zq hX.lt
  have HSQ := zq (spans_stops 7 n Bn (w.alloc (.cells #[.slice none 0 0] 24)) (by omega) HX0.out)
  have HLEN := zq (spansL_len n hn)
  have HBX0 := zq (Boxed.new w 24 (.slice none 0 0))
  clear hX hn
  refine (callsIn_wide (n := 8)).1 ?_
  refine callsIn_of_wp_marks Tryz.func50 rfl trivial ?_ rfl
  simp only [Tryz.ntmps50, List.size_toArray, List.length_cons, List.length_nil, Nat.reduceAdd, Nat.reduceSub, Array.replicate_succ, Array.replicate_zero, List.push_toArray, List.append_toArray, List.nil_append, List.cons_append]
  gi_wp2
  obtain ⟨w1, HW1⟩ := lz (w.alloc (.cells #[.slice none 0 0] 24))
  rw [← HW1.out] at HB0 HX0 HSQ HBX0 ⊢
  have HS1 : Hid (w1.heap.size = w.heap.size + 1) := zq (by rw [HW1.out]; simp)
  refine wpIn_rangeX rfl (by omega) (gf := 51) (lb := #[.pointer (some ⟨Bn, 0, none⟩)]) rfl trivial (enters_of Tryz.func51 (by kernel_rfl) rfl) HSQ.out (fun h k => KB.trans h k) (fun W l o o' hl h hc => KB.put W l o' (by have := HLT.out; have := HS1.out; omega)) (fun _ => rfl)
    (fun pre W => (∃ v, Boxed W w.heap.size 24 v ∧ W.ownsRow w.heap.size 27 2 v pre.length (spCs pre) ∧ True) ∧ Below w.heap.size w W) (fun _ _ _ => False)
    (OwnFrom.and (Own.from (holdsRow_own w.heap.size w.heap.size 24 27 2 List.length spCs (fun _ _ => True)) _) (ownFrom_below (Nat.le_refl _) HB0.out.size)) (fun _ _ _ _ _ hs _ _ => hs) ⟨⟨_, HBX0.out, World.ownsRow_nil _ _ _ _, trivial⟩, HB0.out⟩ ?round ?done ?stop
  case round =>
    rintro l pre ⟨lo, hi⟩ W hl hlW hlo ⟨⟨v, hv, hrow, -⟩, hb⟩ - hsp
    have HBA := zq ((Below.refl W.heap.size W).alloc (Nat.le_refl _) (.cells #[.int .i64 lo, .int .i64 hi] 27))
    have HHB := zq hb
    have hpl : pre.length + 1 ≤ 10201 := by
      have := hsp.length_le
      rw [List.length_append] at this
      have h2 := HLEN.out
      simp at this
      omega
    have HLO := zq (not_cells_alloc (.cells #[.int .i64 lo, .int .i64 hi] 27) hlo)
    have HV1 := zq (hv.alloc (.cells #[.int .i64 lo, .int .i64 hi] 27))
    have HR1 := zq (hrow.alloc (.cells #[.int .i64 lo, .int .i64 hi] 27))
    have HCN : Hid (Bk (W.alloc (.cells #[.int .i64 lo, .int .i64 hi] 27)) W.heap.size [.int .i64 lo, .int .i64 hi]) := zq (Bk.new W [.int .i64 lo, .int .i64 hi] 27)
    clear hv hrow hb hsp hlo
    gi_wp2
    refine ⟨keeps_below HBA.out, KB.below HBA.out (by have := HLT.out; have := HS1.out; have := HHB.out.size; omega), fun W2 hX2 => ?_⟩
    have HV2 := zq (boxed_bx HV1.out (by have := HS1.out; omega) hX2)
    have HR2 := zq (ownsRow_bx HR1.out HLO.out hX2)
    have HB2 := zq ((HHB.out.trans (HBA.out.mono HHB.out.size)).trans (hX2.under (B := w.heap.size) (by have := HS1.out; omega) (by have := HHB.out.size; simp; omega)))
    have HC2 := zq (HCN.out.keeps (hX2.block _ HCN.out.lt (by omega)))
    clear HV1 HR1 hX2 HCN
    have cv := HV2.out.cell
    have fv := HV2.out.frozen
    have c0 := HC2.out.c 0 _ rfl
    have c1 := HC2.out.c 1 _ rfl
    have HW2 : Hid (w.heap.size ≤ W2.heap.size) := zq HB2.out.size
    gi_wp2_with (first
      | (gi_at_builtin; refine wpListIn_append_own _ rfl _ _ 24 rfl w.heap.size 27 i0 (.agg #[.int .i64 0, .int .i64 0]) 2 16 Tryz.underlying24 hi0 hz0 hz1 hz2 rfl (by decide) _ _ _ rfl (HR2.out.alloc _) ⟨W2.heap.size, 0, none⟩ 1 1 [.int .i64 lo, .int .i64 hi] rfl rfl (fun j u hu => by rw [addr_add, Nat.zero_add]; exact (Bk.new W2 [.int .i64 lo, .int .i64 hi] 27).c j u hu) (by intro u hu; simp only [List.mem_cons, List.mem_nil_iff, or_false] at hu; rcases hu with rfl | rfl <;> rfl) (by unfold maxLen; omega) (by omega) (by have := HW2.out; simp; omega) ?_; intro v' w3 hown' hg3 hnil3
         obtain ⟨g', cap', hv'⟩ : ∃ g' cap', v' = .slice (some ⟨g', 0, none⟩) (pre.length + 1) cap' := by
           rcases hown'.2 with ⟨_, h0⟩ | ⟨g', cap', cur', h', _⟩
           · exact absurd h0 (by omega)
           · exact ⟨g', cap', h'⟩
         subst hv'
         have HAP := zq (HV2.out.appended (by decide) HR2.out HW2.out (Nat.le_refl _) hown' hg3)
         have cv3 := HAP.out.1.cell
         have fv3 := HAP.out.1.frozen
         clear hown' hg3 hnil3 cv fv c0 c1
         go_frame)
      | gi_in)
    exact ⟨HAP.out.2.2.2.1, KB.below HAP.out.2.2.2.2 HLT.out, ⟨_, HAP.out.2.1, by rw [spCs_snoc, List.length_append]; exact HAP.out.2.2.1, trivial⟩, HB2.out.trans HAP.out.2.2.2.2⟩
  case done =>
    rintro D xs W hD rfl ⟨⟨v, hv, hrow, -⟩, hb⟩ hK
    have hDW : D < W.heap.size := (Array.getElem?_eq_some_iff.1 hK).1
    have cv := hv.cell
    have HR := zq hrow
    have HB := zq hb
    have HK := zq hK
    clear hv hrow hb hK
    gi_wp2
    have HBLy := zq (below_putO HB.out (D := D) (by have := HS1.out; omega) (.deferred none))
    have HRy := zq (ownsRow_bx (W2 := W.putObj D (.deferred none)) HR.out ⟨_, HK.out, rfl⟩ (bx_put _ _ _))
    refine ⟨by simp, .inl ⟨_, _, rfl, run_takeDeferred HK.out, ?_⟩⟩
    exact ⟨v, by simp [results, Tryz.results50, go_sem], ⟨v, rfl, HRy.out, HBLy.out⟩⟩
  case stop =>
    rintro D c pre W hD hS h hK
    exact h.elim
theorem a_collect (n Bn:Nat) (w:World) (hn:n≤100) (hX:Bk w Bn [.int .i64 n]) :
  Calls Tryz.prog 27 #[.func (.func 51) #[] #[.pointer (some ⟨Bn,0,none⟩)]] w fun e w'=>∃v,e=.returned v∧w'.ownsRow w.heap.size 27 2 v (spansL n).length (spCs (spansL n))∧Below w.heap.size w w':=by
 have HAS:=zq (a_appendSeq n Bn w hn hX)
 go_enter Tryz.func27,Tryz.ntmps27
 go_wp2_with fail
 refine HAS.out.mono ?_
 rintro e w1 ⟨v,rfl,hr,hB⟩
 have HR:=zq hr
 have HB:=zq hB
 clear hr hB
 go_wp2_with fail
 go_ret
 exact ⟨v,rfl,HR.out,HB.out⟩
theorem a_Sub (s:ByteArray) (w:World) :
  Calls Tryz.prog 13 #[.string s] w fun e w'=>Below w.heap.size w w'∧if s.size≤100 then ∃v,e=.returned v∧w'.ownsRow w.heap.size 27 2 v (spansL s.size).length (spCs (spansL s.size)) else e=.returned (.slice none 0 0):=by
 have HSP:=zq (fun W=>a_spans s.size W)
 have HCO:Hid (s.size≤100→∀W:World,Calls Tryz.prog 27 #[.func (.func 51) #[] #[.pointer (some ⟨W.heap.size,0,none⟩)]] (W.alloc (.cells #[.int .i64 s.size] 3)) fun e w'=>∃v,e=.returned v∧w'.ownsRow (W.heap.size+1) 27 2 v (spansL s.size).length (spCs (spansL s.size))∧Below (W.heap.size+1) (W.alloc (.cells #[.int .i64 s.size] 3)) w'):=zq fun h W=>by
  have:=a_collect s.size W.heap.size (W.alloc (.cells #[.int .i64 s.size] 3)) h (Bk.new W [.int .i64 s.size] 3)
  simpa using this
 go_enter Tryz.func13,Tryz.ntmps13
 by_cases hs:s.size≤100
 ·have h1:¬(100:Int)<(s.size:Int):=by omega
  go_wp2_with fail
  refine (HSP.out _).mono ?_
  rintro e w1 ⟨rfl,rfl⟩
  have HA:=zq ((Below.refl w.heap.size w).alloc (Nat.le_refl _) (.cells #[.int .i64 s.size] 3))
  go_wp2_with fail
  refine (HCO.out hs w).mono ?_
  rintro e w2 ⟨v,rfl,hr,hB⟩
  have HR:=zq (row_low hr (Nat.le_succ w.heap.size))
  have HB:=zq (HA.out.trans (hB.mono (by omega)))
  clear hr hB
  go_wp2_with fail
  go_ret
  exact ⟨HB.out,by first | exact ⟨v,rfl,HR.out⟩ | (rw [if_pos hs];exact ⟨v,rfl,HR.out⟩)⟩
 ·have h1:(100:Int)<(s.size:Int):=by omega
  go_wp2_with fail
  go_ret
  exact ⟨Below.refl _ _,by first | rfl | (rw [if_neg hs];rfl) | (split <;> first | contradiction | rfl)⟩
end Go.Proofs.YtpokpgkjaifccaaGreatDoorRR
