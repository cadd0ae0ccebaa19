/- Writing, plain: how many pieces there are. Writing, plain: how many pieces a structure has. Writing, plain: no term is written as nothing. Writing, plain: the pieces do not hang on the fuel; their sizes. Writing, plain: no piece is longer than 1000 bytes. Writing, plain: as the reference says it. Writing, plain: a term with other variables has as many pieces. -/
import Derived.Test.YtgapnafkelokaaaGreatDoorM14
import Derived.Test.YtgapnafkelokaaaGreatDoorM15
namespace Hb
open Go Go.RowKit
/-- All kinds are those of the chapter. -/
inductive K4 : Tm → Prop
  | mk (t : Tm) (h : t.kind = 0 ∨ t.kind = 1 ∨ t.kind = 2 ∨ t.kind = 3) (ha : ∀ a ∈ t.args, K4 a) : K4 t
theorem K4.of_ok : ∀ t : Tm, t.allOk = true → K4 t := Tm.ind fun t ih h => by
  rw [Tm.allOk_eq, Bool.and_eq_true] at h
  exact .mk t (nodeOk_kind h.1) fun a ha => ih a ha (List.all_eq_true.1 h.2 a ha)
theorem K4.arg {t : Tm} (h : K4 t) (j : Nat) : K4 (t.arg j) := by
  by_cases hj : j < t.args.length
  · rw [Tm.arg_get t j hj]
    cases h with | mk _ _ ha => exact ha _ (List.getElem_mem _)
  · have e : t.arg j = tm0 := by unfold Tm.arg; rw [List.getD_eq_getElem?_getD, List.getElem?_eq_none (by omega)]; rfl
    rw [e]
    exact .mk _ (.inl rfl) (by intro a ha; cases ha)
theorem cons_nodes {t : Tm} (h : t.cons = true) : t.nodes = 1 + (t.arg 0).nodes + (t.arg 1).nodes := by
  have hl := Tm.cons_len h
  rw [Tm.nodes_eq t]
  unfold Tm.arg
  generalize t.args = l at hl ⊢
  match l, hl with
  | [a, b], _ => simp; omega
theorem elems_k : ∀ (n : Nat) (t : Tm), t.nodes ≤ n → K4 t → (∀ x ∈ elemsT t, K4 x) ∧ K4 (tailT t) ∧ ((elemsT t).map Tm.nodes).sum + (tailT t).nodes + (if t.cons = true then 1 else 0) ≤ t.nodes
  | 0, t, h, _ => absurd h (by have := t.nodes_pos; omega)
  | n + 1, t, h, hk => by
    cases hc : t.cons
    · rw [elemsT_end hc, tailT_end hc]
      refine ⟨?_, hk, ?_⟩
      · intro x hx
        exact absurd hx (List.not_mem_nil)
      · simp
    · have e := cons_nodes hc
      have p0 := (t.arg 0).nodes_pos
      obtain ⟨h1, h2, h3⟩ := elems_k n (t.arg 1) (by omega) (hk.arg 1)
      rw [elemsT_cons hc, tailT_cons hc]
      refine ⟨?_, h2, ?_⟩
      · intro x hx
        rcases List.mem_cons.1 hx with rfl | hx
        · exact hk.arg 0
        · exact h1 x hx
      · rw [List.map_cons, List.sum_cons, e]; simp; omega
variable {o : WO} {T : List OpR} {S : Tm → WR}
theorem brk_len (l : List ByteArray) (b : Bool) : (brk l b).length ≤ l.length + 2 := by unfold brk; split <;> simp
theorem place_len {t : Tm} (hS : (S t).1.length + 3 ≤ 9 * t.nodes) (m : Int) (b : Bool) : (placeW o T S t m b).length + 1 ≤ 9 * t.nodes := by
  have := t.nodes_pos
  have h1 := brk_len [nmW o t.name] (b && isAny T t.name)
  have h2 := brk_len (S t).1 (decide (m < (S t).2.prec))
  unfold placeW
  simp at h1
  repeat' split
  all_goals first | (simp; omega) | omega
theorem left_len {t : Tm} (hS : (S t).1.length + 3 ≤ 9 * t.nodes) (op : OpR) : (leftW o T S t op).length + 1 ≤ 9 * t.nodes := by
  unfold leftW
  split
  · refine Nat.le_trans (Nat.add_le_add_right (brk_len _ _) 1) (by omega)
  · exact place_len hS _ _
theorem comma_len (P : Tm → List ByteArray) : ∀ l : List Tm, (∀ x ∈ l, (P x).length + 1 ≤ 9 * x.nodes) → (l.flatMap fun u => s1 44 :: P u).length ≤ 9 * (l.map Tm.nodes).sum
  | [], _ => by simp
  | a :: l, h => by
    have h1 := h a (List.mem_cons_self ..)
    have h2 := comma_len P l fun x hx => h x (List.mem_cons_of_mem _ hx)
    rw [List.flatMap_cons, List.length_append, List.length_cons, List.map_cons, List.sum_cons]; omega
theorem row_len (P : Tm → List ByteArray) (l : List Tm) (h : ∀ x ∈ l, (P x).length + 1 ≤ 9 * x.nodes) : (rowW P l).length ≤ 9 * (l.map Tm.nodes).sum := by
  cases l with
  | nil => simp [rowW]
  | cons a l =>
    have h1 := h a (List.mem_cons_self ..)
    have h2 := comma_len P l fun x hx => h x (List.mem_cons_of_mem _ hx)
    unfold rowW
    rw [List.length_append, List.map_cons, List.sum_cons]; omega
theorem arg_nodes (t : Tm) (j : Nat) (h : j < t.args.length) : (t.arg j).nodes + 1 ≤ t.nodes := t.nodes_arg j h
end Hb
namespace Hb
open Go Go.RowKit
variable {o : WO} {T : List OpR} {S : Tm → WR}
theorem two_nodes {t : Tm} (hl : t.args.length = 2) : t.nodes = 1 + (t.arg 0).nodes + (t.arg 1).nodes := by
  rw [Tm.nodes_eq t]
  unfold Tm.arg
  generalize t.args = l at hl ⊢
  match l, hl with
  | [a, b], _ => simp; omega
theorem tail_len {u : Tm} (hS : (S u).1.length + 3 ≤ 9 * u.nodes) : (tailW (argW o T S) u).length ≤ 9 * u.nodes := by
  have := place_len (o := o) (T := T) hS 999 false
  unfold tailW argW
  split
  · simp
  · rw [List.length_cons]; exact this
theorem low_len {u : Tm} (h : u.kind = 0 ∨ u.kind = 1 ∨ u.kind = 2) : (tailW (argW o T S) u).length ≤ 4 := by
  have h1 := brk_len [nmW o u.name] (false && isAny T u.name)
  simp at h1
  have : (placeW o T S u 999 false).length ≤ 3 := by
    unfold placeW
    repeat' split
    all_goals first | (simp; done) | (simp; omega) | omega
  unfold tailW argW
  split
  · simp
  · rw [List.length_cons]; omega
theorem stF_len (hS : ∀ x, K4 x → (S x).1.length + 3 ≤ 9 * x.nodes) (t : Tm) (hk : K4 t) : (stF o T S t).1.length + 3 ≤ 9 * t.nodes := by
  have hp := t.nodes_pos
  have h0 := hS _ (hk.arg 0)
  have h1 := hS _ (hk.arg 1)
  have ht : t.kind = 0 ∨ t.kind = 1 ∨ t.kind = 2 ∨ t.kind = 3 := by cases hk with | mk _ h _ => exact h
  have hAll : ∀ a ∈ t.args, K4 a := by cases hk with | mk _ _ h => exact h
  obtain ⟨e1, e2, e3⟩ := elems_k t.nodes t (Nat.le_refl _) hk
  unfold stF
  split
  · simp; omega
  split
  · rename_i hc
    have hc2 : t.isNm [46] = true ∧ t.args.length = 2 := by simpa using hc
    have hr := row_len (argW o T S) (elemsT t) fun x hx => place_len (hS x (e1 x hx)) 999 false
    show (s1 91 :: ((rowW (argW o T S) (elemsT t) ++ tailW (argW o T S) (tailT t)) ++ [s1 93])).length + 3 ≤ _
    simp only [List.length_cons, List.length_append, List.length_nil]
    cases hcc : t.cons
    · have h3 : t.kind ≠ 3 := fun e => by
        have : t.cons = true := by unfold Tm.cons; rw [e, hc2.1, hc2.2]; rfl
        rw [this] at hcc; cases hcc
      rw [elemsT_end hcc, tailT_end hcc]
      have := low_len (o := o) (T := T) (S := S) (u := t) (by omega)
      simp only [rowW, List.length_nil]
      omega
    · rw [if_pos hcc] at e3
      have := tail_len (o := o) (T := T) (hS _ e2)
      omega
  split
  · rename_i hc
    have hc2 : t.args.length = 1 := by simp at hc; exact hc.2.2
    have hn := arg_nodes t 0 (by omega)
    have := place_len (o := o) (T := T) h0 1200 false
    simp only [List.length_cons, List.length_append, List.length_nil]
    omega
  split
  · rename_i hc
    have hc2 : t.args.length = 2 := by simp at hc; exact hc.2.2
    have hn := two_nodes hc2
    have q0 := left_len (o := o) (T := T) h0 (gets T t.name 2)
    have q1 := place_len (o := o) (T := T) h1 (sideR (gets T t.name 2)) true
    simp only [List.length_cons, List.length_append, List.length_nil]
    omega
  split
  · rename_i hc
    have hc2 : t.args.length = 1 := by simp at hc; exact hc.2.2
    have hn := arg_nodes t 0 (by omega)
    have q1 := place_len (o := o) (T := T) h0 (sideR (gets T t.name 1)) true
    have q2 : (argPre o T S (t.arg 0) (gets T t.name 1)).length ≤ (placeW o T S (t.arg 0) (sideR (gets T t.name 1)) true).length + 2 := brk_len _ _
    simp only [List.length_cons, List.length_append]
    split <;> simp only [List.length_cons, List.length_nil] <;> omega
  split
  · rename_i hc
    have hc2 : t.args.length = 1 := by simp at hc; exact hc.2.2
    have hn := arg_nodes t 0 (by omega)
    have q0 := left_len (o := o) (T := T) h0 (gets T t.name 3)
    simp only [List.length_cons, List.length_append, List.length_nil]
    omega
  · have hr := row_len (argW o T S) t.args fun x hx => place_len (hS x (hAll x hx)) 999 false
    have hn := Tm.nodes_eq t
    simp only [List.length_cons, List.length_append, List.length_nil]
    omega
theorem strW_len (o : WO) (T : List OpR) : ∀ (f : Nat) (t : Tm), K4 t → (strW o T f t).1.length + 3 ≤ 9 * t.nodes
  | 0, t, _ => by have := t.nodes_pos; show 0 + 3 ≤ _; omega
  | f + 1, t, h => stF_len (strW_len o T f) t h
end Hb
namespace Hb
open Go Go.RowKit
variable {o : WO} {T : List OpR} {S : Tm → WR}
theorem stF_pos (t : Tm) : 0 < (stF o T S t).1.length := by
  unfold stF
  repeat' split
  all_goals first | (simp; done) | (simp; omega)
theorem strW_pos (o : WO) (T : List OpR) (f : Nat) (t : Tm) (h : 0 < f) : 0 < (strW o T f t).1.length := by
  obtain ⟨g, rfl⟩ : ∃ g, f = g + 1 := ⟨f - 1, by omega⟩
  exact stF_pos t
theorem brk_posW {l : List ByteArray} (b : Bool) (h : 0 < l.length) : 0 < (brk l b).length := by
  unfold brk
  split
  · simp
  · exact h
theorem place_pos {t : Tm} (h : t.kind = 0 ∨ t.kind = 1 ∨ t.kind = 2 ∨ 0 < (S t).1.length) (m : Int) (b : Bool) : 0 < (placeW o T S t m b).length := by
  unfold placeW
  split
  · simp
  split
  · simp
  split
  · exact brk_posW _ (by simp)
  · exact brk_posW _ (by omega)
end Hb
namespace Hb
open Go Go.RowKit
inductive Tm.All (P : Tm → Prop) : Tm → Prop
  | mk (t : Tm) (h : P t) (ha : ∀ a ∈ t.args, Tm.All P a) : Tm.All P t
theorem Tm.All.here {P : Tm → Prop} {t : Tm} (h : Tm.All P t) : P t := by cases h; assumption
theorem Tm.All.sub {P : Tm → Prop} {t : Tm} (h : Tm.All P t) : ∀ a ∈ t.args, Tm.All P a := by cases h; assumption
theorem Tm.All.imp {P Q : Tm → Prop} (hi : ∀ t, P t → Q t) : ∀ t : Tm, Tm.All P t → Tm.All Q t := Tm.ind fun t ih h => .mk t (hi t h.here) fun a ha => ih a ha (h.sub a ha)
theorem Tm.All.and {P Q : Tm → Prop} : ∀ t : Tm, Tm.All P t → Tm.All Q t → Tm.All (fun x => P x ∧ Q x) t := Tm.ind fun t ih h k => .mk t ⟨h.here, k.here⟩ fun a ha => ih a ha (h.sub a ha) (k.sub a ha)
theorem Tm.All.of_ok : ∀ t : Tm, t.allOk = true → Tm.All (fun x => nodeOk x = true) t := Tm.ind fun t ih h => by
  rw [Tm.allOk_eq, Bool.and_eq_true] at h
  exact .mk t h.1 fun a ha => ih a ha (List.all_eq_true.1 h.2 a ha)
theorem Tm.All.ok : ∀ t : Tm, Tm.All (fun x => nodeOk x = true) t → t.allOk = true := Tm.ind fun t ih h => by
  rw [Tm.allOk_eq, Bool.and_eq_true]
  exact ⟨h.here, List.all_eq_true.2 fun a ha => ih a ha (h.sub a ha)⟩
def Okf (t : Tm) : Prop := nodeOk t = true ∧ nodeFit t = true
theorem Okf.ok {t : Tm} (h : Tm.All Okf t) : t.allOk = true := Tm.All.ok t (Tm.All.imp (fun _ h => h.1) t h)
theorem Okf.k4 {t : Tm} (h : Tm.All Okf t) : K4 t := K4.of_ok t (Okf.ok h)
theorem Okf.of {t : Tm} (h : t.allOk = true) (k : Tm.All (fun x => nodeFit x = true) t) : Tm.All Okf t := Tm.All.and t (Tm.All.of_ok t h) k
theorem K4.kind {t : Tm} (h : K4 t) : t.kind = 0 ∨ t.kind = 1 ∨ t.kind = 2 ∨ t.kind = 3 := by cases h; assumption
theorem K4.sub {t : Tm} (h : K4 t) : ∀ a ∈ t.args, K4 a := by cases h; assumption
theorem tm0_all {P : Tm → Prop} (h : P tm0) : Tm.All P tm0 := .mk _ h fun a ha => by cases ha
theorem Okf.tm0 : Tm.All Okf tm0 := tm0_all ⟨by decide +kernel, by decide +kernel⟩
theorem Tm.All.arg {P : Tm → Prop} {t : Tm} (h : Tm.All P t) (h0 : Tm.All P tm0) (j : Nat) : Tm.All P (t.arg j) := by
  by_cases hj : j < t.args.length
  · rw [Tm.arg_get t j hj]; exact h.sub _ (List.getElem_mem _)
  · have e : t.arg j = tm0 := by unfold Tm.arg; rw [List.getD_eq_getElem?_getD, List.getElem?_eq_none (by omega)]; rfl
    rw [e]; exact h0
variable {o : WO} {T : List OpR} {S S' : Tm → WR}
theorem place_congr {t : Tm} (hk : K4 t) (h : t.kind = 3 → S t = S' t) (m : Int) (b : Bool) : placeW o T S t m b = placeW o T S' t m b := by
  unfold placeW
  by_cases c0 : t.kind = 0
  · rw [if_pos c0, if_pos c0]
  rw [if_neg c0, if_neg c0]
  by_cases c1 : t.kind = 1
  · rw [if_pos c1, if_pos c1]
  rw [if_neg c1, if_neg c1]
  by_cases c2 : t.kind = 2
  · rw [if_pos c2, if_pos c2]
  rw [if_neg c2, if_neg c2, h (by have := hk.kind; omega)]
theorem left_congr {t : Tm} (hk : K4 t) (h : t.kind = 3 → S t = S' t) (op : OpR) : leftW o T S t op = leftW o T S' t op := by
  unfold leftW
  by_cases c : t.kind = 3
  · rw [if_pos c, if_pos c, h c]
  · rw [if_neg c, if_neg c]; exact place_congr hk h _ _
theorem pre_congr {t : Tm} (hk : K4 t) (h : t.kind = 3 → S t = S' t) (op : OpR) : argPre o T S t op = argPre o T S' t op := by
  unfold argPre; rw [place_congr hk h]
theorem row_congr {P Q : Tm → List ByteArray} : ∀ l : List Tm, (∀ x ∈ l, P x = Q x) → rowW P l = rowW Q l
  | [], _ => rfl
  | a :: l, h => by
    show P a ++ (l.flatMap fun u => s1 44 :: P u) = Q a ++ l.flatMap fun u => s1 44 :: Q u
    rw [h a (List.mem_cons_self ..)]
    have : ∀ l : List Tm, (∀ x ∈ l, P x = Q x) → (l.flatMap fun u => s1 44 :: P u) = l.flatMap fun u => s1 44 :: Q u := by
      intro l
      induction l with
      | nil => intro _; rfl
      | cons b l ih => intro h; rw [List.flatMap_cons, List.flatMap_cons, h b (List.mem_cons_self ..), ih fun x hx => h x (List.mem_cons_of_mem _ hx)]
    rw [this l fun x hx => h x (List.mem_cons_of_mem _ hx)]
theorem sum_mem : ∀ (l : List Tm) (a : Tm), a ∈ l → a.nodes ≤ (l.map Tm.nodes).sum
  | [], a, ha => by cases ha
  | b :: l, a, ha => by
    rw [List.map_cons, List.sum_cons]
    rcases List.mem_cons.1 ha with rfl | ha
    · omega
    · have := sum_mem l a ha; omega
theorem mem_nodes {t a : Tm} (h : a ∈ t.args) : a.nodes < t.nodes := by
  have := sum_mem t.args a h
  rw [Tm.nodes_eq t]; omega
theorem elems_less {t : Tm} (hk : K4 t) : (∀ x ∈ elemsT t, K4 x ∧ x.nodes < t.nodes) ∧ K4 (tailT t) ∧ ((tailT t).kind = 3 → t.isNm [46] = true → t.args.length = 2 → (tailT t).nodes < t.nodes) := by
  obtain ⟨e1, e2, e3⟩ := elems_k t.nodes t (Nat.le_refl _) hk
  cases hc : t.cons
  · rw [elemsT_end hc, tailT_end hc]
    refine ⟨fun x hx => absurd hx (List.not_mem_nil), hk, fun h3 hn hl => ?_⟩
    have : t.cons = true := by unfold Tm.cons; rw [h3, hn, hl]; rfl
    rw [this] at hc; cases hc
  · rw [if_pos hc] at e3
    refine ⟨fun x hx => ⟨e1 x hx, ?_⟩, e2, fun _ _ _ => by omega⟩
    have := sum_mem (elemsT t) x hx
    have := (tailT t).nodes_pos
    omega
theorem stF_congr {t : Tm} (hk : K4 t) (h : ∀ x, K4 x → x.kind = 3 → x.nodes < t.nodes → S x = S' x) : stF o T S t = stF o T S' t := by
  obtain ⟨e1, e2, e3⟩ := elems_less hk
  have ha : ∀ j, j < t.args.length → (t.arg j).kind = 3 → S (t.arg j) = S' (t.arg j) := fun j hj h3 => h _ (hk.arg j) h3 (t.nodes_arg j hj)
  unfold stF
  by_cases c1 : isNum o t = true
  · rw [if_pos c1, if_pos c1]
  rw [if_neg c1, if_neg c1]
  by_cases c2 : (t.isNm [46] && t.args.length == 2) = true
  · rw [if_pos c2, if_pos c2]
    have c2' : t.isNm [46] = true ∧ t.args.length = 2 := by simpa using c2
    have r1 : rowW (argW o T S) (elemsT t) = rowW (argW o T S') (elemsT t) := row_congr _ fun x hx => place_congr (e1 x hx).1 (fun h3 => h x (e1 x hx).1 h3 (e1 x hx).2) _ _
    have r2 : tailW (argW o T S) (tailT t) = tailW (argW o T S') (tailT t) := by
      unfold tailW argW
      rw [place_congr e2 fun h3 => h _ e2 h3 (e3 h3 c2'.1 c2'.2)]
    rw [r1, r2]
  rw [if_neg c2, if_neg c2]
  by_cases c3 : (!o.ig && (t.isNm [123, 125] && t.args.length == 1)) = true
  · have hl : t.args.length = 1 := by simp at c3; exact c3.2.2
    rw [if_pos c3, if_pos c3, place_congr (hk.arg 0) (ha 0 (by omega))]
  rw [if_neg c3, if_neg c3]
  by_cases c4 : (!o.ig && (has T t.name 2 && t.args.length == 2)) = true
  · have hl : t.args.length = 2 := by simp at c4; exact c4.2.2
    rw [if_pos c4, if_pos c4, left_congr (hk.arg 0) (ha 0 (by omega)), place_congr (hk.arg 1) (ha 1 (by omega))]
  rw [if_neg c4, if_neg c4]
  by_cases c5 : (!o.ig && (has T t.name 1 && t.args.length == 1)) = true
  · have hl : t.args.length = 1 := by simp at c5; exact c5.2.2
    rw [if_pos c5, if_pos c5, pre_congr (hk.arg 0) (ha 0 (by omega))]
  rw [if_neg c5, if_neg c5]
  by_cases c6 : (!o.ig && (has T t.name 3 && t.args.length == 1)) = true
  · have hl : t.args.length = 1 := by simp at c6; exact c6.2.2
    rw [if_pos c6, if_pos c6, left_congr (hk.arg 0) (ha 0 (by omega))]
  rw [if_neg c6, if_neg c6]
  have r1 : rowW (argW o T S) t.args = rowW (argW o T S') t.args := row_congr _ fun x hx => place_congr (hk.sub x hx) (fun h3 => h x (hk.sub x hx) h3 (mem_nodes hx)) _ _
  rw [r1]
theorem strW_irr (o : WO) (T : List OpR) : ∀ (f g : Nat) (t : Tm), K4 t → t.nodes ≤ f → t.nodes ≤ g → strW o T f t = strW o T g t
  | 0, _, t, _, h, _ => absurd h (by have := t.nodes_pos; omega)
  | _, 0, t, _, _, h => absurd h (by have := t.nodes_pos; omega)
  | f + 1, g + 1, t, hk, h, k => stF_congr hk fun x hx _ hn => strW_irr o T f g x hx (by omega) (by omega)
/-- A structure as it is written. -/
def str (o : WO) (T : List OpR) (t : Tm) : WR := strW o T t.nodes t
theorem strW_str (o : WO) (T : List OpR) {f : Nat} {t : Tm} (hk : K4 t) (h : t.nodes ≤ f) : strW o T f t = str o T t := strW_irr o T _ _ t hk h (Nat.le_refl _)
theorem str_eq (o : WO) (T : List OpR) {t : Tm} (hk : K4 t) : str o T t = stF o T (str o T) t := by
  obtain ⟨f, hf⟩ : ∃ f, t.nodes = f + 1 := ⟨t.nodes - 1, by have := t.nodes_pos; omega⟩
  unfold str
  rw [hf]
  show stF o T (strW o T f) t = _
  exact stF_congr hk fun x hx _ hn => strW_str o T hx (by omega)
/-- The pieces of a term in a place. -/
def pcs (o : WO) (T : List OpR) (t : Tm) (m : Int) (b : Bool) : List ByteArray := placeW o T (str o T) t m b
theorem str_len (o : WO) (T : List OpR) {t : Tm} (hk : K4 t) : (str o T t).1.length + 3 ≤ 9 * t.nodes := strW_len o T _ t hk
theorem str_pos (o : WO) (T : List OpR) (t : Tm) : 0 < (str o T t).1.length := strW_pos o T _ t t.nodes_pos
end Hb
namespace Hb
open Go Go.RowKit
def Small (l : List ByteArray) : Prop := ∀ s ∈ l, s.size ≤ 1000
theorem Small.nil : Small [] := fun s hs => by cases hs
theorem Small.cons {s : ByteArray} {l : List ByteArray} (h : s.size ≤ 1000) (k : Small l) : Small (s :: l) := fun x hx => by
  rcases List.mem_cons.1 hx with rfl | hx
  · exact h
  · exact k x hx
theorem Small.app {l k : List ByteArray} (h : Small l) (h2 : Small k) : Small (l ++ k) := fun x hx => by
  rcases List.mem_append.1 hx with hx | hx
  · exact h x hx
  · exact h2 x hx
theorem s1_size (c : UInt8) : (s1 c).size ≤ 1000 := by show 1 ≤ 1000; decide
theorem Small.one {s : ByteArray} (h : s.size ≤ 1000) : Small [s] := Small.cons h Small.nil
theorem Small.brk {l : List ByteArray} (h : Small l) (b : Bool) : Small (brk l b) := by
  unfold Hb.brk
  split
  · exact .cons (s1_size _) (h.app (.one (s1_size _)))
  · exact h
theorem Small.hd {l : List ByteArray} (h : Small l) : (hd l).size ≤ 1000 := by
  unfold Hb.hd
  cases l with
  | nil => show 0 ≤ 1000; decide
  | cons a l => exact h a (List.mem_cons_self ..)
theorem app_size' (a b : ByteArray) : (a ++ b).size = a.size + b.size := ByteArray.size_append
theorem fm_small {t : Tm} (h : nodeFit t = true) : (fmI t.num).size ≤ 21 := fmI_size _ ((nodeFit_iff t).1 h).1 ((nodeFit_iff t).1 h).2
variable {o : WO} {T : List OpR} {S : Tm → WR}
theorem nm_small {s : ByteArray} (h : s.size ≤ 100) : (nmW o s).size ≤ 1000 := by
  unfold nmW
  split
  · rw [size_mk']
    unfold atomN
    split
    · rw [size_data]; omega
    · have := btws_le s.data.toList
      rw [size_data] at this
      unfold quoteN
      simp only [List.length_append, List.length_cons, List.length_nil]
      omega
  · omega
theorem letter_small {n : Int} (h0 : -9223372036854775808 ≤ n) (h1 : n ≤ 9223372036854775807) : (letterW n).size ≤ 1000 := by
  unfold letterW
  split
  · exact s1_size _
  · have := fmI_size (n / 26) (by omega) (by omega)
    rw [app_size']
    show 1 + _ ≤ _
    omega
theorem place_small {t : Tm} (h : Tm.All Okf t) (hS : Small (S t).1) (m : Int) (b : Bool) : Small (placeW o T S t m b) := by
  have hf := fm_small h.here.2
  have hn := nm_small (o := o) (nodeOk_name h.here.1)
  unfold placeW
  split
  · exact .one (by rw [app_size']; show 1 + _ ≤ _; omega)
  split
  · exact .one (by omega)
  split
  · exact (Small.one hn).brk _
  · exact hS.brk _
theorem left_small {t : Tm} (h : Tm.All Okf t) (hS : Small (S t).1) (op : OpR) : Small (leftW o T S t op) := by
  unfold leftW
  split
  · exact hS.brk _
  · exact place_small h hS _ _
theorem flat_small (P : Tm → List ByteArray) : ∀ l : List Tm, (∀ x ∈ l, Small (P x)) → Small (l.flatMap fun u => s1 44 :: P u)
  | [], _ => Small.nil
  | a :: l, h => by
    rw [List.flatMap_cons]
    exact (Small.cons (s1_size _) (h a (List.mem_cons_self ..))).app (flat_small P l fun x hx => h x (List.mem_cons_of_mem _ hx))
theorem row_small (P : Tm → List ByteArray) (l : List Tm) (h : ∀ x ∈ l, Small (P x)) : Small (rowW P l) := by
  cases l with
  | nil => exact Small.nil
  | cons a l => exact (h a (List.mem_cons_self ..)).app (flat_small P l fun x hx => h x (List.mem_cons_of_mem _ hx))
theorem elems_all {P : Tm → Prop} (h0 : Tm.All P tm0) : ∀ (n : Nat) (t : Tm), t.nodes ≤ n → Tm.All P t → (∀ x ∈ elemsT t, Tm.All P x) ∧ Tm.All P (tailT t)
  | 0, t, h, _ => absurd h (by have := t.nodes_pos; omega)
  | n + 1, t, h, hk => by
    cases hc : t.cons
    · rw [elemsT_end hc, tailT_end hc]
      exact ⟨fun x hx => absurd hx (List.not_mem_nil), hk⟩
    · have e := cons_nodes hc
      have p0 := (t.arg 0).nodes_pos
      obtain ⟨h1, h2⟩ := elems_all h0 n (t.arg 1) (by omega) (hk.arg h0 1)
      rw [elemsT_cons hc, tailT_cons hc]
      refine ⟨fun x hx => ?_, h2⟩
      rcases List.mem_cons.1 hx with rfl | hx
      · exact hk.arg h0 0
      · exact h1 x hx
theorem sign_small {s : ByteArray} (h : s.size ≤ 100) : (signW o s).size ≤ 1000 := by
  unfold signW
  split
  · omega
  · exact nm_small h
theorem stF_small (hS : ∀ x, Tm.All Okf x → Small (S x).1) {t : Tm} (h : Tm.All Okf t) : Small (stF o T S t).1 := by
  have hn := nm_small (o := o) (nodeOk_name h.here.1)
  have ha := fun j => h.arg Okf.tm0 j
  obtain ⟨he, ht⟩ := elems_all Okf.tm0 t.nodes t (Nat.le_refl _) h
  unfold stF
  split
  · have := (nodeFit_iff _).1 (ha 0).here.2
    exact .one (letter_small this.1 this.2)
  split
  · refine .cons (s1_size _) ((Small.app (row_small _ _ fun x hx => place_small (he x hx) (hS x (he x hx)) _ _) ?_).app (.one (s1_size _)))
    unfold tailW
    split
    · exact Small.nil
    · exact .cons (s1_size _) (place_small ht (hS _ ht) _ _)
  split
  · exact .cons (s1_size _) ((place_small (ha 0) (hS _ (ha 0)) _ _).app (.one (s1_size _)))
  split
  · exact ((left_small (ha 0) (hS _ (ha 0)) _).app (.one (sign_small (nodeOk_name h.here.1)))).app (place_small (ha 1) (hS _ (ha 1)) _ _)
  split
  · refine .cons hn (.app ?_ ?_)
    · split
      · exact .one (s1_size _)
      · exact Small.nil
    · exact (place_small (ha 0) (hS _ (ha 0)) _ _).brk _
  split
  · exact (left_small (ha 0) (hS _ (ha 0)) _).app (.one hn)
  · exact .cons hn (.cons (s1_size _) ((row_small _ _ fun x hx => place_small (h.sub x hx) (hS x (h.sub x hx)) _ _).app (.one (s1_size _))))
theorem strW_small (o : WO) (T : List OpR) : ∀ (f : Nat) (t : Tm), Tm.All Okf t → Small (strW o T f t).1
  | 0, _, _ => Small.nil
  | f + 1, _, h => stF_small (strW_small o T f) h
theorem str_small (o : WO) (T : List OpR) {t : Tm} (h : Tm.All Okf t) : Small (str o T t).1 := strW_small o T _ t h
theorem pcs_small (o : WO) (T : List OpR) {t : Tm} (h : Tm.All Okf t) (m : Int) (b : Bool) : Small (pcs o T t m b) := place_small h (str_small o T h) m b
theorem pcs_len (o : WO) (T : List OpR) {t : Tm} (h : K4 t) (m : Int) (b : Bool) : (pcs o T t m b).length + 1 ≤ 9 * t.nodes := place_len (str_len o T h) m b
theorem pcs_pos (o : WO) (T : List OpR) {t : Tm} (h : K4 t) (m : Int) (b : Bool) : 0 < (pcs o T t m b).length := place_pos (by rcases h.kind with h | h | h | h <;> simp [h]; exact str_pos o T t) m b
end Hb
namespace Go.Proofs.YtgapnafkelokaaaGreatDoor
open Go.RowKit Hb
set_option maxRecDepth 100000
variable {o : WO} {T : List OpR} {TA : Option Addr} {TN TC : Nat}
theorem SOK.congr {S S' : Tm → WR} {t : Tm} (h : S t = S' t) (k : SOK o T TA TN TC S t) : SOK o T TA TN TC S' t := by
  unfold SOK at k ⊢
  rw [← h]; exact k
/-- Every valid term is written as the plain function says. -/
theorem w_str : ∀ (n : Nat) (t : Tm), t.nodes ≤ n → t.nodes ≤ 2000 → Tm.All Okf t → POK o T TA TN TC (str o T) t ∧ (t.kind = 3 → SOK o T TA TN TC (str o T) t)
  | 0, t, h, _, _ => absurd h (by have := t.nodes_pos; omega)
  | n + 1, t, hn, h2, hok => by
    have hk := Okf.k4 hok
    have hl := str_len o T hk
    have hs : t.kind = 3 → SOK o T TA TN TC (str o T) t := fun h3 => by
      refine SOK.congr (str_eq o T hk).symm ?_
      obtain ⟨e1, e2, e3⟩ := elems_less hk
      obtain ⟨f1, f2⟩ := elems_all Okf.tm0 t.nodes t (Nat.le_refl _) hok
      have e4 := elems_k t.nodes t (Nat.le_refl _) hk
      have hlen : ∀ x, K4 x → (str o T x).1.length + 3 ≤ 9 * x.nodes := fun x hx => str_len o T hx
      have hvt : validT t = true := by unfold validT; rw [decide_eq_true h2, Okf.ok hok]; rfl
      have hargs := nodeOk_args hok.here.1
      have hsm : ∀ j, (t.arg j).nodes ≤ 2000 := fun j => by
        by_cases hj : j < t.args.length
        · have := t.nodes_arg j hj; omega
        · have e : t.arg j = tm0 := by unfold Tm.arg; rw [List.getD_eq_getElem?_getD, List.getElem?_eq_none (by omega)]; rfl
          rw [e, Tm.nodes_eq]; simp [tm0, Tm.args]
      have hrl := row_len (argW o T (str o T)) (elemsT t) fun x hx => place_len (hlen x (e1 x hx).1) 999 false
      have htl := place_len (o := o) (T := T) (hlen _ e2) 999 false
      have har := row_len (argW o T (str o T)) t.args fun x hx => place_len (hlen x (hk.sub x hx)) 999 false
      have hnd := Tm.nodes_eq t
      have h43 := e4.2.2
      refine w_structure t (fun _ => hvt) (by omega) (nodeOk_name hok.here.1) (List.all_eq_true.2 fun x hx => (hok.sub x hx).here.2)
        (fun x hx => (w_str n x (by have := mem_nodes hx; omega) (by have := mem_nodes hx; omega) (hok.sub x hx)).1)
        (fun x hx => (w_str n x (by have := mem_nodes hx; omega) (by have := mem_nodes hx; omega) (hok.sub x hx)).2)
        (fun x hx => (w_str n x (by have := (e1 x hx).2; omega) (by have := (e1 x hx).2; omega) (f1 x hx)).1)
        (fun hc => ?_) ?_ ?_ ?_ ?_ ?_ ?_ (by omega)
      · unfold condList at hc
        have c2' : t.isNm [46] = true ∧ t.args.length = 2 := by simpa using hc
        have hcc : t.cons = true := by unfold Tm.cons; rw [h3, c2'.1, c2'.2]; rfl
        have h5 := e4.2.2
        rw [if_pos hcc] at h5
        exact (w_str n _ (by omega) (by omega) f2).1
      · have e : argW o T (str o T) (tailT t) = placeW o T (str o T) (tailT t) 999 false := rfl
        rw [e]
        omega
      · have := hlen _ (hk.arg 0); have := hsm 0; omega
      · have := place_len (o := o) (T := T) (hlen _ (hk.arg 0)) 1200 false; have := hsm 0; omega
      · intro j m
        have h1 := pcs_len o T (hk.arg j) m true
        have h2 := hsm j
        exact ⟨by unfold pcs at h1; omega, pcs_pos o T (hk.arg j) m true, Nat.le_trans (pcs_small o T (hok.arg Okf.tm0 j) m true).hd (by decide)⟩
      · intro op
        have := left_len (o := o) (T := T) (hlen _ (hk.arg 0)) op; have := hsm 0; omega
      · omega
    exact ⟨w_place o T TA TN TC (str o T) t hok.here.1 hok.here.2 hs (by omega), hs⟩
/-- A structure whose arguments are valid, no list: it may have more nodes. -/
theorem w_top {t : Tm} (h3 : t.kind = 3) (hc : condList t = false) (hnd : t.nodes ≤ 5000) (hok : Tm.All Okf t) (ha : ∀ x ∈ t.args, x.nodes ≤ 2000) : POK o T TA TN TC (str o T) t := by
  have hk := Okf.k4 hok
  have hl := str_len o T hk
  have hlen : ∀ x, K4 x → (str o T x).1.length + 3 ≤ 9 * x.nodes := fun x hx => str_len o T hx
  have hargs := nodeOk_args hok.here.1
  have hcons : t.cons = false := by unfold Tm.cons; rw [h3]; exact hc
  have e1 := elemsT_end hcons
  have e2 := tailT_end hcons
  have hsm : ∀ j, (t.arg j).nodes ≤ 2000 := fun j => by
    by_cases hj : j < t.args.length
    · rw [Tm.arg_get t j hj]; exact ha _ (List.getElem_mem _)
    · have e : t.arg j = tm0 := by unfold Tm.arg; rw [List.getD_eq_getElem?_getD, List.getElem?_eq_none (by omega)]; rfl
      rw [e, Tm.nodes_eq]; simp [tm0, Tm.args]
  have har := row_len (argW o T (str o T)) t.args fun x hx => place_len (hlen x (hk.sub x hx)) 999 false
  have hnn := Tm.nodes_eq t
  have hs : SOK o T TA TN TC (str o T) t := by
    refine SOK.congr (str_eq o T hk).symm ?_
    refine w_structure t (fun h => by rw [hc] at h; cases h) hnd (nodeOk_name hok.here.1) (List.all_eq_true.2 fun x hx => (hok.sub x hx).here.2)
      (fun x hx => (w_str x.nodes x (Nat.le_refl _) (ha x hx) (hok.sub x hx)).1)
      (fun x hx => (w_str x.nodes x (Nat.le_refl _) (ha x hx) (hok.sub x hx)).2)
      (fun x hx => by rw [e1] at hx; cases hx) (fun h => by rw [hc] at h; cases h) ?_ ?_ ?_ ?_ ?_ ?_ (by omega)
    · have h1 := place_len (o := o) (T := T) (hlen t hk) 999 false
      rw [e1, e2]
      show ([] : List ByteArray).length + (placeW o T (str o T) t 999 false).length ≤ _
      rw [List.length_nil]; omega
    · have := hlen _ (hk.arg 0); have := hsm 0; omega
    · have := place_len (o := o) (T := T) (hlen _ (hk.arg 0)) 1200 false; have := hsm 0; omega
    · intro j m
      have h1 := pcs_len o T (hk.arg j) m true
      have h2 := hsm j
      exact ⟨by unfold pcs at h1; omega, pcs_pos o T (hk.arg j) m true, Nat.le_trans (pcs_small o T (hok.arg Okf.tm0 j) m true).hd (by decide)⟩
    · intro op
      have := left_len (o := o) (T := T) (hlen _ (hk.arg 0)) op; have := hsm 0; omega
    · omega
  exact w_place o T TA TN TC (str o T) t hok.here.1 hok.here.2 (fun _ => hs) (by omega)
/-- The law for places. -/
theorem w_pok {t : Tm} (h2 : t.nodes ≤ 2000) (hok : Tm.All Okf t) : POK o T TA TN TC (str o T) t := (w_str t.nodes t (Nat.le_refl _) h2 hok).1
end Go.Proofs.YtgapnafkelokaaaGreatDoor
namespace Hb
open Go Go.RowKit
/-- The operator with which a term is written, and its class. -/
def operW (o : WO) (T : List OpR) (t : Tm) : OpR × Int :=
  if t.kind = 3 then (if o.ig = true then (op0, 0) else if (isNum o t || (condList t || (t.isNm [123, 125] && t.args.length == 1))) = true then (op0, 0)
    else if condIn o T t = true then (gets T t.name 2, 2) else if condPre o T t = true then (gets T t.name 1, 1) else if condPost o T t = true then (gets T t.name 3, 3) else (op0, 0)) else (op0, 0)
theorem oper_low {o : WO} {T : List OpR} {t : Tm} (h : ¬ t.kind = 3) : operW o T t = (op0, 0) := if_neg h
theorem oper_ig {o : WO} {T : List OpR} {t : Tm} (h3 : t.kind = 3) (h : o.ig = true) : operW o T t = (op0, 0) := by
  unfold operW; rw [if_pos h3, if_pos h]
theorem oper_is {o : WO} {T : List OpR} {t : Tm} (h3 : t.kind = 3) (h : o.ig = false) : operW o T t = if (isNum o t || (condList t || (t.isNm [123, 125] && t.args.length == 1))) = true then (op0, 0)
    else if condIn o T t = true then (gets T t.name 2, 2) else if condPre o T t = true then (gets T t.name 1, 1) else if condPost o T t = true then (gets T t.name 3, 3) else (op0, 0) := by
  unfold operW; rw [if_pos h3, if_neg (by rw [h]; decide)]
theorem cond_ig {o : WO} {T : List OpR} {t : Tm} (h : o.ig = true) : condCur o t = false ∧ condIn o T t = false ∧ condPre o T t = false ∧ condPost o T t = false := by
  unfold condCur condIn condPre condPost; rw [h]; exact ⟨rfl, rfl, rfl, rfl⟩
theorem oper_str {o : WO} {T : List OpR} {S : Tm → WR} {t : Tm} (h3 : t.kind = 3) : (operW o T t).1 = (stF o T S t).2 := by
  cases hig : o.ig
  · rw [oper_is h3 hig]
    cases c0 : isNum o t
    · cases c1 : condList t
      · have e : condCur o t = (t.isNm [123, 125] && t.args.length == 1) := by unfold condCur; rw [hig]; rfl
        rw [← e, Bool.false_or, Bool.false_or]
        cases c2 : condCur o t
        · rw [if_neg (by decide)]
          cases c3 : condIn o T t
          · rw [if_neg (by decide)]
            cases c4 : condPre o T t
            · rw [if_neg (by decide)]
              cases c5 : condPost o T t
              · rw [if_neg (by decide), st_6 c0 c1 c2 c3 c4 c5]
              · rw [if_pos rfl, st_5 c0 c1 c2 c3 c4 c5, rulePost_yes c5]
            · rw [if_pos rfl, st_4 c0 c1 c2 c3 c4]; unfold rulePre; rw [if_pos c4]
          · rw [if_pos rfl, st_3 c0 c1 c2 c3]; unfold ruleIn; rw [if_pos c3]
        · rw [if_pos rfl, st_2 c0 c1 c2]; unfold ruleCur; rw [if_pos c2]
      · rw [Bool.true_or, Bool.or_true, if_pos rfl, st_1 c0 c1]; unfold ruleList; rw [if_pos c1]
    · rw [Bool.true_or, if_pos rfl, st_0 c0]; unfold ruleNum; rw [if_pos c0]
  · obtain ⟨c2, c3, c4, c5⟩ := cond_ig (o := o) (T := T) (t := t) hig
    rw [oper_ig h3 hig]
    cases c0 : isNum o t
    · cases c1 : condList t
      · rw [st_6 c0 c1 c2 c3 c4 c5]
      · rw [st_1 c0 c1]; unfold ruleList; rw [if_pos c1]
    · rw [st_0 c0]; unfold ruleNum; rw [if_pos c0]
/-- Behind the first three rules. -/
theorem oper_late {o : WO} {T : List OpR} {t : Tm} (h3 : t.kind = 3) (c0 : isNum o t = false) (c1 : condList t = false) (c2 : condCur o t = false) :
    operW o T t = if condIn o T t = true then (gets T t.name 2, 2) else if condPre o T t = true then (gets T t.name 1, 1) else if condPost o T t = true then (gets T t.name 3, 3) else (op0, 0) := by
  cases hig : o.ig
  · have e : condCur o t = (t.isNm [123, 125] && t.args.length == 1) := by unfold condCur; rw [hig]; rfl
    rw [oper_is h3 hig, ← e, c0, c1, c2, if_neg (by decide)]
  · obtain ⟨_, c3, c4, c5⟩ := cond_ig (o := o) (T := T) (t := t) hig
    rw [oper_ig h3 hig, c3, c4, c5]; rfl
/-- The left operand, as the reference has it. -/
theorem left_ref {o : WO} {T : List OpR} {t : Tm} (hk : K4 t) (op : OpR) :
    leftW o T (str o T) t op = if (((op.typ == 3 || op.typ == 7) && ((operW o T t).1.typ == 2 || (operW o T t).1.typ == 4)) && (operW o T t).1.prec == op.prec) = true then brk (str o T t).1 true else pcs o T t (sideL op) true := by
  unfold leftW pcs
  by_cases h3 : t.kind = 3
  · have e : (operW o T t).1 = (str o T t).2 := by rw [str_eq o T hk]; exact oper_str h3
    rw [if_pos h3, e]
    have h0 : ¬ t.kind = 0 := by omega
    have h1 : ¬ t.kind = 1 := by omega
    have h2 : ¬ t.kind = 2 := by omega
    have e2 : placeW o T (str o T) t (sideL op) true = brk (str o T t).1 (decide (sideL op < (str o T t).2.prec)) := by unfold placeW; rw [if_neg h0, if_neg h1, if_neg h2]
    rw [e2]
    cases hc : (((op.typ == 3 || op.typ == 7) && ((str o T t).2.typ == 2 || (str o T t).2.typ == 4)) && (str o T t).2.prec == op.prec)
    · rw [Bool.or_false, if_neg (by decide)]
    · rw [Bool.or_true, if_pos rfl]
  · rw [if_neg h3, oper_low h3, if_neg]
    simp [op0]
/-- With the same priority on the left of a yfx or yf, the operand needs no brackets of its own. -/
theorem left_in {o : WO} {T : List OpR} {t : Tm} (h3 : t.kind = 3) (op : OpR) (hp : 1 ≤ op.prec ∧ op.prec ≤ 1200) (hty : op.typ = 3 ∨ op.typ = 7) (he : (str o T t).2.prec = op.prec) : pcs o T t (sideL op) true = (str o T t).1 := by
  unfold pcs placeW
  have h0 : ¬ t.kind = 0 := by omega
  have h1 : ¬ t.kind = 1 := by omega
  have h2 : ¬ t.kind = 2 := by omega
  have hs : sideL op = op.prec := by
    unfold sideL
    rcases hty with h | h <;> simp [h] <;> omega
  rw [if_neg h0, if_neg h1, if_neg h2, hs, he, decide_eq_false (by omega)]
  rfl
end Hb
namespace Hb
open Go Go.RowKit
/-- A term with its variables renamed. -/
def ren (f : Int → Int) : Tm → Tm
  | .mk k n s l => .mk k (if k = 0 then f n else n) s (l.attach.map fun ⟨a, _⟩ => ren f a)
theorem ren_eq (f : Int → Int) (t : Tm) : ren f t = .mk t.kind (if t.kind = 0 then f t.num else t.num) t.name (t.args.map (ren f)) := by
  cases t with
  | mk k n s l => unfold ren Tm.kind Tm.num Tm.name Tm.args; simp
theorem ren_kind (f : Int → Int) (t : Tm) : (ren f t).kind = t.kind := by rw [ren_eq]; rfl
theorem ren_name (f : Int → Int) (t : Tm) : (ren f t).name = t.name := by rw [ren_eq]; rfl
theorem ren_args (f : Int → Int) (t : Tm) : (ren f t).args = t.args.map (ren f) := by rw [ren_eq]; rfl
theorem ren_len (f : Int → Int) (t : Tm) : (ren f t).args.length = t.args.length := by rw [ren_args, List.length_map]
theorem ren_num (f : Int → Int) (t : Tm) : (ren f t).num = if t.kind = 0 then f t.num else t.num := by rw [ren_eq]; rfl
theorem ren_arg (f : Int → Int) (t : Tm) (j : Nat) (h : j < t.args.length) : (ren f t).arg j = ren f (t.arg j) := by
  rw [Tm.arg_get _ j (by rw [ren_len]; exact h), Tm.arg_get t j h]
  simp only [ren_args, List.getElem_map]
theorem ren_isNm (f : Int → Int) (t : Tm) (l : List UInt8) : (ren f t).isNm l = t.isNm l := by unfold Tm.isNm; rw [ren_name]
theorem ren_nodes (f : Int → Int) : ∀ t : Tm, (ren f t).nodes = t.nodes := Tm.ind fun t ih => by
  rw [Tm.nodes_eq, Tm.nodes_eq t, ren_args, List.map_map]
  congr 1
  have : ∀ l : List Tm, (∀ a ∈ l, (ren f a).nodes = a.nodes) → (l.map (Tm.nodes ∘ ren f)).sum = (l.map Tm.nodes).sum := by
    intro l
    induction l with
    | nil => intro _; rfl
    | cons a l ih2 => intro h; simp only [List.map_cons, List.sum_cons, Function.comp]; rw [h a (List.mem_cons_self ..)]; congr 1; exact ih2 fun x hx => h x (List.mem_cons_of_mem _ hx)
  exact this _ ih
theorem ren_cons (f : Int → Int) (t : Tm) : (ren f t).cons = t.cons := by unfold Tm.cons; rw [ren_kind, ren_isNm, ren_len]
theorem ren_elems (f : Int → Int) : ∀ (n : Nat) (t : Tm), t.nodes ≤ n → elemsT (ren f t) = (elemsT t).map (ren f) ∧ tailT (ren f t) = ren f (tailT t)
  | 0, t, h => absurd h (by have := t.nodes_pos; omega)
  | n + 1, t, h => by
    cases hc : t.cons
    · have hr : (ren f t).cons = false := by rw [ren_cons]; exact hc
      rw [elemsT_end hc, tailT_end hc, elemsT_end hr, tailT_end hr]
      exact ⟨rfl, rfl⟩
    · have hr : (ren f t).cons = true := by rw [ren_cons]; exact hc
      have hl := Tm.cons_len hc
      have h1 := t.nodes_arg 1 (by omega)
      obtain ⟨e1, e2⟩ := ren_elems f n (t.arg 1) (by omega)
      rw [elemsT_cons hc, tailT_cons hc, elemsT_cons hr, tailT_cons hr, ren_arg f t 0 (by omega), ren_arg f t 1 (by omega), e1, e2]
      exact ⟨rfl, rfl⟩
theorem ren_isNum (o : WO) (f : Int → Int) (t : Tm) : isNum o (ren f t) = isNum o t := by
  unfold isNum
  rw [ren_isNm, ren_len]
  by_cases hl : t.args.length = 1
  · rw [ren_arg f t 0 (by omega), ren_kind, ren_num]
    by_cases hk : (t.arg 0).kind = 1
    · rw [if_neg (by omega)]
    · have : ((t.arg 0).kind == 1) = false := by simpa using hk
      rw [this]; simp
  · have : (t.args.length == 1) = false := by simpa using hl
    rw [this]; simp
/-- A piece that begins as a variable. -/
def us (s : ByteArray) : Prop := ∃ r, s.data.toList = 95 :: r
def SimP (a b : ByteArray) : Prop := a = b ∨ (us a ∧ us b)
inductive Sim : List ByteArray → List ByteArray → Prop
  | nil : Sim [] []
  | cons {a b : ByteArray} {l m : List ByteArray} (h : SimP a b) (t : Sim l m) : Sim (a :: l) (b :: m)
theorem Sim.refl : ∀ l, Sim l l
  | [] => .nil
  | _ :: l => .cons (.inl rfl) (Sim.refl l)
theorem Sim.len {l m : List ByteArray} (h : Sim l m) : l.length = m.length := by
  induction h with
  | nil => rfl
  | cons _ _ ih => rw [List.length_cons, List.length_cons, ih]
theorem Sim.app {a b l m : List ByteArray} (h : Sim a b) (k : Sim l m) : Sim (a ++ l) (b ++ m) := by
  induction h with
  | nil => exact k
  | cons h _ ih => exact .cons h ih
theorem Sim.brk {l m : List ByteArray} (h : Sim l m) (b : Bool) : Sim (brk l b) (brk m b) := by
  unfold Hb.brk
  split
  · exact .cons (.inl rfl) (h.app (.refl _))
  · exact h
theorem Sim.hd {l m : List ByteArray} (h : Sim l m) : SimP (hd l) (hd m) := by
  cases h with
  | nil => exact .inl rfl
  | cons h _ => exact h
theorem us_var (n : Int) : us (s1 95 ++ fmI n) := ⟨(fmI n).data.toList, by simp [s1]⟩
theorem us_no {s : ByteArray} (h : us s) : (s.toList == [40]) = false ∧ digW s 0 = false ∧ (bAt s.data.toList 0 == 45) = false := by
  obtain ⟨r, hr⟩ := h
  have hb : bAt s.data.toList 0 = 95 := by rw [hr]; rfl
  refine ⟨by rw [tl_data, hr]; simp, ?_, by rw [hb]; rfl⟩
  unfold digW
  rw [hb]; simp
theorem SimP.spc {a b : ByteArray} (h : SimP a b) : (a.toList == [40]) = (b.toList == [40]) ∧ digW a 0 = digW b 0 := by
  rcases h with rfl | ⟨h, k⟩
  · exact ⟨rfl, rfl⟩
  · rw [(us_no h).1, (us_no k).1, (us_no h).2.1, (us_no k).2.1]; exact ⟨rfl, rfl⟩
theorem SimP.neg {a b : ByteArray} (h : SimP a b) (T : List OpR) : negW T a = negW T b := by
  rcases h with rfl | ⟨h, k⟩
  · rfl
  · unfold negW; rw [(us_no h).2.2, (us_no k).2.2]; simp
section
variable {o : WO} {T : List OpR} {S S' : Tm → WR} (f : Int → Int)
/-- S and S' write a structure alike. -/
def Alike (S S' : Tm → WR) (f : Int → Int) (x : Tm) : Prop := Sim (S x).1 (S' (ren f x)).1 ∧ (S x).2 = (S' (ren f x)).2
theorem place_sim {t : Tm} (hk : K4 t) (h : t.kind = 3 → Alike S S' f t) (m : Int) (b : Bool) : Sim (placeW o T S t m b) (placeW o T S' (ren f t) m b) := by
  unfold placeW
  rw [ren_kind, ren_name, ren_num]
  by_cases c0 : t.kind = 0
  · rw [if_pos c0, if_pos c0]; exact .cons (.inr ⟨us_var _, us_var _⟩) .nil
  rw [if_neg c0, if_neg c0]
  by_cases c1 : t.kind = 1
  · rw [if_pos c1, if_pos c1, if_neg c0]; exact .refl _
  rw [if_neg c1, if_neg c1]
  by_cases c2 : t.kind = 2
  · rw [if_pos c2, if_pos c2]; exact .refl _
  rw [if_neg c2, if_neg c2]
  obtain ⟨h1, h2⟩ := h (by have := hk.kind; omega)
  rw [h2]
  exact h1.brk _
theorem left_sim {t : Tm} (hk : K4 t) (h : t.kind = 3 → Alike S S' f t) (op : OpR) : Sim (leftW o T S t op) (leftW o T S' (ren f t) op) := by
  unfold leftW
  rw [ren_kind]
  by_cases c : t.kind = 3
  · rw [if_pos c, if_pos c, (h c).2]; exact (h c).1.brk _
  · rw [if_neg c, if_neg c]; exact place_sim f hk h _ _
theorem pre_sim {t : Tm} (hk : K4 t) (h : t.kind = 3 → Alike S S' f t) (op : OpR) : Sim (argPre o T S t op) (argPre o T S' (ren f t) op) := by
  have hp := place_sim (o := o) (T := T) f hk h (sideR op) true
  show Sim (brk _ (negW T (hd _))) (brk _ (negW T (hd _)))
  rw [hp.hd.neg T]
  exact hp.brk _
theorem row_sim {P Q : Tm → List ByteArray} : ∀ l : List Tm, (∀ x ∈ l, Sim (P x) (Q (ren f x))) → Sim (rowW P l) (rowW Q (l.map (ren f)))
  | [], _ => .nil
  | a :: l, h => by
    show Sim (P a ++ (l.flatMap fun u => s1 44 :: P u)) (Q (ren f a) ++ (l.map (ren f)).flatMap fun u => s1 44 :: Q u)
    refine (h a (List.mem_cons_self ..)).app ?_
    have : ∀ l : List Tm, (∀ x ∈ l, Sim (P x) (Q (ren f x))) → Sim (l.flatMap fun u => s1 44 :: P u) ((l.map (ren f)).flatMap fun u => s1 44 :: Q u) := by
      intro l
      induction l with
      | nil => intro _; exact .nil
      | cons b l ih =>
        intro h
        rw [List.map_cons, List.flatMap_cons, List.flatMap_cons]
        exact (Sim.cons (.inl rfl) (h b (List.mem_cons_self ..))).app (ih fun x hx => h x (List.mem_cons_of_mem _ hx))
    exact this l fun x hx => h x (List.mem_cons_of_mem _ hx)
theorem stF_sim {t : Tm} (hk : K4 t) (h : ∀ x, K4 x → x.kind = 3 → x.nodes < t.nodes → Alike S S' f x) : Sim (stF o T S t).1 (stF o T S' (ren f t)).1 ∧ (stF o T S t).2 = (stF o T S' (ren f t)).2 := by
  obtain ⟨e1, e2, e3⟩ := elems_less hk
  have ha : ∀ j, j < t.args.length → (t.arg j).kind = 3 → Alike S S' f (t.arg j) := fun j hj h3 => h _ (hk.arg j) h3 (t.nodes_arg j hj)
  unfold stF
  rw [ren_isNum, ren_isNm, ren_len, ren_isNm, ren_name]
  by_cases c1 : isNum o t = true
  · have hl : t.args.length = 1 ∧ (t.arg 0).kind = 1 := by unfold isNum at c1; simp at c1; exact ⟨c1.2.2.1, c1.2.2.2.1⟩
    rw [if_pos c1, if_pos c1, ren_arg f t 0 (by omega), ren_num, if_neg (by omega)]; exact ⟨.refl _, rfl⟩
  rw [if_neg c1, if_neg c1]
  by_cases c2 : (t.isNm [46] && t.args.length == 2) = true
  · rw [if_pos c2, if_pos c2]
    have c2' : t.isNm [46] = true ∧ t.args.length = 2 := by simpa using c2
    obtain ⟨r1, r2⟩ := ren_elems f t.nodes t (Nat.le_refl _)
    have q1 := row_sim f (P := argW o T S) (Q := argW o T S') (elemsT t) fun x hx => place_sim f (e1 x hx).1 (fun h3 => h x (e1 x hx).1 h3 (e1 x hx).2) _ _
    have q2 : Sim (tailW (argW o T S) (tailT t)) (tailW (argW o T S') (ren f (tailT t))) := by
      unfold tailW argW
      rw [ren_kind, ren_isNm]
      split
      · exact .nil
      · exact .cons (.inl rfl) (place_sim f e2 (fun h3 => h _ e2 h3 (e3 h3 c2'.1 c2'.2)) _ _)
    rw [r1, r2]
    exact ⟨.cons (.inl rfl) ((q1.app q2).app (.refl _)), rfl⟩
  rw [if_neg c2, if_neg c2]
  by_cases c3 : (!o.ig && (t.isNm [123, 125] && t.args.length == 1)) = true
  · have hl : t.args.length = 1 := by simp at c3; exact c3.2.2
    rw [if_pos c3, if_pos c3, ren_arg f t 0 (by omega)]
    exact ⟨.cons (.inl rfl) ((place_sim f (hk.arg 0) (ha 0 (by omega)) _ _).app (.refl _)), rfl⟩
  rw [if_neg c3, if_neg c3]
  by_cases c4 : (!o.ig && (has T t.name 2 && t.args.length == 2)) = true
  · have hl : t.args.length = 2 := by simp at c4; exact c4.2.2
    rw [if_pos c4, if_pos c4, ren_arg f t 0 (by omega), ren_arg f t 1 (by omega)]
    exact ⟨((left_sim f (hk.arg 0) (ha 0 (by omega)) _).app (.refl _)).app (place_sim f (hk.arg 1) (ha 1 (by omega)) _ _), rfl⟩
  rw [if_neg c4, if_neg c4]
  by_cases c5 : (!o.ig && (has T t.name 1 && t.args.length == 1)) = true
  · have hl : t.args.length = 1 := by simp at c5; exact c5.2.2
    rw [if_pos c5, if_pos c5, ren_arg f t 0 (by omega)]
    have hp := pre_sim (o := o) (T := T) f (hk.arg 0) (ha 0 (by omega)) (gets T t.name 1)
    have hs : spcW t.name (argPre o T S (t.arg 0) (gets T t.name 1)) = spcW t.name (argPre o T S' (ren f (t.arg 0)) (gets T t.name 1)) := by
      unfold spcW; rw [hp.hd.spc.1, hp.hd.spc.2]
    rw [hs]
    exact ⟨.cons (.inl rfl) ((Sim.refl _).app hp), rfl⟩
  rw [if_neg c5, if_neg c5]
  by_cases c6 : (!o.ig && (has T t.name 3 && t.args.length == 1)) = true
  · have hl : t.args.length = 1 := by simp at c6; exact c6.2.2
    rw [if_pos c6, if_pos c6, ren_arg f t 0 (by omega)]
    exact ⟨(left_sim f (hk.arg 0) (ha 0 (by omega)) _).app (.refl _), rfl⟩
  rw [if_neg c6, if_neg c6, ren_args]
  exact ⟨.cons (.inl rfl) (.cons (.inl rfl) ((row_sim f t.args fun x hx => place_sim f (hk.sub x hx) (fun h3 => h x (hk.sub x hx) h3 (mem_nodes hx)) _ _).app (.refl _))), rfl⟩
end
theorem strW_sim (o : WO) (T : List OpR) (f : Int → Int) : ∀ (n : Nat) (t : Tm), K4 t → t.nodes ≤ n → Alike (strW o T n) (strW o T n) f t
  | 0, t, _, h => absurd h (by have := t.nodes_pos; omega)
  | n + 1, t, hk, h => stF_sim f hk fun x hx _ hn => strW_sim o T f n x hx (by omega)
theorem pcs_sim (o : WO) (T : List OpR) (f : Int → Int) {t : Tm} (hk : K4 t) (m : Int) (b : Bool) : Sim (pcs o T t m b) (pcs o T (ren f t) m b) := by
  refine place_sim f hk (fun _ => ?_) m b
  unfold Alike str
  rw [ren_nodes]
  exact strW_sim o T f _ t hk (Nat.le_refl _)
/-- The variables of a term, in order, behind those of a list. -/
def varsT : Tm → List Int → List Int
  | .mk k n _ l => fun acc => l.attach.foldl (fun acc ⟨a, _⟩ => varsT a acc) (if k = 0 ∧ n ∉ acc then acc ++ [n] else acc)
def varH (t : Tm) (acc : List Int) : List Int := if t.kind = 0 ∧ t.num ∉ acc then acc ++ [t.num] else acc
theorem varsT_eq (t : Tm) (acc : List Int) : varsT t acc = t.args.foldl (fun acc a => varsT a acc) (varH t acc) := by
  cases t with
  | mk k n s l =>
    conv => lhs; unfold varsT
    show _ = l.foldl (fun acc a => varsT a acc) (if k = 0 ∧ n ∉ acc then acc ++ [n] else acc)
    simp
theorem varH_sub (t : Tm) (acc : List Int) : (∀ n ∈ acc, n ∈ varH t acc) ∧ (varH t acc).length ≤ acc.length + 1 ∧ (t.kind = 0 → t.num ∈ varH t acc) := by
  unfold varH
  split
  · rename_i h
    exact ⟨fun n hn => List.mem_append_left _ hn, by simp, fun _ => by simp⟩
  · rename_i h
    refine ⟨fun n hn => hn, by omega, fun h0 => ?_⟩
    exact Classical.byContradiction fun hn => h ⟨h0, hn⟩
theorem varsT_all : ∀ (t : Tm) (acc : List Int), (∀ n ∈ acc, n ∈ varsT t acc) ∧ (varsT t acc).length ≤ acc.length + t.nodes ∧ Tm.All (fun x => x.kind = 0 → x.num ∈ varsT t acc) t := by
  refine Tm.ind fun t ih => ?_
  intro acc
  obtain ⟨h1, h2, h3⟩ := varH_sub t acc
  have key : ∀ (l : List Tm), (∀ a ∈ l, a ∈ t.args) → ∀ ac : List Int, (∀ n ∈ ac, n ∈ l.foldl (fun acc a => varsT a acc) ac) ∧ (l.foldl (fun acc a => varsT a acc) ac).length ≤ ac.length + (l.map Tm.nodes).sum ∧ ∀ a ∈ l, Tm.All (fun x => x.kind = 0 → x.num ∈ l.foldl (fun acc a => varsT a acc) ac) a := by
    intro l
    induction l with
    | nil => intro _ ac; exact ⟨fun n hn => hn, by simp, fun a ha => by cases ha⟩
    | cons a l ihl =>
      intro hl ac
      obtain ⟨k1, k2, k3⟩ := ih a (hl a (List.mem_cons_self ..)) ac
      obtain ⟨m1, m2, m3⟩ := ihl (fun x hx => hl x (List.mem_cons_of_mem _ hx)) (varsT a ac)
      rw [List.foldl_cons, List.map_cons, List.sum_cons]
      refine ⟨fun n hn => m1 n (k1 n hn), by omega, fun x hx => ?_⟩
      rcases List.mem_cons.1 hx with rfl | hx
      · exact Tm.All.imp (fun y hy h0 => m1 _ (hy h0)) _ k3
      · exact m3 x hx
  obtain ⟨k1, k2, k3⟩ := key t.args (fun _ h => h) (varH t acc)
  rw [varsT_eq]
  refine ⟨fun n hn => k1 n (h1 n hn), by rw [Tm.nodes_eq t]; omega, .mk _ (fun h0 => k1 _ (h3 h0)) k3⟩
/-- Where a number stands in a list; -1 if it does not. -/
def posI (l : List Int) (n : Int) : Int := if n ∈ l then (l.idxOf n : Int) else -1
theorem posI_in {l : List Int} {n : Int} (h : n ∈ l) : 0 ≤ posI l n ∧ posI l n < l.length := by
  unfold posI
  rw [if_pos h]
  have := List.idxOf_lt_length_of_mem h
  omega
/-- The canonical form. -/
def canT (t : Tm) : Tm := if validT t = true then ren (posI (varsT t [])) t else tm0
theorem ren_ok {f : Int → Int} : ∀ t : Tm, t.allOk = true → Tm.All (fun x => x.kind = 0 → 0 ≤ f x.num ∧ f x.num ≤ 1099511627776) t → (ren f t).allOk = true := Tm.ind fun t ih h k => by
  rw [Tm.allOk_eq, Bool.and_eq_true] at h
  rw [Tm.allOk_eq, Bool.and_eq_true, ren_args]
  refine ⟨?_, List.all_eq_true.2 fun x hx => ?_⟩
  · have h1 := h.1
    have h2 := k.here
    unfold nodeOk at h1 ⊢
    rw [ren_kind, ren_name, ren_num, ren_len]
    by_cases c : t.kind = 0
    · rw [if_pos c] at h1 ⊢
      rw [if_pos c, decide_eq_true (h2 c).1, decide_eq_true (h2 c).2]
      simp at h1 ⊢
      exact ⟨h1.1.2, h1.2⟩
    · rw [if_neg c] at h1 ⊢
      rw [if_neg c]
      exact h1
  · rw [List.mem_map] at hx
    obtain ⟨a, ha, rfl⟩ := hx
    exact ih a ha (List.all_eq_true.1 h.2 a ha) (k.sub a ha)
theorem ren_fit {f : Int → Int} : ∀ t : Tm, Tm.All (fun x => nodeFit x = true) t → Tm.All (fun x => x.kind = 0 → 0 ≤ f x.num ∧ f x.num ≤ 1099511627776) t → Tm.All (fun x => nodeFit x = true) (ren f t) := Tm.ind fun t ih h k => by
  refine .mk _ ?_ fun x hx => ?_
  · rw [nodeFit_iff, ren_num]
    have h1 := (nodeFit_iff t).1 h.here
    have h2 := k.here
    split
    · rename_i c
      have := h2 c
      omega
    · exact h1
  · rw [ren_args, List.mem_map] at hx
    obtain ⟨a, ha, rfl⟩ := hx
    exact ih a ha (h.sub a ha) (k.sub a ha)
theorem canT_valid {t : Tm} (h : validT t = true) (k : Tm.All (fun x => nodeFit x = true) t) : validT (canT t) = true ∧ Tm.All (fun x => nodeFit x = true) (canT t) := by
  have hv := h
  obtain ⟨h1, h2⟩ := (validT_iff t).1 h
  obtain ⟨v1, v2, v3⟩ := varsT_all t []
  have hf : Tm.All (fun x => x.kind = 0 → 0 ≤ posI (varsT t []) x.num ∧ posI (varsT t []) x.num ≤ 1099511627776) t := Tm.All.imp (fun x hx h0 => by
    have := posI_in (hx h0)
    simp at v2
    omega) t v3
  unfold canT
  rw [if_pos hv]
  exact ⟨(validT_iff _).2 ⟨by rw [ren_nodes]; exact h1, ren_ok t h2 hf⟩, ren_fit t k hf⟩
theorem canT_len (o : WO) (T : List OpR) {t : Tm} (h : validT t = true) : (pcs o T (canT t) 1200 false).length = (pcs o T t 1200 false).length := by
  unfold canT
  rw [if_pos h]
  exact (pcs_sim o T _ (K4.of_ok t ((validT_iff t).1 h).2) 1200 false).len.symm
/-- With Ignore the table counts for nothing. -/
theorem place_ig {o : WO} {T T' : List OpR} {S S' : Tm → WR} {t : Tm} (hk : K4 t) (h : t.kind = 3 → S t = S' t) (m : Int) : placeW o T S t m false = placeW o T' S' t m false := by
  unfold placeW
  by_cases c0 : t.kind = 0
  · rw [if_pos c0, if_pos c0]
  rw [if_neg c0, if_neg c0]
  by_cases c1 : t.kind = 1
  · rw [if_pos c1, if_pos c1]
  rw [if_neg c1, if_neg c1]
  by_cases c2 : t.kind = 2
  · rw [if_pos c2, if_pos c2]; rfl
  rw [if_neg c2, if_neg c2, h (by have := hk.kind; omega)]
theorem stF_ig {o : WO} (hig : o.ig = true) {T T' : List OpR} {S S' : Tm → WR} {t : Tm} (hk : K4 t) (h : ∀ x, K4 x → x.kind = 3 → x.nodes < t.nodes → S x = S' x) : stF o T S t = stF o T' S' t := by
  obtain ⟨e1, e2, e3⟩ := elems_less hk
  unfold stF
  rw [hig]
  by_cases c1 : isNum o t = true
  · rw [if_pos c1, if_pos c1]
  rw [if_neg c1, if_neg c1]
  by_cases c2 : (t.isNm [46] && t.args.length == 2) = true
  · rw [if_pos c2, if_pos c2]
    have c2' : t.isNm [46] = true ∧ t.args.length = 2 := by simpa using c2
    have r1 : rowW (argW o T S) (elemsT t) = rowW (argW o T' S') (elemsT t) := row_congr _ fun x hx => place_ig (e1 x hx).1 (fun h3 => h x (e1 x hx).1 h3 (e1 x hx).2) _
    have r2 : tailW (argW o T S) (tailT t) = tailW (argW o T' S') (tailT t) := by
      unfold tailW argW
      rw [place_ig e2 fun h3 => h _ e2 h3 (e3 h3 c2'.1 c2'.2)]
    rw [r1, r2]
  rw [if_neg c2, if_neg c2]
  have r1 : rowW (argW o T S) t.args = rowW (argW o T' S') t.args := row_congr _ fun x hx => place_ig (hk.sub x hx) (fun h3 => h x (hk.sub x hx) h3 (mem_nodes hx)) _
  rw [r1]
  simp
theorem strW_ig {o : WO} (hig : o.ig = true) (T T' : List OpR) : ∀ (n : Nat) (t : Tm), K4 t → t.nodes ≤ n → strW o T n t = strW o T' n t
  | 0, t, _, h => absurd h (by have := t.nodes_pos; omega)
  | n + 1, t, hk, h => stF_ig hig hk fun x hx _ hn => strW_ig hig T T' n x hx (by omega)
theorem pcs_ig {o : WO} (hig : o.ig = true) (T T' : List OpR) {t : Tm} (hk : K4 t) (m : Int) : pcs o T t m false = pcs o T' t m false :=
  place_ig hk (fun _ => strW_ig hig T T' _ t hk (Nat.le_refl _)) m
/-- A list of terms. -/
def nilT : Tm := .mk 2 0 ⟨#[91, 93]⟩ []
def consT (x t : Tm) : Tm := .mk 3 0 ⟨#[46]⟩ [x, t]
def listT (l : List Tm) : Tm := l.foldr consT nilT
theorem consT_cons (x t : Tm) : (consT x t).cons = true := by
  unfold Tm.cons consT Tm.isNm Tm.kind Tm.name Tm.args
  simp [tl_data]
theorem elems_list : ∀ l : List Tm, elemsT (listT l) = l ∧ tailT (listT l) = nilT
  | [] => by
    have h : (listT []).cons = false := by rfl
    rw [elemsT_end h, tailT_end h]; exact ⟨rfl, rfl⟩
  | x :: l => by
    have h : (listT (x :: l)).cons = true := consT_cons x (listT l)
    obtain ⟨h1, h2⟩ := elems_list l
    rw [elemsT_cons h, tailT_cons h]
    have e1 : (listT (x :: l)).arg 1 = listT l := rfl
    have e0 : (listT (x :: l)).arg 0 = x := rfl
    rw [e1, e0, h1, h2]; exact ⟨rfl, rfl⟩
theorem pcs_list (o : WO) (T : List OpR) (x : Tm) (l : List Tm) (hk : K4 (listT (x :: l))) : pcs o T (listT (x :: l)) 1200 false = s1 91 :: (rowW (fun y => pcs o T y 999 false) (x :: l) ++ [s1 93]) := by
  have h0 : isNum o (listT (x :: l)) = false := by
    have : (listT (x :: l)).isNm [36, 86, 65, 82] = false := by unfold Tm.isNm listT List.foldr consT Tm.name; simp [tl_data]
    unfold isNum; rw [this]; simp
  have h1 : ((listT (x :: l)).isNm [46] && (listT (x :: l)).args.length == 2) = true := by
    have := consT_cons x (listT l)
    unfold Tm.cons at this
    rw [Bool.and_eq_true] at this
    exact this.2
  obtain ⟨e1, e2⟩ := elems_list (x :: l)
  have hs : str o T (listT (x :: l)) = (s1 91 :: ((rowW (argW o T (str o T)) (x :: l) ++ []) ++ [s1 93]), op0) := by
    rw [str_eq o T hk]
    unfold stF
    have hn : tailW (argW o T (str o T)) nilT = [] := by unfold tailW; rw [if_pos (by unfold nilT Tm.kind Tm.isNm Tm.name; simp [tl_data])]
    rw [if_neg (by rw [h0]; decide), if_pos h1, e1, e2, hn]
  have hp : pcs o T (listT (x :: l)) 1200 false = brk (str o T (listT (x :: l))).1 (decide (1200 < (str o T (listT (x :: l))).2.prec)) := rfl
  rw [hp, hs, List.append_nil]
  rfl
theorem list_valid : ∀ l : List Tm, (listT l).allOk = true → ∀ x ∈ l, x.allOk = true ∧ x.nodes + 2 ≤ (listT l).nodes
  | [], _, x, hx => by cases hx
  | y :: l, h, x, hx => by
    have e : (listT (y :: l)) = .mk 3 0 ⟨#[46]⟩ [y, listT l] := rfl
    rw [Tm.allOk_eq, Bool.and_eq_true] at h
    have h2 : y.allOk = true ∧ (listT l).allOk = true := by
      have := h.2
      rw [e] at this
      simpa [Tm.args] using this
    have hn : (listT (y :: l)).nodes = 1 + (y.nodes + (listT l).nodes) := by rw [Tm.nodes_eq, e]; simp [Tm.args]
    have := (listT l).nodes_pos
    rcases List.mem_cons.1 hx with rfl | hx
    · exact ⟨h2.1, by omega⟩
    · obtain ⟨k1, k2⟩ := list_valid l h2.2 x hx
      exact ⟨k1, by omega⟩
/-- f(x). -/
def oneT (x : Tm) : Tm := .mk 3 0 ⟨#[102]⟩ [x]
theorem one_ok {x : Tm} (h : x.allOk = true) : (oneT x).allOk = true := by
  rw [Tm.allOk_eq]
  have h1 : nodeOk (oneT x) = true := by
    unfold oneT nodeOk Tm.kind Tm.num Tm.name Tm.args
    simp
    decide
  rw [h1]
  unfold oneT Tm.args
  simp [h]
theorem one_nodes (x : Tm) : (oneT x).nodes = 1 + x.nodes := by rw [Tm.nodes_eq]; simp [oneT, Tm.args]
theorem nm_f (o : WO) : nmW o ⟨#[102]⟩ = ⟨#[102]⟩ := by
  have : (⟨(atomN [102]).toArray⟩ : ByteArray) = ⟨#[102]⟩ := by decide +kernel
  unfold nmW
  split
  · exact this
  · rfl
theorem pcs_one (o : WO) (T : List OpR) (x : Tm) (hk : K4 (oneT x)) (hno : ∀ c, c = 1 ∨ c = 3 → has T ⟨#[102]⟩ c = false) : pcs o T (oneT x) 1200 false = ⟨#[102]⟩ :: s1 40 :: (pcs o T x 999 false ++ [s1 41]) := by
  have h0 : isNum o (oneT x) = false := by
    have : (oneT x).isNm [36, 86, 65, 82] = false := by unfold Tm.isNm oneT Tm.name; simp [tl_data]
    unfold isNum; rw [this]; simp
  have h1 : ((oneT x).isNm [46] && (oneT x).args.length == 2) = false := by
    have : (oneT x).isNm [46] = false := by unfold Tm.isNm oneT Tm.name; simp [tl_data]
    rw [this]; rfl
  have h2 : (oneT x).isNm [123, 125] = false := by unfold Tm.isNm oneT Tm.name; simp [tl_data]
  have hn : (oneT x).name = ⟨#[102]⟩ := rfl
  have hl : (oneT x).args.length = 1 := rfl
  have hs : str o T (oneT x) = (⟨#[102]⟩ :: s1 40 :: (rowW (argW o T (str o T)) [x] ++ [s1 41]), op0) := by
    rw [str_eq o T hk]
    unfold stF
    rw [if_neg (by rw [h0]; decide), if_neg (by rw [h1]; decide), if_neg (by rw [h2]; simp), if_neg (by rw [hl]; simp), if_neg (by rw [hn, hno 1 (.inl rfl)]; simp), if_neg (by rw [hn, hno 3 (.inr rfl)]; simp), hn, nm_f]
    rfl
  have hp : pcs o T (oneT x) 1200 false = brk (str o T (oneT x)).1 (decide (1200 < (str o T (oneT x)).2.prec)) := rfl
  rw [hp, hs]
  simp only [rowW, List.flatMap_nil, List.append_nil]
  rfl
end Hb
