/- The law WriteLists. -/
import Derived.Test.YtgapnafkelokaaaGreatDoorM26
import Derived.Test.YtgapnafkelokaaaGreatDoorZTmL
import Derived.Test.YtgapnafkelokaaaGreatDoorM09
namespace Hb
open Go Go.RowKit
theorem has_no {T : List OpR} {s : ByteArray} (h : isAny T s = false) (hv : opsValid T = true) (c : Int) : has T s c = false := by
  unfold isAny at h
  rw [hv, Bool.true_and] at h
  cases hh : has T s c
  · rfl
  · unfold has at hh
    obtain ⟨p, hp⟩ := Option.isSome_iff_exists.1 hh
    unfold findR at hp
    rw [if_pos hv] at hp
    have hm := List.mem_of_find?_eq_some hp
    have hk := List.find?_some hp
    unfold isOp at hk
    rw [Bool.and_eq_true] at hk
    have : T.any (isNm s) = true := List.any_eq_true.2 ⟨p, hm, hk.1⟩
    rw [this] at h; cases h
theorem validT_tm0 : validT tm0 = true := (validT_iff _).2 ⟨by rw [Tm.nodes_eq]; simp [tm0, Tm.args], by rw [Tm.allOk_eq, Okf.tm0.here.1]; rfl⟩
theorem cloneT_valid (t : Tm) : validT (cloneT t) = true := by
  unfold cloneT
  split
  · assumption
  · exact validT_tm0
theorem lisT_cases (l : List Tm) (h : 0 < l.length) : lisT l = tm0 ∨ (lisT l = listT l ∧ validT (listT l) = true ∧ (listT l).kind = 3) := by
  by_cases h2 : 2000 < l.length
  · exact .inl (lisT_long h2)
  · rw [lisT_short h2]
    unfold cloneT
    split
    · rename_i hv
      refine .inr ⟨rfl, hv, ?_⟩
      match l, h with
      | x :: l, _ => rfl
    · exact .inl rfl
theorem OwnS.keepG {e b : Nat} {w w' : World} {v : Value} {l : List ByteArray} {row : Option Nat} (h : OwnS e b w v l) (hg : w.grownBy w' row) (hne : ∀ k, v.ownBlock = some k → row ≠ some k) : OwnS e b w' v l := by
  refine ⟨h.1, ?_⟩
  rcases h.2 with hn | ⟨g, cap, cur, hv, hbg, hh, rest⟩
  · exact .inl hn
  · refine .inr ⟨g, cap, cur, hv, hbg, ?_, rest⟩
    rw [hg.block g (Array.getElem?_eq_some_iff.1 hh).1 (fun e => hne g (by rw [hv]; rfl) e.symm)]; exact hh
/-- A row of the call's own that has an element. -/
theorem OwnS.pos {e b : Nat} {w : World} {v : Value} {l : List ByteArray} (h : OwnS e b w v l) (hl : 0 < l.length) : ∃ g cap, v = .slice (some ⟨g, 0, none⟩) l.length cap ∧ b ≤ g ∧ g < w.heap.size ∧ l.length ≤ cap ∧ ∀ j (hj : j < l.length), w.cell? ⟨g, j, none⟩ = some (.string l[j]) := by
  obtain ⟨A, cap, hv, hs, _⟩ := h.strs
  rcases h.2 with ⟨_, h0⟩ | ⟨g, c, cur, hv2, hbg, hh, hc, _⟩
  · omega
  · rw [hv] at hv2
    injection hv2 with e1 _ e3
    subst e1 e3
    refine ⟨g, cap, hv, hbg, (Array.getElem?_eq_some_iff.1 hh).1, hc, fun j hj => ?_⟩
    obtain ⟨g2, off, e, _, hcell⟩ := hs j hj
    injection e with e
    injection e with e4 e5 _
    subst e4 e5
    rw [Nat.zero_add] at hcell
    exact hcell
theorem listT_fit : ∀ l : List Tm, (∀ t ∈ l, Tm.All (fun x => nodeFit x = true) t) → Tm.All (fun x => nodeFit x = true) (listT l)
  | [], _ => .mk _ (by rfl) fun a ha => by cases ha
  | x :: l, h => .mk _ (by rfl) fun a ha => by
    have e : (listT (x :: l)).args = [x, listT l] := rfl
    rw [e] at ha
    simp at ha
    rcases ha with rfl | rfl
    · exact h _ (List.mem_cons_self ..)
    · exact listT_fit l fun t ht => h t (List.mem_cons_of_mem _ ht)
theorem oneT_fit {x : Tm} (h : Tm.All (fun x => nodeFit x = true) x) : Tm.All (fun x => nodeFit x = true) (oneT x) := .mk _ (by rfl) fun a ha => by
  have e : (oneT x).args = [x] := rfl
  rw [e, List.mem_singleton] at ha
  subst ha
  exact h
theorem pcs_listL (o : WO) (T : List OpR) (l : List Tm) (h : 0 < l.length) (hk : K4 (listT l)) : pcs o T (listT l) 1200 false = s1 91 :: (rowW (fun y => pcs o T y 999 false) l ++ [s1 93]) := by
  match l, h with
  | x :: l, _ => exact pcs_list o T x l hk
/-- What an element's f(x) gives. -/
theorem one_tok {o : WO} {T : List OpR} {l : List Tm} {x : Tm} (hv : validT (listT l) = true) (hT : opsValid T = true) (hx : x ∈ l) (hno : isAny T ⟨#[102]⟩ = false) : wtokR o T (oneT x) = (⟨#[102]⟩ :: s1 40 :: (pcs o T x 999 false ++ [s1 41]), 0) := by
  obtain ⟨h1, h2⟩ := (validT_iff _).1 hv
  obtain ⟨k1, k2⟩ := list_valid l h2 x hx
  have hv1 : validT (oneT x) = true := (validT_iff _).2 ⟨by rw [one_nodes]; omega, one_ok k1⟩
  rw [wtokR_yes (by rw [hv1, hT]; rfl), pcs_one o T x (K4.of_ok _ (one_ok k1)) fun c _ => has_no hno hT c]
/-- The pieces of f(x), in a row of the call's own. -/
theorem OwnS.one3 {e b : Nat} {w : World} {v : Value} {f p q : ByteArray} {px : List ByteArray} (h : OwnS e b w v (f :: p :: (px ++ [q]))) : ∃ g c, v = .slice (some ⟨g, 0, none⟩) (px.length + 3) c ∧ b ≤ g ∧ g < w.heap.size ∧ px.length + 3 ≤ c ∧ w.cell? ⟨g, 0, none⟩ = some (.string f) ∧ w.cell? ⟨g, 1, none⟩ = some (.string p) := by
  have hl : (f :: p :: (px ++ [q])).length = px.length + 3 := by simp
  obtain ⟨g, c, hv, h1, h2, h3, h4⟩ := h.pos (by rw [hl]; omega)
  rw [hl] at hv h3
  exact ⟨g, c, hv, h1, h2, h3, h4 0 (by rw [hl]; omega), h4 1 (by rw [hl]; omega)⟩
theorem OwnS.ne {e b g : Nat} {w : World} {v : Value} {l : List ByteArray} (h : OwnS e b w v l) (hg : w.heap.size ≤ g) : v.ownBlock ≠ some g := fun e => by have := (h.low e).2; omega
theorem OwnS.sub3 {e b : Nat} {w : World} {g n c cc : Nat} {f p q : ByteArray} {px : List ByteArray} (h : OwnS e b w (.slice (some ⟨g, 0, none⟩) n c) (f :: p :: (px ++ [q]))) : SrcRow w (some ⟨g, 2, none⟩) px.length cc 1 (px.map Value.string) := by
  have hl : (f :: p :: (px ++ [q])).length = px.length + 3 := by simp
  obtain ⟨g', c', hv, h1, h2, h3, h4⟩ := h.pos (by rw [hl]; omega)
  injection hv with e1 _ _
  injection e1 with e1
  injection e1 with e1 _ _
  subst e1
  refine .inr ⟨_, rfl, by simp, fun j u hu => ?_⟩
  rw [List.getElem?_map] at hu
  by_cases hj : j < px.length
  · rw [List.getElem?_eq_getElem hj] at hu
    have := h4 (j + 2) (by rw [hl]; omega)
    rw [addr_add, Nat.add_comm 2 j, this]
    have e2 : (f :: p :: (px ++ [q]))[j + 2]'(by rw [hl]; omega) = px[j] := by
      show (px ++ [q])[j]'(by simp; omega) = px[j]
      rw [List.getElem_append_left hj]
    rw [e2]
    exact hu
  · rw [List.getElem?_eq_none (by omega)] at hu; cases hu
structure OBx (w0 w : World) (o : WO) : Prop where
  bel : Below w0.heap.size w0 w
  lt : w0.heap.size < w.heap.size
  o0 : w.cell? ⟨w0.heap.size, 0, none⟩ = some (.bool o.q)
  o1 : w.cell? ⟨w0.heap.size, 1, none⟩ = some (.bool o.ig)
  o2 : w.cell? ⟨w0.heap.size, 2, none⟩ = some (.bool o.nu)
theorem OBx.call {w0 w w' : World} {o : WO} (h : OBx w0 w o) (hB : Below w.heap.size w w') : OBx w0 w' o :=
  ⟨h.bel.trans (hB.mono h.bel.size), Nat.lt_of_lt_of_le h.lt hB.size, (hB.cell (p := ⟨_, _, none⟩) h.lt).trans h.o0, (hB.cell (p := ⟨_, _, none⟩) h.lt).trans h.o1, (hB.cell (p := ⟨_, _, none⟩) h.lt).trans h.o2⟩
theorem OBx.start (w : World) (o : WO) (e : TypeId) : OBx w (w.alloc (.cells #[.bool o.q, .bool o.ig, .bool o.nu] e)) o :=
  ⟨(Below.refl _ _).alloc (Nat.le_refl _) _, by simp, World.cell?_alloc_new w _ e 0, World.cell?_alloc_new w _ e 1, World.cell?_alloc_new w _ e 2⟩
/-- What a round's region keeps. -/
structure LHd (wr W : World) : Prop where
  bel : Below wr.heap.size wr W
theorem LHd.call {wr W W' : World} (h : LHd wr W) (hB : Below W.heap.size W W') : LHd wr W' := ⟨h.bel.trans (hB.mono h.bel.size)⟩
theorem LHd.alloc {wr W : World} (h : LHd wr W) (o : Obj) : LHd wr (W.alloc o) := h.call ((Below.refl _ _).alloc (Nat.le_refl _) o)
theorem LHd.start2 (wr : World) (o : Obj) : LHd wr (wr.alloc o).drew := ⟨(((Below.refl _ _).alloc (Nat.le_refl _) o).drew)⟩
theorem LHd.start (wr : World) : LHd wr wr.drew := ⟨(Below.refl _ _).drew⟩
/-- In a round: the row of one term is built. -/
structure LRow (w0 wr W : World) (o : WO) (x : Tm) : Prop where
  bel : Below wr.heap.size wr W
  ob : OBx w0 W o
  row : TmsAt W.heap.size W (some ⟨wr.heap.size, 0, none⟩) [x]
theorem LRow.of {w0 wr W : World} {o : WO} {x : Tm} {B : Option Addr} {cb LN : Nat} (e : TypeId) (hO : OBx w0 wr o) (hL : LN = x.args.length) (hx : TmsAt wr.heap.size wr B x.args)
    (h : Below ((wr.alloc (.cells #[.int .i64 x.kind, .int .i64 x.num, .string x.name, .slice B LN cb] e)).drew).heap.size ((wr.alloc (.cells #[.int .i64 x.kind, .int .i64 x.num, .string x.name, .slice B LN cb] e)).drew) W) : LRow w0 wr W o x := by
  subst hL
  have h1 := (Below.refl wr.heap.size wr).alloc (Nat.le_refl _) (.cells #[.int .i64 x.kind, .int .i64 x.num, .string x.name, .slice B x.args.length cb] e)
  have hr : TmsAt (wr.alloc (.cells #[.int .i64 x.kind, .int .i64 x.num, .string x.name, .slice B x.args.length cb] e)).heap.size (wr.alloc (.cells #[.int .i64 x.kind, .int .i64 x.num, .string x.name, .slice B x.args.length cb] e)) (some ⟨wr.heap.size, 0, none⟩) [x] := tms_row (w := wr) e [(x, B, cb)] (by unfold maxLen; simp) (fun r hr => by simp at hr; subst hr; exact hx)
  generalize wr.alloc (.cells #[.int .i64 x.kind, .int .i64 x.num, .string x.name, .slice B x.args.length cb] e) = W1 at *
  have h2 := (Below.refl W1.heap.size W1).drew
  have h3 := h2.trans (h.mono h2.size)
  exact ⟨h1.trans (h3.mono h1.size), (hO.call h1).call h3, (hr.keep h3).mono h3.size⟩
end Hb
namespace Go.Proofs.YtgapnafkelokaaaGreatDoor
open Go.RowKit Hb
set_option maxRecDepth 100000
theorem wpList_wanted {P : Program} {ops : Array Oper} {rest : List Oper} {a : Act} {Q : Exit → Act → World → Prop} {w : World} {d op t p f g} (hw : Region.wanted ⟨d, op, t, p, f, some g⟩ (yielded ops a.tmps) = true) (h : wpList P ops Q (⟨d, op, t, p, f, none⟩ :: rest) a w) : wpList P ops Q (⟨d, op, t, p, f, some g⟩ :: rest) a w := by
  unfold wpList at *
  rw [if_pos hw]
  rw [if_pos (by rfl)] at h
  exact h
theorem at_appSSg {ops : Array Oper} {rest : List Oper} {a : Act} {Q : Exit → Act → World → Prop} {w : World} {d t p f x g} (h : wpList Tryz.prog ops Q (⟨d, .call { callee := .builtin .append, args := x, argTypes := #[28, 28] }, t, p, f, some g⟩ :: rest) a w) : wpList Tryz.prog ops Q (⟨d, .call { callee := .builtin .append, args := x, argTypes := #[28, 28] }, t, p, f, some g⟩ :: rest) a w := h
set_option maxHeartbeats 6400000 in
theorem law_writeLists {o : WO} {T : List OpR} {TA : Option Addr} {TN TC : Nat} (l : List Tm) (A : Option Addr) (n cap : Nat) (w : World) (hn : n = l.length) (hm : n ≤ maxLen) (hfit : ∀ t ∈ l, Tm.All (fun x => nodeFit x = true) t) (hD : DoorOk w) (hm' : TN ≤ maxLen) (hTab : Tab w TA TN TC T) (hT : TmsAt w.heap.size w A l) (_hz : n = 0 → (Value.slice A n cap = .slice none 0 0 ∨ ∃ ad, A = some ad)) :
    Calls Tryz.prog 6 #[.slice A n cap, .slice TA TN TC, o.v] w fun e w' => e = .returned (.bool true) ∧ Below w.heap.size w w' := by
  have HN := Lib.hid hn
  have HT := Lib.hid hT
  have HD := Lib.hid hD
  have HTB := Lib.hid hTab
  have HF := Lib.hid hfit
  have HOB := Lib.hid (OBx.start w o 27)
  have HE := Lib.hid (fun W (h : OBx w W o) => law_example W (hD.below h.bel))
  have HLS := Lib.hid (fun W (h : OBx w W o) => ref_list A n cap l W hn hm ((hT.keep h.bel).mono h.bel.size))
  have HO := Lib.hid (fun W (h : Below w.heap.size w W) => ref_validL TA TN TC T W hTab.len hm' (hTab.below h).ops)
  have hnm := hm
  unfold maxLen at hnm
  clear hn hT hD hTab hfit hm
  unfold WO.v
  go_enter Tryz.func6, Tryz.ntmps6
  go_wp2_with fail
  refine (HE.out _ HOB.out).mono ?_; rintro e w1 ⟨rfl, hB1⟩
  have hO1 := HOB.out.call hB1
  clear HOB hB1
  go_wp2_with fail
  refine (law_atom ⟨#[91, 93]⟩ _).mono ?_; rintro e w2 ⟨rfl, hB2⟩
  have hO2 := hO1.call hB2
  clear hO1 hB2 HE
  go_wp2_with fail
  refine (HLS.out _ hO2).mono ?_; rintro e w3 ⟨A3, c3, rfl, hB3, hN3⟩
  have hO3 := hO2.call hB3
  have HT3 := Lib.hid (hN3.at fun b hb => hb.2)
  clear hO2 hB3 HLS hN3
  have HX4 := Lib.hid (TBx.start w3 (lisT l) A3 c3 (lisT l).args.length 24 rfl)
  have hB4 := (Below.refl w3.heap.size w3).alloc (Nat.le_refl _) (.cells #[.int .i64 (lisT l).kind, .int .i64 (lisT l).num, .string (lisT l).name, .slice A3 (lisT l).args.length c3] 24)
  have HO4 := Lib.hid (hO3.call hB4)
  have HT4 := Lib.hid ((HT3.out.keep hB4).mono hB4.size)
  have HV := Lib.hid (ref_tvalid (lisT l) A3 c3 _ HT4.out)
  have hb4 := HO4.out.bel
  have HU := Lib.hid (lisT_cases l)
  have HVU : Hid (validT (lisT l) = true) := Lib.hid (by
    by_cases h2 : 2000 < l.length
    · rw [lisT_long h2]; exact validT_tm0
    · rw [lisT_short h2]; exact cloneT_valid _)
  rw [HVU.out] at HV
  clear HT3 hB4 hO3
  unfold tmV at *
  rcases Nat.eq_zero_or_pos n with rfl | hpos
  · clear HV HT4 HX4 HU HVU
    generalize lisT l = u at *
    go_wp2_with fail
    go_ret
    exact ⟨rfl, hb4⟩
  · have hn0 : ((n : Int) == 0) = false := by simp; omega
    have hn1 : ¬ (n : Int) = 0 := by omega
    have hn2 : ¬ n = 0 := by omega
    have HU := Lib.hid (HU.out (by rw [← HN.out]; exact hpos))
    generalize hue : lisT l = u at *
    have HUE := Lib.hid hue
    clear hue
    have x0 := HX4.out.c0
    have x1 := HX4.out.c1
    have x2 := HX4.out.c2
    have x3 := HX4.out.c3
    generalize hW4 : w3.alloc (.cells #[.int .i64 u.kind, .int .i64 u.num, .string u.name, .slice A3 u.args.length c3] 24) = W4 at *
    have hlt4 : w3.heap.size < W4.heap.size := HX4.out.lt
    go_wp2_with fail
    refine HV.out.mono ?_; rintro e w5 ⟨rfl, hB5⟩
    have hO5 := HO4.out.call hB5
    have hX5 := HX4.out.call hB5
    have hT5 := (HT4.out.keep hB5).mono hB5.size
    have hb5 := hO5.bel
    clear HO4 HX4 HT4 hB5 HV x0 x1 x2 x3 hb4
    have HOV := Lib.hid (HO.out w5 hb5)
    cases hov : opsValid T
    · rw [hov] at HOV
      go_wp2_with fail
      refine HOV.out.mono ?_; rintro e w6 ⟨rfl, hB6⟩
      have hb6 := hb5.trans (hB6.mono hb5.size)
      go_wp2_with fail
      go_ret
      exact ⟨rfl, hb6⟩
    · rw [hov] at HOV
      have few : TN ≤ 400 := by have := valid_few hov; have := HTB.out.len; omega
      go_wp2_with fail
      refine HOV.out.mono ?_; rintro e w6 ⟨rfl, hB6⟩
      have hO6 := hO5.call hB6
      have hX6 := hX5.call hB6
      have HT6 := Lib.hid ((hT5.keep hB6).mono hB6.size)
      have hb6 := hO6.bel
      have x0 := hX6.c0
      have x1 := hX6.c1
      have x2 := hX6.c2
      have x3 := hX6.c3
      have hlt6 := hX6.lt
      clear hO5 hX5 hT5 hB6 HOV hb5
      rcases HU.out with hu | ⟨hu, hvl, hk3⟩
      · have HU0 := Lib.hid (show u.kind = 0 by rw [hu]; rfl)
        rw [HU0.out] at x0
        clear hu
        go_wp2_with fail
        go_ret
        exact ⟨rfl, hb6⟩
      · have HKU := Lib.hid (show u.kind = 3 by rw [hu]; exact hk3)
        rw [HKU.out] at x0
        have hln : 0 < l.length := by rw [← HN.out]; exact hpos
        have hvu : validT u = true := by rw [hu]; exact hvl
        have hfu : Tm.All (fun x => nodeFit x = true) u := by rw [hu]; exact listT_fit l HF.out
        have hok := (Okf.of_valid hvu hfu).1
        have hnu := (Okf.of_valid hvu hfu).2
        have hpu : pcs o T u 1200 false = s1 91 :: (rowW (fun y => pcs o T y 999 false) l ++ [s1 93]) := by rw [hu]; exact pcs_listL o T l hln (hu ▸ Okf.k4 hok)
        have hlu := pcs_len o T (Okf.k4 hok) 1200 false
        rw [hpu, List.length_cons, List.length_append] at hlu
        have hrl : (rowW (fun y => pcs o T y 999 false) l).length ≤ 20000 := by omega
        have hxl : ∀ x ∈ l, 0 < (pcs o T x 999 false).length ∧ (pcs o T x 999 false).length ≤ 20000 := fun x hx => by
          obtain ⟨h1, h2⟩ := (validT_iff _).1 hvl
          obtain ⟨q1, q2⟩ := list_valid l h2 x hx
          have := pcs_len o T (K4.of_ok x q1) 999 false
          exact ⟨pcs_pos o T (K4.of_ok x q1) 999 false, by omega⟩
        have HXL := Lib.hid hxl
        have HTX : Hid (∀ (x : Tm) (hx : x ∈ l) (wr W : World) (h : LRow w wr W o x), Calls Tryz.prog 10 #[.agg #[.int .i64 3, .int .i64 0, .string ⟨#[102]⟩, .slice (some ⟨wr.heap.size, 0, none⟩) 1 1], .slice TA TN TC, .agg #[.bool o.q, .bool o.ig, .bool o.nu]] W fun e w' => ∃ v, e = .returned (.tuple #[v, .int .i64 (wtokR o T (oneT x)).2]) ∧ Below W.heap.size W w' ∧ OwnS 9 W.heap.size w' v (wtokR o T (oneT x)).1) := Lib.hid (fun (x : Tm) (hx : x ∈ l) (wr W : World) (h : LRow w wr W o x) => w_tokens (o := o) (T := T) (TA := TA) (TN := TN) (TC := TC) (oneT_fit (HF.out x hx)) (some ⟨wr.heap.size, 0, none⟩) 1 W (HD.out.below h.ob.bel) hm' (HTB.out.below h.ob.bel) h.row)
        have HONE := Lib.hid (fun (x : Tm) (hx : x ∈ l) (hno : isAny T ⟨#[102]⟩ = false) => one_tok (o := o) hvl hov hx hno)
        have hwu : wtokR o T u = (s1 91 :: (rowW (fun y => pcs o T y 999 false) l ++ [s1 93]), 0) := by rw [wtokR_yes (by rw [hvu, hov]; rfl), hpu]
        have HTU := Lib.hid (fun W (h : Below w6.heap.size w6 W) => w_tokens (o := o) (T := T) (TA := TA) (TN := TN) (TC := TC) hfu A3 c3 W (HD.out.below (hb6.trans (h.mono hb6.size))) hm' (HTB.out.below (hb6.trans (h.mono hb6.size))) ((HT6.out.keep h).mono h.size))
        have HIS : Hid (∀ W, Below w.heap.size w W → Calls Tryz.prog 24 #[.slice TA TN TC, .string ⟨#[102]⟩] W fun e w' => e = .returned (.bool (isAny T ⟨#[102]⟩)) ∧ Below W.heap.size W w') := Lib.hid (fun W h => ref_isO TA TN TC T ⟨#[102]⟩ W few (HTB.out.below h))
        have HWU : Hid (wtokR o T u = (s1 91 :: (rowW (fun y => pcs o T y 999 false) l ++ [s1 93]), 0)) := Lib.hid hwu
        have HRS := Lib.hid (fun k (hk : k < l.length) => rowW_succ (fun y => pcs o T y 999 false) l k hk)
        have HRT := Lib.hid (fun k => rowW_take (fun y => pcs o T y 999 false) l k)
        have HRL := Lib.hid hrl
        have HO6 := Lib.hid hO6
        have HX6 := Lib.hid hX6
        unfold tmV WO.v at HTU
        rw [HKU.out, HWU.out] at HTU
        have H91 := Lib.hid (OwnS.one 9 w6 (s1 91))
        unfold s1 at H91
        have hb91 := (Below.refl w6.heap.size w6).alloc (Nat.le_refl _) (.cells #[.string ⟨#[91]⟩] 9)
        clear hu hvl hk3 hfu hok hnu hpu hlu hrl hxl hwu hvu hov hO6 hX6 HF HU HUE HVU HO
        generalize isAny T ⟨#[102]⟩ = isF at *
        go_wp2_with fail
        go_loopw [8, 9, 10, 11] (fun v8 i _ _ wr => ∃ k : Nat, k ≤ n ∧ i = .int .i64 k ∧ Hid (Below w6.heap.size w6 wr) ∧ Hid (OwnS 9 w6.heap.size wr v8 (s1 91 :: rowW (fun y => pcs o T y 999 false) (l.take k)))) (fun _ i _ _ _ => n - (intOf i).toNat)
        case atStart => exact ⟨0, Nat.zero_le _, rfl, Lib.hid hb91, H91⟩
        case round =>
          obtain ⟨k, hk, rfl, HB, HOW⟩ := hrel
          have hbr := HB.out
          have hOk := HO6.out.call hbr
          have hsr := hbr.size
          have hrt := HRT.out k
          have hrl2 := HRL.out
          have hlen : (s1 91 :: rowW (fun y => pcs o T y 999 false) (l.take k)).length ≤ 20001 := by rw [List.length_cons]; omega
          have hO0 := hOk.o0
          have hO1 := hOk.o1
          have hO2 := hOk.o2
          have hbw := hOk.bel
          by_cases hlt : k < n
          · have hkl : k < l.length := by have := HN.out; omega
            have HT7 := Lib.hid (HT.out.keep hbw)
            obtain ⟨b, off, B, cb, rfl, hb, c0, c1, c2, c3, hs⟩ := HT7.out.get k hkl
            have HSA := Lib.hid (fun W' => LRow.of (W := W') (cb := cb) 24 hOk (x := l[k]) rfl (hs.mono hbw.size))
            have HTK := Lib.hid (fun W (h : LRow w wr W o l[k]) => HTX.out l[k] (List.getElem_mem hkl) wr W h)
            have HON := Lib.hid (HONE.out l[k] (List.getElem_mem hkl))
            obtain ⟨hxp, hxq⟩ := HXL.out l[k] (List.getElem_mem hkl)
            have HRk := Lib.hid (HRS.out k hkl)
            have HSN := Lib.hid (HRT.out (k + 1))
            clear hs HT7
            generalize l[k] = x at *
            generalize wtokR o T (oneT x) = r at *
            obtain ⟨r1, r2⟩ := r
            have k0 : (0 : Int) ≤ (k : Int) := by omega
            have k1 : (k : Int) < (n : Int) := by omega
            have hw1 : w.heap.size < wr.heap.size := hOk.lt
            have hbr2 : b < wr.heap.size := Nat.lt_of_lt_of_le hb hbw.size
            have HKEEP : Hid (∀ w', LHd wr w' → w'.cell? ⟨w.heap.size, 0, none⟩ = some (.bool o.q) ∧ w'.cell? ⟨w.heap.size, 1, none⟩ = some (.bool o.ig) ∧ w'.cell? ⟨w.heap.size, 2, none⟩ = some (.bool o.nu) ∧ w'.cell? ⟨b, off + k * 4, none⟩ = some (.int .i64 x.kind) ∧ w'.cell? ⟨b, off + k * 4 + 1, none⟩ = some (.int .i64 x.num) ∧ w'.cell? ⟨b, off + k * 4 + 2, none⟩ = some (.string x.name) ∧ w'.cell? ⟨b, off + k * 4 + 3, none⟩ = some (.slice B x.args.length cb) ∧ LHd wr w') := Lib.hid (fun w' h => by
              have hc : ∀ g j, g < wr.heap.size → w'.cell? ⟨g, j, none⟩ = wr.cell? ⟨g, j, none⟩ := fun g j hg => h.bel.cell (p := ⟨g, j, none⟩) hg
              exact ⟨(hc _ _ hw1).trans hO0, (hc _ _ hw1).trans hO1, (hc _ _ hw1).trans hO2, (hc _ _ hbr2).trans c0, (hc _ _ hbr2).trans c1, (hc _ _ hbr2).trans c2, (hc _ _ hbr2).trans c3, h⟩)
            have HOF : Hid (∀ w', (w'.cell? ⟨w.heap.size, 0, none⟩ = some (.bool o.q) ∧ w'.cell? ⟨w.heap.size, 1, none⟩ = some (.bool o.ig) ∧ w'.cell? ⟨w.heap.size, 2, none⟩ = some (.bool o.nu) ∧ w'.cell? ⟨b, off + k * 4, none⟩ = some (.int .i64 x.kind) ∧ w'.cell? ⟨b, off + k * 4 + 1, none⟩ = some (.int .i64 x.num) ∧ w'.cell? ⟨b, off + k * 4 + 2, none⟩ = some (.string x.name) ∧ w'.cell? ⟨b, off + k * 4 + 3, none⟩ = some (.slice B x.args.length cb) ∧ LHd wr w') → LHd wr w') := Lib.hid (fun w' h => h.2.2.2.2.2.2.2)
            have HST := Lib.hid (LHd.start wr)
            go_wp2_with fail
            go_region_held3 (fun w' => w'.cell? ⟨w.heap.size, 0, none⟩ = some (.bool o.q) ∧ w'.cell? ⟨w.heap.size, 1, none⟩ = some (.bool o.ig) ∧ w'.cell? ⟨w.heap.size, 2, none⟩ = some (.bool o.nu) ∧ w'.cell? ⟨b, off + k * 4, none⟩ = some (.int .i64 x.kind) ∧ w'.cell? ⟨b, off + k * 4 + 1, none⟩ = some (.int .i64 x.num) ∧ w'.cell? ⟨b, off + k * 4 + 2, none⟩ = some (.string x.name) ∧ w'.cell? ⟨b, off + k * 4 + 3, none⟩ = some (.slice B x.args.length cb) ∧ LHd wr w')
              (first
                | with_reducible exact HKEEP.out _ HST.out
                | with_reducible exact HKEEP.out _ (LHd.call (HOF.out _ (by with_reducible assumption)) (by with_reducible assumption))
                | with_reducible exact HKEEP.out _ (LHd.start2 _ _))
              (first
                | (go_at_call 23; (with_reducible refine (law_structure _ _ _ _ _).mono ?_); rintro e w7 ⟨rfl, hB7⟩; have hL7 := HSA.out w7 hB7)
                | (go_at_call 10; (with_reducible refine (HTK.out w7 hL7).mono ?_); rintro e w8 ⟨v8, rfl, hB8, hO8⟩)
                | fail)
            have hb8 := hL7.bel.trans (hB8.mono hL7.bel.size)
            have hbw8 := hbw.trans (hb8.mono hbw.size)
            have HOW8 := Lib.hid (HOW.out.below hb8)
            have hs7 := hL7.bel.size
            have HO8 := Lib.hid hO8
            have hb68 := hbr.trans (hb8.mono hsr)
            clear hO8 hL7 hB7 hB8 HSA HTK c0 c1 c2 c3 HKEEP HOF HST
            go_wp2_with fail
            refine (HIS.out _ hbw8).mono ?_; rintro e w9 ⟨rfl, hB9⟩
            have hbw9 := hbw8.trans (hB9.mono hbw8.size)
            have HOW9 := Lib.hid (HOW8.out.below hB9)
            have HO9 := Lib.hid (HO8.out.below hB9)
            have hb69 := hb68.trans (hB9.mono hb68.size)
            have hs9 := hb69.size
            clear hB9 hb68 hb8 HO8 HOW8 hbw8
            cases isF
            · have HRE := HON.out rfl
              injection HRE with hr1 hr2
              subst hr1 hr2
              have HRK : Hid (rowW (fun y => pcs o T y 999 false) (l.take (k + 1)) = rowW (fun y => pcs o T y 999 false) (l.take k) ++ ((if k = 0 then [] else [s1 44]) ++ pcs o T x 999 false)) := Lib.hid HRk.out
              clear HRk HON HONE
              generalize pcs o T x 999 false = px at *
              obtain ⟨g8, c8, rfl, hg8, hg8b, hc8, hz0, hz1⟩ := HO9.out.one3
              unfold s1 at hz1
              have q1 : decide (((px.length + 3 : Nat) : Int) < 4) = false := by simp; omega
              have HNE := Lib.hid (HOW.out.ne (g := g8) (by omega))
              generalize hpl : px.length = pn at *
              by_cases hk0 : k = 0
              · have hk1 : ¬ 0 < k := by omega
                have hk2 : decide ((0 : Int) < (k : Int)) = false := by simp; omega
                go_wp2_with ((with_reducible refine at_appSS ?_); go_must (refine wpList_append_row rfl _ _ 28 9 rfl Tryz.underlying28 _ 1 16 infoStr rfl (by decide) w6.heap.size _ _ _ rfl HOW9.out (some ⟨g8, 2, none⟩) pn _ _ rfl (hpl ▸ HO9.out.sub3) (strs_one _) (by omega) (by omega) hs9 w6 hb69 ?_; intro v10 w10 ho10 hB10 hg10))
                have HOK : Hid (OwnS 9 w6.heap.size w10 v10 (s1 91 :: rowW (fun y => pcs o T y 999 false) (l.take (k + 1)))) := Lib.hid (by
                  have := OwnS.snoc (m := px) (hpl ▸ ho10)
                  rw [HRK.out, if_pos hk0]
                  exact this)
                clear ho10 hg10
                go_roundw
                case rel => exact ⟨k + 1, by omega, by go_num, Lib.hid hB10, HOK⟩
                case measure => simp [intOf] <;> omega
              · have hk1 : 0 < k := by omega
                have hk2 : decide ((0 : Int) < (k : Int)) = true := by simp; omega
                go_wp2_with (first
                  | ((with_reducible refine at_appSS ?_); refine wpList_append_one rfl _ _ 28 9 rfl Tryz.underlying28 _ 1 16 infoStr rfl (by decide) w6.heap.size _ _ _ rfl w9 HOW9.out #[.string ⟨#[44]⟩] rfl (by simp [Value.oneCell']) rfl rfl (by omega) (by omega) hs9 ?_; intro v10 w10 ho10 hB10 hg10; have HO10 := Lib.hid ((HO9.out.below ((Below.refl _ _).alloc (Nat.le_refl _) (.cells #[.string ⟨#[44]⟩] 9))).keepG hg10 (fun q hq => by injection hq with hq; subst hq; exact HNE.out)); have hb610 := hb69.trans hB10; have hs10 := hb610.size)
                  | ((with_reducible refine at_appSS ?_); refine wpList_append_row rfl _ _ 28 9 rfl Tryz.underlying28 _ 1 16 infoStr rfl (by decide) w6.heap.size _ _ _ rfl ho10 (some ⟨g8, 2, none⟩) pn _ _ rfl (hpl ▸ HO10.out.sub3) (strs_one _) (by omega) (by omega) hs10 w6 hb610 ?_; intro v11 w11 ho11 hB11 hg11))
                have HOK : Hid (OwnS 9 w6.heap.size w11 v11 (s1 91 :: rowW (fun y => pcs o T y 999 false) (l.take (k + 1)))) := Lib.hid (by
                  have e1 : (s1 91 :: rowW (fun y => pcs o T y 999 false) (l.take (k + 1))).length = (s1 91 :: rowW (fun y => pcs o T y 999 false) (l.take k)).length + 1 + pn := by rw [HRK.out, if_neg hk0, ← hpl]; simp; omega
                  have e2 : (s1 91 :: rowW (fun y => pcs o T y 999 false) (l.take (k + 1))).map Value.string = (s1 91 :: rowW (fun y => pcs o T y 999 false) (l.take k)).map Value.string ++ #[Value.string ⟨#[44]⟩].toList ++ px.map Value.string := by rw [HRK.out, if_neg hk0]; simp [s1]
                  unfold OwnS
                  rw [e1, e2]
                  exact ho11)
                clear ho10 hg10 ho11 hg11 HO10
                go_roundw
                case rel => exact ⟨k + 1, by omega, by go_num, Lib.hid hB11, HOK⟩
                case measure => simp [intOf] <;> omega
            · go_wp2_with fail
              go_ret
              exact ⟨rfl, hbw9⟩
          · have hkn : k = n := by omega
            subst hkn
            have HLT : Hid (l.take k = l) := Lib.hid (List.take_of_length_le (by have := HN.out; omega))
            rw [HLT.out] at HOW hlen
            have hXr := HX6.out.call hbr
            have c0 := hXr.c0
            have c1 := hXr.c1
            have c2 := hXr.c2
            have c3 := hXr.c3
            rw [HKU.out] at c0
            have HSP := Lib.hid (fun g (hg : wr.heap.size ≤ g) => HOW.out.ne hg)
            go_wp2_with fail
            refine (HTU.out wr hbr).mono ?_; rintro e w8 ⟨v9, rfl, hB8, hO8⟩
            have HOW8 := Lib.hid (HOW.out.below hB8)
            have HO8 := Lib.hid hO8
            have hb68 := hbr.trans (hB8.mono hsr)
            have hs8 := hb68.size
            clear hO8 c0 c1 c2 c3 hXr
            go_wp2_with ((with_reducible refine at_appSSg ?_); refine wpList_wanted (by rfl) ?_; refine wpList_append_one rfl _ _ 28 9 rfl Tryz.underlying28 _ 1 16 infoStr rfl (by decide) w6.heap.size _ _ _ rfl w8 HOW8.out #[.string ⟨#[93]⟩] rfl (by simp [Value.oneCell']) rfl rfl (by omega) (by omega) hs8 ?_; intro v10 w10 ho10 hB10 hg10)
            have HO10 := Lib.hid ((HO8.out.below ((Below.refl _ _).alloc (Nat.le_refl _) (.cells #[.string ⟨#[93]⟩] 9))).keepG hg10 (fun q hq => HSP.out q (HO8.out.low hq).1))
            have HOK : Hid (OwnS 9 w6.heap.size w10 v10 (s1 91 :: (rowW (fun y => pcs o T y 999 false) l ++ [s1 93]))) := Lib.hid (OwnS.snoc (m := [s1 93]) ho10)
            have hb610 := hb68.trans hB10
            have hbw10 := hb6.trans (hb610.mono hb6.size)
            clear ho10 hg10 hB10 HOW8 HO8
            refine (law_piecesO HO10.out HOK.out (by rw [List.length_cons, List.length_append]; rw [List.length_cons] at hlen; show _ + 1 + 1 ≤ _; omega)).mono ?_; rintro e w11 ⟨rfl, hB11⟩
            have hbw11 := hbw10.trans (hB11.mono hbw10.size)
            go_wp2_with fail
            go_ret
            exact ⟨rfl, hbw11⟩
end Go.Proofs.YtgapnafkelokaaaGreatDoor
