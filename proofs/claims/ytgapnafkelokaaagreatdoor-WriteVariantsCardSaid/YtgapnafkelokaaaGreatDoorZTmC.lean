/- The reference's Canon: position, vars, number. -/
import Derived.Test.YtgapnafkelokaaaGreatDoorM16
import Derived.Test.YtgapnafkelokaaaGreatDoorM21
namespace Hb
open Go Go.RowKit
/-- Numbers in a row. -/
def IntsAt (w : World) (A : Option Addr) (l : List Int) : Prop :=
  ∀ j (hj : j < l.length), ∃ g off, A = some ⟨g, off, none⟩ ∧ g < w.heap.size ∧ w.cell? ⟨g, off + j, none⟩ = some (.int .i64 l[j])
theorem IntsAt.below {w w' : World} {A : Option Addr} {l : List Int} (h : IntsAt w A l) (hb : Below w.heap.size w w') : IntsAt w' A l := fun j hj => by
  obtain ⟨g, off, hA, hg, hc⟩ := h j hj
  exact ⟨g, off, hA, Nat.lt_of_lt_of_le hg hb.size, (hb.cell (p := ⟨_, _, none⟩) hg).trans hc⟩
def OwnI (e : TypeId) (b : Nat) (w : World) (v : Value) (l : List Int) : Prop := w.ownsRow b e 1 v l.length (l.map fun n => Value.int .i64 n)
theorem OwnI.below {e b : Nat} {w w' : World} {v : Value} {l : List Int} (h : OwnI e b w v l) (hB : Below w.heap.size w w') : OwnI e b w' v l := own_below h hB
theorem OwnI.low {e b : Nat} {w : World} {v : Value} {l : List Int} (h : OwnI e b w v l) {k : Nat} (hk : v.ownBlock = some k) : b ≤ k ∧ k < w.heap.size := ⟨(World.ownsRow.lt h k hk).1, (World.ownsRow.lt h k hk).2⟩
theorem OwnI.nil (e b : Nat) (w : World) : OwnI e b w (.slice none 0 0) [] := World.ownsRow_nil _ _ _ _
theorem OwnI.ints {e b : Nat} {w : World} {v : Value} {l : List Int} (h : OwnI e b w v l) : ∃ A cap, v = .slice A l.length cap ∧ IntsAt w A l := by
  rcases h.2 with ⟨hv, h0⟩ | ⟨g, cap, cur, hv, hg, hh, hn, hm, rest⟩
  · have : l = [] := List.eq_nil_of_length_eq_zero h0
    subst this
    exact ⟨_, _, hv, fun j hj => absurd hj (by simp)⟩
  · refine ⟨some ⟨g, 0, none⟩, cap, hv, fun j hj => ⟨g, 0, rfl, (Array.getElem?_eq_some_iff.1 hh).1, ?_⟩⟩
    have := World.ownsRow.cells h (g := g) (by rw [hv]; rfl) j (.int .i64 l[j]) (by rw [List.getElem?_map, List.getElem?_eq_getElem hj]; rfl)
    rw [addr_add] at this
    exact this
theorem posI_at {l : List Int} {x : Int} {k : Nat} (hk : k < l.length) (h : ∀ j (hj : j < l.length), j < k → ¬ l[j] = x) (he : l[k] = x) : posI l x = k := by
  have hm : x ∈ l := by rw [← he]; exact List.getElem_mem hk
  unfold posI
  rw [if_pos hm]
  have h1 := List.idxOf_lt_length_of_mem hm
  have h2 : l[l.idxOf x] = x := List.getElem_idxOf h1
  rcases Nat.lt_trichotomy (l.idxOf x) k with h3 | h3 | h3
  · exact absurd h2 (h _ h1 h3)
  · omega
  · have := List.not_of_lt_findIdx (p := fun y => y == x) (xs := l) (i := k) h3
    simp [he] at this
theorem posI_no {l : List Int} {x : Int} (h : ∀ j (hj : j < l.length), ¬ l[j] = x) : posI l x = -1 := by
  unfold posI
  rw [if_neg]
  intro hm
  obtain ⟨j, hj, e⟩ := List.getElem_of_mem hm
  exact h j hj e
theorem posI_neg {l : List Int} {x : Int} : posI l x < 0 ↔ x ∉ l := by
  unfold posI
  split
  · rename_i h; simp [h]
  · rename_i h; simp [h]
theorem posI_range {l : List Int} (x : Int) (h : l.length ≤ 100000) : -1 ≤ posI l x ∧ posI l x ≤ 100000 := by
  unfold posI
  split
  · rename_i hm; have := List.idxOf_lt_length_of_mem hm; omega
  · omega
theorem bel_grown_on {a w w' : World} {row : Option Nat} (h : Below a.heap.size a w) (k : w.grownBy w' row) : a.grownBy w' row := bel_grown h k
end Hb
namespace Go.Proofs.YtgapnafkelokaaaGreatDoor
open Go.RowKit Hb
set_option maxRecDepth 100000
theorem infoI64 : (Tryz.prog.info? 2).map (fun i => (i.zero, i.size, i.bytes)) = some (some (.int .i64 0), 1, 8) := by kernel_rfl
set_option maxHeartbeats 800000 in
theorem r3_position (A : Option Addr) (n cap : Nat) (l : List Int) (x : Int) (w : World) (hn : n = l.length) (hm : n ≤ 100000) (h : IntsAt w A l) :
    Calls Tryz.prog 69 #[.slice A n cap, .int .i64 x] w fun e w' => e = .returned (.int .i64 (posI l x)) ∧ w = w' := by
  have HN := Lib.hid hn
  have HI := Lib.hid h
  clear h hn
  go_enter Tryz.func69, Tryz.ntmps69
  go_wp2_with fail
  go_loop [5] (fun i => ∃ k : Nat, k ≤ n ∧ i = .int .i64 k ∧ Hid (∀ j (hj : j < l.length), j < k → ¬ l[j] = x)) (fun i => n - (intOf i).toNat)
  case atStart => exact ⟨0, Nat.zero_le _, rfl, Lib.hid fun j _ hj => absurd hj (by omega)⟩
  case round =>
    obtain ⟨k, hk, rfl, HK⟩ := hrel
    by_cases hlt : k < n
    · have hkl : k < l.length := by have := HN.out; omega
      obtain ⟨g, off, rfl, hg, cc⟩ := HI.out k hkl
      have HAT := Lib.hid (posI_at hkl HK.out)
      have HNX : Hid (¬ l[k] = x → ∀ j (hj : j < l.length), j < k + 1 → ¬ l[j] = x) := Lib.hid (fun hne j hj hjk => by
        by_cases e : j = k
        · subst e; exact hne
        · exact HK.out j hj (by omega))
      generalize l[k] = y at *
      by_cases hy : y = x
      · subst hy
        have HR := Lib.hid (HAT.out rfl)
        go_wp2_with fail
        go_ret
        exact ⟨by show Ending.returned (.int .i64 _) = _; rw [HR.out], rfl⟩
      · have hb : (y == x) = false := by simpa using hy
        go_wp2_with fail
        go_round
        case rel => exact ⟨k + 1, by omega, by go_num, Lib.hid (HNX.out hy)⟩
        case measure => simp [intOf]; omega
    · have HR := Lib.hid (posI_no (l := l) (x := x) fun j hj => HK.out j hj (by have := HN.out; omega))
      go_wp2_with fail
      go_ret
      exact ⟨by show Ending.returned (.int .i64 _) = _; rw [HR.out], rfl⟩
/-- 'vars' appends a term's variables. -/
def VOK (w0 : World) (t : Tm) : Prop := ∀ (A : Option Addr) (cap : Nat) (w : World) (v : Value) (acc : List Int), Below w0.heap.size w0 w → TmsAt w0.heap.size w0 A t.args → OwnI 2 w0.heap.size w v acc → acc.length + t.nodes ≤ 100000 →
  Calls Tryz.prog 47 #[v, tmV t A cap] w fun e w' => ∃ v', e = .returned v' ∧ OwnI 2 w0.heap.size w' v' (varsT t acc) ∧ w.grownBy w' v.ownBlock ∧ AtB w v v'
theorem at_appII {ops : Array Oper} {rest : List Oper} {a : Act} {Q : Exit → Act → World → Prop} {w : World} {d t p f x g} (h : wpList Tryz.prog ops Q (⟨d, .call { callee := .builtin .append, args := x, argTypes := #[86, 86] }, t, p, f, g⟩ :: rest) a w) : wpList Tryz.prog ops Q (⟨d, .call { callee := .builtin .append, args := x, argTypes := #[86, 86] }, t, p, f, g⟩ :: rest) a w := h
theorem varsT_leaf {t : Tm} (h : t.args.length = 0) (acc : List Int) : varsT t acc = varH t acc := by
  rw [varsT_eq, List.eq_nil_of_length_eq_zero h]; rfl
theorem varsT_node {t : Tm} (h : ¬ t.kind = 0) (acc : List Int) : varsT t acc = t.args.foldl (fun acc a => varsT a acc) acc := by
  rw [varsT_eq]; unfold varH; rw [if_neg (fun e => h e.1)]
theorem foldV_len (l : List Tm) : ∀ acc : List Int, (l.foldl (fun acc a => varsT a acc) acc).length ≤ acc.length + sumT l := by
  induction l with
  | nil => intro acc; exact Nat.le_add_right _ _
  | cons a l ih =>
    intro acc
    have h1 := ih (varsT a acc)
    have h2 := (varsT_all a acc).2.1
    have e : sumT (a :: l) = a.nodes + sumT l := by unfold sumT; rw [List.map_cons, List.sum_cons]
    rw [List.foldl_cons, e]; omega
set_option maxHeartbeats 3200000 in
theorem r3_vars0 (w0 : World) (t : Tm) (hk : t.kind = 0) (hl : t.args.length = 0) : VOK w0 t := by
  intro A cap w v acc hB hT hO hlen
  have HVT := Lib.hid (varsT_leaf hl acc)
  have HVI := Lib.hid (fun (h : t.num ∈ acc) => (by unfold varH; rw [if_neg (fun e => e.2 h)] : varH t acc = acc))
  have HVN := Lib.hid (fun (h : ¬ t.num ∈ acc) => (by unfold varH; rw [if_pos ⟨hk, h⟩] : varH t acc = acc ++ [t.num]))
  have HPN := Lib.hid (posI_neg (l := acc) (x := t.num))
  obtain ⟨A', c', rfl, hI⟩ := hO.ints
  have HLOW := Lib.hid (fun k (hk : (Value.slice A' acc.length c').ownBlock = some k) => (hO.low hk).2)
  have hB1 := (Below.refl w.heap.size w).alloc (Nat.le_refl _) (.cells #[.int .i64 t.kind, .int .i64 t.num, .string t.name, .slice A t.args.length cap] 24)
  have HTB := Lib.hid (TBx.start w t A cap t.args.length 24 rfl)
  have HOW := Lib.hid (hO.below hB1)
  have HPO := Lib.hid (r3_position A' acc.length c' acc t.num _ rfl (by omega) (hI.below hB1))
  have hbw := hB.trans (hB1.mono hB.size)
  have hal : acc.length ≤ 100000 := by omega
  have HB1 := Lib.hid hB1
  unfold tmV
  rw [HVT.out, hl]
  rw [hl] at HTB hB1 hbw HPO HOW HB1
  generalize varH t acc = res at *
  have h0 := HTB.out.c0
  have h1 := HTB.out.c1
  have h2 := HTB.out.c2
  have h3 := HTB.out.c3
  have hlt := HTB.out.lt
  rw [hl] at h3
  rw [hk] at h0 hB1 hbw HPO HOW HB1 hlt h1 h2 h3 ⊢
  clear HTB HVT hB hT hO hI hlen
  go_enter Tryz.func47, Tryz.ntmps47
  go_wp2_with fail
  generalize w.alloc (.cells #[.int .i64 0, .int .i64 t.num, .string t.name, .slice A 0 cap] 24) = W at *
  refine HPO.out.mono ?_; rintro e W' ⟨rfl, rfl⟩
  have hsw := hbw.size
  by_cases hin : t.num ∈ acc
  · have hp : ¬ posI acc t.num < 0 := fun e => HPN.out.1 e hin
    have hp2 : decide (posI acc t.num < 0) = false := by simpa using hp
    have HR := Lib.hid (HVI.out hin)
    have hbb := hB1
    go_wp2_with fail
    go_loopw [0, 5] (fun v' i wr => v' = .slice A' acc.length c' ∧ i = .int .i64 0 ∧ wr = W) (fun _ _ _ => 0)
    case atStart => exact ⟨rfl, rfl, rfl⟩
    case round =>
      obtain ⟨rfl, rfl, rfl⟩ := hrel
      go_wp2_with fail
      go_ret
      exact ⟨_, rfl, by rw [HR.out]; exact HOW.out, bel_grown hbb (grown_self _ _), .inl rfl⟩
  · have hp : posI acc t.num < 0 := HPN.out.2 hin
    have hp2 : decide (posI acc t.num < 0) = true := by simpa using hp
    have HR := Lib.hid (HVN.out hin)
    have hB2 := (Below.refl W.heap.size W).alloc (Nat.le_refl _) (.cells #[.int .i64 t.num] 2)
    have HOX := Lib.hid (HOW.out.below hB2)
    have HSRC : Hid (SrcRow (W.alloc (.cells #[.int .i64 t.num] 2)) (some ⟨W.heap.size, 0, none⟩) 1 1 1 [.int .i64 t.num]) := Lib.hid (.inr ⟨_, rfl, rfl, World.news_of_block (heap_alloc_new W _)⟩)
    have hs2 : w0.heap.size ≤ (W.alloc (.cells #[.int .i64 t.num] 2)).heap.size := Nat.le_trans hsw hB2.size
    go_wp2_with ((with_reducible refine at_appII ?_); refine wpList_append_rowA rfl _ _ 86 2 rfl Tryz.underlying86 _ 1 8 infoI64 rfl (by decide) w0.heap.size _ _ _ rfl HOX.out (some ⟨W.heap.size, 0, none⟩) 1 1 [.int .i64 t.num] rfl HSRC.out (by intro u hu; rw [List.mem_singleton] at hu; subst hu; rfl) (by omega) (by omega) hs2 ?_; intro v6 w6 ho6 hg6 hat6)
    have HO6 : Hid (OwnI 2 w0.heap.size w6 v6 res) := Lib.hid (by
      rw [HR.out]
      unfold OwnI
      rw [List.length_append, List.map_append]
      exact ho6)
    have hgw : w.grownBy w6 (Value.slice A' acc.length c').ownBlock := bel_grown_on HB1.out (bel_grown_on hB2 hg6)
    have hat : AtB w (.slice A' acc.length c') v6 := by
      rcases hat6 with h | h
      · exact .inl h
      · exact .inr ⟨_, h, Nat.le_trans HB1.out.size hB2.size⟩
    have hT6 : w6.cell? ⟨w.heap.size, 3, none⟩ = some (.slice A 0 cap) := by
      rw [gro_cell hg6 (k := w.heap.size) 3 (Nat.lt_of_lt_of_le hlt hB2.size) (fun e => by have := HLOW.out _ e; omega), hB2.cell (p := ⟨w.heap.size, 3, none⟩) hlt]; exact h3
    clear ho6 hg6 hat6
    go_loopw [0, 5] (fun v' i wr => v' = v6 ∧ i = .int .i64 0 ∧ wr = w6) (fun _ _ _ => 0)
    case atStart => exact ⟨rfl, rfl, rfl⟩
    case round =>
      obtain ⟨rfl, rfl, rfl⟩ := hrel
      go_wp2_with fail
      go_ret
      exact ⟨_, rfl, HO6.out, hgw, hat⟩
set_option maxHeartbeats 3200000 in
theorem r3_vars (w0 : World) : ∀ (t : Tm), t.allOk = true → VOK w0 t := by
  refine Tm.ind fun t ih hok => ?_
  by_cases hk : t.kind = 0
  · refine r3_vars0 w0 t hk ?_
    rw [Tm.allOk_eq, Bool.and_eq_true] at hok
    have := hok.1
    unfold nodeOk at this
    rw [if_pos hk] at this
    simp at this
    exact List.length_eq_zero_iff.2 (by simpa using this.2)
  · intro A cap w v acc hB hT hO hlen
    have HIH : Hid (∀ a ∈ t.args, VOK w0 a) := Lib.hid (fun a ha => ih a ha (by
      rw [Tm.allOk_eq, Bool.and_eq_true] at hok
      exact List.all_eq_true.1 hok.2 a ha))
    have HVT := Lib.hid (varsT_node hk acc)
    have hB1 := (Below.refl w.heap.size w).alloc (Nat.le_refl _) (.cells #[.int .i64 t.kind, .int .i64 t.num, .string t.name, .slice A t.args.length cap] 24)
    have HTB := Lib.hid (TBx.start w t A cap t.args.length 24 rfl)
    have HLOW := Lib.hid (fun k (hk : v.ownBlock = some k) => hO.low hk)
    have HOW := Lib.hid (hO.below hB1)
    have HBW := Lib.hid (hB.trans (hB1.mono hB.size))
    have HB1 := Lib.hid hB1
    have HT := Lib.hid hT
    have hm := hT.len
    unfold maxLen at hm
    have HLEN := Lib.hid hlen
    have HNS : Hid (t.nodes = 1 + sumT t.args) := Lib.hid (Tm.nodes_eq t)
    have hkb : (t.kind == 0) = false := by simpa using hk
    clear ih hok hB hT hO hlen hB1
    unfold tmV
    rw [HVT.out]
    generalize hLN : t.args.length = LN at *
    have HL := Lib.hid hLN
    have hlt := HTB.out.lt
    clear hLN
    go_enter Tryz.func47, Tryz.ntmps47
    go_wp2_with fail
    generalize w.alloc (.cells #[.int .i64 t.kind, .int .i64 t.num, .string t.name, .slice A LN cap] 24) = W at *
    go_loopw [0, 5] (fun vk i wr => ∃ k : Nat, k ≤ LN ∧ i = .int .i64 k ∧ Hid (OwnI 2 w0.heap.size wr vk ((t.args.take k).foldl (fun acc a => varsT a acc) acc)) ∧ Hid (W.grownBy wr v.ownBlock) ∧ Hid (AtB W v vk)) (fun _ i _ => LN - (intOf i).toNat)
    case atStart => exact ⟨0, Nat.zero_le _, rfl, HOW, Lib.hid (grown_self _ _), Lib.hid (.inl rfl)⟩
    case round =>
      obtain ⟨k, hkl, rfl, HO, HG, HA⟩ := hrel
      have b3 : wr.cell? ⟨w.heap.size, 3, none⟩ = some (.slice A LN cap) := by
        rw [gro_cell HG.out (k := w.heap.size) 3 hlt (fun e => by have := (HLOW.out _ e).2; omega)]
        have := HTB.out.c3
        rw [HL.out] at this
        exact this
      by_cases hlt2 : k < LN
      · have hkt : k < t.args.length := by have := HL.out; omega
        obtain ⟨b, off, A', cap', rfl, hb, c0, c1, c2, c3, hs⟩ := HT.out.get k hkt
        have hcw : ∀ j, wr.cell? ⟨b, j, none⟩ = w0.cell? ⟨b, j, none⟩ := fun j => by
          rw [gro_cell HG.out (k := b) j (Nat.lt_of_lt_of_le hb HBW.out.size) (fun e => by have := (HLOW.out _ e).1; omega)]
          exact HBW.out.cell (p := ⟨b, j, none⟩) hb
        have d0 := (hcw _).trans c0
        have d1 := (hcw _).trans c1
        have d2 := (hcw _).trans c2
        have d3 := (hcw _).trans c3
        have hbr : Below w0.heap.size w0 wr := HBW.out.grown HG.out HBW.out.size (fun j hj => (HLOW.out _ hj).1)
        have hfl := foldV_len (t.args.take k) acc
        have hs1 := sumT_take t.args k hkt
        have hs2 := sumT_le t.args (k + 1)
        have HC := Lib.hid (HIH.out t.args[k] (List.getElem_mem hkt) A' cap' wr u0 _ hbr hs HO.out (by have := HLEN.out; have := HNS.out; omega))
        have HFE : Hid ((t.args.take (k + 1)).foldl (fun acc a => varsT a acc) acc = varsT t.args[k] ((t.args.take k).foldl (fun acc a => varsT a acc) acc)) := Lib.hid (by rw [List.take_succ_eq_append_getElem hkt, List.foldl_append]; rfl)
        have k0 : (0 : Int) ≤ (k : Int) := by omega
        have k1 : (k : Int) < (LN : Int) := by omega
        clear hcw c0 c1 c2 c3 hs hbr hfl hs1 hs2
        unfold tmV at HC
        generalize t.args[k] = a at *
        go_wp2_with fail
        refine HC.out.mono ?_; rintro e w6 ⟨v6, rfl, hO6, hG6, hA6⟩
        have HO6 := Lib.hid hO6
        have HG6 := Lib.hid (grown_on HG.out HA.out hG6)
        have HA6 := Lib.hid (HA.out.trans hA6 HG.out.size)
        clear hO6 hG6 hA6 d0 d1 d2 d3 b3
        go_wp2_with fail
        go_roundw
        case rel => exact ⟨k + 1, by omega, by go_num, Lib.hid (by rw [HFE.out]; exact HO6.out), HG6, HA6⟩
        case measure => simp [intOf] <;> omega
      · have hkn : k = LN := by omega
        subst hkn
        have HTK : Hid (t.args.take k = t.args) := Lib.hid (List.take_of_length_le (by have := HL.out; omega))
        rw [HTK.out] at HO
        go_wp2_with fail
        go_ret
        exact ⟨_, rfl, HO.out, bel_grown HB1.out HG.out, HA.out.imp id fun ⟨q, h1, h2⟩ => ⟨q, h1, Nat.le_trans HB1.out.size h2⟩⟩
end Go.Proofs.YtgapnafkelokaaaGreatDoor
