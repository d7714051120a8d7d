/- The law EdgesOf holds of trees. -/
import Derived.Test.YtonljcphaiklgaaG3
import Derived.Test.YtonljcphaiklgaaVfFnEdgesOf
namespace Go.Proofs.Ytonljcphaiklgaa.V
open Go
set_option linter.unusedVariables false
set_option linter.unusedSimpArgs false
set_option maxHeartbeats 4000000
def cnt1 (x : Int) (l : List Int) : Nat := sums (fun y => if x = y then 1 else 0) l
def both (a b : List Int) : Nat := sums (fun x => cnt1 x b) a
theorem cnt1_le (x : Int) (l : List Int) : cnt1 x l ≤ l.length := by
  have := sums_bound (c := fun y => if x = y then 1 else 0) (B := 1) (l := l) (fun y _ => by split <;> omega)
  simpa [cnt1] using this
theorem both_le (a b : List Int) : both a b ≤ a.length * b.length := sums_bound (fun x _ => cnt1_le x b)
theorem cnt_ids {q : Eg → Bool} {k : Int} : ∀ {es : List Eg} (h : (es.Pairwise (fun x y => x.id < y.id))) {e : Eg}, e ∈ es → cnt1 e.id ((es.filter q).map Eg.id) = if q e = true then 1 else 0
  | [], _, e, he => by simp at he
  | a :: es, h, e, he => by
    rw [List.pairwise_cons] at h
    rcases List.mem_cons.1 he with rfl | he
    · have h0 : cnt1 e.id ((es.filter q).map Eg.id) = 0 := by
        have : ∀ y ∈ (es.filter q).map Eg.id, (if e.id = y then 1 else 0) = 0 := by
          intro y hy
          obtain ⟨x, hx, rfl⟩ := List.mem_map.1 hy
          have := h.1 x (List.mem_filter.1 hx).1
          rw [if_neg (by omega)]
        have := sums_bound (c := fun y => if e.id = y then 1 else 0) (B := 0) (l := (es.filter q).map Eg.id) (fun y hy => by rw [this y hy]; omega)
        simp only [cnt1]; omega
      by_cases c : q e = true
      · rw [List.filter_cons_of_pos c, if_pos c]
        simp only [cnt1, sums, List.map_cons, List.sum_cons, if_true] at h0 ⊢; omega
      · rw [List.filter_cons_of_neg c, if_neg c]; exact h0
    · have ih := cnt_ids (k := k) h.2 he (q := q)
      have hlt := h.1 e he
      by_cases c : q a = true
      · rw [List.filter_cons_of_pos c]
        simp only [cnt1, sums, List.map_cons, List.sum_cons] at ih ⊢
        rw [if_neg (by omega)]; omega
      · rw [List.filter_cons_of_neg c]; exact ih
theorem both_ids {p q : Eg → Bool} {es : List Eg} (h : (es.Pairwise (fun x y => x.id < y.id))) : both ((es.filter p).map Eg.id) ((es.filter q).map Eg.id) = (es.filter (fun e => p e && q e)).length := by
  have key : ∀ l : List Eg, (∀ e ∈ l, e ∈ es) → both ((l.filter p).map Eg.id) ((es.filter q).map Eg.id) = (l.filter (fun e => p e && q e)).length := by
    intro l
    induction l with
    | nil => intro _; rfl
    | cons a l ih =>
      intro hm
      have ih := ih (fun e he => hm e (by simp [he]))
      have h1 := cnt_ids (k := 0) h (hm a (by simp)) (q := q)
      by_cases c : p a = true
      · rw [List.filter_cons_of_pos c]
        simp only [both, sums, List.map_cons, List.sum_cons] at ih ⊢
        rw [h1, ih]
        by_cases c2 : q a = true
        · rw [List.filter_cons_of_pos (by simp [c, c2]), if_pos c2, List.length_cons]; omega
        · rw [List.filter_cons_of_neg (by simp [c, c2]), if_neg c2]; omega
      · rw [List.filter_cons_of_neg c, List.filter_cons_of_neg (by simp [c])]; exact ih
  exact key es (fun e h => h)
theorem incl_excl {α : Type} {p q r : α → Bool} (h : ∀ x, r x = (p x || q x)) (l : List α) : (l.filter r).length + (l.filter (fun e => p e && q e)).length = (l.filter p).length + (l.filter q).length := by
  induction l with
  | nil => rfl
  | cons a l ih =>
    simp only [List.filter_cons, h a]
    cases p a <;> cases q a <;> simp <;> omega
theorem goes_or (id : Int) (kd : Tx) (e : Eg) : goes id 0 kd e = (goes id 1 kd e || goes id (-1) kd e) := by
  simp [goes]
  cases (decide (kd = []) || decide (e.kind = kd)) <;> simp
theorem both_edges {g : Gr} (h : GOk g) (id : Int) (kd : Tx) : (idsOf id 0 kd g.edges).length + both (idsOf id 1 kd g.edges) (idsOf id (-1) kd g.edges) = (idsOf id 1 kd g.edges).length + (idsOf id (-1) kd g.edges).length := by
  have h1 := (Asc_iff.1 h.ea).2
  unfold idsOf
  rw [both_ids h1]
  simp only [List.length_map]
  exact incl_excl (goes_or id kd) _
theorem ids_mono (id : Int) (kd : Tx) (es : List Eg) : (idsOf id 0 kd es).length ≤ (idsOf id 0 [] es).length := by
  simp only [idsOf, List.length_map]
  rw [← List.countP_eq_length_filter, ← List.countP_eq_length_filter]
  refine List.countP_mono_left (fun e _ h => ?_)
  simp only [goes, Bool.and_eq_true] at h ⊢
  exact ⟨by simp, h.2⟩
theorem ids_le (id way : Int) (kd : Tx) (es : List Eg) : (idsOf id way kd es).length ≤ es.length := by
  simp only [idsOf, List.length_map]; exact List.length_filter_le _ _
theorem eof_ok {g : Gr} (h : GOk g) {id way : Int} {kd : Tx} (h1 : -1 ≤ way) (h2 : way ≤ 1) : edgesOf g id way kd = idsOf id way kd g.edges := by simp [edgesOf, h, h1, h2]
theorem eof_len (g : Gr) (id way : Int) (kd : Tx) : (edgesOf g id way kd).length ≤ g.edges.length := by
  unfold edgesOf; split
  · exact ids_le _ _ _ _
  · simp
set_option maxRecDepth 20000 in
theorem FnEdgesOf_t (code : List UInt8) (_ : code.length ≤ 9223372036854775807) : Rv Try.prog 4 [.imm (u8T code)] (.b true) := by
  have hl := u8T_len code
  by_cases c : 1048576 < (code.length : Int)
  · refine via_laws_FnEdgesOf (by simp) ?_
    simp [pc_laws_FnEdgesOf, hl, c]
    exact fin_val rfl (by simp) (by simp)
  obtain ⟨g, id, way, kd, ⟨hf, hcnt⟩, hid, hway, hkd, hd⟩ := DrawEdgesOf_d code
  have hA := EdgesOf_c g hf (by omega) id way kd
  have hB := specEdgesOf_c g hf (by omega) id way kd
  have hle := eof_len g id way kd
  have hgl : g.edges.length ≤ 600000 := by unfold Gr.cnt cl at hcnt; omega
  have hC := asInts_c (edgesOf g id way kd) (by simp only [ln]; omega)
  have h2 := specGraphOk_c g hf
  have hE := fun way kd => EdgesOf_c g hf (by omega) id way kd
  by_cases g1 : GOk g
  · have q1 := eof_ok g1 (id := id) (way := 1) (kd := kd) (by omega) (by omega)
    have q2 := eof_ok g1 (id := id) (way := -1) (kd := kd) (by omega) (by omega)
    have q3 := eof_ok g1 (id := id) (way := 0) (kd := kd) (by omega) (by omega)
    have q4 := eof_ok g1 (id := id) (way := 0) (kd := []) (by omega) (by omega)
    have hb := both_edges g1 id kd
    have hm := ids_mono id kd g.edges
    have hel := g1.el
    have l1 := ids_le id 1 kd g.edges
    have l2 := ids_le id (-1) kd g.edges
    have l3 := ids_le id 0 kd g.edges
    have E1 := hE 1 kd
    have E2 := hE (-1) kd
    have E3 := hE 0 kd
    have E4 := hE 0 []
    rw [q1] at E1
    rw [q2] at E2
    rw [q3] at E3
    rw [q4] at E4
    clear hE q1 q2 q3 q4
    generalize idsOf id 1 kd g.edges = out at *
    generalize idsOf id (-1) kd g.edges = into at *
    generalize idsOf id 0 kd g.edges = all at *
    generalize idsOf id 0 [] g.edges = all2 at *
    generalize edgesOf g id way kd = lst at *
    obtain ⟨l, es, nn, ne⟩ := g
    simp only at hel l1 l2 l3
    have hcs := fun l => sI.crO l
    refine via_laws_FnEdgesOf (by simp) ?_
    simp [pc_laws_FnEdgesOf, hl, c]
    refine callK_ri (by simp) hd ?_
    simp
    refine callK_val (by simp) hA (by simp [T.noImm]) ?_
    simp
    refine callK_val (by simp) hB (by simp [T.noImm]) ?_
    simp
    refine callK_val (by simp) hC rfl ?_
    simp
    refine callK_val (by simp) h2 rfl ?_
    simp [g1]
    refine callK_val (by simp) E1 (by simp [T.noImm]) ?_
    simp
    refine callK_val (by simp) E2 (by simp [T.noImm]) ?_
    simp
    refine callK_val (by simp) E3 (by simp [T.noImm]) ?_
    simp
    have hbl : ∀ i, both (out.take i) into ≤ 16 * 16 := fun i => Nat.le_trans (both_le _ _) (Nat.mul_le_mul (by rw [List.length_take]; omega) (by omega))
    refine W_for (fun i => ⟨[(12, .i .i64 i), (11, .i .i64 (both (out.take i) into)), (10, .ref 6 0 all.length), (9, .ref 5 0 into.length), (8, .ref 4 0 out.length), (6, .s kd), (4, .i .i64 id), (3, .ptr 0 0 0)], [(0, .arr 4 [sG.I ⟨l, es, nn, ne⟩]), (4, .arr 1 (out.map sI.O)), (5, .arr 1 (into.map sI.O)), (6, .arr 1 (all.map sI.O))], 20, 0⟩) out.length (fun i => True) (Wk.less rfl (by simp) (by simp [both, sums]) (by simp)) trivial ?_
    intro i hi _
    rcases Nat.lt_or_ge i out.length with h3 | h3
    · obtain ⟨x, hx⟩ : ∃ x, out[i]? = some x := ⟨_, List.getElem?_eq_getElem h3⟩
      have hw : IntKind.i64.wrap ((i : Int) + 1) = (i : Int) + 1 := wrap1 (by omega)
      have s1 : both (out.take (i + 1)) into = both (out.take i) into + cnt1 x into := sums_take hx
      have b1 := hbl (i + 1)
      rw [s1] at b1 ⊢
      have b2 := hbl i
      generalize both (out.take i) into = B at *
      simp [h3]
      refine W_for (fun k => ⟨[(13, .i .i64 k), (12, .i .i64 i), (11, .i .i64 ((B : Int) + cnt1 x (into.take k))), (10, .ref 6 0 all.length), (9, .ref 5 0 into.length), (8, .ref 4 0 out.length), (6, .s kd), (4, .i .i64 id), (3, .ptr 0 0 0)], [(0, .arr 4 [sG.I ⟨l, es, nn, ne⟩]), (4, .arr 1 (out.map sI.O)), (5, .arr 1 (into.map sI.O)), (6, .arr 1 (all.map sI.O))], 20, 0⟩) into.length (fun k => True) (Wk.less rfl (by simp) (by simp [cnt1, sums]) (by simp)) trivial ?_
      intro k hk _
      rcases Nat.lt_or_ge k into.length with h4 | h4
      · obtain ⟨y, hy⟩ : ∃ y, into[k]? = some y := ⟨_, List.getElem?_eq_getElem h4⟩
        have hw2 : IntKind.i64.wrap ((k : Int) + 1) = (k : Int) + 1 := wrap1 (by omega)
        have s2 : cnt1 x (into.take (k + 1)) = cnt1 x (into.take k) + (if x = y then 1 else 0) := sums_take hy
        have hc1 := cnt1_le x (into.take k)
        rw [List.length_take] at hc1
        have w1 : IntKind.i64.wrap ((B : Int) + (cnt1 x (into.take k) : Int) + 1) = (B : Int) + (cnt1 x (into.take k) : Int) + 1 := wrap64 (by omega) (by omega)
        rw [s2]
        by_cases hxy : x = y
        · subst hxy
          simp [-getElem?_pos, hx, hy, h3, h4, hw2, w1]
          exact Wk.to rfl (by simp) (by simp [w1]; omega) (by simp [Blk.names, namesr_clean (sI.crO _)]) (by simp)
        · simp [-getElem?_pos, hx, hy, h3, h4, hw2, hxy]
          exact Wk.to rfl (by simp) (by simp) (by simp [Blk.names, namesr_clean (sI.crO _)]) (by simp)
      · obtain rfl : k = into.length := by omega
        simp [hw, h3]
        exact Wk.to rfl (by simp) (by simp) (by simp [Blk.names, namesr_clean (sI.crO _)]) (by simp)
    · obtain rfl : i = out.length := by omega
      have hb0 := hbl out.length
      simp only [List.take_length] at hb0
      have w1 : IntKind.i64.wrap ((all.length : Int) + (both out into : Int)) = (all.length : Int) + (both out into : Int) := wrap64 (by omega) (by omega)
      have w2 : IntKind.i64.wrap ((out.length : Int) + (into.length : Int)) = (out.length : Int) + (into.length : Int) := wrap64 (by omega) (by omega)
      have e1 : (all.length : Int) + (both out into : Int) = (out.length : Int) + (into.length : Int) := by omega
      simp [w1, w2, e1]
      refine callK_val (by simp) E4 (by simp [T.noImm]) ?_
      simp [hm]
      exact fin_val rfl (by simp) (by simp)
  · obtain ⟨l, es, nn, ne⟩ := g
    refine via_laws_FnEdgesOf (by simp) ?_
    simp [pc_laws_FnEdgesOf, hl, c]
    refine callK_ri (by simp) hd ?_
    simp
    refine callK_val (by simp) hA (by simp [T.noImm]) ?_
    simp
    refine callK_val (by simp) hB (by simp [T.noImm]) ?_
    simp
    refine callK_val (by simp) hC rfl ?_
    simp
    refine callK_val (by simp) h2 rfl ?_
    simp [g1]
    refine callK_val (by simp) hB (by simp [T.noImm]) ?_
    simp
    refine callK_val (by simp) hC rfl ?_
    simp
    exact fin_val rfl (by simp) (by simp)
end Go.Proofs.Ytonljcphaiklgaa.V
