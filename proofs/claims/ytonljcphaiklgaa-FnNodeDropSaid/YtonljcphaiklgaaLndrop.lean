/- The law NodeDrop holds of trees. -/
import Derived.Test.YtonljcphaiklgaaG3
import Derived.Test.YtonljcphaiklgaaLeof
import Derived.Test.YtonljcphaiklgaaG2
import Derived.Test.YtonljcphaiklgaaVfFnNodeDrop
namespace Go.Proofs.Ytonljcphaiklgaa.V
open Go
set_option linter.unusedVariables false
set_option linter.unusedSimpArgs false
set_option maxHeartbeats 4000000
theorem nodeDrop_fit {g : Gr} (h : g.fit) (id : Int) (det : Bool) : (nodeDrop g id det).1.fit := by
  unfold nodeDrop dropN
  split
  · split
    · exact h
    · split
      · exact h
      · exact fit_dropN h id
  · exact ⟨by simp [zG, ln], by simp [zG], by simp [zG, ln], by simp [zG], by simp [zG, i64], by simp [zG, i64]⟩
theorem nodeDrop_cnt (g : Gr) (id : Int) (det : Bool) : (nodeDrop g id det).1.cnt ≤ g.cnt := by
  unfold nodeDrop dropN
  split
  · split
    · exact Nat.le_refl _
    · split
      · exact Nat.le_refl _
      · exact cnt_dropN g id
  · simp [zG, Gr.cnt, cl, sums]
theorem all_with (l : List Nd) : (idsWith [] l).length = l.length := by
  simp only [idsWith, List.length_map]
  rw [List.filter_eq_self.2]
  intro x _; simp [withL]
theorem split_len {α : Type} (q : α → Bool) (l : List α) : (l.filter (fun x => !q x)).length + (l.filter q).length = l.length := by
  induction l with
  | nil => rfl
  | cons a l ih =>
    cases h : q a <;> simp [h] <;> omega
set_option maxRecDepth 20000 in
theorem FnNodeDrop_t (code : List UInt8) (_ : code.length ≤ 9223372036854775807) : Rv Try.prog 11 [.imm (u8T code)] (.b true) := by
  have hl := u8T_len code
  by_cases c : 1048576 < (code.length : Int)
  · refine via_laws_FnNodeDrop (by simp) ?_
    simp [pc_laws_FnNodeDrop, hl, c]
    exact fin_val rfl (by simp) (by simp)
  obtain ⟨g, id, det, ⟨hf, hcnt⟩, hid, hd⟩ := DrawNodeDrop_d code
  have hA := NodeDrop_c g hf (by omega) id det
  have hB := specNodeDrop_e g hf (by omega) id det
  have hxf := nodeDrop_fit hf id det
  have hxc := nodeDrop_cnt g id det
  have hC := asGraph_c _ hxf
  have h2 := specGraphOk_c g hf
  have h3 := GraphOk_c _ hxf
  have hE := EdgesOf_c g hf (by omega) id 0 []
  have hW := NodesWith_c _ hxf (by omega) []
  by_cases g1 : GOk g
  · rw [eof_ok g1 (by omega) (by omega)] at hE
    have hile := ids_le id 0 [] g.edges
    have hel := g1.el
    by_cases g2 : posOf Nd.id id g.nodes < 0
    · have e1 : nodeDrop g id det = (g, false) := by simp [nodeDrop, g1, g2]
      have e2 := idsOf_none g1 (way := 0) (kd := []) g2
      have e3 : nodesWith g [] = idsWith [] g.nodes := by simp [nodesWith, g1]
      have e4 := all_with g.nodes
      rw [e1] at hA hB hC h3 hW
      simp only at hW
      rw [e2] at hE
      rw [e3] at hW
      generalize idsWith [] g.nodes = lst at *
      obtain ⟨l, es, nn, ne⟩ := g
      simp only at e4
      refine via_laws_FnNodeDrop (by simp) ?_
      simp [pc_laws_FnNodeDrop, hl, c]
      refine callK_ri (by simp) hd ?_
      simp
      repeat with_reducible refine need_mk (by decide +kernel) ?_
      refine callK_val (by simp) hA (by simp [T.noImm]) ?_
      simp
      repeat with_reducible refine need_mk (by decide +kernel) ?_
      refine callK_ri (by simp) hB ?_
      simp
      repeat with_reducible refine need_mk (by decide +kernel) ?_
      refine callK_val (by simp) hC rfl ?_
      simp
      repeat with_reducible refine need_mk (by decide +kernel) ?_
      refine callK_val (by simp) h2 rfl ?_
      simp [g1]
      repeat with_reducible refine need_mk (by decide +kernel) ?_
      refine callK_val (by simp) hE (by simp [T.noImm]) ?_
      simp
      repeat with_reducible refine need_mk (by decide +kernel) ?_
      refine callK_val (by simp) hC rfl ?_
      simp
      repeat with_reducible refine need_mk (by decide +kernel) ?_
      refine callK_val (by simp) hW (by simp [T.noImm]) ?_
      simp [e4]
      repeat with_reducible refine need_mk (by decide +kernel) ?_
      exact fin_val rfl (by simp) (by simp)
    · by_cases g3 : idsOf id 0 [] g.edges ≠ [] ∧ det = false
      · have e1 : nodeDrop g id det = (g, false) := by simp only [nodeDrop, g1, if_true, g2, if_false, dropN]; rw [if_pos g3]
        have e5 : 0 < (idsOf id 0 [] g.edges).length := List.length_pos_iff.2 g3.1
        obtain ⟨_, rfl⟩ := g3
        rw [e1] at hA hB hC h3
        generalize idsOf id 0 [] g.edges = lst at *
        obtain ⟨l, es, nn, ne⟩ := g
        refine via_laws_FnNodeDrop (by simp) ?_
        simp [pc_laws_FnNodeDrop, hl, c]
        refine callK_ri (by simp) hd ?_
        simp
        repeat with_reducible refine need_mk (by decide +kernel) ?_
        refine callK_val (by simp) hA (by simp [T.noImm]) ?_
        simp
        repeat with_reducible refine need_mk (by decide +kernel) ?_
        refine callK_ri (by simp) hB ?_
        simp
        repeat with_reducible refine need_mk (by decide +kernel) ?_
        refine callK_val (by simp) hC rfl ?_
        simp
        repeat with_reducible refine need_mk (by decide +kernel) ?_
        refine callK_val (by simp) h2 rfl ?_
        simp [g1]
        repeat with_reducible refine need_mk (by decide +kernel) ?_
        refine callK_val (by simp) hE (by simp [T.noImm]) ?_
        simp [e5]
        repeat with_reducible refine need_mk (by decide +kernel) ?_
        refine callK_val (by simp) hC rfl ?_
        simp [e5]
        repeat with_reducible refine need_mk (by decide +kernel) ?_
        exact fin_val rfl (by simp) (by simp)
      · have e1 : nodeDrop g id det = (gDropN g id, true) := by simp only [nodeDrop, g1, if_true, g2, if_false, dropN]; rw [if_neg g3]
        have q1 := g1.dropN id
        have q2 := filter_len g1.na (Int.not_lt.1 g2)
        change (gDropN g id).nodes.length + 1 = _ at q2
        have q3 : (gDropN g id).edges = g.edges.filter (fun e => !atN id e) := drop_edges g1 id
        have q4 : ∀ e ∈ (gDropN g id).edges, e.frm ≠ id ∧ e.to ≠ id := by
          intro e he
          rw [q3] at he
          have := (List.mem_filter.1 he).2
          simp only [atN, Bool.not_or, Bool.and_eq_true, Bool.not_eq_true', decide_eq_false_iff_not] at this
          exact this
        have q5 : (gDropN g id).edges.length + (idsOf id 0 [] g.edges).length = g.edges.length := by
          rw [q3]
          simp only [idsOf, List.length_map]
          rw [List.filter_congr (q := atN id) (fun e _ => goes0 id e)]
          exact split_len _ _
        have q6 : (det || decide ((idsOf id 0 [] g.edges).length = 0)) = true := by
          cases det with
          | true => rfl
          | false =>
            have : idsOf id 0 [] g.edges = [] := by
              cases hq : idsOf id 0 [] g.edges with
              | nil => rfl
              | cons a b => exact absurd ⟨by rw [hq]; simp, rfl⟩ g3
            simp [this]
        have hnl := g1.nl
        rw [e1] at hA hB hC h3
        simp only at hA hB hC h3
        clear hxf hxc e1 q3 g3 hW
        generalize idsOf id 0 [] g.edges = lst at *
        generalize gDropN g id = g' at *
        obtain ⟨l, es, nn, ne⟩ := g
        obtain ⟨l', es', nn', ne'⟩ := g'
        simp only at q2 q4 q5 hnl hel hile
        have w1 : IntKind.i64.wrap ((l'.length : Int) + 1) = (l.length : Int) := by rw [wrap64 (by omega) (by omega)]; omega
        have w2 : IntKind.i64.wrap ((es'.length : Int) + (lst.length : Int)) = (es.length : Int) := by rw [wrap64 (by omega) (by omega)]; omega
        refine via_laws_FnNodeDrop (by simp) ?_
        simp [pc_laws_FnNodeDrop, hl, c]
        refine callK_ri (by simp) hd ?_
        simp
        repeat with_reducible refine need_mk (by decide +kernel) ?_
        refine callK_val (by simp) hA (by simp [T.noImm]) ?_
        simp
        repeat with_reducible refine need_mk (by decide +kernel) ?_
        refine callK_ri (by simp) hB ?_
        simp
        repeat with_reducible refine need_mk (by decide +kernel) ?_
        refine callK_val (by simp) hC rfl ?_
        simp
        repeat with_reducible refine need_mk (by decide +kernel) ?_
        refine callK_val (by simp) h2 rfl ?_
        simp [g1]
        repeat with_reducible refine need_mk (by decide +kernel) ?_
        refine callK_val (by simp) hE (by simp [T.noImm]) ?_
        simp
        repeat with_reducible refine need_mk (by decide +kernel) ?_
        have hcN := sN.crO l'
        have hcE := sE.crO es'
        refine W_for (fun i => ⟨[(11, .i .i64 i), (10, .i .i64 lst.length), (6, .ptr 4 0 0), (3, .ptr 0 0 0), (4, .i .i64 id), (5, .b det)], [(0, .arr 4 [sG.I ⟨l, es, nn, ne⟩]), (2, .arr 3 (l'.map sN.O)), (3, .arr 5 (es'.map sE.O)), (4, .arr 4 [[.ref 2 0 l'.length, .ref 3 0 es'.length, .i .i64 nn', .i .i64 ne']])], 20, 0⟩) es'.length (fun i => True) (Wk.less rfl (by simp) (by simp) (by simp)) trivial ?_
        intro i hi _
        rcases Nat.lt_or_ge i es'.length with h4 | h4
        · obtain ⟨x, hx⟩ : ∃ x, es'[i]? = some x := ⟨_, List.getElem?_eq_getElem h4⟩
          have hw : IntKind.i64.wrap ((i : Int) + 1) = (i : Int) + 1 := wrap1 (by omega)
          obtain ⟨x1, x2⟩ := q4 x (List.mem_of_getElem? hx)
          obtain ⟨a, k, fr, to, ps⟩ := x
          simp only at x1 x2
          simp [-getElem?_pos, hx, hw, h4, x1, x2]
          exact Wk.to rfl (by simp) (by simp) (by simp [Blk.names, namesr_clean hcN, namesr_clean hcE]) (by simp)
        · obtain rfl : i = es'.length := by omega
          cases det with
          | true =>
            simp
            refine callK_val (by simp) h3 rfl ?_
            simp [q1, w1, w2]
            exact fin_val rfl (by simp) (by simp)
          | false =>
            simp only [Bool.false_or, decide_eq_true_eq] at q6
            simp
            refine callK_val (by simp) h3 rfl ?_
            have w4 : IntKind.i64.wrap (es'.length : Int) = (es.length : Int) := by rw [wrap64 (by omega) (by omega)]; omega
            simp [q1, w1, w4, q6]
            exact fin_val rfl (by simp) (by simp)
  · have e1 : nodeDrop g id det = (zG, false) := by simp [nodeDrop, g1]
    rw [e1] at hA hB hC
    simp only [zG] at hA hB hC
    obtain ⟨l, es, nn, ne⟩ := g
    refine via_laws_FnNodeDrop (by simp) ?_
    simp [pc_laws_FnNodeDrop, hl, c]
    refine callK_ri (by simp) hd ?_
    simp
    repeat with_reducible refine need_mk (by decide +kernel) ?_
    refine callK_val (by simp) hA (by simp [T.noImm]) ?_
    simp
    repeat with_reducible refine need_mk (by decide +kernel) ?_
    refine callK_ri (by simp) hB ?_
    simp
    repeat with_reducible refine need_mk (by decide +kernel) ?_
    refine callK_val (by simp) hC rfl ?_
    simp
    repeat with_reducible refine need_mk (by decide +kernel) ?_
    refine callK_val (by simp) h2 rfl ?_
    simp [g1]
    repeat with_reducible refine need_mk (by decide +kernel) ?_
    refine callK_val (by simp) hC rfl ?_
    simp
    repeat with_reducible refine need_mk (by decide +kernel) ?_
    exact fin_val rfl (by simp) (by simp)
end Go.Proofs.Ytonljcphaiklgaa.V
