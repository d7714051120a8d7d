/- Copies of graphs. -/
import Derived.Test.YtcchmhmbjhgfdaaCg3
namespace Go.Proofs.Ytcchmhmbjhgfdaa.V
open Go
set_option linter.unusedVariables false
set_option linter.unusedSimpArgs false
set_option maxHeartbeats 16000000
theorem l2DropEdge_c (g : Gr) (hl : g.edges.length ≤ 2 ^ 20) (id : Int) : Rv Try.prog 119 [.agg (sG.I g), .i .i64 id] (.agg [.imm (g.nodes.map sN.I), .own 5 ((g.edges.filter (fun e => decide (e.id ≠ id))).map sE.I), .i .i64 g.nn, .i .i64 g.ne]) := by
  obtain ⟨l, es, nn, ne⟩ := g
  simp only at hl ⊢
  refine via_spec_l2DropEdge (by simp) ?_
  simp [pc_spec_l2DropEdge]
  refine W_for (fun i => ⟨[(6, .i .i64 i), (5, .ref 2 0 ((es.take i).filter (fun e => decide (e.id ≠ id))).length), (1, .i .i64 id), (2, .ptr 0 0 0), (4, .ptr 1 0 0)], [(0, .arr 4 [sG.I ⟨l, es, nn, ne⟩]), (1, .arr 4 [[.nl, .nl, .i .i64 0, .i .i64 0]]), (2, .arr 5 (((es.take i).filter (fun e => decide (e.id ≠ id))).map sE.I))], 20, 0⟩) es.length (fun _ => True) ?_ trivial ?_
  · exact Wk.less rfl (by simp) (by simp) (by simp)
  intro i hi _
  rcases Nat.lt_or_ge i es.length with h1 | h1
  · obtain ⟨x, hx⟩ : ∃ x, es[i]? = some x := ⟨_, List.getElem?_eq_getElem h1⟩
    have hw : IntKind.i64.wrap ((i : Int) + 1) = (i : Int) + 1 := wrap1 (by omega)
    have hfl : ((es.take i).filter (fun e => decide (e.id ≠ id))).length ≤ i := Nat.le_trans (List.length_filter_le _ _) (by simp; omega)
    have htk : es.take (i + 1) = es.take i ++ [x] := by rw [List.take_add_one, hx]; simp
    obtain ⟨a, b, c, d, e⟩ := x
    by_cases h : a = id
    · have hn : (es.take (i + 1)).filter (fun e => decide (e.id ≠ id)) = (es.take i).filter (fun e => decide (e.id ≠ id)) := by rw [htk, List.filter_append]; simp [h]
      rw [hn]
      generalize (es.take i).filter (fun e => decide (e.id ≠ id)) = A at *
      simp [-getElem?_pos, hx, hw, h1, h]
      exact Wk.to rfl (by simp) (by simp) (by simp [Blk.names, namesr_clean (sE.crI A)]) (by simp)
    · have hn : (es.take (i + 1)).filter (fun e => decide (e.id ≠ id)) = (es.take i).filter (fun e => decide (e.id ≠ id)) ++ [⟨a, b, c, d, e⟩] := by rw [htk, List.filter_append]; simp [h]
      rw [hn]
      generalize (es.take i).filter (fun e => decide (e.id ≠ id)) = A at *
      have hbig : (A.length + 1) * 64 ≤ 35184372088832 := by omega
      simp [-getElem?_pos, hx, hw, h1, h, hbig]
      have hcl := sE.crI (A ++ [⟨a, b, c, d, e⟩])
      have hmp : (A ++ [(⟨a, b, c, d, e⟩ : Eg)]).map sE.I = A.map sE.I ++ [[.i .i64 a, .s b, .i .i64 c, .i .i64 d, .imm (e.map sP.I)]] := by simp
      rw [hmp] at hcl
      generalize A.map sE.I ++ [[.i .i64 a, .s b, .i .i64 c, .i .i64 d, .imm (e.map sP.I)]] = B at *
      refine Wk.ren (fun t => if t = 2 then 21 else t) rfl (by simp) (by simp) (by simp) ?_ (by simp)
      simp [Blk.rn, Blk.names, namesr_clean hcl, rnr_cl hcl]
  · have h2 : ¬ i < es.length := by omega
    have e : es.take i = es := List.take_of_length_le (by omega)
    simp [h2, e]
    exact fin_own (by simp; rfl) (by simp) (by simp) (by simp)
end Go.Proofs.Ytcchmhmbjhgfdaa.V
