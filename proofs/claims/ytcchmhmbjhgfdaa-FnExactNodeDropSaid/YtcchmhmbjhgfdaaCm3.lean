/- Edges of a node, by the reference. -/
import Derived.Test.YtcchmhmbjhgfdaaCm2
namespace Go.Proofs.Ytcchmhmbjhgfdaa.V
open Go
set_option linter.unusedVariables false
set_option linter.unusedSimpArgs false
set_option maxHeartbeats 16000000
theorem l2Edges_c (g : Gr) (hl : g.edges.length ≤ 2 ^ 20) (id way : Int) (kd : Tx) : Rv Try.prog 86 [.agg (sG.I g), .i .i64 id, .i .i64 way, .s kd] (.own 1 ((idsOf id way kd g.edges).map sI.O)) := by
  obtain ⟨l, es, nn, ne⟩ := g
  simp only at hl
  refine via_spec_l2Edges (by simp) ?_
  simp [pc_spec_l2Edges]
  refine W_forS (fun i => ⟨[(10, .i .i64 i), (9, .ref 1 0 (idsOf id way kd (es.take i)).length), (1, .i .i64 id), (2, .i .i64 way), (3, .s kd), (4, .ptr 0 0 0)], [(0, .arr 4 [sG.I ⟨l, es, nn, ne⟩]), (1, .arr 1 ((idsOf id way kd (es.take i)).map sI.O))], 20, 0⟩) es.length (fun _ => True) ?_ trivial ?_
  · exact Wk.less rfl (by simp) (by simp [idsOf]) (by simp [idsOf])
  intro i hi _
  rcases Nat.lt_or_ge i es.length with h1 | h1
  · obtain ⟨x, hx⟩ : ∃ x, es[i]? = some x := ⟨_, List.getElem?_eq_getElem h1⟩
    have hw : IntKind.i64.wrap ((i : Int) + 1) = (i : Int) + 1 := wrap1 (by omega)
    have hfl : (idsOf id way kd (es.take i)).length ≤ i := by
      unfold idsOf
      rw [List.length_map]
      exact Nat.le_trans (List.length_filter_le _ _) (by simp; omega)
    have htk : es.take (i + 1) = es.take i ++ [x] := by rw [List.take_add_one, hx]; simp
    obtain ⟨a, b, c, d, e⟩ := x
    have hn0 : goes id way kd ⟨a, b, c, d, e⟩ = true → idsOf id way kd (es.take (i + 1)) = idsOf id way kd (es.take i) ++ [a] := fun h => by rw [htk]; unfold idsOf; rw [List.filter_append]; simp [h]
    have hn1 : ¬ goes id way kd ⟨a, b, c, d, e⟩ = true → idsOf id way kd (es.take (i + 1)) = idsOf id way kd (es.take i) := fun h => by rw [htk]; unfold idsOf; rw [List.filter_append]; simp [h]
    generalize idsOf id way kd (es.take i) = A at *
    generalize idsOf id way kd (es.take (i + 1)) = A' at *
    have hbig : (A.length + 1) * 8 ≤ 35184372088832 := by omega
    have hcl0 := sI.crO A
    refine WW_seq (WW_of_W ?_)
    simp [h1]
    refine WW_seq (WW_block (WW_seq (thn_cut (s2 := ⟨[(10, .i .i64 i), (9, .ref 1 0 A.length), (1, .i .i64 id), (2, .i .i64 way), (3, .s kd), (4, .ptr 0 0 0), (11, .ptr 20 0 0)], [(0, .arr 4 [sG.I ⟨l, es, nn, ne⟩]), (1, .arr 1 (A.map sI.O)), (20, .arr 5 [sE.I ⟨a, b, c, d, e⟩])], 30, 0⟩) ?_ ?_)))
    · simp [-getElem?_pos, hx, h1]
      exact Wk.to rfl (by simp) (by simp) (by simp [Blk.names, namesr_clean hcl0]) (by simp)
    refine WW_seq (thn_cut (s2 := ⟨[(10, .i .i64 i), (9, .ref 1 0 A.length), (1, .i .i64 id), (2, .i .i64 way), (3, .s kd), (4, .ptr 0 0 0), (11, .ptr 20 0 0), (12, .b ((decide (0 ≤ way) && decide (c = id)) || (decide (way ≤ 0) && decide (d = id))))], [(0, .arr 4 [sG.I ⟨l, es, nn, ne⟩]), (1, .arr 1 (A.map sI.O)), (20, .arr 5 [sE.I ⟨a, b, c, d, e⟩])], 30, 0⟩) ?_ ?_)
    · by_cases c3 : 0 ≤ way <;> by_cases c4 : c = id <;> by_cases c5 : way ≤ 0 <;> by_cases c6 : d = id <;> (simp [c3, c4, c5, c6]; exact Wk.to rfl (by simp) (by simp [c3, c4, c5, c6]) (by simp [Blk.names, namesr_clean hcl0]) (by simp))
    have hgo : goes id way kd ⟨a, b, c, d, e⟩ = ((decide (kd = []) || decide (b = kd)) && ((decide (0 ≤ way) && decide (c = id)) || (decide (way ≤ 0) && decide (d = id)))) := rfl
    generalize ((decide (0 ≤ way) && decide (c = id)) || (decide (way ≤ 0) && decide (d = id))) = is at *
    refine WW_seq (thn_cut (s2 := ⟨[(10, .i .i64 i), (9, .ref 1 0 A.length), (1, .i .i64 id), (2, .i .i64 way), (3, .s kd), (4, .ptr 0 0 0), (11, .ptr 20 0 0), (54, .b (goes id way kd ⟨a, b, c, d, e⟩))], [(0, .arr 4 [sG.I ⟨l, es, nn, ne⟩]), (1, .arr 1 (A.map sI.O)), (20, .arr 5 [sE.I ⟨a, b, c, d, e⟩])], 30, 0⟩) ?_ ?_)
    · rw [hgo]
      by_cases c1 : kd = [] <;> by_cases c2 : b = kd <;> cases is <;> (simp [c1, c2]; exact Wk.to rfl (by simp) (by simp [c1, c2]) (by simp [Blk.names, namesr_clean hcl0]) (by simp))
    clear hgo
    refine WW_of_W ?_
    by_cases hgo : goes id way kd ⟨a, b, c, d, e⟩ = true
    · rw [hn0 hgo]
      have hcl := sI.crO (A ++ [a])
      rw [List.map_append] at hcl
      simp only [List.map_cons, List.map_nil, sI_O] at hcl
      simp [hgo, hbig]
      refine WW_of_W ?_
      simp [hw, h1]
      refine Wk.ren (fun t => if t = 1 then 31 else t) rfl (by simp) (by simp) (by simp) ?_ (by simp)
      simp [Blk.rn, Blk.names, namesr_clean hcl, rnr_cl hcl]
    · rw [hn1 hgo]
      simp [hgo]
      refine WW_of_W ?_
      simp [hw, h1]
      exact Wk.to rfl (by simp) (by simp) (by simp [Blk.names, namesr_clean hcl0]) (by simp)
  · have h2 : ¬ i < es.length := by omega
    have e : es.take i = es := List.take_of_length_le (by omega)
    refine WW_of_W ?_
    simp [h2, e]
    exact fin_own (by simp; rfl) (by simp) (by simp) (by simp)
end Go.Proofs.Ytcchmhmbjhgfdaa.V
