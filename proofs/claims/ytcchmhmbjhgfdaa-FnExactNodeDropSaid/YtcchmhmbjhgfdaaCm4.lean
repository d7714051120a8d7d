/- Edges of a node: the two functions. -/
import Derived.Test.YtcchmhmbjhgfdaaCm3
namespace Go.Proofs.Ytcchmhmbjhgfdaa.V
open Go
set_option linter.unusedVariables false
set_option linter.unusedSimpArgs false
set_option maxHeartbeats 16000000
theorem specEdgesOf_c (g : Gr) (hf : g.fit) (hc : g.cnt ≤ 2 ^ 20) (id way : Int) (kd : Tx) : Rv Try.prog 20 [.agg (sG.I g), .i .i64 id, .i .i64 way, .s kd] (.own 1 ((edgesOf g id way kd).map sI.O)) := by
  have h1 := specGraphOk_c g hf
  have hle : g.edges.length ≤ 2 ^ 20 := by unfold Gr.cnt cl at hc; omega
  have hln : ln g.nodes := by unfold Gr.cnt cl at hc; simp only [ln]; omega
  have h2 := l2Node_c g hln id
  have h3 := l1In_c way (-1) 1
  have h4 := l2Edges_c g hle id way kd
  by_cases g1 : GOk g
  · by_cases g2 : posOf Nd.id id g.nodes < 0
    · have he : edgesOf g id way kd = [] := by simp [edgesOf, idsOf_none g1 g2]
      rw [he]
      obtain ⟨l, es, nn, ne⟩ := g
      simp only at g2 h2
      refine via_spec_EdgesOf (by simp) ?_
      simp [pc_spec_EdgesOf]
      refine callK_val (by simp) h1 rfl ?_
      simp [g1]
      refine callK_val (by simp) h2 rfl ?_
      simp [g2]
      exact fin_own (by simp; rfl) (by simp) (by simp) (by simp)
    · by_cases g3 : -1 ≤ way ∧ way ≤ 1
      · have he : edgesOf g id way kd = idsOf id way kd g.edges := by simp [edgesOf, g1, g3]
        rw [he]
        obtain ⟨l, es, nn, ne⟩ := g
        simp only at g2 h2
        refine via_spec_EdgesOf (by simp) ?_
        simp [pc_spec_EdgesOf]
        refine callK_val (by simp) h1 rfl ?_
        simp [g1]
        refine callK_val (by simp) h2 rfl ?_
        simp [g2]
        refine callK_val (by simp) h3 rfl ?_
        simp [g2, g3]
        refine callK_val (by simp) h4 (by simp [T.noImm]) ?_
        simp
        exact fin_own (by simp; rfl) (by simp) (by simp) (by simp)
      · have he : edgesOf g id way kd = [] := by simp only [edgesOf]; rw [if_neg (fun h => g3 h.2)]
        have d3 : (decide (-1 ≤ way) && decide (way ≤ 1)) = false := by
          cases hd : (decide (-1 ≤ way) && decide (way ≤ 1)) with
          | false => rfl
          | true => exact absurd (by simpa using hd) g3
        rw [he]
        rw [d3] at h3
        obtain ⟨l, es, nn, ne⟩ := g
        simp only at g2 h2
        refine via_spec_EdgesOf (by simp) ?_
        simp [pc_spec_EdgesOf]
        refine callK_val (by simp) h1 rfl ?_
        simp [g1]
        refine callK_val (by simp) h2 rfl ?_
        simp [g2]
        refine callK_val (by simp) h3 rfl ?_
        simp [g2]
        exact fin_own (by simp; rfl) (by simp) (by simp) (by simp)
  · have he : edgesOf g id way kd = [] := by simp [edgesOf, g1]
    rw [he]
    obtain ⟨l, es, nn, ne⟩ := g
    refine via_spec_EdgesOf (by simp) ?_
    simp [pc_spec_EdgesOf]
    refine callK_val (by simp) h1 rfl ?_
    simp [g1]
    exact fin_own (by simp; rfl) (by simp) (by simp) (by simp)
theorem EdgesOf_c (g : Gr) (hf : g.fit) (hc : g.cnt ≤ 2 ^ 20) (id way : Int) (kd : Tx) : Rv Try.prog 21 [.agg (sG.I g), .i .i64 id, .i .i64 way, .s kd] (.own 1 ((edgesOf g id way kd).map sI.O)) := by
  have um : Try.prog.underlying 121 = some (.map 3 35) := by kernel_rfl
  have uk : Try.prog.underlying 3 = some (.int .i64) := by kernel_rfl
  have uz : (Try.prog.info? 35).bind (·.zero) = some (.slice none 0 0) := by kernel_rfl
  have ok1 : okCall Try.prog 87 = true := by kernel_rfl
  have h1 := GraphOk_c g hf
  have hle : g.edges.length ≤ 2 ^ 20 := by unfold Gr.cnt cl at hc; omega
  have h2 := besideOf_m g hle
  by_cases g1 : GOk g
  · by_cases g2 : way < -1
    · have he : edgesOf g id way kd = [] := by simp only [edgesOf]; rw [if_neg (fun h => by omega)]
      rw [he]
      obtain ⟨l, es, nn, ne⟩ := g
      refine via_impl_EdgesOf (by simp) ?_
      simp [pc_impl_EdgesOf]
      refine callK_val (by simp) h1 rfl ?_
      simp [g1, g2]
      exact fin_own (by simp; rfl) (by simp) (by simp) (by simp)
    · by_cases g3 : 1 < way
      · have he : edgesOf g id way kd = [] := by simp only [edgesOf]; rw [if_neg (fun h => by omega)]
        rw [he]
        obtain ⟨l, es, nn, ne⟩ := g
        refine via_impl_EdgesOf (by simp) ?_
        simp [pc_impl_EdgesOf]
        refine callK_val (by simp) h1 rfl ?_
        simp [g1, g2, g3]
        exact fin_own (by simp; rfl) (by simp) (by simp) (by simp)
      · have he : edgesOf g id way kd = idsOf id way kd g.edges := by simp only [edgesOf]; rw [if_pos ⟨g1, by omega, by omega⟩]
        rw [he]
        obtain ⟨l, es, nn, ne⟩ := g
        simp only at hle h2
        have hget := gGet_bsd id es
        refine via_impl_EdgesOf (by simp) ?_
        simp [pc_impl_EdgesOf]
        refine callK_val (by simp) h1 rfl ?_
        simp [g1, g2, g3]
        refine hookH_of [] (hook_callM rfl ok1 (by simp) h2) (by simp) ?_
        simp
        cases hfk : gFind id (bsd es) with
        | none =>
          have hq0 : gGet id (bsd es) = [] := by unfold gGet; rw [hfk]
          rw [hq0] at hget
          have hpl : plAt id es = [] := List.map_eq_nil_iff.1 hget.symm
          have hids : idsOf id way kd es = [] := by rw [← idsOf_pl, hpl]; rfl
          have hmf : mfind (.i .i64 id) (gT (bsd es)) = none := by rw [mfind_gT, hfk]
          refine hookH_of [(_, .mb (gT (bsd es)))] (hook_lookup0 um uk rfl (gT_key _) uz rfl hmf) (by simp) ?_
          simp [lkV, hids]
          refine W_for (fun i => ⟨[(29, .i .i64 i), (28, .i .i64 0), (9, .nl)], [], 20, 0⟩) 0 (fun _ => True) (Wk.less rfl (by simp) (by simp) (by simp)) trivial ?_
          intro i hi _
          obtain rfl : i = 0 := by omega
          simp
          exact fin_own (by simp; rfl) (by simp [hids]) (by simp) (by simp [hids])
        | some j =>
          obtain ⟨q, hj, hq⟩ := gFind_some hfk
          have hmf : mfind (.i .i64 id) (gT (bsd es)) = some j := by rw [mfind_gT, hfk]
          refine hookH_of [(_, .mb (gT (bsd es)))] (hook_lookup2 um uk rfl (gT_key _) hmf (gT_at hj)) (by simp) ?_
          simp [lkV]
          have hqp : q = (plAt id es).map (fun p => (p.2 : Int)) := by rw [← hq]; exact hget
          have hql : q.length = (plAt id es).length := by rw [hqp]; simp
          have hpm : ∀ p ∈ plAt id es, es[p.2]? = some p.1 := fun p hp => plAt_mem hp
          have hpe : (plAt id es).length ≤ 2 ^ 20 := by
            refine Nat.le_trans (List.length_filter_le _ _) ?_
            simpa using hle
          rw [← idsOf_pl]
          generalize plAt id es = pl at *
          subst hqp
          clear hq hget hmf hj hfk
          have hcl2 : cleanR (pl.map fun p => ([.i .i64 p.2] : List T)) = true := by simp [cleanR, T.clean]
          refine W_forS (fun i => ⟨[(29, .i .i64 i), (28, .i .i64 pl.length), (27, .ref 2 0 pl.length), (9, .ref 3 0 ((pl.take i).filter (fun p => goes id way kd p.1)).length), (1, .i .i64 id), (2, .i .i64 way), (3, .s kd), (4, .ptr 0 0 0)], [(0, .arr 4 [sG.I ⟨l, es, nn, ne⟩]), (2, .arr 1 (pl.map fun p => [.i .i64 p.2])), (3, .arr 1 (((pl.take i).filter (fun p => goes id way kd p.1)).map fun p => [.i .i64 p.1.id]))], 20, 0⟩) pl.length (fun _ => True) ?_ trivial ?_
          · exact Wk.trans (Wk.nil (j := 9) (k := 10) (sz := 1) (by simp) (by simp)) (Wk.ren (fun t => if t = 3 then 10 else t) rfl (by simp) (by intro t ht; simp at ht) (by simp) (by simp [Blk.rn, Blk.names, namesr_clean hcl2, rnr_cl hcl2, Function.comp_def]) (by simp))
          intro i hi _
          rcases Nat.lt_or_ge i pl.length with h3 | h3
          · obtain ⟨p, hp⟩ : ∃ p, pl[i]? = some p := ⟨_, List.getElem?_eq_getElem h3⟩
            have hx := hpm p (List.mem_of_getElem? hp)
            have hw : IntKind.i64.wrap ((i : Int) + 1) = (i : Int) + 1 := wrap1 (by omega)
            have hfl : ((pl.take i).filter (fun p => goes id way kd p.1)).length ≤ i := Nat.le_trans (List.length_filter_le _ _) (by simp; omega)
            have htk : pl.take (i + 1) = pl.take i ++ [p] := by rw [List.take_add_one, hp]; simp
            rw [htk, List.filter_append]
            generalize (pl.take i).filter (fun p => goes id way kd p.1) = A at *
            obtain ⟨⟨a, b, c, d, ps⟩, k⟩ := p
            have hgo := goesFrom_c ⟨a, b, c, d, ps⟩ id way kd
            have hbig : (A.length + 1) * 8 ≤ 35184372088832 := by omega
            have hclA : cleanR (A.map fun p => ([.i .i64 p.1.id] : List T)) = true := by simp [cleanR, T.clean]
            refine WW_of_W ?_
            simp [-getElem?_pos, h3, hp, hx]
            refine callK_val (by simp) hgo rfl ?_
            by_cases hg : goes id way kd ⟨a, b, c, d, ps⟩ = true
            · simp [hg, hbig, hw, h3]
              have hclB : cleanR ((A.map fun p => ([.i .i64 p.1.id] : List T)) ++ [[.i .i64 a]]) = true := by simp [cleanR, T.clean]
              refine Wk.ren (fun t => if t = 3 then 23 else t) rfl (by simp) (by simp) (by simp) ?_ (by simp)
              simp [Blk.rn, Blk.names, namesr_clean hcl2, rnr_cl hcl2, namesr_clean hclB, rnr_cl hclB]
            · simp [hg, hw, h3]
              exact Wk.to rfl (by simp) (by simp) (by simp [Blk.names, namesr_clean hcl2, namesr_clean hclA]) (by simp)
          · have h4 : ¬ i < pl.length := by omega
            refine WW_of_W ?_
            rw [List.take_of_length_le h3]
            simp [h4]
            have hcf : cleanR (List.map (sI.O ∘ fun p => p.fst.id) (List.filter (fun p => goes id way kd p.fst) pl)) = true := by simp [cleanR, T.clean]
            exact fin_own (by simp; rfl) (by simp [hcf]) (by simp) (by simp)
  · have he : edgesOf g id way kd = [] := by simp [edgesOf, g1]
    rw [he]
    obtain ⟨l, es, nn, ne⟩ := g
    refine via_impl_EdgesOf (by simp) ?_
    simp [pc_impl_EdgesOf]
    refine callK_val (by simp) h1 rfl ?_
    simp [g1]
    exact fin_own (by simp; rfl) (by simp) (by simp) (by simp)
end Go.Proofs.Ytcchmhmbjhgfdaa.V
