/- The law FnExactNodeAdd holds of trees: printed by a program of this claim's writer (wip/gen/exlaw.py). -/
import Derived.Test.YtcchmhmbjhgfdaaCg9
import Derived.Test.YtcchmhmbjhgfdaaCto2
import Derived.Test.YtcchmhmbjhgfdaaCmk4
import Derived.Test.YtcchmhmbjhgfdaaVfFnExactNodeAdd
namespace Go.Proofs.Ytcchmhmbjhgfdaa.V
open Go
set_option linter.unusedVariables false
set_option linter.unusedSimpArgs false
set_option maxHeartbeats 32000000
theorem nodeAdd_cnt (g : Gr) (lb : List Tx) (ps : List Pr) : (nodeAdd g lb ps).1.cnt ≤ g.cnt + cl List.length lb + cl Pr.cnt ps + 1 := by
  have h0 : zG.cnt = 0 := rfl
  have h1 : (gAddN g lb ps).cnt = g.cnt + (1 + (cl List.length lb + cl Pr.cnt ps)) := by
    simp only [gAddN, Gr.cnt, cl_append, cl_cons, Nd.cnt]
    have : cl Nd.cnt [] = 0 := rfl
    omega
  unfold nodeAdd nAdd
  split
  · split
    · simp only [h1]; omega
    · simp only; omega
  · simp only [h0]; omega
theorem FnExactNodeAdd_t (g : Gr) (hg : g.fit) (lb : List Tx) (hlb : ln lb ∧ ∀ x ∈ lb, ln x) (ps : List Pr) (hps : ln ps ∧ ∀ x ∈ ps, Pr.fit x) : Rv Try.prog 8 [.agg (sG.I g), .imm (lb.map sS.I), .imm (ps.map sP.I)] (.b true) := by
  have sz0 := szGraph_c g hg 1048576 (by omega) (by omega)
  by_cases hc0 : (1048576 : Int) - (g.cnt : Nat) < 0
  · rw [left_neg hc0] at sz0
    obtain ⟨l_g, es_g, nn_g, ne_g⟩ := g
    refine via_laws_FnExactNodeAdd (by simp) ?_
    simp [pc_laws_FnExactNodeAdd]
    refine callK_val (by simp) sz0 rfl ?_
    simp
    exact fin_val rfl (by simp) (by simp)
  rw [left_pos hc0] at sz0
  have sz1 := szStringS_c lb hlb.1 hlb.2 (1048576 - (g.cnt : Nat)) (by omega) (by omega)
  by_cases hc1 : (1048576 : Int) - (g.cnt : Nat) - (cl List.length lb : Nat) < 0
  · rw [left_neg hc1] at sz1
    obtain ⟨l_g, es_g, nn_g, ne_g⟩ := g
    refine via_laws_FnExactNodeAdd (by simp) ?_
    simp [pc_laws_FnExactNodeAdd]
    refine callK_val (by simp) sz0 rfl ?_
    simp [hc0]
    refine callK_val (by simp) sz1 rfl ?_
    simp [hc0]
    exact fin_val rfl (by simp) (by simp)
  rw [left_pos hc1] at sz1
  have sz2 := szPropS_c ps hps.1 hps.2 (1048576 - (g.cnt : Nat) - (cl List.length lb : Nat)) (by omega) (by omega)
  by_cases hc2 : (1048576 : Int) - (g.cnt : Nat) - (cl List.length lb : Nat) - (cl Pr.cnt ps : Nat) < 0
  · rw [left_neg hc2] at sz2
    obtain ⟨l_g, es_g, nn_g, ne_g⟩ := g
    refine via_laws_FnExactNodeAdd (by simp) ?_
    simp [pc_laws_FnExactNodeAdd]
    refine callK_val (by simp) sz0 rfl ?_
    simp [hc0]
    refine callK_val (by simp) sz1 rfl ?_
    simp [hc0, hc1]
    refine callK_val (by simp) sz2 rfl ?_
    simp [hc0, hc1]
    exact fin_val rfl (by simp) (by simp)
  rw [left_pos hc2] at sz2
  have hcg : g.cnt ≤ 2 ^ 20 := by omega
  have tog := toGraph_c g (by omega)
  have hclb : cl List.length lb ≤ 2 ^ 20 := by omega
  have tolb := toStringS_c lb (by omega)
  have hcps : cl Pr.cnt ps ≤ 2 ^ 20 := by omega
  have tops := toPropS_c ps (by omega)
  obtain ⟨r0, hr0⟩ : ∃ r, r = (nodeAdd g lb ps).1 := ⟨_, rfl⟩
  have hrc0 : r0.cnt ≤ 2 ^ 22 := by
    rw [hr0]; have := nodeAdd_cnt g lb ps; omega
  obtain ⟨r1, hr1⟩ : ∃ r, r = (nodeAdd g lb ps).2.1 := ⟨_, rfl⟩
  obtain ⟨r2, hr2⟩ : ∃ r, r = (nodeAdd g lb ps).2.2 := ⟨_, rfl⟩
  have sp := specNodeAdd_c g hg hcg lb hlb ps hps hcps
  have im := NodeAdd_c g hg hcg lb hlb ps hps hcps
  rw [← hr0, ← hr1, ← hr2] at sp im
  have eqr0 := eqGraph_c r0 (by omega)
  have eqg := eqGraph_c g (by omega)
  have eqlb := eqStringS_c lb (by omega)
  have eqps := eqPropS_c ps (by omega)
  have mkg := markGraph_c g 1 (by omega) (by omega)
  have fag := mkG_far g 1
  have mlg1 : (mkG 1 g).1.nodes.length = g.nodes.length := by cases g; simp [mkG, mkL_len]
  have mlg2 : (mkG 1 g).1.edges.length = g.edges.length := by cases g; simp [mkG, mkL_len]
  obtain ⟨q0, hq0⟩ : ∃ q, q = (mkG 1 g).2 := ⟨_, rfl⟩
  rw [← hq0] at mkg fag
  have negq0 : ¬ q0 < 0 := by omega
  have mklb := markStringS_c lb q0 (by omega) (by omega)
  have falb := Far.list (m := mkStr) (c := List.length) (l := lb) (fun v _ => far_strv v) q0
  have mllb1 : (mkL mkStr q0 lb).1.length = lb.length := mkL_len (m := mkStr) lb q0
  obtain ⟨q1, hq1⟩ : ∃ q, q = (mkL mkStr q0 lb).2 := ⟨_, rfl⟩
  rw [← hq1] at mklb falb
  have negq1 : ¬ q1 < 0 := by omega
  have mkps := markPropS_c ps q1 (by omega) (by omega)
  have faps := Far.list (m := mkP) (c := Pr.cnt) (l := ps) (fun v _ => far_prop v) q1
  have mlps1 : (mkL mkP q1 ps).1.length = ps.length := mkL_len (m := mkP) ps q1
  obtain ⟨q2, hq2⟩ : ∃ q, q = (mkL mkP q1 ps).2 := ⟨_, rfl⟩
  rw [← hq2] at mkps faps
  have negq2 : ¬ q2 < 0 := by omega
  have mkr0 := markGraph_c r0 1 (by omega) (by omega)
  have hdr0 := heldGraph_c r0 1 (by omega) (by omega)
  have far0 := mkG_far r0 1
  have mlr01 : (mkG 1 r0).1.nodes.length = r0.nodes.length := by cases r0; simp [mkG, mkL_len]
  have mlr02 : (mkG 1 r0).1.edges.length = r0.edges.length := by cases r0; simp [mkG, mkL_len]
  obtain ⟨p0, hp0⟩ : ∃ q, q = (mkG 1 r0).2 := ⟨_, rfl⟩
  have mgr0 : (mkG 1 r0).1 = ⟨(mkG 1 r0).1.nodes, (mkG 1 r0).1.edges, r0.nn, r0.ne⟩ := by cases r0; rfl
  rw [mgr0] at hdr0
  clear mgr0
  rw [← hp0] at mkr0 far0 hdr0
  have negp0 : ¬ p0 < 0 := by omega
  clear hq0
  clear hq1
  clear hq2
  clear hp0
  generalize hg0 : (mkG 1 g).1.nodes = gm0 at *
  generalize hg1 : (mkG 1 g).1.edges = gm1 at *
  generalize hg2 : (mkL mkStr q0 lb).1 = gm2 at *
  generalize hg3 : (mkL mkP q1 ps).1 = gm3 at *
  generalize hg4 : (mkG 1 r0).1.nodes = gm4 at *
  generalize hg5 : (mkG 1 r0).1.edges = gm5 at *
  clear hr0 hr1 hr2
  obtain ⟨l_g, es_g, nn_g, ne_g⟩ := g
  obtain ⟨l_r0, es_r0, nn_r0, ne_r0⟩ := r0
  try simp only [Gr.nodes, Gr.edges] at mlg1 mlg2 mllb1 mlps1 mlr01 mlr02 mkg mklb mkps mkr0 hdr0
  refine via_laws_FnExactNodeAdd (by simp) ?_
  simp [pc_laws_FnExactNodeAdd]
  refine callK_val (by simp) sz0 (by simp [T.noImm]) ?_
  simp [hc0, hc1, hc2, negq0, negq1, negq2, negp0]
  refine callK_val (by simp) sz1 (by simp [T.noImm]) ?_
  simp [hc0, hc1, hc2, negq0, negq1, negq2, negp0]
  refine callK_val (by simp) sz2 (by simp [T.noImm]) ?_
  simp [hc0, hc1, hc2, negq0, negq1, negq2, negp0]
  repeat refine need_mk (by decide +kernel) ?_
  refine callK_val (by simp) tog (by simp [T.noImm]) ?_
  simp [hc0, hc1, hc2, negq0, negq1, negq2, negp0]
  repeat refine need_mk (by decide +kernel) ?_
  refine callK_val (by simp) tolb (by simp [T.noImm]) ?_
  simp [hc0, hc1, hc2, negq0, negq1, negq2, negp0]
  repeat refine need_mk (by decide +kernel) ?_
  refine callK_val (by simp) tops (by simp [T.noImm]) ?_
  simp [hc0, hc1, hc2, negq0, negq1, negq2, negp0]
  repeat refine need_mk (by decide +kernel) ?_
  refine callK_ri (by simp) sp ?_
  simp [hc0, hc1, hc2, negq0, negq1, negq2, negp0]
  repeat refine need_mk (by decide +kernel) ?_
  refine callK_val (by simp) tog (by simp [T.noImm]) ?_
  simp [hc0, hc1, hc2, negq0, negq1, negq2, negp0]
  repeat refine need_mk (by decide +kernel) ?_
  refine callK_val (by simp) tolb (by simp [T.noImm]) ?_
  simp [hc0, hc1, hc2, negq0, negq1, negq2, negp0]
  repeat refine need_mk (by decide +kernel) ?_
  refine callK_val (by simp) tops (by simp [T.noImm]) ?_
  simp [hc0, hc1, hc2, negq0, negq1, negq2, negp0]
  repeat refine need_mk (by decide +kernel) ?_
  refine callK_val (by simp) im (by simp [T.noImm]) ?_
  simp [hc0, hc1, hc2, negq0, negq1, negq2, negp0]
  repeat refine need_mk (by decide +kernel) ?_
  refine callK_val (by simp) eqr0 (by simp [T.noImm]) ?_
  simp [hc0, hc1, hc2, negq0, negq1, negq2, negp0]
  repeat refine need_mk (by decide +kernel) ?_
  refine callK_val (by simp) tog (by simp [T.noImm]) ?_
  simp [hc0, hc1, hc2, negq0, negq1, negq2, negp0]
  repeat refine need_mk (by decide +kernel) ?_
  refine callK_val (by simp) eqg (by simp [T.noImm]) ?_
  simp [hc0, hc1, hc2, negq0, negq1, negq2, negp0]
  repeat refine need_mk (by decide +kernel) ?_
  refine callK_val (by simp) tolb (by simp [T.noImm]) ?_
  simp [hc0, hc1, hc2, negq0, negq1, negq2, negp0]
  repeat refine need_mk (by decide +kernel) ?_
  refine callK_val (by simp) eqlb (by simp [T.noImm]) ?_
  simp [hc0, hc1, hc2, negq0, negq1, negq2, negp0]
  repeat refine need_mk (by decide +kernel) ?_
  refine callK_val (by simp) tops (by simp [T.noImm]) ?_
  simp [hc0, hc1, hc2, negq0, negq1, negq2, negp0]
  repeat refine need_mk (by decide +kernel) ?_
  refine callK_val (by simp) eqps (by simp [T.noImm]) ?_
  simp [hc0, hc1, hc2, negq0, negq1, negq2, negp0]
  repeat refine need_mk (by decide +kernel) ?_
  refine callK_mut (by simp) mkg (by simp [mlg1, mlg2]; rfl) (by simp) (by simp) rfl (by simp [T.noImm]) ?_
  simp [hc0, hc1, hc2, negq0, negq1, negq2, negp0]
  repeat refine need_mk (by decide +kernel) ?_
  refine callK_mut (by simp) mklb (by simp [mllb1]; rfl) (by simp) (by simp) rfl (by simp [T.noImm]) ?_
  simp [hc0, hc1, hc2, negq0, negq1, negq2, negp0]
  repeat refine need_mk (by decide +kernel) ?_
  refine callK_mut (by simp) mkps (by simp [mlps1]; rfl) (by simp) (by simp) rfl (by simp [T.noImm]) ?_
  simp [hc0, hc1, hc2, negq0, negq1, negq2, negp0]
  repeat refine need_mk (by decide +kernel) ?_
  refine callK_val (by simp) eqr0 (by simp [T.noImm]) ?_
  simp [hc0, hc1, hc2, negq0, negq1, negq2, negp0]
  repeat refine need_mk (by decide +kernel) ?_
  refine callK_mut (by simp) mkr0 (by simp [mlr01, mlr02]; rfl) (by simp) (by simp) rfl (by simp [T.noImm]) ?_
  simp [hc0, hc1, hc2, negq0, negq1, negq2, negp0]
  repeat refine need_mk (by decide +kernel) ?_
  refine callK_val (by simp [mlr01, mlr02, take_map_eq mlr01, take_map_eq mlr02]) hdr0 (by simp [T.noImm]) ?_
  simp [hc0, hc1, hc2, negq0, negq1, negq2, negp0]
  repeat refine need_mk (by decide +kernel) ?_
  refine callK_val (by simp) tog (by simp [T.noImm]) ?_
  simp [hc0, hc1, hc2, negq0, negq1, negq2, negp0]
  repeat refine need_mk (by decide +kernel) ?_
  refine callK_val (by simp) tolb (by simp [T.noImm]) ?_
  simp [hc0, hc1, hc2, negq0, negq1, negq2, negp0]
  repeat refine need_mk (by decide +kernel) ?_
  refine callK_val (by simp) tops (by simp [T.noImm]) ?_
  simp [hc0, hc1, hc2, negq0, negq1, negq2, negp0]
  repeat refine need_mk (by decide +kernel) ?_
  refine callK_val (by simp) im (by simp [T.noImm]) ?_
  simp [hc0, hc1, hc2, negq0, negq1, negq2, negp0]
  repeat refine need_mk (by decide +kernel) ?_
  refine callK_val (by simp) eqr0 (by simp [T.noImm]) ?_
  simp [hc0, hc1, hc2, negq0, negq1, negq2, negp0]
  repeat refine need_mk (by decide +kernel) ?_
  refine callK_val (by simp [mlr01, mlr02, take_map_eq mlr01, take_map_eq mlr02]) hdr0 (by simp [T.noImm]) ?_
  simp [hc0, hc1, hc2, negq0, negq1, negq2, negp0]
  repeat refine need_mk (by decide +kernel) ?_
  exact fin_val rfl (by simp) (by simp)
end Go.Proofs.Ytcchmhmbjhgfdaa.V
