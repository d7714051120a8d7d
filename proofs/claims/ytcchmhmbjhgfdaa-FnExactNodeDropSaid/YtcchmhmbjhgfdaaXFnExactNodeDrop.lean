/- The law FnExactNodeDrop holds of trees: printed by a program of this claim's writer (wip/gen/exlaw.py). -/
import Derived.Test.YtcchmhmbjhgfdaaCn3
import Derived.Test.YtcchmhmbjhgfdaaCto2
import Derived.Test.YtcchmhmbjhgfdaaCmk4
import Derived.Test.YtcchmhmbjhgfdaaVfFnExactNodeDrop
namespace Go.Proofs.Ytcchmhmbjhgfdaa.V
open Go
set_option linter.unusedVariables false
set_option linter.unusedSimpArgs false
set_option maxHeartbeats 32000000
theorem nodeDrop_cnt (g : Gr) (id : Int) (det : Bool) : (nodeDrop g id det).1.cnt ≤ g.cnt := by
  have h0 : zG.cnt = 0 := rfl
  have h1 := cl_filter (c := Eg.cnt) (q := fun e => !(idsOf id 0 [] g.edges).contains e.id) (l := g.edges)
  have h2 := cl_filter (c := Nd.cnt) (q := fun n => !decide (n.id = id)) (l := g.nodes)
  have h3 : (gDropN g id).cnt ≤ g.cnt := by simp only [gDropN, Gr.cnt]; omega
  unfold nodeDrop dropN
  split
  · split
    · exact Nat.le_refl _
    · split
      · exact Nat.le_refl _
      · exact h3
  · simp only [h0]; omega
theorem FnExactNodeDrop_t (g : Gr) (hg : g.fit) (id : Int) (hid : i64 id) (det : Bool) : Rv Try.prog 11 [.agg (sG.I g), .i .i64 id, .b det] (.b true) := by
  have sz0 := szGraph_c g hg 1048576 (by omega) (by omega)
  by_cases hc0 : (1048576 : Int) - (g.cnt : Nat) < 0
  · rw [left_neg hc0] at sz0
    obtain ⟨l_g, es_g, nn_g, ne_g⟩ := g
    refine via_laws_FnExactNodeDrop (by simp) ?_
    simp [pc_laws_FnExactNodeDrop]
    refine callK_val (by simp) sz0 rfl ?_
    simp
    exact fin_val rfl (by simp) (by simp)
  rw [left_pos hc0] at sz0
  have hcg : g.cnt ≤ 2 ^ 20 := by omega
  have tog := toGraph_c g (by omega)
  obtain ⟨r0, hr0⟩ : ∃ r, r = (nodeDrop g id det).1 := ⟨_, rfl⟩
  have hrc0 : r0.cnt ≤ 2 ^ 22 := by
    rw [hr0]; have := nodeDrop_cnt g id det; omega
  obtain ⟨r1, hr1⟩ : ∃ r, r = (nodeDrop g id det).2 := ⟨_, rfl⟩
  have sp := specNodeDrop_c g hg hcg id det
  have im := NodeDrop_c g hg hcg id det
  rw [← hr0, ← hr1] at sp im
  have eqr0 := eqGraph_c r0 (by omega)
  have eqg := eqGraph_c g (by omega)
  have mkg := markGraph_c g 1 (by omega) (by omega)
  have fag := mkG_far g 1
  have mlg1 : (mkG 1 g).1.nodes.length = g.nodes.length := by cases g; simp [mkG, mkL_len]
  have mlg2 : (mkG 1 g).1.edges.length = g.edges.length := by cases g; simp [mkG, mkL_len]
  obtain ⟨q0, hq0⟩ : ∃ q, q = (mkG 1 g).2 := ⟨_, rfl⟩
  rw [← hq0] at mkg fag
  have negq0 : ¬ q0 < 0 := by omega
  have mkr0 := markGraph_c r0 1 (by omega) (by omega)
  have hdr0 := heldGraph_c r0 1 (by omega) (by omega)
  have far0 := mkG_far r0 1
  have mlr01 : (mkG 1 r0).1.nodes.length = r0.nodes.length := by cases r0; simp [mkG, mkL_len]
  have mlr02 : (mkG 1 r0).1.edges.length = r0.edges.length := by cases r0; simp [mkG, mkL_len]
  obtain ⟨p0, hp0⟩ : ∃ q, q = (mkG 1 r0).2 := ⟨_, rfl⟩
  have mgr0 : (mkG 1 r0).1 = ⟨(mkG 1 r0).1.nodes, (mkG 1 r0).1.edges, r0.nn, r0.ne⟩ := by cases r0; rfl
  rw [mgr0] at hdr0
  clear mgr0
  rw [← hp0] at mkr0 far0 hdr0
  have negp0 : ¬ p0 < 0 := by omega
  clear hq0
  clear hp0
  generalize hg0 : (mkG 1 g).1.nodes = gm0 at *
  generalize hg1 : (mkG 1 g).1.edges = gm1 at *
  generalize hg2 : (mkG 1 r0).1.nodes = gm2 at *
  generalize hg3 : (mkG 1 r0).1.edges = gm3 at *
  clear hr0 hr1
  obtain ⟨l_g, es_g, nn_g, ne_g⟩ := g
  obtain ⟨l_r0, es_r0, nn_r0, ne_r0⟩ := r0
  try simp only [Gr.nodes, Gr.edges] at mlg1 mlg2 mlr01 mlr02 mkg mkr0 hdr0
  refine via_laws_FnExactNodeDrop (by simp) ?_
  simp [pc_laws_FnExactNodeDrop]
  refine callK_val (by simp) sz0 (by simp [T.noImm]) ?_
  simp [hc0, negq0, negp0]
  repeat refine need_mk (by decide +kernel) ?_
  refine callK_val (by simp) tog (by simp [T.noImm]) ?_
  simp [hc0, negq0, negp0]
  repeat refine need_mk (by decide +kernel) ?_
  refine callK_ri (by simp) sp ?_
  simp [hc0, negq0, negp0]
  repeat refine need_mk (by decide +kernel) ?_
  refine callK_val (by simp) tog (by simp [T.noImm]) ?_
  simp [hc0, negq0, negp0]
  repeat refine need_mk (by decide +kernel) ?_
  refine callK_val (by simp) im (by simp [T.noImm]) ?_
  simp [hc0, negq0, negp0]
  repeat refine need_mk (by decide +kernel) ?_
  refine callK_val (by simp) eqr0 (by simp [T.noImm]) ?_
  simp [hc0, negq0, negp0]
  repeat refine need_mk (by decide +kernel) ?_
  refine callK_val (by simp) tog (by simp [T.noImm]) ?_
  simp [hc0, negq0, negp0]
  repeat refine need_mk (by decide +kernel) ?_
  refine callK_val (by simp) eqg (by simp [T.noImm]) ?_
  simp [hc0, negq0, negp0]
  repeat refine need_mk (by decide +kernel) ?_
  refine callK_mut (by simp) mkg (by simp [mlg1, mlg2]; rfl) (by simp) (by simp) rfl (by simp [T.noImm]) ?_
  simp [hc0, negq0, negp0]
  repeat refine need_mk (by decide +kernel) ?_
  refine callK_val (by simp) eqr0 (by simp [T.noImm]) ?_
  simp [hc0, negq0, negp0]
  repeat refine need_mk (by decide +kernel) ?_
  refine callK_mut (by simp) mkr0 (by simp [mlr01, mlr02]; rfl) (by simp) (by simp) rfl (by simp [T.noImm]) ?_
  simp [hc0, negq0, negp0]
  repeat refine need_mk (by decide +kernel) ?_
  refine callK_val (by simp [mlr01, mlr02, take_map_eq mlr01, take_map_eq mlr02]) hdr0 (by simp [T.noImm]) ?_
  simp [hc0, negq0, negp0]
  repeat refine need_mk (by decide +kernel) ?_
  refine callK_val (by simp) tog (by simp [T.noImm]) ?_
  simp [hc0, negq0, negp0]
  repeat refine need_mk (by decide +kernel) ?_
  refine callK_val (by simp) im (by simp [T.noImm]) ?_
  simp [hc0, negq0, negp0]
  repeat refine need_mk (by decide +kernel) ?_
  refine callK_val (by simp) eqr0 (by simp [T.noImm]) ?_
  simp [hc0, negq0, negp0]
  repeat refine need_mk (by decide +kernel) ?_
  refine callK_val (by simp [mlr01, mlr02, take_map_eq mlr01, take_map_eq mlr02]) hdr0 (by simp [T.noImm]) ?_
  simp [hc0, negq0, negp0]
  repeat refine need_mk (by decide +kernel) ?_
  exact fin_val rfl (by simp) (by simp)
end Go.Proofs.Ytcchmhmbjhgfdaa.V
