/- The law FnExactEdgesOf holds of trees: printed by a program of this claim's writer (wip/gen/exlaw.py). -/
import Derived.Test.YtcchmhmbjhgfdaaCm4
import Derived.Test.YtcchmhmbjhgfdaaCto2
import Derived.Test.YtcchmhmbjhgfdaaCmk4
import Derived.Test.YtcchmhmbjhgfdaaVfFnExactEdgesOf
namespace Go.Proofs.Ytcchmhmbjhgfdaa.V
open Go
set_option linter.unusedVariables false
set_option linter.unusedSimpArgs false
set_option maxHeartbeats 32000000
theorem edgesOf_cnt (g : Gr) (id way : Int) (kd : Tx) : cl (fun _ => 0) (edgesOf g id way kd) ≤ g.cnt := by
  have h00 : ∀ l : List Int, (l.map (fun _ => 0)).sum = 0 := by
    intro l
    induction l with
    | nil => rfl
    | cons a l ih => simpa using ih
  have h0 : ∀ l : List Int, cl (fun _ => 0) l = l.length := fun l => by simp only [cl, sums, h00, Nat.add_zero]
  rw [h0]
  unfold edgesOf
  split
  · unfold idsOf
    rw [List.length_map]
    refine Nat.le_trans (List.length_filter_le _ _) ?_
    unfold Gr.cnt cl; omega
  · simp
theorem FnExactEdgesOf_t (g : Gr) (hg : g.fit) (id : Int) (hid : i64 id) (way : Int) (hway : i64 way) (kd : Tx) (hkd : ln kd) : Rv Try.prog 4 [.agg (sG.I g), .i .i64 id, .i .i64 way, .s kd] (.b true) := by
  by_cases hs0 : 1048576 < (kd.length : Int)
  · obtain ⟨l_g, es_g, nn_g, ne_g⟩ := g
    refine via_laws_FnExactEdgesOf (by simp) ?_
    simp [pc_laws_FnExactEdgesOf, hs0]
    exact fin_val rfl (by simp) (by simp)
  have sz0 := szGraph_c g hg 1048576 (by omega) (by omega)
  by_cases hc0 : (1048576 : Int) - (g.cnt : Nat) < 0
  · rw [left_neg hc0] at sz0
    obtain ⟨l_g, es_g, nn_g, ne_g⟩ := g
    refine via_laws_FnExactEdgesOf (by simp) ?_
    simp [pc_laws_FnExactEdgesOf, hs0]
    refine callK_val (by simp) sz0 rfl ?_
    simp [hs0]
    exact fin_val rfl (by simp) (by simp)
  rw [left_pos hc0] at sz0
  have hcg : g.cnt ≤ 2 ^ 20 := by omega
  have tog := toGraph_c g (by omega)
  obtain ⟨r0, hr0⟩ : ∃ r, r = edgesOf g id way kd := ⟨_, rfl⟩
  have hrc0 : cl (fun _ => 0) r0 ≤ 2 ^ 22 := by
    rw [hr0]; have := edgesOf_cnt g id way kd; omega
  have sp := specEdgesOf_c g hg hcg id way kd
  have im := EdgesOf_c g hg hcg id way kd
  rw [← hr0] at sp im
  have eqr0 := eqIntS_c r0 (by have : r0.length ≤ cl (fun _ => 0) r0 := Nat.le_add_right _ _; omega)
  have eqg := eqGraph_c g (by omega)
  have mkg := markGraph_c g 1 (by omega) (by omega)
  have fag := mkG_far g 1
  have mlg1 : (mkG 1 g).1.nodes.length = g.nodes.length := by cases g; simp [mkG, mkL_len]
  have mlg2 : (mkG 1 g).1.edges.length = g.edges.length := by cases g; simp [mkG, mkL_len]
  obtain ⟨q0, hq0⟩ : ∃ q, q = (mkG 1 g).2 := ⟨_, rfl⟩
  rw [← hq0] at mkg fag
  have negq0 : ¬ q0 < 0 := by omega
  have mkr0 := markIntS_c r0 1 (by omega) (by omega)
  have hdr0 := heldIntS_c r0 1 (by omega) (by omega)
  have far0 := Far.list (m := mkI) (c := (fun _ => 0)) (l := r0) (fun v _ => far_int v) 1
  have mlr01 : (mkL mkI 1 r0).1.length = r0.length := mkL_len (m := mkI) r0 1
  obtain ⟨p0, hp0⟩ : ∃ q, q = (mkL mkI 1 r0).2 := ⟨_, rfl⟩
  rw [← hp0] at mkr0 far0 hdr0
  have negp0 : ¬ p0 < 0 := by omega
  clear hq0
  clear hp0
  generalize hg0 : (mkG 1 g).1.nodes = gm0 at *
  generalize hg1 : (mkG 1 g).1.edges = gm1 at *
  generalize hg2 : (mkL mkI 1 r0).1 = gm2 at *
  clear hr0
  obtain ⟨l_g, es_g, nn_g, ne_g⟩ := g
  try simp only [Gr.nodes, Gr.edges] at mlg1 mlg2 mlr01 mkg mkr0 hdr0
  refine via_laws_FnExactEdgesOf (by simp) ?_
  simp [pc_laws_FnExactEdgesOf, hs0]
  refine callK_val (by simp) sz0 (by simp [T.noImm]) ?_
  simp [hs0, hc0, negq0, negp0]
  repeat refine need_mk (by decide +kernel) ?_
  refine callK_val (by simp) tog (by simp [T.noImm]) ?_
  simp [hs0, hc0, negq0, negp0]
  repeat refine need_mk (by decide +kernel) ?_
  refine callK_val (by simp) sp (by simp [T.noImm]) ?_
  simp [hs0, hc0, negq0, negp0]
  repeat refine need_mk (by decide +kernel) ?_
  refine callK_val (by simp) tog (by simp [T.noImm]) ?_
  simp [hs0, hc0, negq0, negp0]
  repeat refine need_mk (by decide +kernel) ?_
  refine callK_val (by simp) im (by simp [T.noImm]) ?_
  simp [hs0, hc0, negq0, negp0]
  repeat refine need_mk (by decide +kernel) ?_
  refine callK_val (by simp) eqr0 (by simp [T.noImm]) ?_
  simp [hs0, hc0, negq0, negp0]
  repeat refine need_mk (by decide +kernel) ?_
  refine callK_val (by simp) tog (by simp [T.noImm]) ?_
  simp [hs0, hc0, negq0, negp0]
  repeat refine need_mk (by decide +kernel) ?_
  refine callK_val (by simp) eqg (by simp [T.noImm]) ?_
  simp [hs0, hc0, negq0, negp0]
  repeat refine need_mk (by decide +kernel) ?_
  refine callK_mut (by simp) mkg (by simp [mlg1, mlg2]; rfl) (by simp) (by simp) rfl (by simp [T.noImm]) ?_
  simp [hs0, hc0, negq0, negp0]
  repeat refine need_mk (by decide +kernel) ?_
  refine callK_val (by simp) eqr0 (by simp [T.noImm]) ?_
  simp [hs0, hc0, negq0, negp0]
  repeat refine need_mk (by decide +kernel) ?_
  refine callK_mut (by simp) mkr0 (by simp [mlr01]; rfl) (by simp) (by simp) rfl (by simp [T.noImm]) ?_
  simp [hs0, hc0, negq0, negp0]
  repeat refine need_mk (by decide +kernel) ?_
  refine callK_val (by simp [mlr01, take_map_eq mlr01]) hdr0 (by simp [T.noImm]) ?_
  simp [hs0, hc0, negq0, negp0]
  repeat refine need_mk (by decide +kernel) ?_
  refine callK_val (by simp) tog (by simp [T.noImm]) ?_
  simp [hs0, hc0, negq0, negp0]
  repeat refine need_mk (by decide +kernel) ?_
  refine callK_val (by simp) im (by simp [T.noImm]) ?_
  simp [hs0, hc0, negq0, negp0]
  repeat refine need_mk (by decide +kernel) ?_
  refine callK_val (by simp) eqr0 (by simp [T.noImm]) ?_
  simp [hs0, hc0, negq0, negp0]
  repeat refine need_mk (by decide +kernel) ?_
  refine callK_val (by simp [mlr01, take_map_eq mlr01]) hdr0 (by simp [T.noImm]) ?_
  simp [hs0, hc0, negq0, negp0]
  repeat refine need_mk (by decide +kernel) ?_
  exact fin_val rfl (by simp) (by simp)
end Go.Proofs.Ytcchmhmbjhgfdaa.V
