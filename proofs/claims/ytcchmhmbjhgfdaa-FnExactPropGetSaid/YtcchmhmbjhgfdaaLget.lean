/- The law of PropGet holds of trees. -/
import Derived.Test.YtcchmhmbjhgfdaaCget2
import Derived.Test.YtcchmhmbjhgfdaaCto2
import Derived.Test.YtcchmhmbjhgfdaaCmk3
namespace Go.Proofs.Ytcchmhmbjhgfdaa.V
open Go
set_option linter.unusedVariables false
set_option linter.unusedSimpArgs false
set_option maxHeartbeats 32000000
theorem propGet_cnt (g : Gr) (v : Vl) (nm : Tx) : (propGet g v nm).cnt ≤ g.cnt := by
  unfold propGet
  cases h : propsOf g v with
  | none => simp [zV, Vl.cnt_mk, cl, sums]
  | some ps =>
    have := cnt_props h
    simp only
    rcases getT_cases ps nm with ⟨p, hm, _, h2⟩ | ⟨_, h2⟩
    · have h3 := sums_mem (c := Pr.cnt) hm
      rw [h2]
      unfold cl at this
      simp only [Pr.cnt] at h3
      omega
    · rw [h2]; simp [zV, Vl.cnt_mk, cl, sums]
theorem mkG_far (g : Gr) (k : Int) : k ≤ (mkG k g).2 ∧ (mkG k g).2 ≤ k + 8 * g.cnt := by
  obtain ⟨a, b, c, d⟩ := g
  have h1 := Far.list (m := mkN) (c := Nd.cnt) (l := a) (fun v _ => far_node v) k
  have h2 := Far.list (m := mkE) (c := Eg.cnt) (l := b) (fun v _ => far_edge v) (mkL mkN k a).2
  simp only [mkG, Gr.cnt]
  omega
theorem FnExactPropGet_t (g : Gr) (hg : g.fit) (v : Vl) (hv : v.fit) (nm : Tx) (hn : ln nm) : Rv Try.prog 6 [.agg (sG.I g), .agg (sV.I v), .s nm] (.b true) := by
  by_cases hn2 : 1048576 < (nm.length : Int)
  · obtain ⟨l, es, nn, ne⟩ := g
    obtain ⟨k, n, s, vl⟩ := v
    refine via_laws_FnExactPropGet (by simp) ?_
    simp [pc_laws_FnExactPropGet, hn2]
    exact fin_val rfl (by simp) (by simp)
  have hsz := szGraph_c g hg 1048576 (by omega) (by omega)
  by_cases hc : (1048576 : Int) - g.cnt < 0
  · rw [left_neg hc] at hsz
    obtain ⟨l, es, nn, ne⟩ := g
    obtain ⟨k, n, s, vl⟩ := v
    refine via_laws_FnExactPropGet (by simp) ?_
    simp [pc_laws_FnExactPropGet, hn2]
    refine callK_val (by simp) hsz rfl ?_
    simp
    exact fin_val rfl (by simp) (by simp)
  rw [left_pos hc] at hsz
  have hsz2 := szValue_c v hv (1048576 - g.cnt) (by omega) (by omega)
  by_cases hc2 : (1048576 : Int) - g.cnt - v.cnt < 0
  · rw [left_neg hc2] at hsz2
    obtain ⟨l, es, nn, ne⟩ := g
    obtain ⟨k, n, s, vl⟩ := v
    refine via_laws_FnExactPropGet (by simp) ?_
    simp [pc_laws_FnExactPropGet, hn2]
    refine callK_val (by simp) hsz rfl ?_
    simp [hc]
    refine callK_val (by simp) hsz2 rfl ?_
    simp
    exact fin_val rfl (by simp) (by simp)
  rw [left_pos hc2] at hsz2
  have hcg : g.cnt ≤ 2 ^ 20 := by omega
  have hcv : v.cnt ≤ 2 ^ 20 := by omega
  have tg := toGraph_c g hcg
  have tv := toValue_c v hcv
  obtain ⟨r, hr⟩ : ∃ r, open Classical in r = (if GOk g ∧ vOk v = true then propGet g v nm else zV) := ⟨_, rfl⟩
  have hrc : r.cnt ≤ 2 ^ 20 := by
    rw [hr]; split
    · exact Nat.le_trans (propGet_cnt g v nm) hcg
    · simp [zV, Vl.cnt_mk, cl, sums]
  have sp := specPropGet_c g hg hcg v hv nm
  have im := PropGet_c g hg hcg v hv nm
  rw [← hr] at sp im
  have er := eqValue_c r hrc
  have eg := eqGraph_c g hcg
  have ev := eqValue_c v hcv
  have mg := markGraph_c g 1 (by omega) (by omega)
  obtain ⟨q1, hq1⟩ : ∃ q, q = (mkG 1 g).2 := ⟨_, rfl⟩
  have hq := mkG_far g 1
  rw [← hq1] at mg hq
  have mv := markValue_c v q1 (by omega) (by omega)
  have mr := markValue_c r 1 (by omega) (by omega)
  have hh := heldValue_c r (.mk r.k r.n r.s (mkL mkV 1 r.l).1) 1 (by omega) (by omega) rfl
  obtain ⟨q2, hq2⟩ : ∃ q, q = (mkL mkV q1 v.l).2 := ⟨_, rfl⟩
  obtain ⟨q3, hq3⟩ : ∃ q, q = (mkL mkV 1 r.l).2 := ⟨_, rfl⟩
  have n1 : ¬ q2 < 0 := by
    have := Far.list (m := mkV) (c := Vl.cnt) (l := v.l) (fun v _ => far_val v) q1
    omega
  have n2 : ¬ q3 < 0 := by
    have := Far.list (m := mkV) (c := Vl.cnt) (l := r.l) (fun v _ => far_val v) 1
    omega
  have l1 : (mkG 1 g).1.nodes.length = g.nodes.length := by cases g; simp [mkG, mkL_len]
  have l2 : (mkG 1 g).1.edges.length = g.edges.length := by cases g; simp [mkG, mkL_len]
  have l3 := mkL_len (m := mkV) v.l q1
  have l4 := mkL_len (m := mkV) r.l 1
  rw [← hq2] at mv
  rw [← hq3] at mr hh
  clear hq1 hq2 hq3 hq
  generalize (mkG 1 g).1.nodes = mn at *
  generalize (mkG 1 g).1.edges = me at *
  generalize (mkL mkV q1 v.l).1 = ml at *
  clear hr
  obtain ⟨l, es, nn, ne⟩ := g
  obtain ⟨k, n, s, vl⟩ := v
  obtain ⟨k', n', s', rl⟩ := r
  simp only [Vl.l, Vl.k, Vl.n, Vl.s] at mv mr hh l1 l2 l3 l4
  refine via_laws_FnExactPropGet (by simp) ?_
  simp [pc_laws_FnExactPropGet, hn2]
  refine callK_val (by simp) hsz rfl ?_
  simp [hc]
  refine callK_val (by simp) hsz2 (by simp [T.noImm]) ?_
  simp [hc2, n1, n2]
  repeat refine need_mk (by decide +kernel) ?_
  refine callK_val (by simp) tg (by simp [T.noImm]) ?_
  simp [hc2, n1, n2]
  repeat refine need_mk (by decide +kernel) ?_
  refine callK_val (by simp) tv (by simp [T.noImm]) ?_
  simp [hc2, n1, n2]
  repeat refine need_mk (by decide +kernel) ?_
  refine callK_val (by simp) sp (by simp [T.noImm]) ?_
  simp [hc2, n1, n2]
  repeat refine need_mk (by decide +kernel) ?_
  refine callK_val (by simp) tg (by simp [T.noImm]) ?_
  simp [hc2, n1, n2]
  repeat refine need_mk (by decide +kernel) ?_
  refine callK_val (by simp) tv (by simp [T.noImm]) ?_
  simp [hc2, n1, n2]
  repeat refine need_mk (by decide +kernel) ?_
  refine callK_val (by simp) im (by simp [T.noImm]) ?_
  simp [hc2, n1, n2]
  repeat refine need_mk (by decide +kernel) ?_
  refine callK_val (by simp) er (by simp [T.noImm]) ?_
  simp [hc2, n1, n2]
  repeat refine need_mk (by decide +kernel) ?_
  refine callK_val (by simp) tg (by simp [T.noImm]) ?_
  simp [hc2, n1, n2]
  repeat refine need_mk (by decide +kernel) ?_
  refine callK_val (by simp) eg (by simp [T.noImm]) ?_
  simp [hc2, n1, n2]
  repeat refine need_mk (by decide +kernel) ?_
  refine callK_val (by simp) tv (by simp [T.noImm]) ?_
  simp [hc2, n1, n2]
  repeat refine need_mk (by decide +kernel) ?_
  refine callK_val (by simp) ev (by simp [T.noImm]) ?_
  simp [hc2, n1, n2]
  repeat refine need_mk (by decide +kernel) ?_
  refine callK_mut (by simp) mg (by simp [l1, l2]; rfl) (by simp) (by simp) rfl (by simp [T.noImm]) ?_
  simp [hc2, n1, n2]
  repeat refine need_mk (by decide +kernel) ?_
  refine callK_mut (by simp) mv (by simp [l3]; rfl) (by simp) (by simp) rfl (by simp [T.noImm]) ?_
  simp [hc2, n1, n2]
  repeat refine need_mk (by decide +kernel) ?_
  refine callK_val (by simp) er (by simp [T.noImm]) ?_
  simp [hc2, n1, n2]
  repeat refine need_mk (by decide +kernel) ?_
  refine callK_mut (by simp) mr (by simp [l4]; rfl) (by simp) (by simp) rfl (by simp [T.noImm]) ?_
  simp [hc2, n1, n2]
  repeat refine need_mk (by decide +kernel) ?_
  refine callK_val (by simp [l4, take_map_eq l4]) hh (by simp [T.noImm]) ?_
  simp [hc2, n1, n2]
  repeat refine need_mk (by decide +kernel) ?_
  refine callK_val (by simp) tg (by simp [T.noImm]) ?_
  simp [hc2, n1, n2]
  repeat refine need_mk (by decide +kernel) ?_
  refine callK_val (by simp) tv (by simp [T.noImm]) ?_
  simp [hc2, n1, n2]
  repeat refine need_mk (by decide +kernel) ?_
  refine callK_val (by simp) im (by simp [T.noImm]) ?_
  simp [hc2, n1, n2]
  repeat refine need_mk (by decide +kernel) ?_
  refine callK_val (by simp) er (by simp [T.noImm]) ?_
  simp [hc2, n1, n2]
  repeat refine need_mk (by decide +kernel) ?_
  refine callK_val (by simp [l4, take_map_eq l4]) hh (by simp [T.noImm]) ?_
  simp [hc2, n1, n2]
  repeat refine need_mk (by decide +kernel) ?_
  exact fin_val rfl (by simp) (by simp)
end Go.Proofs.Ytcchmhmbjhgfdaa.V
