/- Copies of graphs by the spec. -/
import Derived.Test.YtcchmhmbjhgfdaaCg2
namespace Go.Proofs.Ytcchmhmbjhgfdaa.V
open Go
set_option linter.unusedVariables false
set_option linter.unusedSimpArgs false
set_option maxHeartbeats 16000000
theorem l2Copy_c (g : Gr) (hc : g.cnt ≤ 2 ^ 20) : Rv Try.prog 108 [.agg (sG.I g)] (.agg (sG.O g)) := by
  obtain ⟨l, es, nn, ne⟩ := g
  unfold Gr.cnt cl at hc
  simp only at hc
  have hpN : ∀ x ∈ l, x.labels.length ≤ 2 ^ 20 ∧ x.props.length ≤ 2 ^ 20 ∧ ∀ p ∈ x.props, p.val.cnt ≤ 2 ^ 20 := by
    intro x hx
    have h1 := sums_mem (c := Nd.cnt) hx
    have h0 : x.cnt = x.labels.length + sums List.length x.labels + (x.props.length + sums Pr.cnt x.props) := rfl
    refine ⟨by omega, by omega, fun p hp => ?_⟩
    have h2 := sums_mem (c := Pr.cnt) hp
    have h3 : p.cnt = p.name.length + p.val.cnt := rfl
    omega
  have hpE : ∀ x ∈ es, x.props.length ≤ 2 ^ 20 ∧ ∀ p ∈ x.props, p.val.cnt ≤ 2 ^ 20 := by
    intro x hx
    have h1 := sums_mem (c := Eg.cnt) hx
    have h0 : x.cnt = x.kind.length + (x.props.length + sums Pr.cnt x.props) := rfl
    refine ⟨by omega, fun p hp => ?_⟩
    have h2 := sums_mem (c := Pr.cnt) hp
    have h3 : p.cnt = p.name.length + p.val.cnt := rfl
    omega
  refine via_spec_l2Copy (by simp) ?_
  simp [pc_spec_l2Copy]
  refine W_for (fun i => ⟨[(4, .i .i64 i), (1, .ptr 0 0 0), (2, .ptr 1 0 0), (3, .ptr 2 0 0)], [(0, .arr 4 [sG.I ⟨l, es, nn, ne⟩]), (1, .arr 4 [[.nl, .nl, .i .i64 0, .i .i64 0]]), (2, .arr 4 [[.own 3 ((l.map sN.O).take i), .nl, .i .i64 nn, .i .i64 ne]])], 20, 0⟩) l.length (fun _ => True) ?_ trivial ?_
  · refine Wk.trans (Wk.join (b := 2) (r := 0) (cs := [.own 3 [], .nl, .i .i64 nn, .i .i64 ne]) rfl rfl (by simp) (by simp)) ?_
    exact Wk.less rfl (by simp) (by simp) (by simp)
  intro i hi _
  rcases Nat.lt_or_ge i l.length with h1 | h1
  · obtain ⟨x, hx⟩ : ∃ x, l[i]? = some x := ⟨_, List.getElem?_eq_getElem h1⟩
    have hw : IntKind.i64.wrap ((i : Int) + 1) = (i : Int) + 1 := wrap1 (by omega)
    have hmin : min i l.length = i := by omega
    have htt : List.take i (List.take i (l.map sN.O)) = List.take i (l.map sN.O) := by rw [List.take_take]; simp
    have hlA : (List.take i (l.map sN.O)).length = i := by simp; omega
    have hnew := fill_new sN.O hx
    have hcA : cleanR (List.take i (l.map sN.O)) = true := by rw [← List.map_take]; exact sN.crO _
    have hbig : (i + 1) * 56 ≤ 35184372088832 := by omega
    obtain ⟨hb1, hb2, hb3⟩ := hpN x (List.mem_of_getElem? hx)
    have hps := l2Ps_c x.props hb2 hb3
    obtain ⟨id, lb, ps⟩ := x
    simp only at hb1 hb2 hb3 hps
    have hlb : lb.length * 16 ≤ 35184372088832 := by omega
    simp [-getElem?_pos, hx, hw, h1, hmin, hlb]
    repeat refine need_mk (by decide +kernel) ?_
    refine callK_val (by simp) hps (by simp [T.noImm]) ?_
    simp [-getElem?_pos, hx, hw, h1, hmin, htt, hbig, hlb]
    generalize List.take i (l.map sN.O) = A at *
    repeat refine need_mk (by decide +kernel) ?_
    have hg := app1_get hlA
    have hs := app1_set hlA
    have ht := app1_take hlA
    have hSS : lb.map sS.I = lb.map sS.O := rfl
    refine Wk.trans (Wk.join (b := 126) (r := i) (cs := sN.O ⟨id, lb, ps⟩) rfl (by simp [hg]; rfl) (by simp [hSS]) (by simp)) ?_
    refine Wk.trans (Wk.join (b := 2) (r := 0) (cs := [.own 3 ((l.map sN.O).take (i + 1)), .nl, .i .i64 nn, .i .i64 ne]) rfl rfl (by simp [hnew, hs, hcA, hlA, ht, sN.cO]) (by simp)) ?_
    exact Wk.to rfl (by simp) (by simp) (by simp [Blk.names]) (by simp)
  have h2 : ¬ i < l.length := by omega
  have e : (l.map sN.O).take i = l.map sN.O := List.take_of_length_le (by simp; omega)
  simp [h2, e]
  refine W_for (fun i => ⟨[(6, .i .i64 i), (1, .ptr 0 0 0), (2, .ptr 1 0 0), (3, .ptr 2 0 0)], [(0, .arr 4 [sG.I ⟨l, es, nn, ne⟩]), (1, .arr 4 [[.nl, .nl, .i .i64 0, .i .i64 0]]), (2, .arr 4 [[.own 3 (l.map sN.O), .own 5 ((es.map sE.O).take i), .i .i64 nn, .i .i64 ne]])], 20, 0⟩) es.length (fun _ => True) ?_ trivial ?_
  · refine Wk.trans (Wk.join (b := 2) (r := 0) (cs := [.own 3 (l.map sN.O), .own 5 [], .i .i64 nn, .i .i64 ne]) rfl rfl (by simp) (by simp)) ?_
    exact Wk.less rfl (by simp) (by simp) (by simp)
  clear h2 e h1 hi
  intro i hi _
  rcases Nat.lt_or_ge i es.length with h1 | h1
  · obtain ⟨x, hx⟩ : ∃ x, es[i]? = some x := ⟨_, List.getElem?_eq_getElem h1⟩
    have hw : IntKind.i64.wrap ((i : Int) + 1) = (i : Int) + 1 := wrap1 (by omega)
    have hmin : min i es.length = i := by omega
    have htt : List.take i (List.take i (es.map sE.O)) = List.take i (es.map sE.O) := by rw [List.take_take]; simp
    have hlA : (List.take i (es.map sE.O)).length = i := by simp; omega
    have hnew := fill_new sE.O hx
    have hcA : cleanR (List.take i (es.map sE.O)) = true := by rw [← List.map_take]; exact sE.crO _
    have hbig : (i + 1) * 64 ≤ 35184372088832 := by omega
    obtain ⟨hb2, hb3⟩ := hpE x (List.mem_of_getElem? hx)
    have hps := l2Ps_c x.props hb2 hb3
    obtain ⟨id, kd, fr, to, ps⟩ := x
    simp only at hb2 hb3 hps
    simp [-getElem?_pos, hx, hw, h1, hmin]
    repeat refine need_mk (by decide +kernel) ?_
    refine callK_val (by simp) hps (by simp [T.noImm]) ?_
    simp [-getElem?_pos, hx, hw, h1, hmin, htt, hbig]
    generalize List.take i (es.map sE.O) = A at *
    repeat refine need_mk (by decide +kernel) ?_
    have hg := app1_get hlA
    have hs := app1_set hlA
    have ht := app1_take hlA
    refine Wk.trans (Wk.join (b := 27) (r := i) (cs := sE.O ⟨id, kd, fr, to, ps⟩) rfl (by simp [hg]; rfl) (by simp) (by simp)) ?_
    refine Wk.trans (Wk.join (b := 2) (r := 0) (cs := [.own 3 (l.map sN.O), .own 5 ((es.map sE.O).take (i + 1)), .i .i64 nn, .i .i64 ne]) rfl rfl (by simp [hnew, hs, hcA, hlA, ht, sE.cO]) (by simp)) ?_
    exact Wk.to rfl (by simp) (by simp) (by simp [Blk.names]) (by simp)
  · have h2 : ¬ i < es.length := by omega
    have e : (es.map sE.O).take i = es.map sE.O := List.take_of_length_le (by simp; omega)
    simp [h2, e]
    exact fin_own (by simp; rfl) (by simp) (by simp) (by simp)
end Go.Proofs.Ytcchmhmbjhgfdaa.V
