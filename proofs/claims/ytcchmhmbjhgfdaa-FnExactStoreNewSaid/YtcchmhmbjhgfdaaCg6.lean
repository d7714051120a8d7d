/- Copies of graphs by the program. -/
import Derived.Test.YtcchmhmbjhgfdaaCg5
namespace Go.Proofs.Ytcchmhmbjhgfdaa.V
open Go
set_option linter.unusedVariables false
set_option linter.unusedSimpArgs false
set_option maxHeartbeats 16000000
abbrev zN : List T := [.i .i64 0, .nl, .nl]
abbrev zE : List T := [.i .i64 0, .s [], .i .i64 0, .i .i64 0, .nl]
def cgs (g : Gr) (N E : T) (rest : List (Nat × T)) (nx : Nat) : St := ⟨rest ++ [(1, .ptr 0 0 0), (2, .ptr 1 0 0), (3, .ptr 2 0 0)], [(0, .arr 4 [sG.I g]), (1, .arr 4 [[.nl, .nl, .i .i64 0, .i .i64 0]]), (2, .arr 4 [[N, E, .i .i64 g.nn, .i .i64 g.ne]])], nx, 0⟩
theorem cg_l1 (g : Gr) (hl : g.nodes.length ≤ 2 ^ 20) (hN : ∀ x ∈ g.nodes, x.labels.length ≤ 2 ^ 20 ∧ x.props.length ≤ 2 ^ 20 ∧ ∀ p ∈ x.props, Rv Try.prog 98 [.agg (sV.I p.val)] (.agg (sV.O p.val))) {Q : Exit → St → Prop}
    (hQ : Q (.exit 0) (cgs g (.own 3 (g.nodes.map sN.O)) .nl [(26, .b false), (25, .i .i64 g.nodes.length), (24, .i .i64 g.nodes.length), (23, .imm (g.nodes.map sN.I))] 20)) :
    @loopH Try.prog modes 79 ⟨lb_impl_cloneGraph_0⟩ (cgs g (.own 3 (List.replicate g.nodes.length zN)) .nl [(25, .i .i64 0), (24, .i .i64 g.nodes.length), (23, .imm (g.nodes.map sN.I))] 20) ⟨Q⟩ := by
  obtain ⟨l, es, nn, ne⟩ := g
  simp only at hl hN hQ
  have hrep : ∀ k, cleanR (List.replicate k zN) = true := by intro k; simp [cleanR, T.clean]
  refine W_for (fun i => cgs ⟨l, es, nn, ne⟩ (.own 3 ((l.map sN.O).take i ++ List.replicate (l.length - i) zN)) .nl [(25, .i .i64 i), (24, .i .i64 l.length), (23, .imm (l.map sN.I))] 20) l.length (fun _ => True) (Wk.less rfl (by simp [cgs]) (by simp [cgs]) (by simp [cgs])) trivial ?_
  intro i hi _
  simp only [cgs, List.cons_append, List.nil_append] at hQ ⊢
  rcases Nat.lt_or_ge i l.length with h1 | h1
  · obtain ⟨x, hx⟩ : ∃ x, l[i]? = some x := ⟨_, List.getElem?_eq_getElem h1⟩
    have hw : IntKind.i64.wrap ((i : Int) + 1) = (i : Int) + 1 := wrap1 (by omega)
    have hrow := fill_row sN.O l (z := zN) h1
    have hset := fill_set sN.O l (z := zN) h1
    have hnew := fill_new sN.O hx
    have hg := fun r => fill_get sN.O (l := l) (r := r) (z := zN) h1
    have hs2 := fun r r' => fill_set2 sN.O (l := l) (r := r) (r' := r') (z := zN) h1
    obtain ⟨k1, k2, k3⟩ := hN x (List.mem_of_getElem? hx)
    have ht := cloneTexts_c x.labels k1
    have hps := cloneProps_c x.props k2 k3
    obtain ⟨id, lb, ps⟩ := x
    simp only at ht hps k1 k2
    simp [lb_impl_cloneGraph_0, -getElem?_pos, hx, hw, h1, hrow, hset]
    repeat refine need_mk (by decide +kernel) ?_
    refine callK_val (by simp) ht (by simp [T.noImm]) ?_
    simp [-getElem?_pos, hx, hw, h1, hrow, hset]
    repeat refine need_mk (by decide +kernel) ?_
    refine callK_val (by simp) hps (by simp [T.noImm]) ?_
    have hml : min i l.length + (l.length - i) = l.length := by omega
    have hmi : (min (i : Int) (l.length : Int)) + ((l.length - i : Nat) : Int) = l.length := by omega
    have htl : ∀ r, ((l.map sN.O).take i ++ r :: List.replicate (l.length - (i + 1)) zN).take l.length = (l.map sN.O).take i ++ r :: List.replicate (l.length - (i + 1)) zN := fun r => List.take_of_length_le (by simp; omega)
    have hle : l.length ≤ min i l.length + (l.length - (i + 1) + 1) := by omega
    have hcA : cleanR ((l.map sN.O).take i) = true := by rw [← List.map_take]; exact sN.crO _
    simp [-getElem?_pos, hx, hw, h1, hrow, hset, hml, hmi]
    repeat refine need_mk (by decide +kernel) ?_
    refine Wk.trans (Wk.join (b := 30) (r := i) (cs := sN.O ⟨id, lb, ps⟩) rfl (by simp [hg]; rfl) (by simp) (by simp)) ?_
    refine Wk.trans (Wk.join (b := 2) (r := 0) (cs := [.own 3 ((l.map sN.O).take (i + 1) ++ List.replicate (l.length - (i + 1)) zN), .nl, .i .i64 nn, .i .i64 ne]) rfl rfl (by simp [hs2, hnew, hle, htl, hcA, hrep]) (by simp)) ?_
    exact Wk.to rfl (by simp) (by simp) (by simp [Blk.names]) (by simp)
  · have h2 : ¬ i < l.length := by omega
    obtain rfl : i = l.length := by omega
    have e1 : (l.map sN.O).take l.length = l.map sN.O := List.take_of_length_le (by simp)
    simp [lb_impl_cloneGraph_0, e1]
    exact hQ
theorem cg_l2 (g : Gr) (hl : g.edges.length ≤ 2 ^ 20) (hE : ∀ x ∈ g.edges, x.props.length ≤ 2 ^ 20 ∧ ∀ p ∈ x.props, Rv Try.prog 98 [.agg (sV.I p.val)] (.agg (sV.O p.val))) {Q : Exit → St → Prop}
    (hQ : Q (.exit 2) (cgs g (.own 3 (g.nodes.map sN.O)) (.own 5 (g.edges.map sE.O)) [(57, .b false), (56, .i .i64 g.edges.length), (55, .i .i64 g.edges.length), (54, .imm (g.edges.map sE.I))] 60)) :
    @loopH Try.prog modes 79 ⟨lb_impl_cloneGraph_1⟩ (cgs g (.own 3 (g.nodes.map sN.O)) (.own 5 (List.replicate g.edges.length zE)) [(56, .i .i64 0), (55, .i .i64 g.edges.length), (54, .imm (g.edges.map sE.I))] 60) ⟨Q⟩ := by
  obtain ⟨l, es, nn, ne⟩ := g
  simp only at hl hE hQ
  have hrep : ∀ k, cleanR (List.replicate k zE) = true := by intro k; simp [cleanR, T.clean]
  refine W_for (fun i => cgs ⟨l, es, nn, ne⟩ (.own 3 (l.map sN.O)) (.own 5 ((es.map sE.O).take i ++ List.replicate (es.length - i) zE)) [(56, .i .i64 i), (55, .i .i64 es.length), (54, .imm (es.map sE.I))] 60) es.length (fun _ => True) (Wk.less rfl (by simp [cgs]) (by simp [cgs]) (by simp [cgs])) trivial ?_
  intro i hi _
  simp only [cgs, List.cons_append, List.nil_append] at hQ ⊢
  rcases Nat.lt_or_ge i es.length with h1 | h1
  · obtain ⟨x, hx⟩ : ∃ x, es[i]? = some x := ⟨_, List.getElem?_eq_getElem h1⟩
    have hw : IntKind.i64.wrap ((i : Int) + 1) = (i : Int) + 1 := wrap1 (by omega)
    have hrow := fill_row sE.O es (z := zE) h1
    have hset := fill_set sE.O es (z := zE) h1
    have hnew := fill_new sE.O hx
    have hg := fun r => fill_get sE.O (l := es) (r := r) (z := zE) h1
    have hs2 := fun r r' => fill_set2 sE.O (l := es) (r := r) (r' := r') (z := zE) h1
    obtain ⟨k2, k3⟩ := hE x (List.mem_of_getElem? hx)
    have hps := cloneProps_c x.props k2 k3
    obtain ⟨id, kd, fr, to, ps⟩ := x
    simp only at hps k2
    have hml : min i es.length + (es.length - i) = es.length := by omega
    have hmi : (min (i : Int) (es.length : Int)) + ((es.length - i : Nat) : Int) = es.length := by omega
    have htl : ∀ r, ((es.map sE.O).take i ++ r :: List.replicate (es.length - (i + 1)) zE).take es.length = (es.map sE.O).take i ++ r :: List.replicate (es.length - (i + 1)) zE := fun r => List.take_of_length_le (by simp; omega)
    have hle : es.length ≤ min i es.length + (es.length - (i + 1) + 1) := by omega
    have hcA : cleanR ((es.map sE.O).take i) = true := by rw [← List.map_take]; exact sE.crO _
    simp [lb_impl_cloneGraph_1, -getElem?_pos, hx, hw, h1, hrow, hset, hml, hmi]
    repeat refine need_mk (by decide +kernel) ?_
    refine callK_val (by simp) hps (by simp [T.noImm]) ?_
    simp [-getElem?_pos, hx, hw, h1, hrow, hset, hml, hmi]
    repeat refine need_mk (by decide +kernel) ?_
    refine Wk.trans (Wk.join (b := 70) (r := i) (cs := sE.O ⟨id, kd, fr, to, ps⟩) rfl (by simp [hg]; rfl) (by simp) (by simp)) ?_
    refine Wk.trans (Wk.join (b := 2) (r := 0) (cs := [.own 3 (l.map sN.O), .own 5 ((es.map sE.O).take (i + 1) ++ List.replicate (es.length - (i + 1)) zE), .i .i64 nn, .i .i64 ne]) rfl rfl (by simp [hs2, hnew, hle, htl, hcA, hrep]) (by simp)) ?_
    exact Wk.to rfl (by simp) (by simp) (by simp [Blk.names]) (by simp)
  · have h2 : ¬ i < es.length := by omega
    obtain rfl : i = es.length := by omega
    have e1 : (es.map sE.O).take es.length = es.map sE.O := List.take_of_length_le (by simp)
    simp [lb_impl_cloneGraph_1, e1]
    exact hQ
theorem cloneGraph_c (g : Gr) (hc : g.cnt ≤ 2 ^ 20) (hN : ∀ x ∈ g.nodes, ∀ p ∈ x.props, Rv Try.prog 98 [.agg (sV.I p.val)] (.agg (sV.O p.val))) (hE : ∀ x ∈ g.edges, ∀ p ∈ x.props, Rv Try.prog 98 [.agg (sV.I p.val)] (.agg (sV.O p.val))) : Rv Try.prog 110 [.agg (sG.I g)] (.agg (sG.O g)) := by
  have hpN : ∀ x ∈ g.nodes, x.labels.length ≤ 2 ^ 20 ∧ x.props.length ≤ 2 ^ 20 ∧ ∀ p ∈ x.props, Rv Try.prog 98 [.agg (sV.I p.val)] (.agg (sV.O p.val)) := by
    intro x hx
    have h1 := sums_mem (c := Nd.cnt) hx
    have h0 : x.cnt = x.labels.length + sums List.length x.labels + (x.props.length + sums Pr.cnt x.props) := rfl
    unfold Gr.cnt cl at hc
    exact ⟨by omega, by omega, hN x hx⟩
  have hpE : ∀ x ∈ g.edges, x.props.length ≤ 2 ^ 20 ∧ ∀ p ∈ x.props, Rv Try.prog 98 [.agg (sV.I p.val)] (.agg (sV.O p.val)) := by
    intro x hx
    have h1 := sums_mem (c := Eg.cnt) hx
    have h0 : x.cnt = x.kind.length + (x.props.length + sums Pr.cnt x.props) := rfl
    unfold Gr.cnt cl at hc
    exact ⟨by omega, hE x hx⟩
  have hl1 : g.nodes.length ≤ 2 ^ 20 := by unfold Gr.cnt cl at hc; omega
  have hl2 : g.edges.length ≤ 2 ^ 20 := by unfold Gr.cnt cl at hc; omega
  have L1 := fun {Q} => @cg_l1 g hl1 hpN Q
  have L2 := fun {Q} => @cg_l2 g hl2 hpE Q
  obtain ⟨l, es, nn, ne⟩ := g
  simp only [cgs, List.cons_append, List.nil_append] at L1 L2 hl1 hl2
  refine via_impl_cloneGraph (by simp) ?_
  have hb1 : (l.length : Int) * 56 ≤ 35184372088832 := by omega
  have hb2 : (l.length : Int) ≤ 35184372088832 := by omega
  have hb3 : (es.length : Int) * 64 ≤ 35184372088832 := by omega
  have hb4 : (es.length : Int) ≤ 35184372088832 := by omega
  have hrep : ∀ k, cleanR (List.replicate k zN) = true := by intro k; simp [cleanR, T.clean]
  have hrepE : ∀ k, cleanR (List.replicate k zE) = true := by intro k; simp [cleanR, T.clean]
  by_cases h0 : l.length = 0
  · simp [pc_impl_cloneGraph, h0]
    refine W_wk (s' := ⟨[(25, .i .i64 0), (24, .i .i64 l.length), (23, .imm (l.map sN.I)), (1, .ptr 0 0 0), (2, .ptr 1 0 0), (3, .ptr 2 0 0)], [(0, .arr 4 [sG.I ⟨l, es, nn, ne⟩]), (1, .arr 4 [[.nl, .nl, .i .i64 0, .i .i64 0]]), (2, .arr 4 [[.own 3 (List.replicate l.length zN), .nl, .i .i64 nn, .i .i64 ne]])], 20, 0⟩) ?_ (L1 ?_)
    · refine Wk.trans (Wk.join (b := 2) (r := 0) (cs := [.own 3 [], .nl, .i .i64 nn, .i .i64 ne]) rfl rfl (by simp) (by simp)) ?_
      exact Wk.less rfl (by simp) (by simp [h0]) (by simp [h0])
    · clear h0
      by_cases h3 : es.length = 0
      · simp [h3]
        refine W_wk (s' := ⟨[(56, .i .i64 0), (55, .i .i64 es.length), (54, .imm (es.map sE.I)), (1, .ptr 0 0 0), (2, .ptr 1 0 0), (3, .ptr 2 0 0)], [(0, .arr 4 [sG.I ⟨l, es, nn, ne⟩]), (1, .arr 4 [[.nl, .nl, .i .i64 0, .i .i64 0]]), (2, .arr 4 [[.own 3 (l.map sN.O), .own 5 (List.replicate es.length zE), .i .i64 nn, .i .i64 ne]])], 60, 0⟩) ?_ (L2 ?_)
        · refine Wk.trans (Wk.join (b := 2) (r := 0) (cs := [.own 3 (l.map sN.O), .own 5 [], .i .i64 nn, .i .i64 ne]) rfl rfl (by simp) (by simp)) ?_
          exact Wk.less rfl (by simp) (by simp [h3]) (by simp [h3])
        · simp
          exact fin_own (by simp; rfl) (by simp) (by simp) (by simp)
      · have h3' : 0 < es.length := by omega
        simp [h3', hb3, hb4]
        refine W_wk (s' := ⟨[(56, .i .i64 0), (55, .i .i64 es.length), (54, .imm (es.map sE.I)), (1, .ptr 0 0 0), (2, .ptr 1 0 0), (3, .ptr 2 0 0)], [(0, .arr 4 [sG.I ⟨l, es, nn, ne⟩]), (1, .arr 4 [[.nl, .nl, .i .i64 0, .i .i64 0]]), (2, .arr 4 [[.own 3 (l.map sN.O), .own 5 (List.replicate es.length zE), .i .i64 nn, .i .i64 ne]])], 60, 0⟩) ?_ (L2 ?_)
        · refine Wk.trans (Wk.join (b := 2) (r := 0) (cs := [.own 3 (l.map sN.O), .own 5 (List.replicate es.length zE), .i .i64 nn, .i .i64 ne]) rfl rfl (by simp [hrepE]) (by simp)) ?_
          exact Wk.less rfl (by simp) (by simp) (by simp)
        · simp
          exact fin_own (by simp; rfl) (by simp) (by simp) (by simp)
  · have h0' : 0 < l.length := by omega
    simp [pc_impl_cloneGraph, h0', hb1, hb2]
    refine W_wk (s' := ⟨[(25, .i .i64 0), (24, .i .i64 l.length), (23, .imm (l.map sN.I)), (1, .ptr 0 0 0), (2, .ptr 1 0 0), (3, .ptr 2 0 0)], [(0, .arr 4 [sG.I ⟨l, es, nn, ne⟩]), (1, .arr 4 [[.nl, .nl, .i .i64 0, .i .i64 0]]), (2, .arr 4 [[.own 3 (List.replicate l.length zN), .nl, .i .i64 nn, .i .i64 ne]])], 20, 0⟩) ?_ (L1 ?_)
    · refine Wk.trans (Wk.join (b := 2) (r := 0) (cs := [.own 3 (List.replicate l.length zN), .nl, .i .i64 nn, .i .i64 ne]) rfl rfl (by simp [hrep]) (by simp)) ?_
      exact Wk.less rfl (by simp) (by simp) (by simp)
    · clear h0 h0'
      by_cases h3 : es.length = 0
      · simp [h3]
        refine W_wk (s' := ⟨[(56, .i .i64 0), (55, .i .i64 es.length), (54, .imm (es.map sE.I)), (1, .ptr 0 0 0), (2, .ptr 1 0 0), (3, .ptr 2 0 0)], [(0, .arr 4 [sG.I ⟨l, es, nn, ne⟩]), (1, .arr 4 [[.nl, .nl, .i .i64 0, .i .i64 0]]), (2, .arr 4 [[.own 3 (l.map sN.O), .own 5 (List.replicate es.length zE), .i .i64 nn, .i .i64 ne]])], 60, 0⟩) ?_ (L2 ?_)
        · refine Wk.trans (Wk.join (b := 2) (r := 0) (cs := [.own 3 (l.map sN.O), .own 5 [], .i .i64 nn, .i .i64 ne]) rfl rfl (by simp) (by simp)) ?_
          exact Wk.less rfl (by simp) (by simp [h3]) (by simp [h3])
        · simp
          exact fin_own (by simp; rfl) (by simp) (by simp) (by simp)
      · have h3' : 0 < es.length := by omega
        simp [h3', hb3, hb4]
        refine W_wk (s' := ⟨[(56, .i .i64 0), (55, .i .i64 es.length), (54, .imm (es.map sE.I)), (1, .ptr 0 0 0), (2, .ptr 1 0 0), (3, .ptr 2 0 0)], [(0, .arr 4 [sG.I ⟨l, es, nn, ne⟩]), (1, .arr 4 [[.nl, .nl, .i .i64 0, .i .i64 0]]), (2, .arr 4 [[.own 3 (l.map sN.O), .own 5 (List.replicate es.length zE), .i .i64 nn, .i .i64 ne]])], 60, 0⟩) ?_ (L2 ?_)
        · refine Wk.trans (Wk.join (b := 2) (r := 0) (cs := [.own 3 (l.map sN.O), .own 5 (List.replicate es.length zE), .i .i64 nn, .i .i64 ne]) rfl rfl (by simp [hrepE]) (by simp)) ?_
          exact Wk.less rfl (by simp) (by simp) (by simp)
        · simp
          exact fin_own (by simp; rfl) (by simp) (by simp) (by simp)
end Go.Proofs.Ytcchmhmbjhgfdaa.V
