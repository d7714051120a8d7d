/- Edges added. -/
import Derived.Test.YtcchmhmbjhgfdaaCg9
namespace Go.Proofs.Ytcchmhmbjhgfdaa.V
open Go
set_option linter.unusedVariables false
set_option linter.unusedSimpArgs false
set_option maxHeartbeats 16000000
def gAddE (g : Gr) (kd : Tx) (fr to : Int) (ps : List Pr) : Gr := ⟨g.nodes, g.edges ++ [⟨g.ne, kd, fr, to, ps⟩], g.nn, g.ne + 1⟩
def addEOk (g : Gr) (kd : Tx) (fr to : Int) (ps : List Pr) : Prop := nameOk kd = true ∧ PropsOk ps ∧ 0 ≤ posOf Nd.id fr g.nodes ∧ 0 ≤ posOf Nd.id to g.nodes ∧ g.edges.length < 16 ∧ g.ne < 1000000000
open Classical in
noncomputable def eAdd (g : Gr) (kd : Tx) (fr to : Int) (ps : List Pr) : Gr × Bool := if addEOk g kd fr to ps then (gAddE g kd fr to ps, true) else (g, false)
open Classical in
noncomputable def edgeAdd (g : Gr) (kd : Tx) (fr to : Int) (ps : List Pr) : Gr × Int × Bool :=
  if GOk g then ((eAdd g kd fr to ps).1, if addEOk g kd fr to ps then g.ne else 0, decide (addEOk g kd fr to ps)) else (zG, 0, false)
theorem l2AddEdge_c (g : Gr) (hi : i64 g.ne) (hl0 : g.nodes.length ≤ 2 ^ 40) (hl1 : g.edges.length ≤ 2 ^ 40) (kd : Tx) (hkd : ln kd) (fr to : Int) (ps : List Pr) (hps : ln ps ∧ ∀ x ∈ ps, x.fit) (hcp : cl Pr.cnt ps ≤ 2 ^ 20) :
    Ret Try.prog 117 [.agg (sG.O g), .s kd, .i .i64 fr, .i .i64 to, .imm (ps.map sP.I)] (.tup [.agg (sG.O (eAdd g kd fr to ps).1), .b (eAdd g kd fr to ps).2]) [.dead, .dead, .dead, .dead, .dead] := by
  have h1 := l2Name_c kd hkd
  have h2 := l2Props_c ps hps.1 hps.2
  have hlp : ps.length ≤ 2 ^ 20 := by unfold cl at hcp; omega
  have h3 := l2Ps_c ps hlp (fun p hp => by
    have h2 := sums_mem (c := Pr.cnt) hp
    have h3 : p.cnt = p.name.length + p.val.cnt := rfl
    unfold cl at hcp; omega)
  have hlN : ln g.nodes := by simp only [ln]; omega
  have h4 := l2Node_c g hlN fr
  have h5 := l2Node_c g hlN to
  obtain ⟨l, es, nn, ne⟩ := g
  simp only at hi hl1 hl0
  refine via_spec_l2AddEdge (by simp) ?_
  by_cases c1 : nameOk kd = true
  · by_cases c2 : PropsOk ps
    · by_cases c3 : 0 ≤ posOf Nd.id fr l
      · have d3 : ¬ posOf Nd.id fr l < 0 := by omega
        by_cases c4 : 0 ≤ posOf Nd.id to l
        · have d4 : ¬ posOf Nd.id to l < 0 := by omega
          by_cases c5 : (es.length : Int) < 16
          · have d5 : ¬ 16 ≤ (es.length : Int) := by omega
            by_cases c6 : ne < 1000000000
            · have d6 : ¬ 1000000000 ≤ ne := by omega
              have hyes : addEOk ⟨l, es, nn, ne⟩ kd fr to ps := ⟨c1, c2, c3, c4, by simp only; omega, c6⟩
              have hw : IntKind.i64.wrap (ne + 1) = ne + 1 := wrap64 (by have := hi.1; omega) (by omega)
              have hb2 : (es.length + 1) * 64 ≤ 35184372088832 := by omega
              simp [pc_spec_l2AddEdge]
              refine callK_val (by simp) h1 rfl ?_
              simp [c1]
              refine callK_val (by simp) h2 rfl ?_
              simp [c1, c2]
              refine callK_val (by simp) h4 rfl ?_
              simp [c1, c2, c3, d3]
              refine callK_val (by simp) h5 rfl ?_
              simp [c1, c2, c3, d3, c4, d4, c5, d5, c6, d6, hb2, hw]
              repeat refine need_mk (by decide +kernel) ?_
              refine callK_val (by simp) h3 (by simp [T.noImm]) ?_
              simp [c1, c2, c3, d3, c4, d4, c5, d5, c6, d6, hb2, hw]
              repeat refine need_mk (by decide +kernel) ?_
              have hA : (es.map sE.O).length = es.length := by simp
              have hg2 := app1_get hA
              have hs3 := app1_set hA
              refine fin_wk (Wk.join (b := 92) (r := es.length) (cs := sE.O ⟨ne, kd, fr, to, ps⟩) rfl (by simp [hg2]; rfl) (by simp) (by simp)) ?_
              simp [hs3]
              exact fin_eaten (by simp; rfl) (by simp [eAdd, hyes, gAddE, List.take_of_length_le]) (by simp [eAdd, hyes, gAddE])
            · have d6 : 1000000000 ≤ ne := by omega
              have hno : ¬ addEOk ⟨l, es, nn, ne⟩ kd fr to ps := fun h => c6 h.2.2.2.2.2
              simp [pc_spec_l2AddEdge]
              refine callK_val (by simp) h1 rfl ?_
              simp [c1]
              refine callK_val (by simp) h2 rfl ?_
              simp [c1, c2]
              refine callK_val (by simp) h4 rfl ?_
              simp [c1, c2, c3, d3]
              refine callK_val (by simp) h5 rfl ?_
              simp [c1, c2, c3, d3, c4, d4, c5, d5, c6, d6]
              exact fin_eaten (by simp; rfl) (by simp [eAdd, hno]) (by simp [eAdd, hno])
          · have d5 : 16 ≤ (es.length : Int) := by omega
            have hno : ¬ addEOk ⟨l, es, nn, ne⟩ kd fr to ps := fun h => c5 (by have := h.2.2.2.2.1; simp only at this; omega)
            simp [pc_spec_l2AddEdge]
            refine callK_val (by simp) h1 rfl ?_
            simp [c1]
            refine callK_val (by simp) h2 rfl ?_
            simp [c1, c2]
            refine callK_val (by simp) h4 rfl ?_
            simp [c1, c2, c3, d3]
            refine callK_val (by simp) h5 rfl ?_
            simp [c1, c2, c3, d3, c4, d4, c5, d5]
            exact fin_eaten (by simp; rfl) (by simp [eAdd, hno]) (by simp [eAdd, hno])
        · have d4 : posOf Nd.id to l < 0 := by omega
          have hno : ¬ addEOk ⟨l, es, nn, ne⟩ kd fr to ps := fun h => c4 h.2.2.2.1
          simp [pc_spec_l2AddEdge]
          refine callK_val (by simp) h1 rfl ?_
          simp [c1]
          refine callK_val (by simp) h2 rfl ?_
          simp [c1, c2]
          refine callK_val (by simp) h4 rfl ?_
          simp [c1, c2, c3, d3]
          refine callK_val (by simp) h5 rfl ?_
          simp [c1, c2, c3, d3, c4, d4]
          exact fin_eaten (by simp; rfl) (by simp [eAdd, hno]) (by simp [eAdd, hno])
      · have d3 : posOf Nd.id fr l < 0 := by omega
        have hno : ¬ addEOk ⟨l, es, nn, ne⟩ kd fr to ps := fun h => c3 h.2.2.1
        simp [pc_spec_l2AddEdge]
        refine callK_val (by simp) h1 rfl ?_
        simp [c1]
        refine callK_val (by simp) h2 rfl ?_
        simp [c1, c2]
        refine callK_val (by simp) h4 rfl ?_
        simp [c1, c2, c3, d3]
        exact fin_eaten (by simp; rfl) (by simp [eAdd, hno]) (by simp [eAdd, hno])
    · have hno : ¬ addEOk ⟨l, es, nn, ne⟩ kd fr to ps := fun h => c2 h.2.1
      simp [pc_spec_l2AddEdge]
      refine callK_val (by simp) h1 rfl ?_
      simp [c1]
      refine callK_val (by simp) h2 rfl ?_
      simp [c1, c2]
      exact fin_eaten (by simp; rfl) (by simp [eAdd, hno]) (by simp [eAdd, hno])
  · have hno : ¬ addEOk ⟨l, es, nn, ne⟩ kd fr to ps := fun h => c1 h.1
    simp [pc_spec_l2AddEdge]
    refine callK_val (by simp) h1 rfl ?_
    simp [c1]
    exact fin_eaten (by simp; rfl) (by simp [eAdd, hno]) (by simp [eAdd, hno])
theorem specEdgeAdd_c (g : Gr) (hf : g.fit) (hc : g.cnt ≤ 2 ^ 20) (kd : Tx) (hkd : ln kd) (fr to : Int) (ps : List Pr) (hps : ln ps ∧ ∀ x ∈ ps, x.fit) (hcp : cl Pr.cnt ps ≤ 2 ^ 20) :
    Ri Try.prog 48 [.agg (sG.I g), .s kd, .i .i64 fr, .i .i64 to, .imm (ps.map sP.I)] (.tup [.agg (sG.I (edgeAdd g kd fr to ps).1), .i .i64 (edgeAdd g kd fr to ps).2.1, .b (edgeAdd g kd fr to ps).2.2]) := by
  have ok1 : okCall Try.prog 117 = true := by kernel_rfl
  have h1 := specGraphOk_c g hf
  have h2 := l2Copy_c g hc
  have hl0 : g.nodes.length ≤ 2 ^ 20 := by unfold Gr.cnt cl at hc; omega
  have hl1 : g.edges.length ≤ 2 ^ 20 := by unfold Gr.cnt cl at hc; omega
  have h3 := l2AddEdge_c g hf.2.2.2.2.2 (by omega) (by omega) kd hkd fr to ps hps hcp
  by_cases g1 : GOk g
  · refine ⟨.tup [.agg (sG.O (eAdd g kd fr to ps).1), .i .i64 (edgeAdd g kd fr to ps).2.1, .b (edgeAdd g kd fr to ps).2.2], ?_, by simp [edgeAdd, g1, sG.toO]⟩
    by_cases g2 : addEOk g kd fr to ps
    · have e1 : eAdd g kd fr to ps = (gAddE g kd fr to ps, true) := by simp [eAdd, g2]
      rw [e1] at h3 ⊢
      have e2 : (edgeAdd g kd fr to ps).2.1 = g.ne := by simp [edgeAdd, g1, g2]
      have e3 : (edgeAdd g kd fr to ps).2.2 = true := by simp [edgeAdd, g1, g2]
      rw [e2, e3]
      obtain ⟨l, es, nn, ne⟩ := g
      simp only [gAddE] at h3 ⊢
      refine via_spec_EdgeAdd (by simp) ?_
      simp [pc_spec_EdgeAdd]
      refine callK_val (by simp) h1 rfl ?_
      simp [g1]
      refine callK_val (by simp) h2 (by simp [T.noImm]) ?_
      simp
      refine hookH_callX [0] [(2, .arr 3 (l.map sN.O)), (3, .arr 5 (es.map sE.O))] h3 (by simp [handedX, handedXA, handedXs, handedX1, T.closed]) (bk := []) (by simp [backX, backXA, backXs, backX1, T.closed]) rfl ok1 (by simp) (by simp [named]) (by simp [named]) ?_
      simp [dX]
      repeat refine need_mk (by decide +kernel) ?_
      exact fin_own (by simp; rfl) (by simp [List.take_of_length_le]) (by simp) (by simp)
    · have e1 : eAdd g kd fr to ps = (g, false) := by simp [eAdd, g2]
      rw [e1] at h3 ⊢
      have e2 : (edgeAdd g kd fr to ps).2.1 = 0 := by simp [edgeAdd, g1, g2]
      have e3 : (edgeAdd g kd fr to ps).2.2 = false := by simp [edgeAdd, g1, g2]
      rw [e2, e3]
      obtain ⟨l, es, nn, ne⟩ := g
      refine via_spec_EdgeAdd (by simp) ?_
      simp [pc_spec_EdgeAdd]
      refine callK_val (by simp) h1 rfl ?_
      simp [g1]
      refine callK_val (by simp) h2 (by simp [T.noImm]) ?_
      simp
      refine hookH_callX [0] [(2, .arr 3 (l.map sN.O)), (3, .arr 5 (es.map sE.O))] h3 (by simp [handedX, handedXA, handedXs, handedX1, T.closed]) (bk := []) (by simp [backX, backXA, backXs, backX1, T.closed]) rfl ok1 (by simp) (by simp [named]) (by simp [named]) ?_
      simp [dX]
      repeat refine need_mk (by decide +kernel) ?_
      exact fin_own (by simp; rfl) (by simp [List.take_of_length_le]) (by simp) (by simp)
  · refine ⟨.tup [.agg (sG.O zG), .i .i64 0, .b false], ?_, by simp [edgeAdd, g1, sG.toO]⟩
    obtain ⟨l, es, nn, ne⟩ := g
    refine via_spec_EdgeAdd (by simp) ?_
    simp [pc_spec_EdgeAdd]
    refine callK_val (by simp) h1 rfl ?_
    simp [g1]
    exact fin_own (by simp; rfl) (by simp [zG]) (by simp) (by simp [zG])
theorem EdgeAdd_c (g : Gr) (hf : g.fit) (hc : g.cnt ≤ 2 ^ 20) (kd : Tx) (hkd : ln kd) (fr to : Int) (ps : List Pr) (hps : ln ps ∧ ∀ x ∈ ps, x.fit) (hcp : cl Pr.cnt ps ≤ 2 ^ 20) :
    Rv Try.prog 49 [.agg (sG.I g), .s kd, .i .i64 fr, .i .i64 to, .imm (ps.map sP.I)] (.tup [.agg (sG.O (edgeAdd g kd fr to ps).1), .i .i64 (edgeAdd g kd fr to ps).2.1, .b (edgeAdd g kd fr to ps).2.2]) := by
  have ok1 : okCall Try.prog 76 = true := by kernel_rfl
  have h1 := GraphOk_c g hf
  have h2 := cloneOk hf hc
  have h3 := NameOk_c kd hkd
  have h4 := propsOk_c ps hps.1 hps.2
  have hl0 : g.nodes.length ≤ 2 ^ 20 := by unfold Gr.cnt cl at hc; omega
  have hl1 : g.edges.length ≤ 2 ^ 20 := by unfold Gr.cnt cl at hc; omega
  have h5 := placeN_c g.nodes (by omega) fr
  have h6 := placeN_c g.nodes (by omega) to
  have hi := hf.2.2.2.2.2
  have hlp : ps.length ≤ 2 ^ 20 := by unfold cl at hcp; omega
  have h7 := fun c2 => cloneProps_c ps hlp (fun p hp => by
    have h2 := sums_mem (c := Pr.cnt) hp
    have h3 : p.cnt = p.name.length + p.val.cnt := rfl
    unfold cl at hcp
    exact cloneValue_c p.val (hps.2 p hp).2 (by omega) (PropsOk.val c2 p hp))
  by_cases g1 : GOk g
  · replace h2 := h2 g1
    have eno : ¬ addEOk g kd fr to ps → edgeAdd g kd fr to ps = (g, 0, false) := fun h => by simp [edgeAdd, eAdd, g1, h]
    have eyes : addEOk g kd fr to ps → edgeAdd g kd fr to ps = (gAddE g kd fr to ps, g.ne, true) := fun h => by simp [edgeAdd, eAdd, g1, h]
    obtain ⟨l, es, nn, ne⟩ := g
    simp only at hi hl1 hl0 h5 h6
    refine via_impl_EdgeAdd (by simp) ?_
    by_cases c1 : nameOk kd = true
    · by_cases c2 : PropsOk ps
      · by_cases c3 : (es.length : Int) < 16
        · have d3 : ¬ 16 ≤ (es.length : Int) := by omega
          by_cases c4 : ne < 1000000000
          · have d4 : ¬ 1000000000 ≤ ne := by omega
            by_cases c5 : 0 ≤ posOf Nd.id fr l
            · have d5 : ¬ posOf Nd.id fr l < 0 := by omega
              by_cases c6 : 0 ≤ posOf Nd.id to l
              · have d6 : ¬ posOf Nd.id to l < 0 := by omega
                have hyes : addEOk ⟨l, es, nn, ne⟩ kd fr to ps := ⟨c1, c2, c5, c6, by simp only; omega, c4⟩
                rw [eyes hyes]
                replace h7 := h7 c2
                have hw : IntKind.i64.wrap (ne + 1) = ne + 1 := wrap64 (by have := hi.1; omega) (by omega)
                have hb2 : (es.length + 1) * 64 ≤ 35184372088832 := by omega
                simp [pc_impl_EdgeAdd, g1]
                refine callK_val (by simp) h1 rfl ?_
                simp [g1]
                refine callK_val (by simp) h2 (by simp [T.noImm]) ?_
                simp [g1]
                refine callK_val (by simp) h3 rfl ?_
                simp [g1, c1]
                refine callK_val (by simp) h4 rfl ?_
                simp [g1, c1, c2, c3, d3, c4, d4]
                refine hookH_view (nodesOf_v (.imm (l.map sN.I)) (.imm (es.map sE.I)) rfl rfl nn ne) rfl ok1 (by simp) ?_
                simp [g1, c1, c2, c3, d3, c4, d4]
                repeat refine need_mk (by decide +kernel) ?_
                refine callK_val (by simp) h5 rfl ?_
                simp [g1, c1, c2, c3, d3, c4, d4, c5, d5]
                refine callK_val (by simp) h6 rfl ?_
                simp [g1, c1, c2, c3, d3, c4, d4, c5, d5, c6, d6, hb2, hw]
                repeat refine need_mk (by decide +kernel) ?_
                refine callK_val (by simp) h7 (by simp [T.noImm]) ?_
                simp [g1, c1, c2, c3, d3, c4, d4, c5, d5, c6, d6, hb2, hw]
                repeat refine need_mk (by decide +kernel) ?_
                have hA : (es.map sE.O).length = es.length := by simp
                have hg2 := app1_get hA
                have hs3 := app1_set hA
                refine fin_wk (Wk.join (b := 88) (r := es.length) (cs := sE.O ⟨ne, kd, fr, to, ps⟩) rfl (by simp [hg2]; rfl) (by simp) (by simp)) ?_
                simp [hs3]
                exact fin_own (by simp; rfl) (by simp [gAddE, List.take_of_length_le]) (by simp) (by simp [gAddE])
              · have d6 : posOf Nd.id to l < 0 := by omega
                rw [eno fun h => c6 h.2.2.2.1]
                simp [pc_impl_EdgeAdd, g1]
                refine callK_val (by simp) h1 rfl ?_
                simp [g1]
                refine callK_val (by simp) h2 (by simp [T.noImm]) ?_
                simp [g1]
                refine callK_val (by simp) h3 rfl ?_
                simp [g1, c1]
                refine callK_val (by simp) h4 rfl ?_
                simp [g1, c1, c2, c3, d3, c4, d4]
                refine hookH_view (nodesOf_v (.imm (l.map sN.I)) (.imm (es.map sE.I)) rfl rfl nn ne) rfl ok1 (by simp) ?_
                simp [g1, c1, c2, c3, d3, c4, d4]
                repeat refine need_mk (by decide +kernel) ?_
                refine callK_val (by simp) h5 rfl ?_
                simp [g1, c1, c2, c3, d3, c4, d4, c5, d5]
                refine callK_val (by simp) h6 rfl ?_
                simp [g1, c1, c2, c3, d3, c4, d4, c5, d5, c6, d6]
                exact fin_own (by simp; rfl) (by simp) (by simp) (by simp)
            · have d5 : posOf Nd.id fr l < 0 := by omega
              rw [eno fun h => c5 h.2.2.1]
              simp [pc_impl_EdgeAdd, g1]
              refine callK_val (by simp) h1 rfl ?_
              simp [g1]
              refine callK_val (by simp) h2 (by simp [T.noImm]) ?_
              simp [g1]
              refine callK_val (by simp) h3 rfl ?_
              simp [g1, c1]
              refine callK_val (by simp) h4 rfl ?_
              simp [g1, c1, c2, c3, d3, c4, d4]
              refine hookH_view (nodesOf_v (.imm (l.map sN.I)) (.imm (es.map sE.I)) rfl rfl nn ne) rfl ok1 (by simp) ?_
              simp [g1, c1, c2, c3, d3, c4, d4]
              repeat refine need_mk (by decide +kernel) ?_
              refine callK_val (by simp) h5 rfl ?_
              simp [g1, c1, c2, c3, d3, c4, d4, c5, d5]
              exact fin_own (by simp; rfl) (by simp) (by simp) (by simp)
          · have d4 : 1000000000 ≤ ne := by omega
            rw [eno fun h => c4 h.2.2.2.2.2]
            simp [pc_impl_EdgeAdd, g1]
            refine callK_val (by simp) h1 rfl ?_
            simp [g1]
            refine callK_val (by simp) h2 (by simp [T.noImm]) ?_
            simp [g1]
            refine callK_val (by simp) h3 rfl ?_
            simp [g1, c1]
            refine callK_val (by simp) h4 rfl ?_
            simp [g1, c1, c2, c3, d3, c4, d4]
            exact fin_own (by simp; rfl) (by simp) (by simp) (by simp)
        · have d3 : 16 ≤ (es.length : Int) := by omega
          rw [eno fun h => c3 (by have := h.2.2.2.2.1; simp only at this; omega)]
          simp [pc_impl_EdgeAdd, g1]
          refine callK_val (by simp) h1 rfl ?_
          simp [g1]
          refine callK_val (by simp) h2 (by simp [T.noImm]) ?_
          simp [g1]
          refine callK_val (by simp) h3 rfl ?_
          simp [g1, c1]
          refine callK_val (by simp) h4 rfl ?_
          simp [g1, c1, c2, c3, d3]
          exact fin_own (by simp; rfl) (by simp) (by simp) (by simp)
      · rw [eno fun h => c2 h.2.1]
        simp [pc_impl_EdgeAdd, g1]
        refine callK_val (by simp) h1 rfl ?_
        simp [g1]
        refine callK_val (by simp) h2 (by simp [T.noImm]) ?_
        simp [g1]
        refine callK_val (by simp) h3 rfl ?_
        simp [g1, c1]
        refine callK_val (by simp) h4 rfl ?_
        simp [g1, c1, c2]
        exact fin_own (by simp; rfl) (by simp) (by simp) (by simp)
    · rw [eno fun h => c1 h.1]
      simp [pc_impl_EdgeAdd, g1]
      refine callK_val (by simp) h1 rfl ?_
      simp [g1]
      refine callK_val (by simp) h2 (by simp [T.noImm]) ?_
      simp [g1]
      refine callK_val (by simp) h3 rfl ?_
      simp [g1, c1]
      exact fin_own (by simp; rfl) (by simp) (by simp) (by simp)
  · have e1 : edgeAdd g kd fr to ps = (zG, 0, false) := by simp [edgeAdd, g1]
    rw [e1]
    obtain ⟨l, es, nn, ne⟩ := g
    refine via_impl_EdgeAdd (by simp) ?_
    simp [pc_impl_EdgeAdd]
    refine callK_val (by simp) h1 rfl ?_
    simp [g1]
    exact fin_own (by simp; rfl) (by simp [zG]) (by simp) (by simp [zG])
theorem nameOk_len {s : Tx} (h : nameOk s = true) : s.length ≤ 8 := by
  cases s with
  | nil => simp [nameOk] at h
  | cons c r =>
    simp only [nameOk, Bool.and_eq_true, decide_eq_true_eq] at h
    have := h.1.2
    simp only [List.length_cons]; omega
end Go.Proofs.Ytcchmhmbjhgfdaa.V
