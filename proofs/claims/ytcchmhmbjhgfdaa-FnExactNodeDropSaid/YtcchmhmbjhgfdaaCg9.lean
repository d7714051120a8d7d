/- Nodes added: the two functions. -/
import Derived.Test.YtcchmhmbjhgfdaaCg8
namespace Go.Proofs.Ytcchmhmbjhgfdaa.V
open Go
set_option linter.unusedVariables false
set_option linter.unusedSimpArgs false
set_option maxHeartbeats 16000000
theorem specNodeAdd_c (g : Gr) (hf : g.fit) (hc : g.cnt ≤ 2 ^ 20) (lb : List Tx) (hlb : ln lb ∧ ∀ x ∈ lb, ln x) (ps : List Pr) (hps : ln ps ∧ ∀ x ∈ ps, x.fit) (hcp : cl Pr.cnt ps ≤ 2 ^ 20) :
    Ri Try.prog 39 [.agg (sG.I g), .imm (lb.map sS.I), .imm (ps.map sP.I)] (.tup [.agg (sG.I (nodeAdd g lb ps).1), .i .i64 (nodeAdd g lb ps).2.1, .b (nodeAdd g lb ps).2.2]) := by
  have ok1 : okCall Try.prog 107 = true := by kernel_rfl
  have h1 := specGraphOk_c g hf
  have h2 := l2Copy_c g hc
  have hl1 : g.nodes.length ≤ 2 ^ 20 := by unfold Gr.cnt cl at hc; omega
  have h3 := l2AddNode_c g hf.2.2.2.2.1 (by omega) lb hlb ps hps hcp
  by_cases g1 : GOk g
  · refine ⟨.tup [.agg (sG.O (nAdd g lb ps).1), .i .i64 (nodeAdd g lb ps).2.1, .b (nodeAdd g lb ps).2.2], ?_, by simp [nodeAdd, g1, sG.toO]⟩
    by_cases g2 : addNOk g lb ps
    · have e1 : nAdd g lb ps = (gAddN g lb ps, true) := by simp [nAdd, g2]
      rw [e1] at h3 ⊢
      have e2 : (nodeAdd g lb ps).2.1 = g.nn := by simp [nodeAdd, g1, g2]
      have e3 : (nodeAdd g lb ps).2.2 = true := by simp [nodeAdd, g1, g2]
      rw [e2, e3]
      obtain ⟨l, es, nn, ne⟩ := g
      simp only [gAddN] at h3 ⊢
      refine via_spec_NodeAdd (by simp) ?_
      simp [pc_spec_NodeAdd]
      refine callK_val (by simp) h1 rfl ?_
      simp [g1]
      refine callK_val (by simp) h2 (by simp [T.noImm]) ?_
      simp
      refine hookH_callX [0] [(2, .arr 3 (l.map sN.O)), (3, .arr 5 (es.map sE.O))] h3 (by simp [handedX, handedXA, handedXs, handedX1, T.closed]) (bk := []) (by simp [backX, backXA, backXs, backX1, T.closed]) rfl ok1 (by simp) (by simp [named]) (by simp [named]) ?_
      simp [dX]
      repeat refine need_mk (by decide +kernel) ?_
      exact fin_own (by simp; rfl) (by simp [List.take_of_length_le]) (by simp) (by simp)
    · have e1 : nAdd g lb ps = (g, false) := by simp [nAdd, g2]
      rw [e1] at h3 ⊢
      have e2 : (nodeAdd g lb ps).2.1 = 0 := by simp [nodeAdd, g1, g2]
      have e3 : (nodeAdd g lb ps).2.2 = false := by simp [nodeAdd, g1, g2]
      rw [e2, e3]
      obtain ⟨l, es, nn, ne⟩ := g
      refine via_spec_NodeAdd (by simp) ?_
      simp [pc_spec_NodeAdd]
      refine callK_val (by simp) h1 rfl ?_
      simp [g1]
      refine callK_val (by simp) h2 (by simp [T.noImm]) ?_
      simp
      refine hookH_callX [0] [(2, .arr 3 (l.map sN.O)), (3, .arr 5 (es.map sE.O))] h3 (by simp [handedX, handedXA, handedXs, handedX1, T.closed]) (bk := []) (by simp [backX, backXA, backXs, backX1, T.closed]) rfl ok1 (by simp) (by simp [named]) (by simp [named]) ?_
      simp [dX]
      repeat refine need_mk (by decide +kernel) ?_
      exact fin_own (by simp; rfl) (by simp) (by simp) (by simp)
  · refine ⟨.tup [.agg (sG.O zG), .i .i64 0, .b false], ?_, by simp [nodeAdd, g1, sG.toO]⟩
    obtain ⟨l, es, nn, ne⟩ := g
    refine via_spec_NodeAdd (by simp) ?_
    simp [pc_spec_NodeAdd]
    refine callK_val (by simp) h1 rfl ?_
    simp [g1]
    exact fin_own (by simp; rfl) (by simp [zG]) (by simp) (by simp [zG])
theorem NodeAdd_c (g : Gr) (hf : g.fit) (hc : g.cnt ≤ 2 ^ 20) (lb : List Tx) (hlb : ln lb ∧ ∀ x ∈ lb, ln x) (ps : List Pr) (hps : ln ps ∧ ∀ x ∈ ps, x.fit) (hcp : cl Pr.cnt ps ≤ 2 ^ 20) :
    Rv Try.prog 42 [.agg (sG.I g), .imm (lb.map sS.I), .imm (ps.map sP.I)] (.tup [.agg (sG.O (nodeAdd g lb ps).1), .i .i64 (nodeAdd g lb ps).2.1, .b (nodeAdd g lb ps).2.2]) := by
  have h1 := GraphOk_c g hf
  have h2 := cloneOk hf hc
  have h3 := labelsOk_c lb hlb.1 hlb.2
  have h4 := propsOk_c ps hps.1 hps.2
  have hl1 : g.nodes.length ≤ 2 ^ 20 := by unfold Gr.cnt cl at hc; omega
  have hi := hf.2.2.2.2.1
  by_cases g1 : GOk g
  · replace h2 := h2 g1
    by_cases c1 : LabelsOk lb
    · by_cases c2 : PropsOk ps
      · have hl2 : lb.length ≤ 2 ^ 20 := by have := c1.2; omega
        have hlp : ps.length ≤ 2 ^ 20 := by unfold cl at hcp; omega
        have h5 := cloneTexts_c lb hl2
        have h6 := cloneProps_c ps hlp (fun p hp => by
          have h2 := sums_mem (c := Pr.cnt) hp
          have h3 : p.cnt = p.name.length + p.val.cnt := rfl
          unfold cl at hcp
          exact cloneValue_c p.val (hps.2 p hp).2 (by omega) (PropsOk.val c2 p hp))
        by_cases c3 : 12 ≤ (g.nodes.length : Int)
        · have hno : ¬ addNOk g lb ps := fun h => by have := h.2.2.1; omega
          have e1 : nodeAdd g lb ps = (g, 0, false) := by simp [nodeAdd, nAdd, g1, hno]
          rw [e1]
          obtain ⟨l, es, nn, ne⟩ := g
          refine via_impl_NodeAdd (by simp) ?_
          simp [pc_impl_NodeAdd]
          refine callK_val (by simp) h1 rfl ?_
          simp [g1]
          refine callK_val (by simp) h2 (by simp [T.noImm]) ?_
          simp
          refine callK_val (by simp) h3 rfl ?_
          simp [c1]
          refine callK_val (by simp) h4 rfl ?_
          simp [c1, c2, c3]
          exact fin_own (by simp; rfl) (by simp) (by simp) (by simp)
        · by_cases c4 : 1000000000 ≤ g.nn
          · have hno : ¬ addNOk g lb ps := fun h => by have := h.2.2.2; omega
            have e1 : nodeAdd g lb ps = (g, 0, false) := by simp [nodeAdd, nAdd, g1, hno]
            rw [e1]
            obtain ⟨l, es, nn, ne⟩ := g
            refine via_impl_NodeAdd (by simp) ?_
            simp [pc_impl_NodeAdd]
            refine callK_val (by simp) h1 rfl ?_
            simp [g1]
            refine callK_val (by simp) h2 (by simp [T.noImm]) ?_
            simp
            refine callK_val (by simp) h3 rfl ?_
            simp [c1]
            refine callK_val (by simp) h4 rfl ?_
            simp [c1, c2, c3, c4]
            exact fin_own (by simp; rfl) (by simp) (by simp) (by simp)
          · have hyes : addNOk g lb ps := ⟨c1, c2, by omega, by omega⟩
            have e1 : nodeAdd g lb ps = (gAddN g lb ps, g.nn, true) := by simp [nodeAdd, nAdd, g1, hyes]
            rw [e1]
            obtain ⟨l, es, nn, ne⟩ := g
            simp only at hi hl1 c3 c4
            have hw : IntKind.i64.wrap (nn + 1) = nn + 1 := wrap64 (by have := hi.1; omega) (by omega)
            have hb2 : (l.length + 1) * 56 ≤ 35184372088832 := by omega
            refine via_impl_NodeAdd (by simp) ?_
            simp [pc_impl_NodeAdd]
            refine callK_val (by simp) h1 rfl ?_
            simp [g1]
            refine callK_val (by simp) h2 (by simp [T.noImm]) ?_
            simp
            refine callK_val (by simp) h3 rfl ?_
            simp [c1]
            refine callK_val (by simp) h4 rfl ?_
            simp [c1, c2, c3, c4, hb2, hw]
            repeat refine need_mk (by decide +kernel) ?_
            refine callK_val (by simp) h5 (by simp [T.noImm]) ?_
            simp [c1, c2, c3, c4, hb2, hw]
            repeat refine need_mk (by decide +kernel) ?_
            refine callK_val (by simp) h6 (by simp [T.noImm]) ?_
            simp [c1, c2, c3, c4, hb2, hw]
            repeat refine need_mk (by decide +kernel) ?_
            have hA : (l.map sN.O).length = l.length := by simp
            have hg2 := app1_get hA
            have hs3 := app1_set hA
            refine fin_wk (Wk.join (b := 78) (r := l.length) (cs := sN.O ⟨nn, lb, ps⟩) rfl (by simp [hg2]; rfl) (by simp) (by simp)) ?_
            simp [hs3]
            exact fin_own (by simp; rfl) (by simp [gAddN, List.take_of_length_le]) (by simp) (by simp [gAddN])
      · have hno : ¬ addNOk g lb ps := fun h => c2 h.2.1
        have e1 : nodeAdd g lb ps = (g, 0, false) := by simp [nodeAdd, nAdd, g1, hno]
        rw [e1]
        obtain ⟨l, es, nn, ne⟩ := g
        refine via_impl_NodeAdd (by simp) ?_
        simp [pc_impl_NodeAdd]
        refine callK_val (by simp) h1 rfl ?_
        simp [g1]
        refine callK_val (by simp) h2 (by simp [T.noImm]) ?_
        simp
        refine callK_val (by simp) h3 rfl ?_
        simp [c1]
        refine callK_val (by simp) h4 rfl ?_
        simp [c1, c2]
        exact fin_own (by simp; rfl) (by simp) (by simp) (by simp)
    · have hno : ¬ addNOk g lb ps := fun h => c1 h.1
      have e1 : nodeAdd g lb ps = (g, 0, false) := by simp [nodeAdd, nAdd, g1, hno]
      rw [e1]
      obtain ⟨l, es, nn, ne⟩ := g
      refine via_impl_NodeAdd (by simp) ?_
      simp [pc_impl_NodeAdd]
      refine callK_val (by simp) h1 rfl ?_
      simp [g1]
      refine callK_val (by simp) h2 (by simp [T.noImm]) ?_
      simp
      refine callK_val (by simp) h3 rfl ?_
      simp [c1]
      exact fin_own (by simp; rfl) (by simp) (by simp) (by simp)
  · have e1 : nodeAdd g lb ps = (zG, 0, false) := by simp [nodeAdd, g1]
    rw [e1]
    obtain ⟨l, es, nn, ne⟩ := g
    refine via_impl_NodeAdd (by simp) ?_
    simp [pc_impl_NodeAdd]
    refine callK_val (by simp) h1 rfl ?_
    simp [g1]
    exact fin_own (by simp; rfl) (by simp [zG]) (by simp) (by simp [zG])
end Go.Proofs.Ytcchmhmbjhgfdaa.V
