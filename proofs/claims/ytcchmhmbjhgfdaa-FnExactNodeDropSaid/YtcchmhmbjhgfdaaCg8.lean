/- Nodes added. -/
import Derived.Test.YtcchmhmbjhgfdaaCg7
namespace Go.Proofs.Ytcchmhmbjhgfdaa.V
open Go
set_option linter.unusedVariables false
set_option linter.unusedSimpArgs false
set_option maxHeartbeats 16000000
def gAddN (g : Gr) (lb : List Tx) (ps : List Pr) : Gr := ⟨g.nodes ++ [⟨g.nn, lb, ps⟩], g.edges, g.nn + 1, g.ne⟩
def addNOk (g : Gr) (lb : List Tx) (ps : List Pr) : Prop := LabelsOk lb ∧ PropsOk ps ∧ g.nodes.length < 12 ∧ g.nn < 1000000000
open Classical in
noncomputable def nAdd (g : Gr) (lb : List Tx) (ps : List Pr) : Gr × Bool := if addNOk g lb ps then (gAddN g lb ps, true) else (g, false)
open Classical in
noncomputable def nodeAdd (g : Gr) (lb : List Tx) (ps : List Pr) : Gr × Int × Bool :=
  if GOk g then ((nAdd g lb ps).1, if addNOk g lb ps then g.nn else 0, decide (addNOk g lb ps)) else (zG, 0, false)
theorem l2AddNode_c (g : Gr) (hi : i64 g.nn) (hl1 : g.nodes.length ≤ 2 ^ 40) (lb : List Tx) (hlb : ln lb ∧ ∀ x ∈ lb, ln x) (ps : List Pr) (hps : ln ps ∧ ∀ x ∈ ps, x.fit) (hcp : cl Pr.cnt ps ≤ 2 ^ 20) :
    Ret Try.prog 107 [.agg (sG.O g), .imm (lb.map sS.I), .imm (ps.map sP.I)] (.tup [.agg (sG.O (nAdd g lb ps).1), .b (nAdd g lb ps).2]) [.dead, .dead, .dead] := by
  have h1 := l2Labels_c lb hlb.1 hlb.2
  have h2 := l2Props_c ps hps.1 hps.2
  have hlp : ps.length ≤ 2 ^ 20 := by unfold cl at hcp; omega
  have h3 := l2Ps_c ps hlp (fun p hp => by
    have h2 := sums_mem (c := Pr.cnt) hp
    have h3 : p.cnt = p.name.length + p.val.cnt := rfl
    unfold cl at hcp; omega)
  obtain ⟨l, es, nn, ne⟩ := g
  simp only at hi hl1
  refine via_spec_l2AddNode (by simp) ?_
  by_cases c1 : LabelsOk lb
  · by_cases c2 : PropsOk ps
    · by_cases c3 : 12 ≤ (l.length : Int)
      · have hno : ¬ addNOk ⟨l, es, nn, ne⟩ lb ps := fun h => by have := h.2.2.1; simp only at this; omega
        simp [pc_spec_l2AddNode]
        refine callK_val (by simp) h1 rfl ?_
        simp [c1]
        refine callK_val (by simp) h2 rfl ?_
        simp [c1, c2, c3]
        exact fin_eaten (by simp; rfl) (by simp [nAdd, hno]) (by simp [nAdd, hno])
      · by_cases c4 : 1000000000 ≤ nn
        · have hno : ¬ addNOk ⟨l, es, nn, ne⟩ lb ps := fun h => by have := h.2.2.2; simp only at this; omega
          simp [pc_spec_l2AddNode]
          refine callK_val (by simp) h1 rfl ?_
          simp [c1]
          refine callK_val (by simp) h2 rfl ?_
          simp [c1, c2, c3, c4]
          exact fin_eaten (by simp; rfl) (by simp [nAdd, hno]) (by simp [nAdd, hno])
        · have hyes : addNOk ⟨l, es, nn, ne⟩ lb ps := ⟨c1, c2, by simp only; omega, by simp only; omega⟩
          have hw : IntKind.i64.wrap (nn + 1) = nn + 1 := wrap64 (by have := hi.1; omega) (by omega)
          have hb1 : lb.length * 16 ≤ 35184372088832 := by have := c1.2; omega
          have hb2 : (l.length + 1) * 56 ≤ 35184372088832 := by omega
          simp [pc_spec_l2AddNode]
          refine callK_val (by simp) h1 rfl ?_
          simp [c1]
          refine callK_val (by simp) h2 rfl ?_
          simp [c1, c2, c3, c4, hb1, hb2, hw]
          repeat refine need_mk (by decide +kernel) ?_
          refine callK_val (by simp) h3 (by simp [T.noImm]) ?_
          simp [c1, c2, c3, c4, hb1, hb2, hw]
          repeat refine need_mk (by decide +kernel) ?_
          have hA : (l.map sN.O).length = l.length := by simp
          have hg2 := app1_get hA
          have hs3 := app1_set hA
          have hSS : lb.map sS.I = lb.map sS.O := rfl
          refine fin_wk (Wk.join (b := 92) (r := l.length) (cs := sN.O ⟨nn, lb, ps⟩) rfl (by simp [hg2]; rfl) (by simp [hSS]) (by simp)) ?_
          simp [hs3]
          exact fin_eaten (by simp; rfl) (by simp [nAdd, hyes, gAddN, List.take_of_length_le]) (by simp [nAdd, hyes, gAddN])
    · have hno : ¬ addNOk ⟨l, es, nn, ne⟩ lb ps := fun h => c2 h.2.1
      simp [pc_spec_l2AddNode]
      refine callK_val (by simp) h1 rfl ?_
      simp [c1]
      refine callK_val (by simp) h2 rfl ?_
      simp [c1, c2]
      exact fin_eaten (by simp; rfl) (by simp [nAdd, hno]) (by simp [nAdd, hno])
  · have hno : ¬ addNOk ⟨l, es, nn, ne⟩ lb ps := fun h => c1 h.1
    simp [pc_spec_l2AddNode]
    refine callK_val (by simp) h1 rfl ?_
    simp [c1]
    exact fin_eaten (by simp; rfl) (by simp [nAdd, hno]) (by simp [nAdd, hno])
end Go.Proofs.Ytcchmhmbjhgfdaa.V
