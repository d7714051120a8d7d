/- Copies of what came in. -/
import Derived.Test.YtcchmhmbjhgfdaaCto
namespace Go.Proofs.Ytcchmhmbjhgfdaa.V
open Go
set_option linter.unusedVariables false
set_option linter.unusedSimpArgs false
set_option maxHeartbeats 2000000
theorem toValueS_of (l : List Vl) (hl : l.length ≤ 2 ^ 20) (h : ∀ v ∈ l, Rv Try.prog 30 [.agg (sV.I v)] (.agg (sV.O v))) : Rv Try.prog 96 [.imm (l.map sV.I)] (.own 4 (l.map sV.O)) :=
  via_laws_toValueS (by simp) (toS_gen sV (by rfl) (by rfl) (by omega) l hl h)
theorem toValue_c (v : Vl) : v.cnt ≤ 2 ^ 20 → Rv Try.prog 30 [.agg (sV.I v)] (.agg (sV.O v)) := by
  refine Vl.ind (p := fun v => v.cnt ≤ 2 ^ 20 → Rv Try.prog 30 [.agg (sV.I v)] (.agg (sV.O v))) ?_ v
  intro k n s l ih hc
  rw [Vl.cnt_mk] at hc
  unfold cl at hc
  refine via_laws_toValue (by simp) ?_
  simp [pc_laws_toValue]
  refine callK_val (by simp) (toValueS_of l (by omega) (fun v hv => ih v hv (by have := sums_mem (c := Vl.cnt) hv; omega))) (by simp [T.noImm]) ?_
  simp
  exact fin_own (by simp; rfl) (by simp) (by simp) (by simp)
theorem toValueS_c (l : List Vl) (hc : cl Vl.cnt l ≤ 2 ^ 20) : Rv Try.prog 96 [.imm (l.map sV.I)] (.own 4 (l.map sV.O)) := by
  unfold cl at hc
  exact toValueS_of l (by omega) (fun v hv => toValue_c v (by have := sums_mem (c := Vl.cnt) hv; omega))
theorem toProp_c (p : Pr) (hc : p.cnt ≤ 2 ^ 20) : Rv Try.prog 109 [.agg (sP.I p)] (.agg (sP.O p)) := by
  obtain ⟨s, v⟩ := p
  simp only [Pr.cnt] at hc
  refine via_laws_toProp (by simp) ?_
  simp [pc_laws_toProp]
  refine callK_val (by simp) (toValue_c v (by omega)) (by simp [T.noImm]) ?_
  obtain ⟨k, n, s', l⟩ := v
  simp
  exact fin_own (by simp; rfl) (by simp) (by simp) (by simp)
theorem toPropS_c (l : List Pr) (hc : cl Pr.cnt l ≤ 2 ^ 20) : Rv Try.prog 41 [.imm (l.map sP.I)] (.own 5 (l.map sP.O)) := by
  unfold cl at hc
  exact via_laws_toPropS (by simp) (toS_gen sP (by rfl) (by rfl) (by omega) l (by omega) (fun v hv => toProp_c v (by have := sums_mem (c := Pr.cnt) hv; omega)))
theorem toStringS_c (l : List Tx) (hl : cl List.length l ≤ 2 ^ 20) : Rv Try.prog 40 [.imm (l.map sS.I)] (.own 1 (l.map sS.O)) := by
  unfold cl at hl
  refine via_laws_toStringS (by simp) ?_
  have hb1 : (l.length : Int) * 16 ≤ 35184372088832 := by omega
  have hb2 : (l.length : Int) ≤ 35184372088832 := by omega
  simp [pc_laws_toStringS, hb1, hb2]
  refine W_for (fun i => ⟨[(4, .i .i64 i), (3, .ref 0 0 l.length), (0, .imm (l.map sS.I))], [(0, .arr 1 ((l.map sS.O).take i ++ List.replicate (l.length - i) [.s []]))], 1, 0⟩) l.length (fun i => True) (Wk.less rfl (by simp) (by simp) (by simp)) trivial ?_
  intro i hi _
  rcases Nat.lt_or_ge i l.length with h2 | h2
  · obtain ⟨v, hx⟩ : ∃ v, l[i]? = some v := ⟨_, List.getElem?_eq_getElem h2⟩
    have hw2 : IntKind.i64.wrap ((i : Int) + 1) = (i : Int) + 1 := wrap1 (by omega)
    have hrow := fill_row sS.O l (z := [.s []]) h2
    have hset := fill_set sS.O l (z := [.s []]) h2
    have hnew := fill_new sS.O hx
    simp [-getElem?_pos, hx, hw2, h2, hrow, hset]
    refine Wk.to1 rfl (by simp) (by simp) (by simp [hnew]) ?_ (by omega)
    exact fill_clean sS (by rfl) _ _
  · have h4 : ¬ i < l.length := by omega
    have h5 : l.length - i = 0 := by omega
    simp [h4]
    have e : (l.map sS.O).take i = l.map sS.O := List.take_of_length_le (by simp; omega)
    have e2 : (l.map sS.O).take l.length = l.map sS.O := List.take_of_length_le (by simp)
    exact fin_own (by simp; rfl) (by simp [e, e2, h5]) (by simp) (by simp)
theorem toNode_c (a : Nd) (hc : a.cnt ≤ 2 ^ 20) : Rv Try.prog 152 [.agg (sN.I a)] (.agg (sN.O a)) := by
  obtain ⟨i, l, p⟩ := a
  simp only [Nd.cnt] at hc
  refine via_laws_toNode (by simp) ?_
  simp [pc_laws_toNode]
  refine callK_val (by simp) (toStringS_c l (by omega)) (by simp [T.noImm]) ?_
  simp
  refine callK_val (by simp) (toPropS_c p (by omega)) (by simp [T.noImm]) ?_
  simp
  exact fin_own (by simp; rfl) (by simp) (by simp) (by simp)
theorem toNodeS_c (l : List Nd) (hc : cl Nd.cnt l ≤ 2 ^ 20) : Rv Try.prog 74 [.imm (l.map sN.I)] (.own 3 (l.map sN.O)) := by
  unfold cl at hc
  exact via_laws_toNodeS (by simp) (toS_gen sN (by rfl) (by rfl) (by omega) l (by omega) (fun v hv => toNode_c v (by have := sums_mem (c := Nd.cnt) hv; omega)))
theorem toEdge_c (a : Eg) (hc : a.cnt ≤ 2 ^ 20) : Rv Try.prog 153 [.agg (sE.I a)] (.agg (sE.O a)) := by
  obtain ⟨i, k, f, t, p⟩ := a
  simp only [Eg.cnt] at hc
  refine via_laws_toEdge (by simp) ?_
  simp [pc_laws_toEdge]
  refine callK_val (by simp) (toPropS_c p (by omega)) (by simp [T.noImm]) ?_
  simp
  exact fin_own (by simp; rfl) (by simp) (by simp) (by simp)
theorem toEdgeS_c (l : List Eg) (hc : cl Eg.cnt l ≤ 2 ^ 20) : Rv Try.prog 75 [.imm (l.map sE.I)] (.own 5 (l.map sE.O)) := by
  unfold cl at hc
  exact via_laws_toEdgeS (by simp) (toS_gen sE (by rfl) (by rfl) (by omega) l (by omega) (fun v hv => toEdge_c v (by have := sums_mem (c := Eg.cnt) hv; omega)))
theorem toGraph_c (a : Gr) (hc : a.cnt ≤ 2 ^ 20) : Rv Try.prog 17 [.agg (sG.I a)] (.agg (sG.O a)) := by
  obtain ⟨l, p, i, j⟩ := a
  simp only [Gr.cnt] at hc
  refine via_laws_toGraph (by simp) ?_
  simp [pc_laws_toGraph]
  refine callK_val (by simp) (toNodeS_c l (by omega)) (by simp [T.noImm]) ?_
  simp
  refine callK_val (by simp) (toEdgeS_c p (by omega)) (by simp [T.noImm]) ?_
  simp
  exact fin_own (by simp; rfl) (by simp) (by simp) (by simp)
end Go.Proofs.Ytcchmhmbjhgfdaa.V
