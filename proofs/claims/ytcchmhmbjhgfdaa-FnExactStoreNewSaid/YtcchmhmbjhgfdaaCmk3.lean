/- Marks of graphs, values, numbers. -/
import Derived.Test.YtcchmhmbjhgfdaaCmk2
namespace Go.Proofs.Ytcchmhmbjhgfdaa.V
open Go
set_option linter.unusedVariables false
set_option linter.unusedSimpArgs false
set_option maxHeartbeats 4000000
def mkG (k : Int) : Gr → Gr × Int
  | ⟨a, b, c, d⟩ => (⟨(mkL mkN k a).1, (mkL mkE (mkL mkN k a).2 b).1, c, d⟩, (mkL mkE (mkL mkN k a).2 b).2)
theorem markGraph_c (g : Gr) (k : Int) (h0 : 0 ≤ k) (h : k + 8 * g.cnt ≤ 2 ^ 50) : Ret Try.prog 23 [.agg (sG.O g), .i .i64 k] (.i .i64 (mkG k g).2) [.agg [.own 3 ((mkG k g).1.nodes.map sN.O), .own 5 ((mkG k g).1.edges.map sE.O), .dead, .dead], .dead] := by
  obtain ⟨a, b, c, d⟩ := g
  simp only [Gr.cnt] at h
  have hf1 := Far.list (m := mkN) (c := Nd.cnt) (l := a) (fun v _ => far_node v) k
  have h1 := markNodeS_c a k h0 (by omega)
  have h2 := markEdgeS_c b (mkL mkN k a).2 (by omega) (by omega)
  have hm1 := mkL_len (m := mkN) a k
  have hm2 := mkL_len (m := mkE) b (mkL mkN k a).2
  refine via_laws_markGraph (by simp) ?_
  simp [pc_laws_markGraph, mkG]
  refine callK_mut (by simp) h1 (by simp [hm1]; rfl) (by simp) (by simp) rfl (by simp [T.noImm]) ?_
  simp
  refine callK_mut (by simp) h2 (by simp [hm2]; rfl) (by simp) (by simp) rfl (by simp [T.noImm]) ?_
  simp
  refine fin_ret (ts := []) rfl (by simp) (by simp [hm1, hm2]) (by simp)
theorem heldGraph_c (g : Gr) (k : Int) (h0 : 0 ≤ k) (h : k + 8 * g.cnt ≤ 2 ^ 50) : Rv Try.prog 47 [.agg (sG.I (mkG k g).1), .i .i64 k] (.i .i64 (mkG k g).2) := by
  obtain ⟨a, b, c, d⟩ := g
  simp only [Gr.cnt] at h
  have hf1 := Far.list (m := mkN) (c := Nd.cnt) (l := a) (fun v _ => far_node v) k
  have hf2 := Far.list (m := mkE) (c := Eg.cnt) (l := b) (fun v _ => far_edge v) (mkL mkN k a).2
  have n1 : ¬ (mkL mkN k a).2 < 0 := by omega
  have n2 : ¬ (mkL mkE (mkL mkN k a).2 b).2 < 0 := by omega
  refine via_laws_heldGraph (by simp) ?_
  simp [pc_laws_heldGraph, mkG]
  refine callK_val (by simp) (heldNodeS_c a k h0 (by omega)) rfl ?_
  simp [n1]
  refine callK_val (by simp) (heldEdgeS_c b (mkL mkN k a).2 (by omega) (by omega)) rfl ?_
  simp [n2]
  exact fin_val rfl (by simp) (by simp)
theorem markValue_c (v : Vl) (k : Int) (h0 : 0 ≤ k) (h : k + 8 * v.cnt ≤ 2 ^ 50) : Ret Try.prog 33 [.agg (sV.O v), .i .i64 k] (.i .i64 (mkL mkV k v.l).2) [.agg [.dead, .dead, .dead, .own 4 ((mkL mkV k v.l).1.map sV.O)], .dead] := by
  obtain ⟨a, b, s, l⟩ := v
  rw [Vl.cnt_mk] at h
  simp only [Vl.l]
  have hm1 := mkL_len (m := mkV) l k
  refine via_laws_markValue (by simp) ?_
  simp [pc_laws_markValue]
  refine callK_mut (by simp) (markValueS_c l k h0 (by omega)) (by simp [hm1]; rfl) (by simp) (by simp) rfl (by simp [T.noImm]) ?_
  simp
  refine fin_ret (ts := []) rfl (by simp) (by simp [hm1]) (by simp)
theorem heldValue_c (v w : Vl) (k : Int) (h0 : 0 ≤ k) (h : k + 8 * v.cnt ≤ 2 ^ 50) (hw : w.l = (mkL mkV k v.l).1) : Rv Try.prog 34 [.agg (sV.I w), .i .i64 k] (.i .i64 (mkL mkV k v.l).2) := by
  obtain ⟨a, b, s, l⟩ := v
  obtain ⟨a', b', s', l'⟩ := w
  rw [Vl.cnt_mk] at h
  simp only [Vl.l] at hw ⊢
  subst hw
  have hf1 := Far.list (m := mkV) (c := Vl.cnt) (l := l) (fun v _ => far_val v) k
  have n1 : ¬ (mkL mkV k l).2 < 0 := by omega
  refine via_laws_heldValue (by simp) ?_
  simp [pc_laws_heldValue]
  refine callK_val (by simp) (heldValueS_c l k h0 (by omega)) rfl ?_
  simp [n1]
  exact fin_val rfl (by simp) (by simp)
/-! ### numbers -/
def mkI (k : Int) (_ : Int) : Int × Int := (k, k + 1)
theorem far_int (x : Int) : ∀ k, k ≤ (mkI k x).2 ∧ (mkI k x).2 ≤ k + 8 * (1 + (0 : Nat)) := by
  intro k; simp only [mkI]; omega
theorem markIntS_c (l : List Int) (k : Int) (h0 : 0 ≤ k) (h : k + 8 * cl (fun _ => 0) l ≤ 2 ^ 50) : Ret Try.prog 24 [.own 1 (l.map sI.O), .i .i64 k] (.i .i64 (mkL mkI k l).2) [.own 1 ((mkL mkI k l).1.map sI.O), .dead] := by
  have hll : l.length ≤ cl (fun _ => 0) l := by unfold cl; omega
  refine via_laws_markIntS (by simp) ?_
  simp [pc_laws_markIntS]
  refine W_for (fun i => ⟨[(5, .i .i64 i), (1, .i .i64 (kAt mkI k l i)), (0, .ref 0 0 l.length)], [(0, .arr 1 ((pAt mkI k l i).map sI.O ++ (l.map sI.O).drop i))], 1, 1⟩) l.length (fun i => True) (Wk.less rfl (by simp) (by simp [kAt, mkL]) (by simp [pAt, mkL])) trivial ?_
  intro i hi _
  rcases Nat.lt_or_ge i l.length with h1 | h1
  · obtain ⟨x, hx⟩ : ∃ x, l[i]? = some x := ⟨_, List.getElem?_eq_getElem h1⟩
    have hw : IntKind.i64.wrap ((i : Int) + 1) = (i : Int) + 1 := wrap1 (by omega)
    have hf := Far.at (c := fun _ => 0) (fun v _ => far_int v) hx (k := k)
    have hk1 := kAt_succ (m := mkI) (k := k) hx
    have hp1 := pAt_succ (m := mkI) (k := k) hx
    have hpl := pAt_len mkI (k := k) hi
    generalize kAt mkI k l i = q at *
    generalize hP : pAt mkI k l i = p at *
    rw [drop_eq (l := l.map sI.O) (x := sI.O x) (by simp [hx])]
    have hg : ∀ r, ((p.map sI.O) ++ r :: (l.map sI.O).drop (i + 1))[i]? = some r := fun r => by rw [List.getElem?_append_right (by simp; omega)]; simp [hpl]
    have hs : ∀ r r', ((p.map sI.O) ++ r :: (l.map sI.O).drop (i + 1)).set i r' = (p.map sI.O) ++ r' :: (l.map sI.O).drop (i + 1) := fun r r' => by rw [List.set_append_right _ _ (by simp; omega)]; simp [hpl]
    have hcB := sI.crO (l.drop (i + 1))
    rw [List.map_drop] at hcB
    generalize hB : (l.map sI.O).drop (i + 1) = B at *
    simp only [mkI] at hk1 hp1
    have hw0 : IntKind.i64.wrap (q + 1) = q + 1 := by rw [wrap64 (by omega) (by omega)]
    simp [-getElem?_pos, hw, h1, hg, hw0, hs]
    exact Wk.to1 rfl (by simp) (by simp [hk1]) (by simp [hs, hp1]) (by simp [hcB]) (by omega)
  · have h2 : ¬ i < l.length := by omega
    have e : List.drop i (l.map sI.O) = [] := List.drop_of_length_le (by simp; omega)
    simp [h2, e]
    refine fin_ret (ts := []) rfl (by simp [kAt_all h1]) (by simp [pAt_all h1, e, mkL_len]) (by simp)
theorem heldIntS_c (l : List Int) (k : Int) (h0 : 0 ≤ k) (h : k + 8 * cl (fun _ => 0) l ≤ 2 ^ 50) : Rv Try.prog 25 [.imm ((mkL mkI k l).1.map sI.I), .i .i64 k] (.i .i64 (mkL mkI k l).2) := by
  have hll : l.length ≤ cl (fun _ => 0) l := by unfold cl; omega
  refine via_laws_heldIntS (by simp) ?_
  simp [pc_laws_heldIntS]
  have hml := mkL_len (m := mkI) l k
  refine W_for (fun i => ⟨[(5, .i .i64 i), (1, .i .i64 (kAt mkI k l i)), (0, .imm ((mkL mkI k l).1.map sI.I))], [], 0, 0⟩) l.length (fun i => True) (Wk.less rfl (by simp) (by simp [kAt, mkL]) (by simp)) trivial ?_
  intro i hi _
  rcases Nat.lt_or_ge i l.length with h1 | h1
  · obtain ⟨x, hx⟩ : ∃ x, l[i]? = some x := ⟨_, List.getElem?_eq_getElem h1⟩
    have hw : IntKind.i64.wrap ((i : Int) + 1) = (i : Int) + 1 := wrap1 (by omega)
    have hf := Far.at (c := fun _ => 0) (fun v _ => far_int v) hx (k := k)
    have hk1 := kAt_succ (m := mkI) (k := k) hx
    have hg := mkL_get (m := mkI) (k := k) hx
    generalize kAt mkI k l i = q at *
    generalize hR : (mkL mkI k l).1 = R at *
    simp only [mkI] at hk1 hg
    have hw0 : IntKind.i64.wrap (q + 1) = q + 1 := by rw [wrap64 (by omega) (by omega)]
    simp [-getElem?_pos, hml, hw, h1, hg, hw0]
    exact Wk.to rfl (by simp) (by simp [hk1]) (by simp) (by simp)
  · have h2 : ¬ i < l.length := by omega
    simp [h2, hml]
    exact fin_val rfl (by simp [kAt_all h1]) (by simp)
theorem eqIntS_c (l : List Int) (hl : l.length ≤ 2 ^ 62) : Rv Try.prog 22 [.imm (l.map sI.I), .imm (l.map sI.I)] (.b true) := by
  refine via_laws_eqIntS (by simp) ?_
  simp [pc_laws_eqIntS]
  refine W_for (fun i => ⟨[(5, .i .i64 i), (0, .imm (l.map sI.I)), (1, .imm (l.map sI.I))], [], 0, 0⟩) l.length (fun i => True) (Wk.less rfl (by simp) (by simp) (by simp)) trivial ?_
  intro i hi _
  rcases Nat.lt_or_ge i l.length with h1 | h1
  · obtain ⟨x, hx⟩ : ∃ x, l[i]? = some x := ⟨_, List.getElem?_eq_getElem h1⟩
    have hw : IntKind.i64.wrap ((i : Int) + 1) = (i : Int) + 1 := wrap1 (by omega)
    simp [-getElem?_pos, hx, hw, h1]
    exact Wk.to rfl (by simp) (by simp) (by simp) (by simp)
  · have h2 : ¬ i < l.length := by omega
    simp [h2]
    exact fin_val rfl (by simp) (by simp)
end Go.Proofs.Ytcchmhmbjhgfdaa.V
