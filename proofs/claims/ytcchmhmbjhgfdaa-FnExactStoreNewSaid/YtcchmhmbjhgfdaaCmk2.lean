/- Marks of props, nodes, edges: printed by a program of this claim's writer (wip/gen/marks.py). -/
import Derived.Test.YtcchmhmbjhgfdaaCmk
namespace Go.Proofs.Ytcchmhmbjhgfdaa.V
open Go
set_option linter.unusedVariables false
set_option linter.unusedSimpArgs false
set_option maxHeartbeats 4000000
theorem far_strv (x : Tx) : ∀ k, k ≤ (mkStr k x).2 ∧ (mkStr k x).2 ≤ k + 8 * (1 + List.length x) := far_str [x] x (by simp)
def mkP (k : Int) : Pr → Pr × Int
  | ⟨nm, .mk a b s l1⟩ => (⟨(mt k), .mk (k + 1) (k + 2) (mt (k + 3)) (mkL mkV (k + 4) l1).1⟩, (mkL mkV (k + 4) l1).2)
theorem far_prop (x : Pr) : ∀ k, k ≤ (mkP k x).2 ∧ (mkP k x).2 ≤ k + 8 * (1 + Pr.cnt x) := by
  intro k
  obtain ⟨nm, ⟨a, b, s, l1⟩⟩ := x
  simp only [mkP, Pr.cnt, Vl.cnt_mk]
  have h_l1 := Far.list (m := mkV) (c := Vl.cnt) (l := l1) (fun v _ => far_val v) (k + 4)
  omega
theorem markPropS_c (l : List Pr) (k : Int) (h0 : 0 ≤ k) (h : k + 8 * cl Pr.cnt l ≤ 2 ^ 50) : Ret Try.prog 46 [.own 5 (l.map sP.O), .i .i64 k] (.i .i64 (mkL mkP k l).2) [.own 5 ((mkL mkP k l).1.map sP.O), .dead] := by
  have hll : l.length ≤ cl Pr.cnt l := by unfold cl; omega
  refine via_laws_markPropS (by simp) ?_
  simp [pc_laws_markPropS]
  refine W_for (fun i => ⟨[(5, .i .i64 i), (1, .i .i64 (kAt mkP k l i)), (0, .ref 0 0 l.length)], [(0, .arr 5 ((pAt mkP k l i).map sP.O ++ (l.map sP.O).drop i))], 1, 1⟩) l.length (fun i => True) (Wk.less rfl (by simp) (by simp [kAt, mkL]) (by simp [pAt, mkL])) trivial ?_
  intro i hi _
  rcases Nat.lt_or_ge i l.length with h1 | h1
  · obtain ⟨x, hx⟩ : ∃ x, l[i]? = some x := ⟨_, List.getElem?_eq_getElem h1⟩
    have hw : IntKind.i64.wrap ((i : Int) + 1) = (i : Int) + 1 := wrap1 (by omega)
    have hf := Far.at (c := Pr.cnt) (fun v _ => far_prop v) hx (k := k)
    have hk1 := kAt_succ (m := mkP) (k := k) hx
    have hp1 := pAt_succ (m := mkP) (k := k) hx
    have hpl := pAt_len mkP (k := k) hi
    generalize kAt mkP k l i = q at *
    generalize hP : pAt mkP k l i = p at *
    rw [drop_eq (l := l.map sP.O) (x := sP.O x) (by simp [hx])]
    have hg : ∀ r, ((p.map sP.O) ++ r :: (l.map sP.O).drop (i + 1))[i]? = some r := fun r => by rw [List.getElem?_append_right (by simp; omega)]; simp [hpl]
    have hs : ∀ r r', ((p.map sP.O) ++ r :: (l.map sP.O).drop (i + 1)).set i r' = (p.map sP.O) ++ r' :: (l.map sP.O).drop (i + 1) := fun r r' => by rw [List.set_append_right _ _ (by simp; omega)]; simp [hpl]
    have hcB := sP.crO (l.drop (i + 1))
    rw [List.map_drop] at hcB
    generalize hB : (l.map sP.O).drop (i + 1) = B at *
    obtain ⟨nm, ⟨a, b, s, l1⟩⟩ := x
    simp only [Pr.cnt, Vl.cnt_mk] at hf
    simp only [mkP] at hk1 hp1
    have hc_l1 := markValueS_c l1 (q + 4)
    have hw0 : IntKind.i64.wrap (q + 1) = q + 1 := by rw [wrap64 (by omega) (by omega)]
    have hw1 : IntKind.i64.wrap (q + 1 + 1) = q + 2 := by rw [wrap64 (by omega) (by omega)]; omega
    have hw2 : IntKind.i64.wrap (q + 2 + 1) = q + 3 := by rw [wrap64 (by omega) (by omega)]; omega
    have hw3 : IntKind.i64.wrap (q + 3 + 1) = q + 4 := by rw [wrap64 (by omega) (by omega)]; omega
    have hf_l1 := Far.list (m := mkV) (c := Vl.cnt) (l := l1) (fun v _ => far_val v) (q + 4)
    have hml_l1 := mkL_len (m := mkV) l1 (q + 4)
    generalize hK_l1 : (mkL mkV (q + 4) l1).2 = k1 at *
    generalize hM_l1 : (mkL mkV (q + 4) l1).1 = ml1 at *
    have hneg_l1 : ¬ k1 < 0 := by omega
    simp [-getElem?_pos, hw, h1, hg, hw0, hw1, hw2, hw3, hs]
    refine callK_val (by simp) (markText_c q (by omega)) rfl ?_
    simp [-getElem?_pos, hw, h1, hg, hw0, hw1, hw2, hw3, hs]
    refine callK_val (by simp) (markText_c (q + 3) (by omega)) rfl ?_
    simp [-getElem?_pos, hw, h1, hg, hw0, hw1, hw2, hw3, hs]
    refine callK_mut (by simp) (hc_l1 (by omega) (by omega)) (by simp [hml_l1]; rfl) (by simp) (by simp) rfl (by simp [T.noImm]) ?_
    simp [-getElem?_pos, hw, h1, hg, hw0, hw1, hw2, hw3, hs]
    refine Wk.trans (Wk.join (b := 0) (r := i) (cs := sP.O ⟨(mt q), .mk (q + 1) (q + 2) (mt (q + 3)) ml1⟩) rfl (by simp [hg]; rfl) (by simp [hml_l1, take_map_eq hml_l1]) (by simp)) ?_
    exact Wk.to1 rfl (by simp) (by simp [hk1]) (by simp [hs, hp1]) (by simp [hcB]) (by omega)
  · have h2 : ¬ i < l.length := by omega
    have e : List.drop i (l.map sP.O) = [] := List.drop_of_length_le (by simp; omega)
    simp [h2, e]
    refine fin_ret (ts := []) rfl (by simp [kAt_all h1]) (by simp [pAt_all h1, e, mkL_len]) (by simp)
theorem heldPropS_c (l : List Pr) (k : Int) (h0 : 0 ≤ k) (h : k + 8 * cl Pr.cnt l ≤ 2 ^ 50) : Rv Try.prog 171 [.imm ((mkL mkP k l).1.map sP.I), .i .i64 k] (.i .i64 (mkL mkP k l).2) := by
  have hll : l.length ≤ cl Pr.cnt l := by unfold cl; omega
  refine via_laws_heldPropS (by simp) ?_
  simp [pc_laws_heldPropS]
  have hml := mkL_len (m := mkP) l k
  refine W_for (fun i => ⟨[(5, .i .i64 i), (1, .i .i64 (kAt mkP k l i)), (0, .imm ((mkL mkP k l).1.map sP.I))], [], 0, 0⟩) l.length (fun i => True) (Wk.less rfl (by simp) (by simp [kAt, mkL]) (by simp)) trivial ?_
  intro i hi _
  rcases Nat.lt_or_ge i l.length with h1 | h1
  · obtain ⟨x, hx⟩ : ∃ x, l[i]? = some x := ⟨_, List.getElem?_eq_getElem h1⟩
    have hw : IntKind.i64.wrap ((i : Int) + 1) = (i : Int) + 1 := wrap1 (by omega)
    have hf := Far.at (c := Pr.cnt) (fun v _ => far_prop v) hx (k := k)
    have hk1 := kAt_succ (m := mkP) (k := k) hx
    have hg := mkL_get (m := mkP) (k := k) hx
    generalize kAt mkP k l i = q at *
    generalize hR : (mkL mkP k l).1 = R at *
    obtain ⟨nm, ⟨a, b, s, l1⟩⟩ := x
    simp only [Pr.cnt, Vl.cnt_mk] at hf
    simp only [mkP] at hk1 hg
    have hc_l1 := heldValueS_c l1 (q + 4)
    have hw0 : IntKind.i64.wrap (q + 1) = q + 1 := by rw [wrap64 (by omega) (by omega)]
    have hw1 : IntKind.i64.wrap (q + 1 + 1) = q + 2 := by rw [wrap64 (by omega) (by omega)]; omega
    have hw2 : IntKind.i64.wrap (q + 2 + 1) = q + 3 := by rw [wrap64 (by omega) (by omega)]; omega
    have hw3 : IntKind.i64.wrap (q + 3 + 1) = q + 4 := by rw [wrap64 (by omega) (by omega)]; omega
    have hf_l1 := Far.list (m := mkV) (c := Vl.cnt) (l := l1) (fun v _ => far_val v) (q + 4)
    have hml_l1 := mkL_len (m := mkV) l1 (q + 4)
    generalize hK_l1 : (mkL mkV (q + 4) l1).2 = k1 at *
    generalize hM_l1 : (mkL mkV (q + 4) l1).1 = ml1 at *
    have hneg_l1 : ¬ k1 < 0 := by omega
    simp [-getElem?_pos, hw, h1, hg, hw0, hw1, hw2, hw3, hml, hneg_l1]
    refine callK_val (by simp) (markText_c q (by omega)) rfl ?_
    simp [-getElem?_pos, hw, h1, hg, hw0, hw1, hw2, hw3, hml, hneg_l1]
    refine callK_val (by simp) (markText_c (q + 3) (by omega)) rfl ?_
    simp [-getElem?_pos, hw, h1, hg, hw0, hw1, hw2, hw3, hml, hneg_l1]
    refine callK_val (by simp) (hc_l1 (by omega) (by omega)) rfl ?_
    simp [-getElem?_pos, hw, h1, hg, hw0, hw1, hw2, hw3, hml, hneg_l1]
    exact Wk.to rfl (by simp) (by simp [hk1]) (by simp) (by simp)
  · have h2 : ¬ i < l.length := by omega
    simp [h2, hml]
    exact fin_val rfl (by simp [kAt_all h1]) (by simp)
def mkN (k : Int) : Nd → Nd × Int
  | ⟨a, l1, l2⟩ => (⟨k, (mkL mkStr (k + 1) l1).1, (mkL mkP ((mkL mkStr (k + 1) l1).2) l2).1⟩, (mkL mkP ((mkL mkStr (k + 1) l1).2) l2).2)
theorem far_node (x : Nd) : ∀ k, k ≤ (mkN k x).2 ∧ (mkN k x).2 ≤ k + 8 * (1 + Nd.cnt x) := by
  intro k
  obtain ⟨a, l1, l2⟩ := x
  simp only [mkN, Nd.cnt]
  have h_l1 := Far.list (m := mkStr) (c := List.length) (l := l1) (fun v _ => far_strv v) (k + 1)
  have h_l2 := Far.list (m := mkP) (c := Pr.cnt) (l := l2) (fun v _ => far_prop v) ((mkL mkStr (k + 1) l1).2)
  omega
theorem markNodeS_c (l : List Nd) (k : Int) (h0 : 0 ≤ k) (h : k + 8 * cl Nd.cnt l ≤ 2 ^ 50) : Ret Try.prog 89 [.own 3 (l.map sN.O), .i .i64 k] (.i .i64 (mkL mkN k l).2) [.own 3 ((mkL mkN k l).1.map sN.O), .dead] := by
  have hll : l.length ≤ cl Nd.cnt l := by unfold cl; omega
  refine via_laws_markNodeS (by simp) ?_
  simp [pc_laws_markNodeS]
  refine W_for (fun i => ⟨[(5, .i .i64 i), (1, .i .i64 (kAt mkN k l i)), (0, .ref 0 0 l.length)], [(0, .arr 3 ((pAt mkN k l i).map sN.O ++ (l.map sN.O).drop i))], 1, 1⟩) l.length (fun i => True) (Wk.less rfl (by simp) (by simp [kAt, mkL]) (by simp [pAt, mkL])) trivial ?_
  intro i hi _
  rcases Nat.lt_or_ge i l.length with h1 | h1
  · obtain ⟨x, hx⟩ : ∃ x, l[i]? = some x := ⟨_, List.getElem?_eq_getElem h1⟩
    have hw : IntKind.i64.wrap ((i : Int) + 1) = (i : Int) + 1 := wrap1 (by omega)
    have hf := Far.at (c := Nd.cnt) (fun v _ => far_node v) hx (k := k)
    have hk1 := kAt_succ (m := mkN) (k := k) hx
    have hp1 := pAt_succ (m := mkN) (k := k) hx
    have hpl := pAt_len mkN (k := k) hi
    generalize kAt mkN k l i = q at *
    generalize hP : pAt mkN k l i = p at *
    rw [drop_eq (l := l.map sN.O) (x := sN.O x) (by simp [hx])]
    have hg : ∀ r, ((p.map sN.O) ++ r :: (l.map sN.O).drop (i + 1))[i]? = some r := fun r => by rw [List.getElem?_append_right (by simp; omega)]; simp [hpl]
    have hs : ∀ r r', ((p.map sN.O) ++ r :: (l.map sN.O).drop (i + 1)).set i r' = (p.map sN.O) ++ r' :: (l.map sN.O).drop (i + 1) := fun r r' => by rw [List.set_append_right _ _ (by simp; omega)]; simp [hpl]
    have hcB := sN.crO (l.drop (i + 1))
    rw [List.map_drop] at hcB
    generalize hB : (l.map sN.O).drop (i + 1) = B at *
    obtain ⟨a, l1, l2⟩ := x
    simp only [Nd.cnt] at hf
    simp only [mkN] at hk1 hp1
    have hc_l1 := markStringS_c l1 (q + 1)
    have hc_l2 := markPropS_c l2 ((mkL mkStr (q + 1) l1).2)
    have hw0 : IntKind.i64.wrap (q + 1) = q + 1 := by rw [wrap64 (by omega) (by omega)]
    have hf_l1 := Far.list (m := mkStr) (c := List.length) (l := l1) (fun v _ => far_strv v) (q + 1)
    have hml_l1 := mkL_len (m := mkStr) l1 (q + 1)
    generalize hK_l1 : (mkL mkStr (q + 1) l1).2 = k1 at *
    generalize hM_l1 : (mkL mkStr (q + 1) l1).1 = ml1 at *
    have hneg_l1 : ¬ k1 < 0 := by omega
    have hf_l2 := Far.list (m := mkP) (c := Pr.cnt) (l := l2) (fun v _ => far_prop v) k1
    have hml_l2 := mkL_len (m := mkP) l2 k1
    generalize hK_l2 : (mkL mkP k1 l2).2 = k2 at *
    generalize hM_l2 : (mkL mkP k1 l2).1 = ml2 at *
    have hneg_l2 : ¬ k2 < 0 := by omega
    simp [-getElem?_pos, hw, h1, hg, hw0, hs]
    refine callK_mut (by simp) (hc_l1 (by omega) (by omega)) (by simp [hml_l1]; rfl) (by simp) (by simp) rfl (by simp [T.noImm]) ?_
    simp [-getElem?_pos, hw, h1, hg, hw0, hs]
    refine callK_mut (by simp) (hc_l2 (by omega) (by omega)) (by simp [hml_l2]; rfl) (by simp) (by simp) rfl (by simp [T.noImm]) ?_
    simp [-getElem?_pos, hw, h1, hg, hw0, hs]
    refine Wk.trans (Wk.join (b := 0) (r := i) (cs := sN.O ⟨q, ml1, ml2⟩) rfl (by simp [hg]; rfl) (by simp [hml_l1, take_map_eq hml_l1, hml_l2, take_map_eq hml_l2]) (by simp)) ?_
    exact Wk.to1 rfl (by simp) (by simp [hk1]) (by simp [hs, hp1]) (by simp [hcB]) (by omega)
  · have h2 : ¬ i < l.length := by omega
    have e : List.drop i (l.map sN.O) = [] := List.drop_of_length_le (by simp; omega)
    simp [h2, e]
    refine fin_ret (ts := []) rfl (by simp [kAt_all h1]) (by simp [pAt_all h1, e, mkL_len]) (by simp)
theorem heldNodeS_c (l : List Nd) (k : Int) (h0 : 0 ≤ k) (h : k + 8 * cl Nd.cnt l ≤ 2 ^ 50) : Rv Try.prog 115 [.imm ((mkL mkN k l).1.map sN.I), .i .i64 k] (.i .i64 (mkL mkN k l).2) := by
  have hll : l.length ≤ cl Nd.cnt l := by unfold cl; omega
  refine via_laws_heldNodeS (by simp) ?_
  simp [pc_laws_heldNodeS]
  have hml := mkL_len (m := mkN) l k
  refine W_for (fun i => ⟨[(5, .i .i64 i), (1, .i .i64 (kAt mkN k l i)), (0, .imm ((mkL mkN k l).1.map sN.I))], [], 0, 0⟩) l.length (fun i => True) (Wk.less rfl (by simp) (by simp [kAt, mkL]) (by simp)) trivial ?_
  intro i hi _
  rcases Nat.lt_or_ge i l.length with h1 | h1
  · obtain ⟨x, hx⟩ : ∃ x, l[i]? = some x := ⟨_, List.getElem?_eq_getElem h1⟩
    have hw : IntKind.i64.wrap ((i : Int) + 1) = (i : Int) + 1 := wrap1 (by omega)
    have hf := Far.at (c := Nd.cnt) (fun v _ => far_node v) hx (k := k)
    have hk1 := kAt_succ (m := mkN) (k := k) hx
    have hg := mkL_get (m := mkN) (k := k) hx
    generalize kAt mkN k l i = q at *
    generalize hR : (mkL mkN k l).1 = R at *
    obtain ⟨a, l1, l2⟩ := x
    simp only [Nd.cnt] at hf
    simp only [mkN] at hk1 hg
    have hc_l1 := heldStringS_c l1 (q + 1)
    have hc_l2 := heldPropS_c l2 ((mkL mkStr (q + 1) l1).2)
    have hw0 : IntKind.i64.wrap (q + 1) = q + 1 := by rw [wrap64 (by omega) (by omega)]
    have hf_l1 := Far.list (m := mkStr) (c := List.length) (l := l1) (fun v _ => far_strv v) (q + 1)
    have hml_l1 := mkL_len (m := mkStr) l1 (q + 1)
    generalize hK_l1 : (mkL mkStr (q + 1) l1).2 = k1 at *
    generalize hM_l1 : (mkL mkStr (q + 1) l1).1 = ml1 at *
    have hneg_l1 : ¬ k1 < 0 := by omega
    have hf_l2 := Far.list (m := mkP) (c := Pr.cnt) (l := l2) (fun v _ => far_prop v) k1
    have hml_l2 := mkL_len (m := mkP) l2 k1
    generalize hK_l2 : (mkL mkP k1 l2).2 = k2 at *
    generalize hM_l2 : (mkL mkP k1 l2).1 = ml2 at *
    have hneg_l2 : ¬ k2 < 0 := by omega
    simp [-getElem?_pos, hw, h1, hg, hw0, hml, hneg_l1, hneg_l2]
    refine callK_val (by simp) (hc_l1 (by omega) (by omega)) rfl ?_
    simp [-getElem?_pos, hw, h1, hg, hw0, hml, hneg_l1, hneg_l2]
    refine callK_val (by simp) (hc_l2 (by omega) (by omega)) rfl ?_
    simp [-getElem?_pos, hw, h1, hg, hw0, hml, hneg_l1, hneg_l2]
    exact Wk.to rfl (by simp) (by simp [hk1]) (by simp) (by simp)
  · have h2 : ¬ i < l.length := by omega
    simp [h2, hml]
    exact fin_val rfl (by simp [kAt_all h1]) (by simp)
def mkE (k : Int) : Eg → Eg × Int
  | ⟨a, s, b, c, l1⟩ => (⟨k, (mt (k + 1)), (k + 2), (k + 3), (mkL mkP (k + 4) l1).1⟩, (mkL mkP (k + 4) l1).2)
theorem far_edge (x : Eg) : ∀ k, k ≤ (mkE k x).2 ∧ (mkE k x).2 ≤ k + 8 * (1 + Eg.cnt x) := by
  intro k
  obtain ⟨a, s, b, c, l1⟩ := x
  simp only [mkE, Eg.cnt]
  have h_l1 := Far.list (m := mkP) (c := Pr.cnt) (l := l1) (fun v _ => far_prop v) (k + 4)
  omega
theorem markEdgeS_c (l : List Eg) (k : Int) (h0 : 0 ≤ k) (h : k + 8 * cl Eg.cnt l ≤ 2 ^ 50) : Ret Try.prog 90 [.own 5 (l.map sE.O), .i .i64 k] (.i .i64 (mkL mkE k l).2) [.own 5 ((mkL mkE k l).1.map sE.O), .dead] := by
  have hll : l.length ≤ cl Eg.cnt l := by unfold cl; omega
  refine via_laws_markEdgeS (by simp) ?_
  simp [pc_laws_markEdgeS]
  refine W_for (fun i => ⟨[(5, .i .i64 i), (1, .i .i64 (kAt mkE k l i)), (0, .ref 0 0 l.length)], [(0, .arr 5 ((pAt mkE k l i).map sE.O ++ (l.map sE.O).drop i))], 1, 1⟩) l.length (fun i => True) (Wk.less rfl (by simp) (by simp [kAt, mkL]) (by simp [pAt, mkL])) trivial ?_
  intro i hi _
  rcases Nat.lt_or_ge i l.length with h1 | h1
  · obtain ⟨x, hx⟩ : ∃ x, l[i]? = some x := ⟨_, List.getElem?_eq_getElem h1⟩
    have hw : IntKind.i64.wrap ((i : Int) + 1) = (i : Int) + 1 := wrap1 (by omega)
    have hf := Far.at (c := Eg.cnt) (fun v _ => far_edge v) hx (k := k)
    have hk1 := kAt_succ (m := mkE) (k := k) hx
    have hp1 := pAt_succ (m := mkE) (k := k) hx
    have hpl := pAt_len mkE (k := k) hi
    generalize kAt mkE k l i = q at *
    generalize hP : pAt mkE k l i = p at *
    rw [drop_eq (l := l.map sE.O) (x := sE.O x) (by simp [hx])]
    have hg : ∀ r, ((p.map sE.O) ++ r :: (l.map sE.O).drop (i + 1))[i]? = some r := fun r => by rw [List.getElem?_append_right (by simp; omega)]; simp [hpl]
    have hs : ∀ r r', ((p.map sE.O) ++ r :: (l.map sE.O).drop (i + 1)).set i r' = (p.map sE.O) ++ r' :: (l.map sE.O).drop (i + 1) := fun r r' => by rw [List.set_append_right _ _ (by simp; omega)]; simp [hpl]
    have hcB := sE.crO (l.drop (i + 1))
    rw [List.map_drop] at hcB
    generalize hB : (l.map sE.O).drop (i + 1) = B at *
    obtain ⟨a, s, b, c, l1⟩ := x
    simp only [Eg.cnt] at hf
    simp only [mkE] at hk1 hp1
    have hc_l1 := markPropS_c l1 (q + 4)
    have hw0 : IntKind.i64.wrap (q + 1) = q + 1 := by rw [wrap64 (by omega) (by omega)]
    have hw1 : IntKind.i64.wrap (q + 1 + 1) = q + 2 := by rw [wrap64 (by omega) (by omega)]; omega
    have hw2 : IntKind.i64.wrap (q + 2 + 1) = q + 3 := by rw [wrap64 (by omega) (by omega)]; omega
    have hw3 : IntKind.i64.wrap (q + 3 + 1) = q + 4 := by rw [wrap64 (by omega) (by omega)]; omega
    have hf_l1 := Far.list (m := mkP) (c := Pr.cnt) (l := l1) (fun v _ => far_prop v) (q + 4)
    have hml_l1 := mkL_len (m := mkP) l1 (q + 4)
    generalize hK_l1 : (mkL mkP (q + 4) l1).2 = k1 at *
    generalize hM_l1 : (mkL mkP (q + 4) l1).1 = ml1 at *
    have hneg_l1 : ¬ k1 < 0 := by omega
    simp [-getElem?_pos, hw, h1, hg, hw0, hw1, hw2, hw3, hs]
    refine callK_val (by simp) (markText_c (q + 1) (by omega)) rfl ?_
    simp [-getElem?_pos, hw, h1, hg, hw0, hw1, hw2, hw3, hs]
    refine callK_mut (by simp) (hc_l1 (by omega) (by omega)) (by simp [hml_l1]; rfl) (by simp) (by simp) rfl (by simp [T.noImm]) ?_
    simp [-getElem?_pos, hw, h1, hg, hw0, hw1, hw2, hw3, hs]
    refine Wk.trans (Wk.join (b := 0) (r := i) (cs := sE.O ⟨q, (mt (q + 1)), (q + 2), (q + 3), ml1⟩) rfl (by simp [hg]; rfl) (by simp [hml_l1, take_map_eq hml_l1]) (by simp)) ?_
    exact Wk.to1 rfl (by simp) (by simp [hk1]) (by simp [hs, hp1]) (by simp [hcB]) (by omega)
  · have h2 : ¬ i < l.length := by omega
    have e : List.drop i (l.map sE.O) = [] := List.drop_of_length_le (by simp; omega)
    simp [h2, e]
    refine fin_ret (ts := []) rfl (by simp [kAt_all h1]) (by simp [pAt_all h1, e, mkL_len]) (by simp)
theorem heldEdgeS_c (l : List Eg) (k : Int) (h0 : 0 ≤ k) (h : k + 8 * cl Eg.cnt l ≤ 2 ^ 50) : Rv Try.prog 116 [.imm ((mkL mkE k l).1.map sE.I), .i .i64 k] (.i .i64 (mkL mkE k l).2) := by
  have hll : l.length ≤ cl Eg.cnt l := by unfold cl; omega
  refine via_laws_heldEdgeS (by simp) ?_
  simp [pc_laws_heldEdgeS]
  have hml := mkL_len (m := mkE) l k
  refine W_for (fun i => ⟨[(5, .i .i64 i), (1, .i .i64 (kAt mkE k l i)), (0, .imm ((mkL mkE k l).1.map sE.I))], [], 0, 0⟩) l.length (fun i => True) (Wk.less rfl (by simp) (by simp [kAt, mkL]) (by simp)) trivial ?_
  intro i hi _
  rcases Nat.lt_or_ge i l.length with h1 | h1
  · obtain ⟨x, hx⟩ : ∃ x, l[i]? = some x := ⟨_, List.getElem?_eq_getElem h1⟩
    have hw : IntKind.i64.wrap ((i : Int) + 1) = (i : Int) + 1 := wrap1 (by omega)
    have hf := Far.at (c := Eg.cnt) (fun v _ => far_edge v) hx (k := k)
    have hk1 := kAt_succ (m := mkE) (k := k) hx
    have hg := mkL_get (m := mkE) (k := k) hx
    generalize kAt mkE k l i = q at *
    generalize hR : (mkL mkE k l).1 = R at *
    obtain ⟨a, s, b, c, l1⟩ := x
    simp only [Eg.cnt] at hf
    simp only [mkE] at hk1 hg
    have hc_l1 := heldPropS_c l1 (q + 4)
    have hw0 : IntKind.i64.wrap (q + 1) = q + 1 := by rw [wrap64 (by omega) (by omega)]
    have hw1 : IntKind.i64.wrap (q + 1 + 1) = q + 2 := by rw [wrap64 (by omega) (by omega)]; omega
    have hw2 : IntKind.i64.wrap (q + 2 + 1) = q + 3 := by rw [wrap64 (by omega) (by omega)]; omega
    have hw3 : IntKind.i64.wrap (q + 3 + 1) = q + 4 := by rw [wrap64 (by omega) (by omega)]; omega
    have hf_l1 := Far.list (m := mkP) (c := Pr.cnt) (l := l1) (fun v _ => far_prop v) (q + 4)
    have hml_l1 := mkL_len (m := mkP) l1 (q + 4)
    generalize hK_l1 : (mkL mkP (q + 4) l1).2 = k1 at *
    generalize hM_l1 : (mkL mkP (q + 4) l1).1 = ml1 at *
    have hneg_l1 : ¬ k1 < 0 := by omega
    simp [-getElem?_pos, hw, h1, hg, hw0, hw1, hw2, hw3, hml, hneg_l1]
    refine callK_val (by simp) (markText_c (q + 1) (by omega)) rfl ?_
    simp [-getElem?_pos, hw, h1, hg, hw0, hw1, hw2, hw3, hml, hneg_l1]
    refine callK_val (by simp) (hc_l1 (by omega) (by omega)) rfl ?_
    simp [-getElem?_pos, hw, h1, hg, hw0, hw1, hw2, hw3, hml, hneg_l1]
    exact Wk.to rfl (by simp) (by simp [hk1]) (by simp) (by simp)
  · have h2 : ¬ i < l.length := by omega
    simp [h2, hml]
    exact fin_val rfl (by simp [kAt_all h1]) (by simp)
end Go.Proofs.Ytcchmhmbjhgfdaa.V
