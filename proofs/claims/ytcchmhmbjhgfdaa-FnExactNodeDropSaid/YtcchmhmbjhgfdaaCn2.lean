/- Nodes dropped, by the reference. -/
import Derived.Test.YtcchmhmbjhgfdaaCn1
namespace Go.Proofs.Ytcchmhmbjhgfdaa.V
open Go
set_option linter.unusedVariables false
set_option linter.unusedSimpArgs false
set_option maxHeartbeats 16000000
def gDropN (g : Gr) (id : Int) : Gr := ⟨g.nodes.filter (fun n => !decide (n.id = id)), g.edges.filter (fun e => !(idsOf id 0 [] g.edges).contains e.id), g.nn, g.ne⟩
def dropN (g : Gr) (id : Int) (det : Bool) : Gr × Bool := if idsOf id 0 [] g.edges ≠ [] ∧ det = false then (g, false) else (gDropN g id, true)
open Classical in
noncomputable def nodeDrop (g : Gr) (id : Int) (det : Bool) : Gr × Bool := if GOk g then (if posOf Nd.id id g.nodes < 0 then (g, false) else dropN g id det) else (zG, false)
theorem l2DropNode_c (g : Gr) (hl0 : g.nodes.length ≤ 2 ^ 20) (hl : g.edges.length ≤ 2 ^ 20) (id : Int) (det : Bool) : Ri Try.prog 123 [.agg (sG.I g), .i .i64 id, .b det] (.tup [.agg (sG.I (dropN g id det).1), .b (dropN g id det).2]) := by
  have h1 := l2Edges_c g hl id 0 []
  have hLl : (idsOf id 0 [] g.edges).length ≤ 2 ^ 20 := by
    unfold idsOf
    rw [List.length_map]
    exact Nat.le_trans (List.length_filter_le _ _) hl
  by_cases c1 : idsOf id 0 [] g.edges ≠ [] ∧ det = false
  · have e1 : dropN g id det = (g, false) := by unfold dropN; rw [if_pos c1]
    rw [e1]
    obtain ⟨c1, rfl⟩ := c1
    have c2 : 0 < (idsOf id 0 [] g.edges).length := by cases hq : idsOf id 0 [] g.edges with | nil => exact absurd hq c1 | cons a b => simp
    refine ⟨.tup [.agg (sG.I g), .b false], ?_, by simp⟩
    obtain ⟨l, es, nn, ne⟩ := g
    simp only at h1 c2
    refine via_spec_l2DropNode (by simp) ?_
    simp [pc_spec_l2DropNode]
    refine callK_val (by simp) h1 (by simp [T.noImm]) ?_
    simp [c2]
    exact fin_own (by simp; rfl) (by simp) (by simp) (by simp)
  · have e1 : dropN g id det = (gDropN g id, true) := by unfold dropN; rw [if_neg c1]
    rw [e1]
    refine ⟨.tup [.agg [.own 3 ((gDropN g id).nodes.map sN.I), .imm ((gDropN g id).edges.map sE.I), .i .i64 g.nn, .i .i64 g.ne], .b true], ?_, by simp [gDropN]⟩
    have e2 : (decide (0 < (idsOf id 0 [] g.edges).length) && !det) = false := by
      cases det with
      | true => simp
      | false =>
        have : idsOf id 0 [] g.edges = [] := by
          cases hq : idsOf id 0 [] g.edges with
          | nil => rfl
          | cons a b => exact absurd ⟨by rw [hq]; simp, rfl⟩ c1
        simp [this]
    have hdE := fun (es' : List Eg) (h : es'.length ≤ 2 ^ 20) (k : Int) => l2DropEdge_c ⟨g.nodes, es', g.nn, g.ne⟩ h k
    obtain ⟨l, es, nn, ne⟩ := g
    simp only at h1 e2 hLl hl hl0 hdE
    have eL : (gDropN ⟨l, es, nn, ne⟩ id).edges = es.filter (fun e => !(idsOf id 0 [] es).contains e.id) := rfl
    rw [eL]
    have eN : (gDropN ⟨l, es, nn, ne⟩ id).nodes = l.filter (fun n => !decide (n.id = id)) := rfl
    rw [eN]
    clear eL eN e1 c1
    generalize idsOf id 0 [] es = L at *
    have hLc := sI.crO L
    refine Ret.ofS Try.func123 ok_spec_l2DropNode rfl rfl (by simp) ?_
    refine WW_seq (WW_of_W ?_)
    simp
    refine WW_seq (WW_of_W ?_)
    simp
    refine callK_val (by simp) h1 (by simp [T.noImm]) ?_
    simp
    refine WW_seq (WW_seq (thn_cut (s2 := ⟨[(21, .b false), (8, .ref 2 0 L.length), (1, .i .i64 id), (3, .ptr 0 0 0), (6, .ptr 1 0 0)], [(0, .arr 4 [sG.I ⟨l, es, nn, ne⟩]), (1, .arr 4 [[.nl, .nl, .i .i64 0, .i .i64 0]]), (2, .arr 1 (L.map sI.O))], 20, 0⟩) ?_ ?_))
    · rcases Nat.lt_or_ge 0 L.length with c2 | c2
      · have hdt : det = true := by simpa [c2] using e2
        simp [c2, hdt]
        exact Wk.to rfl (by simp) (by simp) (by simp [Blk.names, namesr_clean hLc]) (by simp)
      · have c3 : ¬ 0 < L.length := by omega
        simp [c3]
        exact Wk.to rfl (by simp) (by simp) (by simp [Blk.names, namesr_clean hLc]) (by simp)
    refine WW_of_W ?_
    simp
    refine WW_seq (WW_of_W ?_)
    simp
    refine W_for (fun i => ⟨[(9, .i .i64 i), (8, .ref 2 0 L.length), (1, .i .i64 id), (3, .ptr 0 0 0), (6, .ptr 1 0 0)], [(0, .arr 4 [sG.I ⟨l, es.filter (fun e => !(L.take i).contains e.id), nn, ne⟩]), (1, .arr 4 [[.nl, .nl, .i .i64 0, .i .i64 0]]), (2, .arr 1 (L.map sI.O))], 20, 0⟩) L.length (fun _ => True) ?_ trivial ?_
    · have e3 : es.filter (fun _ => true) = es := List.filter_eq_self.2 (by simp)
      exact Wk.less rfl (by simp) (by simp) (by simp [e3])
    intro i hi _
    rcases Nat.lt_or_ge i L.length with h3 | h3
    · obtain ⟨x, hx⟩ : ∃ x, L[i]? = some x := ⟨_, List.getElem?_eq_getElem h3⟩
      have hw : IntKind.i64.wrap ((i : Int) + 1) = (i : Int) + 1 := wrap1 (by omega)
      have htk : L.take (i + 1) = L.take i ++ [x] := by rw [List.take_add_one, hx]; simp
      have hE := hdE (es.filter (fun e => !(L.take i).contains e.id)) (Nat.le_trans (List.length_filter_le _ _) hl) x
      have hff : (es.filter (fun e => !(L.take i).contains e.id)).filter (fun e => decide (e.id ≠ x)) = es.filter (fun e => !(L.take (i + 1)).contains e.id) := by
        rw [List.filter_filter, htk]
        congr 1
        funext e
        by_cases q1 : e.id = x
        · simp [q1]
        · simp [q1]
      rw [hff] at hE
      generalize es.filter (fun e => !(L.take i).contains e.id) = E1 at *
      generalize es.filter (fun e => !(L.take (i + 1)).contains e.id) = E2 at *
      simp [-getElem?_pos, hx, hw, h3]
      refine callK_imm (by simp) hE ?_
      simp [-getElem?_pos, hx, hw, h3]
      repeat refine need_mk (by decide +kernel) ?_
      exact Wk.to rfl (by simp) (by simp) (by simp [Blk.names, namesr_clean hLc]) (by simp)
    · have h4 : ¬ i < L.length := by omega
      rw [List.take_of_length_le h3]
      generalize hE1 : es.filter (fun e => !L.contains e.id) = E1 at *
      simp [h4]
      refine WW_seq (WW_of_W ?_)
      simp
      refine WW_seq (WW_of_W ?_)
      simp
      refine W_for (fun i => ⟨[(11, .i .i64 i), (10, .ref 3 0 ((l.take i).filter (fun n => !decide (n.id = id))).length), (1, .i .i64 id), (3, .ptr 0 0 0), (6, .ptr 1 0 0)], [(0, .arr 4 [sG.I ⟨l, E1, nn, ne⟩]), (1, .arr 4 [[.nl, .nl, .i .i64 0, .i .i64 0]]), (3, .arr 3 (((l.take i).filter (fun n => !decide (n.id = id))).map sN.I))], 20, 0⟩) l.length (fun _ => True) ?_ trivial ?_
      · refine Wk.ren (fun t => if t = 3 then 20 else t) rfl (by simp) (by simp) (by simp) (by simp [Blk.rn, Blk.names]) (by simp)
      clear h4 h3 hi i
      intro i hi _
      rcases Nat.lt_or_ge i l.length with h3 | h3
      · obtain ⟨x, hx⟩ : ∃ x, l[i]? = some x := ⟨_, List.getElem?_eq_getElem h3⟩
        have hw : IntKind.i64.wrap ((i : Int) + 1) = (i : Int) + 1 := wrap1 (by omega)
        have hfl : ((l.take i).filter (fun n => !decide (n.id = id))).length ≤ i := Nat.le_trans (List.length_filter_le _ _) (by simp; omega)
        have htk : l.take (i + 1) = l.take i ++ [x] := by rw [List.take_add_one, hx]; simp
        obtain ⟨a, lb, ps⟩ := x
        rw [htk, List.filter_append]
        generalize (l.take i).filter (fun n => !decide (n.id = id)) = A at *
        have hcA := sN.crI A
        by_cases c : a = id
        · simp [-getElem?_pos, hx, hw, h3, c]
          exact Wk.to rfl (by simp) (by simp) (by simp [Blk.names, namesr_clean hcA]) (by simp)
        · have hbig : (A.length + 1) * 56 ≤ 35184372088832 := by omega
          have hcB := sN.crI (A ++ [⟨a, lb, ps⟩])
          rw [List.map_append] at hcB
          simp only [List.map_cons, List.map_nil, sN_I] at hcB
          simp [-getElem?_pos, hx, hw, h3, c, hbig]
          refine Wk.ren (fun t => if t = 3 then 21 else t) rfl (by simp) (by simp) (by simp) ?_ (by simp)
          simp [Blk.rn, Blk.names, namesr_clean hcB, rnr_cl hcB]
      · have h4 : ¬ i < l.length := by omega
        rw [List.take_of_length_le h3]
        have hcN := sN.crI (l.filter (fun n => !decide (n.id = id)))
        simp [h4]
        refine WW_of_W ?_
        simp
        exact fin_own (by simp; rfl) (by simp [hcN, ← hE1]) (by simp) (by simp)
theorem specNodeDrop_c (g : Gr) (hf : g.fit) (hc : g.cnt ≤ 2 ^ 20) (id : Int) (det : Bool) : Ri Try.prog 52 [.agg (sG.I g), .i .i64 id, .b det] (.tup [.agg (sG.I (nodeDrop g id det).1), .b (nodeDrop g id det).2]) := by
  have h1 := specGraphOk_c g hf
  have h2 := l2Copy_c g hc
  have hle : g.edges.length ≤ 2 ^ 20 := by unfold Gr.cnt cl at hc; omega
  have hln : g.nodes.length ≤ 2 ^ 20 := by unfold Gr.cnt cl at hc; omega
  have h3 := l2Node_c g (by simp only [ln]; omega) id
  have h4 := l2DropNode_c g hln hle id det
  by_cases g1 : GOk g
  · by_cases g2 : posOf Nd.id id g.nodes < 0
    · have e1 : nodeDrop g id det = (g, false) := by simp [nodeDrop, g1, g2]
      rw [e1]
      refine ⟨.tup [.agg (sG.O g), .b false], ?_, by simp [sG.toO]⟩
      obtain ⟨l, es, nn, ne⟩ := g
      refine via_spec_NodeDrop (by simp) ?_
      simp [pc_spec_NodeDrop]
      refine callK_val (by simp) h1 rfl ?_
      simp [g1]
      refine callK_val (by simp) h3 rfl ?_
      simp only at g2
      simp [g2]
      refine callK_val (by simp) h2 (by simp [T.noImm]) ?_
      simp
      exact fin_own (by simp; rfl) (by simp) (by simp) (by simp)
    · have e1 : nodeDrop g id det = dropN g id det := by simp [nodeDrop, g1, g2]
      rw [e1]
      generalize dropN g id det = r at *
      obtain ⟨r1, r2⟩ := r
      refine ⟨.tup [.agg (sG.I r1), .b r2], ?_, by simp⟩
      obtain ⟨l, es, nn, ne⟩ := g
      obtain ⟨l', es', nn', ne'⟩ := r1
      refine via_spec_NodeDrop (by simp) ?_
      simp [pc_spec_NodeDrop]
      refine callK_val (by simp) h1 rfl ?_
      simp [g1]
      refine callK_val (by simp) h3 rfl ?_
      simp only at g2
      simp [g2]
      refine callK_val (by simp) h2 (by simp [T.noImm]) ?_
      simp
      refine callK_ri (by simp) h4 ?_
      simp
      exact fin_own (by simp; rfl) (by simp) (by simp) (by simp)
  · have e1 : nodeDrop g id det = (zG, false) := by simp [nodeDrop, g1]
    rw [e1]
    refine ⟨.tup [.agg (sG.O zG), .b false], ?_, by simp [sG.toO]⟩
    obtain ⟨l, es, nn, ne⟩ := g
    refine via_spec_NodeDrop (by simp) ?_
    simp [pc_spec_NodeDrop]
    refine callK_val (by simp) h1 rfl ?_
    simp [g1]
    exact fin_own (by simp; rfl) (by simp [zG]) (by simp) (by simp [zG])
end Go.Proofs.Ytcchmhmbjhgfdaa.V
