/- The law NodeAdd holds of trees. -/
import Derived.Test.YtonljcphaiklgaaG3
import Derived.Test.YtonljcphaiklgaaG2
import Derived.Test.YtonljcphaiklgaaVfFnNodeAdd
namespace Go.Proofs.Ytonljcphaiklgaa.V
open Go
set_option linter.unusedVariables false
set_option linter.unusedSimpArgs false
set_option maxHeartbeats 4000000
theorem fit_zG : zG.fit := ⟨by simp [zG, ln], by simp [zG], by simp [zG, ln], by simp [zG], by simp [zG, i64], by simp [zG, i64]⟩
theorem nodeAdd_fit {g : Gr} (h : g.fit) (hc : g.cnt ≤ 2 ^ 30) {lb : List Tx} {ps : List Pr} (h1 : ln lb ∧ ∀ x ∈ lb, ln x) (h2 : ln ps ∧ ∀ x ∈ ps, x.fit) : (nodeAdd g lb ps).1.fit := by
  unfold nodeAdd nAdd
  split
  · split
    · rename_i c
      exact fit_addN h (by unfold Gr.cnt cl at hc; omega) (by have := h.2.2.2.2.1; have := c.2.2.2; simp only [i64] at *; omega) h1 h2
    · exact h
  · exact fit_zG
theorem nodeAdd_cnt (g : Gr) (lb : List Tx) (ps : List Pr) : (nodeAdd g lb ps).1.cnt ≤ g.cnt + 1 + (cl List.length lb + cl Pr.cnt ps) := by
  unfold nodeAdd nAdd
  split
  · split
    · exact Nat.le_of_eq (cnt_addN g lb ps)
    · exact Nat.le_trans (Nat.le_add_right _ 1) (Nat.le_add_right _ _)
  · have : zG.cnt = 0 := by simp [zG, Gr.cnt, cl, sums]
    simp only [this]; omega
theorem drop_added' {g : Gr} (h : GOk g) {lb : List Tx} {ps : List Pr} (hc : addNOk g lb ps) (det : Bool) : nodeDrop (gAddN g lb ps) g.nn det = ({ g with nn := g.nn + 1 }, true) := by
  obtain ⟨h1, h2⟩ := drop_added h (lb := lb) (ps := ps)
  have h3 := h.addN hc
  have h4 : ¬ posOf Nd.id g.nn (gAddN g lb ps).nodes < 0 := by
    have := posOf_pos.2 (⟨⟨g.nn, lb, ps⟩, by simp [gAddN], rfl⟩ : ∃ y ∈ (gAddN g lb ps).nodes, y.id = g.nn)
    omega
  have h5 : idsOf g.nn 0 [] (gAddN g lb ps).edges = [] := h2
  simp only [nodeDrop, h3, if_true, h4, if_false, dropN, h5]
  simp [h1]
set_option maxRecDepth 20000 in
theorem FnNodeAdd_t (code : List UInt8) (_ : code.length ≤ 9223372036854775807) : Rv Try.prog 8 [.imm (u8T code)] (.b true) := by
  have hl := u8T_len code
  by_cases c : 1048576 < (code.length : Int)
  · refine via_laws_FnNodeAdd (by simp) ?_
    simp [pc_laws_FnNodeAdd, hl, c]
    exact fin_val rfl (by simp) (by simp)
  obtain ⟨g, lb, ps, ⟨hf, hcnt⟩, hlb, hps, hd⟩ := DrawNodeAdd_d code
  have k1 := hlb.cl
  have k2 := hps.cl
  have hA := NodeAdd_c g hf (by omega) lb hlb.ln ps hps.ln (by omega)
  have hB := specNodeAdd_c g hf (by omega) lb hlb.ln ps hps.ln (by omega)
  have hxf := nodeAdd_fit hf (by omega) hlb.ln hps.ln
  have hxc := nodeAdd_cnt g lb ps
  have hC := asGraph_c _ hxf
  have h1 := GraphOk_c g hf
  have h2 := specGraphOk_c g hf
  have h3 := GraphOk_c _ hxf
  by_cases g1 : GOk g
  · by_cases g2 : addNOk g lb ps
    · have e1 : nodeAdd g lb ps = (gAddN g lb ps, g.nn, true) := by simp [nodeAdd, nAdd, g1, g2]
      have g3 := g1.addN g2
      have hD := NodeDrop_c _ hxf (by omega) g.nn false
      have hN := asNode_c ⟨g.nn, lb, ps⟩ ⟨hf.2.2.2.2.1, hlb.ln.1, hlb.ln.2, hps.ln.1, hps.ln.2⟩
      have hG := asGraph_c g hf
      rw [e1] at hA hB hC h3 hD
      simp only at hA hB hC h3 hD
      rw [drop_added' g1 g2] at hD
      have q1 : (gAddN g lb ps).nodes[g.nodes.length]? = some ⟨g.nn, lb, ps⟩ := by simp [gAddN]
      clear hxf hxc e1
      generalize gAddN g lb ps = g' at *
      obtain ⟨l, es, nn, ne⟩ := g
      obtain ⟨l', es', nn', ne'⟩ := g'
      simp only at q1 hN hD
      have q2 : (l'.map sN.O)[l.length]? = some (sN.O ⟨nn, lb, ps⟩) := by rw [List.getElem?_map, q1]; rfl
      have q3 : l.length < l'.length := (List.getElem?_eq_some_iff.1 q1).1
      have q3' : (l.length : Int) < (l'.length : Int) := by omega
      refine via_laws_FnNodeAdd (by simp) ?_
      simp [pc_laws_FnNodeAdd, hl, c]
      refine callK_ri (by simp) hd ?_
      simp
      refine callK_val (by simp) hA (by simp [T.noImm]) ?_
      simp
      refine callK_ri (by simp) hB ?_
      simp
      repeat with_reducible refine need_mk (by decide +kernel) ?_
      refine callK_val (by simp) hC rfl ?_
      simp
      repeat with_reducible refine need_mk (by decide +kernel) ?_
      refine callK_val (by simp) h1 rfl ?_
      simp [g1]
      repeat with_reducible refine need_mk (by decide +kernel) ?_
      refine callK_val (by simp) h2 rfl ?_
      simp [g1]
      repeat with_reducible refine need_mk (by decide +kernel) ?_
      refine callK_val (by simp) h2 rfl ?_
      simp [g1]
      repeat with_reducible refine need_mk (by decide +kernel) ?_
      refine callK_val (by simp) hD (by simp [T.noImm]) ?_
      simp
      refine callK_val (by simp) h3 rfl ?_
      simp [-getElem?_pos, g3, q1, q2, q3, q3']
      refine callK_val (by simp) hN rfl ?_
      simp
      refine callK_val (by simp) hG rfl ?_
      simp
      exact fin_val rfl (by simp) (by simp)
    · have e1 : nodeAdd g lb ps = (g, 0, false) := by simp [nodeAdd, nAdd, g1, g2]
      rw [e1] at hA hB hC
      obtain ⟨l, es, nn, ne⟩ := g
      refine via_laws_FnNodeAdd (by simp) ?_
      simp [pc_laws_FnNodeAdd, hl, c]
      refine callK_ri (by simp) hd ?_
      simp
      refine callK_val (by simp) hA (by simp [T.noImm]) ?_
      simp
      refine callK_ri (by simp) hB ?_
      simp
      repeat with_reducible refine need_mk (by decide +kernel) ?_
      refine callK_val (by simp) hC rfl ?_
      simp
      repeat with_reducible refine need_mk (by decide +kernel) ?_
      refine callK_val (by simp) h1 rfl ?_
      simp [g1]
      repeat with_reducible refine need_mk (by decide +kernel) ?_
      refine callK_val (by simp) h2 rfl ?_
      simp [g1]
      repeat with_reducible refine need_mk (by decide +kernel) ?_
      refine callK_val (by simp) h2 rfl ?_
      simp [g1]
      repeat with_reducible refine need_mk (by decide +kernel) ?_
      refine callK_val (by simp) hC rfl ?_
      simp
      exact fin_val rfl (by simp) (by simp)
  · have e1 : nodeAdd g lb ps = (zG, 0, false) := by simp [nodeAdd, g1]
    rw [e1] at hA hB hC
    simp only [zG] at hA hB hC
    obtain ⟨l, es, nn, ne⟩ := g
    refine via_laws_FnNodeAdd (by simp) ?_
    simp [pc_laws_FnNodeAdd, hl, c]
    refine callK_ri (by simp) hd ?_
    simp
    refine callK_val (by simp) hA (by simp [T.noImm]) ?_
    simp
    refine callK_ri (by simp) hB ?_
    simp
    repeat with_reducible refine need_mk (by decide +kernel) ?_
    refine callK_val (by simp) hC rfl ?_
    simp
    repeat with_reducible refine need_mk (by decide +kernel) ?_
    refine callK_val (by simp) h1 rfl ?_
    simp [g1]
    repeat with_reducible refine need_mk (by decide +kernel) ?_
    refine callK_val (by simp) h2 rfl ?_
    simp [g1]
    repeat with_reducible refine need_mk (by decide +kernel) ?_
    refine callK_val (by simp) h2 rfl ?_
    simp [g1]
    repeat with_reducible refine need_mk (by decide +kernel) ?_
    refine callK_val (by simp) hC rfl ?_
    simp
    repeat with_reducible refine need_mk (by decide +kernel) ?_
    refine callK_val (by simp) h1 rfl ?_
    simp [g1]
    repeat with_reducible refine need_mk (by decide +kernel) ?_
    refine callK_val (by simp) h2 rfl ?_
    simp [g1]
    repeat with_reducible refine need_mk (by decide +kernel) ?_
    exact fin_val rfl (by simp) (by simp)
end Go.Proofs.Ytonljcphaiklgaa.V
