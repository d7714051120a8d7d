/- The law EdgeDrop holds of trees. -/
import Derived.Test.YtonljcphaiklgaaG3
import Derived.Test.YtonljcphaiklgaaVfFnEdgeDrop
namespace Go.Proofs.Ytonljcphaiklgaa.V
open Go
set_option linter.unusedVariables false
set_option linter.unusedSimpArgs false
set_option maxHeartbeats 4000000
theorem edgeDrop_fit {g : Gr} (h : g.fit) (id : Int) : (edgeDrop g id).1.fit := by
  unfold edgeDrop
  split
  · split
    · exact h
    · exact fit_dropE h id
  · exact ⟨by simp [zG, ln], by simp [zG], by simp [zG, ln], by simp [zG], by simp [zG, i64], by simp [zG, i64]⟩
theorem edgeDrop_cnt (g : Gr) (id : Int) : (edgeDrop g id).1.cnt ≤ g.cnt := by
  unfold edgeDrop
  split
  · split
    · exact Nat.le_refl _
    · exact cnt_dropE g id
  · simp [zG, Gr.cnt, cl, sums]
set_option maxRecDepth 20000 in
theorem FnEdgeDrop_t (code : List UInt8) (_ : code.length ≤ 9223372036854775807) : Rv Try.prog 7 [.imm (u8T code)] (.b true) := by
  have hl := u8T_len code
  by_cases c : 1048576 < (code.length : Int)
  · refine via_laws_FnEdgeDrop (by simp) ?_
    simp [pc_laws_FnEdgeDrop, hl, c]
    exact fin_val rfl (by simp) (by simp)
  obtain ⟨g, id, ⟨hf, hcnt⟩, hid, hd⟩ := DrawEdgeDrop_d code
  have hA := EdgeDrop_c g hf (by omega) id
  have hB := specEdgeDrop_e g hf (by omega) id
  have hxf := edgeDrop_fit hf id
  have hxc := edgeDrop_cnt g id
  have hC := asGraph_c _ hxf
  have h2 := specGraphOk_c g hf
  have h3 := GraphOk_c _ hxf
  have hA2 := EdgeDrop_c _ hxf (by omega) id
  by_cases g1 : GOk g
  · by_cases g2 : posOf Eg.id id g.edges < 0
    · have e1 : edgeDrop g id = (g, false) := by simp [edgeDrop, g1, g2]
      rw [e1] at hA hB hC h3 hA2
      simp only at hA2
      rw [e1] at hA2
      obtain ⟨l, es, nn, ne⟩ := g
      refine via_laws_FnEdgeDrop (by simp) ?_
      simp [pc_laws_FnEdgeDrop, hl, c]
      refine callK_ri (by simp) hd ?_
      simp
      refine callK_val (by simp) hA (by simp [T.noImm]) ?_
      simp
      refine callK_ri (by simp) hB ?_
      simp
      refine callK_val (by simp) hC rfl ?_
      simp
      refine callK_val (by simp) h2 rfl ?_
      simp [g1]
      refine callK_val (by simp) hA2 (by simp [T.noImm]) ?_
      simp
      refine callK_val (by simp) hC rfl ?_
      simp
      exact fin_val rfl (by simp) (by simp)
    · have e1 : edgeDrop g id = (gDropE g id, true) := by simp [edgeDrop, g1, g2]
      have g3 := g1.dropE id
      have e2 : edgeDrop (gDropE g id) id = (gDropE g id, false) := by
        have := posOf_gone (f := Eg.id) (id := id) g.edges
        have h4 : posOf Eg.id id (gDropE g id).edges < 0 := by simp only [gDropE]; omega
        simp [edgeDrop, g3, h4]
      have e3 := filter_len g1.ea (Int.not_lt.1 g2)
      have hel := g1.el
      rw [e1] at hA hB hC h3 hA2
      simp only at hA2
      rw [e2] at hA2
      simp only at hA hB hC h3 hA2
      have e4 : (gDropE g id).nodes.length = g.nodes.length := rfl
      change (gDropE g id).edges.length + 1 = _ at e3
      clear hxf hxc e1 e2
      generalize gDropE g id = g' at *
      obtain ⟨l, es, nn, ne⟩ := g
      obtain ⟨l', es', nn', ne'⟩ := g'
      simp only at e3 e4 hel
      have hw : IntKind.i64.wrap ((es'.length : Int) + 1) = (es.length : Int) := by rw [wrap64 (by omega) (by omega)]; omega
      have hcN := sN.crO l'
      have hcE := sE.crO es'
      refine via_laws_FnEdgeDrop (by simp) ?_
      simp [pc_laws_FnEdgeDrop, hl, c]
      refine callK_ri (by simp) hd ?_
      simp
      refine callK_val (by simp) hA (by simp [T.noImm]) ?_
      simp
      refine callK_ri (by simp) hB ?_
      simp
      refine callK_val (by simp) hC rfl ?_
      simp
      refine callK_val (by simp) h2 rfl ?_
      simp [g1]
      refine callK_val (by simp) hA2 (by simp [T.noImm]) ?_
      simp
      refine callK_val (by simp) h3 rfl ?_
      simp [g3, hw, e4]
      exact fin_val rfl (by simp) (by simp)
  · have e1 : edgeDrop g id = (zG, false) := by simp [edgeDrop, g1]
    rw [e1] at hA hB hC
    simp only [zG] at hA hB hC
    obtain ⟨l, es, nn, ne⟩ := g
    refine via_laws_FnEdgeDrop (by simp) ?_
    simp [pc_laws_FnEdgeDrop, hl, c]
    refine callK_ri (by simp) hd ?_
    simp
    refine callK_val (by simp) hA (by simp [T.noImm]) ?_
    simp
    refine callK_ri (by simp) hB ?_
    simp
    refine callK_val (by simp) hC rfl ?_
    simp
    refine callK_val (by simp) h2 rfl ?_
    simp [g1]
    refine callK_val (by simp) hC rfl ?_
    simp
    exact fin_val rfl (by simp) (by simp)
end Go.Proofs.Ytonljcphaiklgaa.V
