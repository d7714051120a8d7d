/- The law EdgeAdd holds of trees. -/
import Derived.Test.YtonljcphaiklgaaLedrop
import Derived.Test.YtonljcphaiklgaaLeof
import Derived.Test.YtonljcphaiklgaaG2
import Derived.Test.YtonljcphaiklgaaVfFnEdgeAdd
namespace Go.Proofs.Ytonljcphaiklgaa.V
open Go
set_option linter.unusedVariables false
set_option linter.unusedSimpArgs false
set_option maxHeartbeats 4000000
theorem fit_zG' : zG.fit := ⟨by simp [zG, ln], by simp [zG], by simp [zG, ln], by simp [zG], by simp [zG, i64], by simp [zG, i64]⟩
theorem edgeAdd_fit {g : Gr} (h : g.fit) (hc : g.cnt ≤ 2 ^ 30) {kd : Tx} {fr to : Int} {ps : List Pr} (h1 : ln kd) (hfr : i64 fr) (hto : i64 to) (h2 : ln ps ∧ ∀ x ∈ ps, x.fit) : (edgeAdd g kd fr to ps).1.fit := by
  unfold edgeAdd eAdd
  split
  · split
    · rename_i c
      exact fit_addE h (by unfold Gr.cnt cl at hc; omega) (by have := h.2.2.2.2.2; have := c.2.2.2.2.2; simp only [i64] at *; omega) h1 hfr hto h2
    · exact h
  · exact fit_zG'
theorem edgeAdd_cnt (g : Gr) (kd : Tx) (fr to : Int) (ps : List Pr) : (edgeAdd g kd fr to ps).1.cnt ≤ g.cnt + 1 + (kd.length + cl Pr.cnt ps) := by
  unfold edgeAdd eAdd
  split
  · split
    · exact Nat.le_of_eq (cnt_addE g kd fr to ps)
    · exact Nat.le_trans (Nat.le_add_right _ 1) (Nat.le_add_right _ _)
  · have : zG.cnt = 0 := by simp [zG, Gr.cnt, cl, sums]
    simp only [this]; omega
theorem dropE_added {g : Gr} (h : GOk g) {kd : Tx} {fr to : Int} {ps : List Pr} (hc : addEOk g kd fr to ps) : edgeDrop (gAddE g kd fr to ps) g.ne = ({ g with ne := g.ne + 1 }, true) := by
  have h3 := h.addE hc
  have h4 : ¬ posOf Eg.id g.ne (gAddE g kd fr to ps).edges < 0 := by
    have := posOf_pos.2 (⟨⟨g.ne, kd, fr, to, ps⟩, by simp [gAddE], rfl⟩ : ∃ y ∈ (gAddE g kd fr to ps).edges, y.id = g.ne)
    omega
  have hn := (Asc_iff.1 h.ea).1
  have h5 : (gAddE g kd fr to ps).edges.filter (fun e => !decide (e.id = g.ne)) = g.edges := by
    simp only [gAddE]
    rw [List.filter_append]
    have : g.edges.filter (fun n => !decide (n.id = g.ne)) = g.edges := by
      rw [List.filter_eq_self]
      intro x hx
      have := hn x hx
      simp; omega
    rw [this]; simp
  simp only [edgeDrop, h3, if_true, h4, if_false, gDropE, h5]
  simp [gAddE]
theorem last_of {l : List Int} {x : Int} {m : List Int} (h : m = l ++ [x]) : m[m.length - 1]? = some x ∧ 0 < m.length := by subst h; simp
theorem out_last (g : Gr) (kd : Tx) (fr to : Int) (ps : List Pr) : idsOf fr 1 kd (gAddE g kd fr to ps).edges = idsOf fr 1 kd g.edges ++ [g.ne] := by
  simp [idsOf, gAddE, goes]
theorem in_last (g : Gr) (kd : Tx) (fr to : Int) (ps : List Pr) : idsOf to (-1) [] (gAddE g kd fr to ps).edges = idsOf to (-1) [] g.edges ++ [g.ne] := by
  simp [idsOf, gAddE, goes]
set_option maxRecDepth 20000 in
theorem FnEdgeAdd_t (code : List UInt8) (_ : code.length ≤ 9223372036854775807) : Rv Try.prog 10 [.imm (u8T code)] (.b true) := by
  have hl := u8T_len code
  by_cases c : 1048576 < (code.length : Int)
  · refine via_laws_FnEdgeAdd (by simp) ?_
    simp [pc_laws_FnEdgeAdd, hl, c]
    exact fin_val rfl (by simp) (by simp)
  obtain ⟨g, kd, fr, to, ps, ⟨hf, hcnt⟩, hkd, hfr, hto, hps, hd⟩ := DrawEdgeAdd_d code
  have k2 := hps.cl
  have hkl : ln kd := by simp only [ln]; omega
  have hA := EdgeAdd_c g hf (by omega) kd hkl fr to ps hps.ln (by omega)
  have hB := specEdgeAdd_c g hf (by omega) kd hkl fr to ps hps.ln (by omega)
  have hxf := edgeAdd_fit hf (by omega) hkl hfr hto hps.ln
  have hxc := edgeAdd_cnt g kd fr to ps
  have hC := asGraph_c _ hxf
  have h2 := specGraphOk_c g hf
  have h3 := GraphOk_c _ hxf
  by_cases g1 : GOk g
  · by_cases g2 : addEOk g kd fr to ps
    · have e1 : edgeAdd g kd fr to ps = (gAddE g kd fr to ps, g.ne, true) := by simp [edgeAdd, eAdd, g1, g2]
      have g3 := g1.addE g2
      have hD := EdgeDrop_c _ hxf (by omega) g.ne
      have hO := EdgesOf_c _ hxf (by omega) fr 1 kd
      have hI := EdgesOf_c _ hxf (by omega) to (-1) []
      have hG := asGraph_c g hf
      rw [e1] at hA hB hC h3 hD hO hI
      simp only at hA hB hC h3 hD hO hI
      rw [dropE_added g1 g2] at hD
      rw [eof_ok g3 (by omega) (by omega)] at hO hI
      have o1 := last_of (out_last g kd fr to ps)
      have i1 := last_of (in_last g kd fr to ps)
      have ol := ids_le fr 1 kd (gAddE g kd fr to ps).edges
      have il := ids_le to (-1) [] (gAddE g kd fr to ps).edges
      have hel := g3.el
      generalize idsOf fr 1 kd (gAddE g kd fr to ps).edges = O at *
      generalize idsOf to (-1) [] (gAddE g kd fr to ps).edges = I at *
      clear hxf hxc e1
      generalize gAddE g kd fr to ps = g' at *
      obtain ⟨l, es, nn, ne⟩ := g
      obtain ⟨l', es', nn', ne'⟩ := g'
      simp only at hD o1 i1 ol il hel
      obtain ⟨o1, o2⟩ := o1
      obtain ⟨i1, i2⟩ := i1
      have wo : IntKind.i64.wrap ((O.length : Int) - 1) = ((O.length - 1 : Nat) : Int) := by rw [wrap64 (by omega) (by omega)]; omega
      have wi : IntKind.i64.wrap ((I.length : Int) - 1) = ((I.length - 1 : Nat) : Int) := by rw [wrap64 (by omega) (by omega)]; omega
      have o3 : ((O.length - 1 : Nat) : Int) < (O.length : Int) := by omega
      have i3 : ((I.length - 1 : Nat) : Int) < (I.length : Int) := by omega
      have o4 : (O.map sI.O)[O.length - 1]? = some [.i .i64 ne] := by rw [List.getElem?_map, o1]; rfl
      have i4 : (I.map sI.O)[I.length - 1]? = some [.i .i64 ne] := by rw [List.getElem?_map, i1]; rfl
      have o5 : O.length - 1 < O.length := by omega
      have i5 : I.length - 1 < I.length := by omega
      generalize hOn : O.length - 1 = on at *
      generalize hIn : I.length - 1 = inn at *
      refine via_laws_FnEdgeAdd (by simp) ?_
      simp [pc_laws_FnEdgeAdd, hl, c]
      refine callK_ri (by simp) hd ?_
      simp
      repeat with_reducible refine need_mk (by decide +kernel) ?_
      refine callK_val (by simp) hA (by simp [T.noImm]) ?_
      simp
      repeat with_reducible refine need_mk (by decide +kernel) ?_
      refine callK_ri (by simp) hB ?_
      simp
      repeat with_reducible refine need_mk (by decide +kernel) ?_
      refine callK_val (by simp) hC rfl ?_
      simp
      repeat with_reducible refine need_mk (by decide +kernel) ?_
      refine callK_val (by simp) h2 rfl ?_
      simp [g1]
      repeat with_reducible refine need_mk (by decide +kernel) ?_
      refine callK_val (by simp) hD (by simp [T.noImm]) ?_
      simp
      repeat with_reducible refine need_mk (by decide +kernel) ?_
      refine callK_val (by simp) hO (by simp [T.noImm]) ?_
      simp
      repeat with_reducible refine need_mk (by decide +kernel) ?_
      refine callK_val (by simp) hI (by simp [T.noImm]) ?_
      simp
      repeat with_reducible refine need_mk (by decide +kernel) ?_
      refine callK_val (by simp) h3 rfl ?_
      simp [-getElem?_pos, g3, wo, wi, o3, i3, o4, i4, o5, i5]
      repeat with_reducible refine need_mk (by decide +kernel) ?_
      refine callK_val (by simp) hG rfl ?_
      simp
      repeat with_reducible refine need_mk (by decide +kernel) ?_
      exact fin_val rfl (by simp) (by simp)
    · have e1 : edgeAdd g kd fr to ps = (g, 0, false) := by simp [edgeAdd, eAdd, g1, g2]
      rw [e1] at hA hB hC
      obtain ⟨l, es, nn, ne⟩ := g
      refine via_laws_FnEdgeAdd (by simp) ?_
      simp [pc_laws_FnEdgeAdd, hl, c]
      refine callK_ri (by simp) hd ?_
      simp
      repeat with_reducible refine need_mk (by decide +kernel) ?_
      refine callK_val (by simp) hA (by simp [T.noImm]) ?_
      simp
      repeat with_reducible refine need_mk (by decide +kernel) ?_
      refine callK_ri (by simp) hB ?_
      simp
      repeat with_reducible refine need_mk (by decide +kernel) ?_
      refine callK_val (by simp) hC rfl ?_
      simp
      repeat with_reducible refine need_mk (by decide +kernel) ?_
      refine callK_val (by simp) h2 rfl ?_
      simp [g1]
      repeat with_reducible refine need_mk (by decide +kernel) ?_
      refine callK_val (by simp) hC rfl ?_
      simp
      repeat with_reducible refine need_mk (by decide +kernel) ?_
      exact fin_val rfl (by simp) (by simp)
  · have e1 : edgeAdd g kd fr to ps = (zG, 0, false) := by simp [edgeAdd, g1]
    rw [e1] at hA hB hC
    simp only [zG] at hA hB hC
    obtain ⟨l, es, nn, ne⟩ := g
    refine via_laws_FnEdgeAdd (by simp) ?_
    simp [pc_laws_FnEdgeAdd, hl, c]
    refine callK_ri (by simp) hd ?_
    simp
    repeat with_reducible refine need_mk (by decide +kernel) ?_
    refine callK_val (by simp) hA (by simp [T.noImm]) ?_
    simp
    repeat with_reducible refine need_mk (by decide +kernel) ?_
    refine callK_ri (by simp) hB ?_
    simp
    repeat with_reducible refine need_mk (by decide +kernel) ?_
    refine callK_val (by simp) hC rfl ?_
    simp
    repeat with_reducible refine need_mk (by decide +kernel) ?_
    refine callK_val (by simp) h2 rfl ?_
    simp [g1]
    repeat with_reducible refine need_mk (by decide +kernel) ?_
    refine callK_val (by simp) hC rfl ?_
    simp
    repeat with_reducible refine need_mk (by decide +kernel) ?_
    exact fin_val rfl (by simp) (by simp)
end Go.Proofs.Ytonljcphaiklgaa.V
