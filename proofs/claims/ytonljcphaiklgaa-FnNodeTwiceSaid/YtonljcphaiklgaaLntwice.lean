/- The law NodeTwice holds of trees. -/
import Derived.Test.YtonljcphaiklgaaLnadd
import Derived.Test.YtonljcphaiklgaaG3
import Derived.Test.YtonljcphaiklgaaVfFnNodeTwice
namespace Go.Proofs.Ytonljcphaiklgaa.V
open Go
set_option linter.unusedVariables false
set_option linter.unusedSimpArgs false
set_option maxHeartbeats 4000000
theorem full_of {g : Gr} (h : GOk g) {lb : List Tx} {ps : List Pr} (h1 : LabelsOk lb) (h2 : PropsOk ps) (hn : ¬ addNOk g lb ps) : (decide ((g.nodes.length : Int) = 12) || decide (g.nn = 1000000000)) = true := by
  have h3 := h.nl
  have h4 := h.nn
  simp only [Bool.or_eq_true, decide_eq_true_eq]
  by_cases c1 : g.nodes.length < 12
  · by_cases c2 : g.nn < 1000000000
    · exact absurd ⟨h1, h2, c1, c2⟩ hn
    · omega
  · omega
set_option maxRecDepth 20000 in
theorem FnNodeTwice_t (code : List UInt8) (_ : code.length ≤ 9223372036854775807) : Rv Try.prog 9 [.imm (u8T code)] (.b true) := by
  have hl := u8T_len code
  by_cases c : 1048576 < (code.length : Int)
  · refine via_laws_FnNodeTwice (by simp) ?_
    simp [pc_laws_FnNodeTwice, hl, c]
    exact fin_val rfl (by simp) (by simp)
  obtain ⟨g, lb, ps, ⟨hf, hcnt⟩, hlb, hps, hd⟩ := DrawNodeAdd_d code
  have k1 := hlb.cl
  have k2 := hps.cl
  have hA := NodeAdd_c g hf (by omega) lb hlb.ln ps hps.ln (by omega)
  have hB := specNodeAdd_c g hf (by omega) lb hlb.ln ps hps.ln (by omega)
  have hxf := nodeAdd_fit hf (by omega) hlb.ln hps.ln
  have hxc := nodeAdd_cnt g lb ps
  have hC := asGraph_c _ hxf
  by_cases g1 : GOk g
  · by_cases g2 : addNOk g lb ps
    · have e1 : nodeAdd g lb ps = (gAddN g lb ps, g.nn, true) := by simp [nodeAdd, nAdd, g1, g2]
      have g3 := g1.addN g2
      rw [e1] at hA hB hC hxf hxc
      simp only at hA hB hC hxf hxc
      have q1 : (gAddN g lb ps).nodes[g.nodes.length]? = some ⟨g.nn, lb, ps⟩ := by simp [gAddN]
      have q0 : (gAddN g lb ps).nodes.length = g.nodes.length + 1 := by simp [gAddN]
      have qn : (gAddN g lb ps).nn = g.nn + 1 := rfl
      generalize gAddN g lb ps = g' at *
      have hA2 := NodeAdd_c g' hxf (by omega) lb hlb.ln ps hps.ln (by omega)
      by_cases g4 : addNOk g' lb ps
      · have e2 : nodeAdd g' lb ps = (gAddN g' lb ps, g'.nn, true) := by simp [nodeAdd, nAdd, g3, g4]
        have hyf := nodeAdd_fit hxf (by omega) hlb.ln hps.ln
        have hyc := nodeAdd_cnt g' lb ps
        rw [e2] at hA2 hyf hyc
        simp only at hA2 hyf hyc
        have hD := NodeDrop_c _ hyf (by omega) g'.nn true
        rw [drop_added' g3 g4] at hD
        simp only at hD
        have r1 : (gAddN g' lb ps).nodes[g'.nodes.length]? = some ⟨g'.nn, lb, ps⟩ := by simp [gAddN]
        have r2 : (gAddN g' lb ps).nodes[g.nodes.length]? = some ⟨g.nn, lb, ps⟩ := by
          simp only [gAddN]
          rw [List.getElem?_append_left (by omega)]; exact q1
        have r0 : (gAddN g' lb ps).nodes.length = g.nodes.length + 2 := by simp [gAddN, q0]
        have hP := asProps_c ps hps.ln.1 hps.ln.2
        have hnn := g1.nn
        have hnl := g1.nl
        rw [q0] at r1
        clear hyf hyc hxf hxc e1 e2
        generalize gAddN g' lb ps = g'' at *
        obtain ⟨l, es, nn, ne⟩ := g
        obtain ⟨l', es', nn', ne'⟩ := g'
        obtain ⟨l2, es2, nn2, ne2⟩ := g''
        simp only at q1 q0 qn hD r0 r1 r2 hnn hnl
        subst qn
        have w1 : IntKind.i64.wrap ((l2.length : Int) - 1) = ((l.length + 1 : Nat) : Int) := by rw [wrap64 (by omega) (by omega)]; omega
        have w2 : IntKind.i64.wrap ((l2.length : Int) - 2) = ((l.length : Nat) : Int) := by rw [wrap64 (by omega) (by omega)]; omega
        have w3 : IntKind.i64.wrap (nn + 1) = nn + 1 := wrap64 (by omega) (by omega)
        have p1 : (l2.map sN.O)[l.length + 1]? = some (sN.O ⟨nn + 1, lb, ps⟩) := by rw [List.getElem?_map, r1]; rfl
        have p2 : (l2.map sN.O)[l.length]? = some (sN.O ⟨nn, lb, ps⟩) := by rw [List.getElem?_map, r2]; rfl
        have p3 : ((l.length + 1 : Nat) : Int) < (l2.length : Int) := by omega
        have p4 : (l.length : Int) < (l2.length : Int) := by omega
        have p5 : l.length + 1 < l2.length := by omega
        have p6 : l.length < l2.length := by omega
        refine Ret.ofS Try.func9 ok_laws_FnNodeTwice rfl rfl (by simp) ?_
        refine WW_seq (WW_of_W ?_)
        simp
        refine WW_seq (WW_of_W ?_)
        simp [hl, c]
        refine WW_seq (WW_of_W ?_)
        simp
        refine callK_ri (by simp) hd ?_
        simp
        repeat with_reducible refine need_mk (by decide +kernel) ?_
        refine WW_seq (WW_of_W ?_)
        simp
        refine callK_val (by simp) hA (by simp [T.noImm]) ?_
        simp
        repeat with_reducible refine need_mk (by decide +kernel) ?_
        refine WW_seq (WW_of_W ?_)
        simp
        refine callK_ri (by simp) hB ?_
        simp
        repeat with_reducible refine need_mk (by decide +kernel) ?_
        refine WW_seq (WW_of_W ?_)
        simp
        refine callK_val (by simp) hC rfl ?_
        simp
        repeat with_reducible refine need_mk (by decide +kernel) ?_
        refine WW_seq (WW_of_W ?_)
        simp
        refine callK_val (by simp) hA2 (by simp [T.noImm]) ?_
        simp
        repeat with_reducible refine need_mk (by decide +kernel) ?_
        refine WW_seq (WW_of_W ?_)
        simp
        refine WW_seq (WW_of_W ?_)
        simp
        refine callK_val (by simp) hD (by simp [T.noImm]) ?_
        simp
        repeat with_reducible refine need_mk (by decide +kernel) ?_
        refine WW_seq (WW_of_W ?_)
        simp
        refine WW_wk (Wk.split (tk := 8) (r := l.length + 1) (q := 0) (M := 3) (sz := 3) (rows := l2.map sN.O) (row := sN.O ⟨nn + 1, lb, ps⟩) (by simp) p1 (by simp)) ?_
        have p2' : ∀ x, ((l2.map sN.O).set (l.length + 1) x)[l.length]? = some (sN.O ⟨nn, lb, ps⟩) := by
          intro x
          rw [List.getElem?_set_ne (by omega)]; exact p2
        refine WW_wk (Wk.split (tk := 8) (r := l.length) (q := 0) (M := 3) (sz := 3) (rows := (l2.map sN.O).set (l.length + 1) [.i .i64 (nn + 1), .ref 17 0 lb.length, .ref 18 0 ps.length]) (row := sN.O ⟨nn, lb, ps⟩) (by simp) (p2' _) (by simp)) ?_
        have p7 : ∀ x y, (((l2.map sN.O).set (l.length + 1) x).set l.length y)[l.length + 1]? = some x := by
          intro x y
          rw [List.getElem?_set_ne (by omega), List.getElem?_set_self (by simp; omega)]
        have p8 : ∀ x y, (((l2.map sN.O).set (l.length + 1) x).set l.length y)[l.length]? = some y := by
          intro x y
          rw [List.getElem?_set_self (by simp; omega)]
        refine WW_of_W ?_
        simp [-getElem?_pos, w1, w2, w3, p3, p4, p5, p6, p7, p8]
        repeat with_reducible refine need_mk (by decide +kernel) ?_
        refine callK_val (by simp) hC rfl ?_
        simp [-getElem?_pos, w1, w2, w3, p3, p4, p5, p6, p7, p8]
        refine need_mk ⟨by omega, by omega⟩ ?_
        refine callK_val (by simp) hP rfl ?_
        simp
        repeat with_reducible refine need_mk (by decide +kernel) ?_
        exact fin_val rfl (by simp) (by simp)
      · have e2 : nodeAdd g' lb ps = (g', 0, false) := by simp [nodeAdd, nAdd, g3, g4]
        have hfull := full_of g3 g2.1 g2.2.1 g4
        rw [e2] at hA2
        simp only at hA2
        obtain ⟨l, es, nn, ne⟩ := g
        obtain ⟨l', es', nn', ne'⟩ := g'
        simp only [Bool.or_eq_true, decide_eq_true_eq] at hfull
        by_cases c12 : (l'.length : Int) = 12
        · refine via_laws_FnNodeTwice (by simp) ?_
          simp [pc_laws_FnNodeTwice, hl, c]
          refine callK_ri (by simp) hd ?_
          simp
          repeat with_reducible refine need_mk (by decide +kernel) ?_
          refine callK_val (by simp) hA (by simp [T.noImm]) ?_
          simp
          repeat with_reducible refine need_mk (by decide +kernel) ?_
          refine callK_ri (by simp) hB ?_
          simp
          repeat with_reducible refine need_mk (by decide +kernel) ?_
          refine callK_val (by simp) hC rfl ?_
          simp
          repeat with_reducible refine need_mk (by decide +kernel) ?_
          refine callK_val (by simp) hA2 (by simp [T.noImm]) ?_
          simp [c12]
          repeat with_reducible refine need_mk (by decide +kernel) ?_
          exact fin_val rfl (by simp) (by simp)
        · obtain rfl : nn' = 1000000000 := hfull.resolve_left c12
          refine via_laws_FnNodeTwice (by simp) ?_
          simp [pc_laws_FnNodeTwice, hl, c]
          refine callK_ri (by simp) hd ?_
          simp
          repeat with_reducible refine need_mk (by decide +kernel) ?_
          refine callK_val (by simp) hA (by simp [T.noImm]) ?_
          simp
          repeat with_reducible refine need_mk (by decide +kernel) ?_
          refine callK_ri (by simp) hB ?_
          simp
          repeat with_reducible refine need_mk (by decide +kernel) ?_
          refine callK_val (by simp) hC rfl ?_
          simp
          repeat with_reducible refine need_mk (by decide +kernel) ?_
          refine callK_val (by simp) hA2 (by simp [T.noImm]) ?_
          simp [c12]
          repeat with_reducible refine need_mk (by decide +kernel) ?_
          exact fin_val rfl (by simp) (by simp)
    · have e1 : nodeAdd g lb ps = (g, 0, false) := by simp [nodeAdd, nAdd, g1, g2]
      rw [e1] at hA hB hC
      obtain ⟨l, es, nn, ne⟩ := g
      refine via_laws_FnNodeTwice (by simp) ?_
      simp [pc_laws_FnNodeTwice, hl, c]
      refine callK_ri (by simp) hd ?_
      simp
      repeat with_reducible refine need_mk (by decide +kernel) ?_
      refine callK_val (by simp) hA (by simp [T.noImm]) ?_
      simp
      repeat with_reducible refine need_mk (by decide +kernel) ?_
      refine callK_ri (by simp) hB ?_
      simp
      repeat with_reducible refine need_mk (by decide +kernel) ?_
      refine callK_val (by simp) hC rfl ?_
      simp
      repeat with_reducible refine need_mk (by decide +kernel) ?_
      refine callK_val (by simp) hC rfl ?_
      simp
      repeat with_reducible refine need_mk (by decide +kernel) ?_
      exact fin_val rfl (by simp) (by simp)
  · have e1 : nodeAdd g lb ps = (zG, 0, false) := by simp [nodeAdd, g1]
    rw [e1] at hA hB hC
    simp only [zG] at hA hB hC
    obtain ⟨l, es, nn, ne⟩ := g
    refine via_laws_FnNodeTwice (by simp) ?_
    simp [pc_laws_FnNodeTwice, hl, c]
    refine callK_ri (by simp) hd ?_
    simp
    repeat with_reducible refine need_mk (by decide +kernel) ?_
    refine callK_val (by simp) hA (by simp [T.noImm]) ?_
    simp
    repeat with_reducible refine need_mk (by decide +kernel) ?_
    refine callK_ri (by simp) hB ?_
    simp
    repeat with_reducible refine need_mk (by decide +kernel) ?_
    refine callK_val (by simp) hC rfl ?_
    simp
    repeat with_reducible refine need_mk (by decide +kernel) ?_
    refine callK_val (by simp) hC rfl ?_
    simp
    repeat with_reducible refine need_mk (by decide +kernel) ?_
    exact fin_val rfl (by simp) (by simp)
end Go.Proofs.Ytonljcphaiklgaa.V
