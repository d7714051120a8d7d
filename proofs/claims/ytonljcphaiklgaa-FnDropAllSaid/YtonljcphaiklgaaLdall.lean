/- The law DropAll holds of trees. -/
import Derived.Test.YtonljcphaiklgaaG3
import Derived.Test.YtonljcphaiklgaaVfFnDropAll
namespace Go.Proofs.Ytonljcphaiklgaa.V
open Go
set_option linter.unusedVariables false
set_option linter.unusedSimpArgs false
set_option maxHeartbeats 4000000
def dropAll : List Nd → Gr → Gr
  | [], g => g
  | a :: l, g => dropAll l (gDropN g a.id)
theorem dropAll_app : ∀ (l m : List Nd) (g : Gr), dropAll (l ++ m) g = dropAll m (dropAll l g)
  | [], m, g => rfl
  | a :: l, m, g => by simp only [List.cons_append, dropAll]; exact dropAll_app l m _
theorem drop_first {k : Int} {a : Nd} {l : List Nd} (h : Asc Nd.id k (a :: l)) : (a :: l).filter (fun n => !decide (n.id = a.id)) = l := by
  have h1 := (Asc_iff.1 h).2
  rw [List.pairwise_cons] at h1
  rw [List.filter_cons_of_neg (by simp), List.filter_eq_self]
  intro x hx
  have := h1.1 x hx
  simp; omega
theorem dropAll_ok : ∀ (l m : List Nd) {g : Gr}, GOk g → g.nodes = l ++ m → GOk (dropAll l g) ∧ (dropAll l g).nodes = m ∧ (dropAll l g).nn = g.nn ∧ (dropAll l g).ne = g.ne
  | [], m, g, h, hn => ⟨h, hn, rfl, rfl⟩
  | a :: l, m, g, h, hn => by
    have h1 := h.dropN a.id
    have h2 : (gDropN g a.id).nodes = l ++ m := by
      have := h.na
      rw [hn] at this
      simp only [gDropN, hn, List.cons_append]
      exact drop_first this
    obtain ⟨h3, h4, h5, h6⟩ := dropAll_ok l m h1 h2
    exact ⟨h3, h4, h5, h6⟩
theorem dropAll_fit : ∀ (l : List Nd) {g : Gr}, g.fit → (dropAll l g).fit ∧ (dropAll l g).cnt ≤ g.cnt
  | [], g, h => ⟨h, Nat.le_refl _⟩
  | a :: l, g, h => by
    obtain ⟨h1, h2⟩ := dropAll_fit l (fit_dropN h a.id)
    exact ⟨h1, Nat.le_trans h2 (cnt_dropN g a.id)⟩
theorem dropAll_end {g : Gr} (h : GOk g) : dropAll g.nodes g = ⟨[], [], g.nn, g.ne⟩ := by
  obtain ⟨h1, h2, h3, h4⟩ := dropAll_ok g.nodes [] h (by simp)
  have h5 : (dropAll g.nodes g).edges = [] := by
    rw [List.eq_nil_iff_forall_not_mem]
    intro e he
    obtain ⟨_, _, h6, _⟩ := h1.eok e he
    obtain ⟨x, hx, _⟩ := posOf_pos.1 h6
    rw [h2] at hx
    simp at hx
  generalize dropAll g.nodes g = x at *
  obtain ⟨a, b, c, d⟩ := x
  simp only at h2 h3 h4 h5
  rw [h2, h3, h4, h5]
set_option maxRecDepth 20000 in
theorem FnDropAll_t (code : List UInt8) (_ : code.length ≤ 9223372036854775807) : Rv Try.prog 6 [.imm (u8T code)] (.b true) := by
  have hl := u8T_len code
  by_cases c : 1048576 < (code.length : Int)
  · refine via_laws_FnDropAll (by simp) ?_
    simp [pc_laws_FnDropAll, hl, c]
    exact fin_val rfl (by simp) (by simp)
  obtain ⟨g, ⟨hf, hcnt⟩, hd⟩ := DrawGraphOk_d code
  have h1 := GraphOk_c g hf
  have h2 := specGraphOk_c g hf
  by_cases g1 : GOk g
  · have hE := dropAll_end g1
    have hC := asGraph_c (dropAll g.nodes g) (dropAll_fit g.nodes hf).1
    rw [hE] at hC
    have hnl := g1.nl
    have hD : ∀ i x, g.nodes[i]? = some x → Rv Try.prog 25 [.agg (sG.I (dropAll (g.nodes.take i) g)), .i .i64 x.id, .b true] (.tup [.agg (sG.O (dropAll (g.nodes.take (i + 1)) g)), .b true]) ∧ Rv Try.prog 15 [.agg (sG.I (dropAll (g.nodes.take (i + 1)) g))] (.b true) := by
      intro i x hx
      have hlt := (List.getElem?_eq_some_iff.1 hx).1
      have hspl : g.nodes = g.nodes.take i ++ g.nodes.drop i := (List.take_append_drop i g.nodes).symm
      have hdr : g.nodes.drop i = x :: g.nodes.drop (i + 1) := by
        rw [List.drop_eq_getElem_cons hlt]
        congr 1
        exact (List.getElem?_eq_some_iff.1 hx).2
      obtain ⟨k1, k2, _, _⟩ := dropAll_ok (g.nodes.take i) (g.nodes.drop i) g1 hspl
      obtain ⟨f1, f2⟩ := dropAll_fit (g.nodes.take i) hf
      have hnx : dropAll (g.nodes.take (i + 1)) g = gDropN (dropAll (g.nodes.take i) g) x.id := by
        rw [List.take_add_one, hx, dropAll_app]; rfl
      have hpos : ¬ posOf Nd.id x.id (dropAll (g.nodes.take i) g).nodes < 0 := by
        have := posOf_pos.2 (⟨x, by rw [k2, hdr]; simp, rfl⟩ : ∃ y ∈ (dropAll (g.nodes.take i) g).nodes, y.id = x.id)
        omega
      have e1 : nodeDrop (dropAll (g.nodes.take i) g) x.id true = (gDropN (dropAll (g.nodes.take i) g) x.id, true) := by simp [nodeDrop, k1, hpos, dropN]
      have := NodeDrop_c _ f1 (by omega) x.id true
      rw [e1] at this
      rw [hnx]
      refine ⟨this, ?_⟩
      have h5 := GraphOk_c _ (fit_dropN f1 x.id)
      have h6 : ∀ b : Bool, b = true → Rv Try.prog 15 [.agg (sG.I (gDropN (dropAll (g.nodes.take i) g) x.id))] (.b b) → Rv Try.prog 15 [.agg (sG.I (gDropN (dropAll (g.nodes.take i) g) x.id))] (.b true) := fun b hb h => hb ▸ h
      exact h6 _ (by simpa using k1.dropN x.id) h5
    have hX0 : dropAll (g.nodes.take 0) g = g := rfl
    have hXn : dropAll (g.nodes.take g.nodes.length) g = ⟨[], [], g.nn, g.ne⟩ := by rw [List.take_length]; exact hE
    generalize hX : (fun i => dropAll (g.nodes.take i) g) = X at *
    have hXi : ∀ i, dropAll (g.nodes.take i) g = X i := fun i => by rw [← hX]
    simp only [hXi] at hD hX0 hXn
    clear hXi hX hE
    obtain ⟨l, es, nn, ne⟩ := g
    simp only at hnl hXn hD
    refine via_laws_FnDropAll (by simp) ?_
    simp [pc_laws_FnDropAll, hl, c]
    refine callK_ri (by simp) hd ?_
    simp
    refine callK_val (by simp) h1 rfl ?_
    simp [g1]
    refine callK_val (by simp) h2 rfl ?_
    simp [g1]
    refine W_for (fun i => ⟨[(6, .i .i64 i), (5, .ptr 2 0 0), (3, .ptr 0 0 0)], [(0, .arr 4 [sG.I ⟨l, es, nn, ne⟩]), (2, .arr 4 [if i = 0 then sG.I (X i) else sG.O (X i)])], 20, 0⟩) l.length (fun i => True) (Wk.less rfl (by simp) (by simp) (by simp [hX0])) trivial ?_
    intro i hi _
    rcases Nat.lt_or_ge i l.length with h3 | h3
    · obtain ⟨x, hx⟩ : ∃ x, l[i]? = some x := ⟨_, List.getElem?_eq_getElem h3⟩
      have hw : IntKind.i64.wrap ((i : Int) + 1) = (i : Int) + 1 := wrap1 (by omega)
      obtain ⟨D1, D2⟩ := hD i x hx
      have hne : ¬ i + 1 = 0 := by omega
      rw [if_neg hne]
      generalize X (i + 1) = x2 at *
      generalize X i = x1 at *
      obtain ⟨l2, es2, nn2, ne2⟩ := x2
      obtain ⟨l1, es1, nn1, ne1⟩ := x1
      obtain ⟨id, lb, ps⟩ := x
      simp only at D1
      have hcN := sN.crO l2
      have hcE := sE.crO es2
      have hcN1 := sN.crO l1
      have hcE1 := sE.crO es1
      by_cases h0 : i = 0
      · rw [if_pos h0]
        simp [-getElem?_pos, hx, hw, h3]
        refine callK_val (by simp) D1 (by simp [T.noImm]) ?_
        simp [-getElem?_pos, hx, hw, h3]
        repeat with_reducible refine need_mk (by decide +kernel) ?_
        refine callK_val (by simp) D2 rfl ?_
        simp [-getElem?_pos, hx, hw, h3]
        refine Wk.trans (Wk.join (b := 2) (r := 0) (cs := sG.O ⟨l2, es2, nn2, ne2⟩) rfl rfl (by simp) (by simp)) ?_
        exact Wk.to rfl (by simp) (by simp) (by simp [Blk.names]) (by simp)
      · rw [if_neg h0]
        simp [-getElem?_pos, hx, hw, h3]
        refine callK_val (by simp) D1 (by simp [T.noImm]) ?_
        simp [-getElem?_pos, hx, hw, h3]
        repeat with_reducible refine need_mk (by decide +kernel) ?_
        refine callK_val (by simp) D2 rfl ?_
        simp [-getElem?_pos, hx, hw, h3]
        refine Wk.trans (Wk.join (b := 2) (r := 0) (cs := sG.O ⟨l2, es2, nn2, ne2⟩) rfl rfl (by simp) (by simp)) ?_
        exact Wk.to rfl (by simp) (by simp) (by simp [Blk.names]) (by simp)
    · obtain rfl : i = l.length := by omega
      simp only at hC
      rw [hXn]
      by_cases h0 : l.length = 0
      · rw [if_pos h0]
        simp
        refine callK_val (by simp) hC rfl ?_
        simp
        exact fin_val rfl (by simp) (by simp)
      · rw [if_neg h0]
        simp
        refine callK_val (by simp) hC rfl ?_
        simp
        exact fin_val rfl (by simp) (by simp)
  · obtain ⟨l, es, nn, ne⟩ := g
    refine via_laws_FnDropAll (by simp) ?_
    simp [pc_laws_FnDropAll, hl, c]
    refine callK_ri (by simp) hd ?_
    simp
    refine callK_val (by simp) h1 rfl ?_
    simp [g1]
    refine callK_val (by simp) h2 rfl ?_
    simp [g1]
    refine callK_val (by simp) h2 rfl ?_
    simp [g1]
    exact fin_val rfl (by simp) (by simp)
end Go.Proofs.Ytonljcphaiklgaa.V
