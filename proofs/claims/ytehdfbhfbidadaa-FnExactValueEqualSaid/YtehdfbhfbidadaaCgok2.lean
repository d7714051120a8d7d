/- Graphs that are ok: the program's and the reference's word. -/
import Derived.Test.YtehdfbhfbidadaaCgok
namespace Go.Proofs.Ytehdfbhfbidadaa.V
open Go
set_option linter.unusedVariables false
set_option linter.unusedSimpArgs false
set_option maxHeartbeats 16000000
structure GOk (g : Gr) : Prop where
  nn : 0 ≤ g.nn ∧ g.nn ≤ 1000000000
  ne : 0 ≤ g.ne ∧ g.ne ≤ 1000000000
  nl : g.nodes.length ≤ 12
  el : g.edges.length ≤ 16
  na : Asc Nd.id g.nn g.nodes
  ea : Asc Eg.id g.ne g.edges
  nok : ∀ x ∈ g.nodes, LabelsOk x.labels ∧ PropsOk x.props
  eok : ∀ x ∈ g.edges, nameOk x.kind = true ∧ PropsOk x.props ∧ 0 ≤ posOf Nd.id x.frm g.nodes ∧ 0 ≤ posOf Nd.id x.to g.nodes
/-- Up to a place. -/
def To {α : Type} (C : α → Prop) (l : List α) (n : Nat) : Prop := ∀ (i : Nat) (x : α), i < n → l[i]? = some x → C x
theorem To.zero {α : Type} {C : α → Prop} {l : List α} : To C l 0 := fun i x h => by omega
theorem To.succ {α : Type} {C : α → Prop} {l : List α} {n : Nat} {x : α} (h : To C l n) (hx : l[n]? = some x) (h1 : C x) : To C l (n + 1) := by
  intro i z hi hz
  rcases Nat.lt_or_ge i n with h3 | h3
  · exact h i z h3 hz
  · obtain rfl : i = n := by omega
    rw [hx] at hz; simp at hz; subst hz; exact h1
theorem To.all {α : Type} {C : α → Prop} {l : List α} {n : Nat} (h : To C l n) (hn : l.length ≤ n) : ∀ x ∈ l, C x := by
  intro x hx
  obtain ⟨j, hj⟩ := List.mem_iff_getElem?.1 hx
  exact h j x (by have := (List.getElem?_eq_some_iff.1 hj).1; omega) hj
open Classical in
theorem GraphOk_c (g : Gr) (hf : g.fit) : Rv Try.prog 50 [.agg (sG.I g)] (.b (decide (GOk g))) := by
  have ok1 : okCall Try.prog 97 = true := by kernel_rfl
  have ok2 : okCall Try.prog 116 = true := by kernel_rfl
  obtain ⟨l, es, nn, ne⟩ := g
  obtain ⟨hl, hl', he, he', hn1, hn2⟩ := hf
  simp only at hl hl' he he' hn1 hn2
  refine via_impl_GraphOk (by simp) ?_
  by_cases h1 : nn < 0
  · simp [pc_impl_GraphOk, h1]
    exact fin_val rfl (by simp [show ¬ GOk ⟨l, es, nn, ne⟩ from fun h => by have := h.nn; simp only at this; omega]) (by simp)
  by_cases h2 : 1000000000 < nn
  · simp [pc_impl_GraphOk, h1, h2]
    exact fin_val rfl (by simp [show ¬ GOk ⟨l, es, nn, ne⟩ from fun h => by have := h.nn; simp only at this; omega]) (by simp)
  by_cases h3 : ne < 0
  · simp [pc_impl_GraphOk, h1, h2, h3]
    exact fin_val rfl (by simp [show ¬ GOk ⟨l, es, nn, ne⟩ from fun h => by have := h.ne; simp only at this; omega]) (by simp)
  by_cases h4 : 1000000000 < ne
  · simp [pc_impl_GraphOk, h1, h2, h3, h4]
    exact fin_val rfl (by simp [show ¬ GOk ⟨l, es, nn, ne⟩ from fun h => by have := h.ne; simp only at this; omega]) (by simp)
  by_cases h5 : 12 < (l.length : Int)
  · simp [pc_impl_GraphOk, h1, h2, h3, h4, h5]
    exact fin_val rfl (by simp [show ¬ GOk ⟨l, es, nn, ne⟩ from fun h => by have := h.nl; simp only at this; omega]) (by simp)
  by_cases h6 : 16 < (es.length : Int)
  · simp [pc_impl_GraphOk, h1, h2, h3, h4, h5, h6]
    exact fin_val rfl (by simp [show ¬ GOk ⟨l, es, nn, ne⟩ from fun h => by have := h.el; simp only at this; omega]) (by simp)
  simp [pc_impl_GraphOk, h1, h2, h3, h4, h5, h6]
  refine hookH_view (nodesOf_v (.imm (l.map sN.I)) (.imm (es.map sE.I)) rfl rfl nn ne) rfl ok1 (by simp) ?_
  simp
  refine callK_val (by simp) (ascendN_c l (by omega) nn) rfl ?_
  by_cases h7 : Asc Nd.id nn l
  · simp [h7]
    refine hookH_view (edgesIn_v (.imm (l.map sN.I)) (.imm (es.map sE.I)) rfl rfl nn ne) rfl ok2 (by simp) ?_
    simp [h7]
    refine callK_val (by simp) (ascendE_c es (by omega) ne) rfl ?_
    by_cases h8 : Asc Eg.id ne es
    · simp [h7, h8]
      refine W_for (fun i => ⟨[(54, .i .i64 i), (53, .i .i64 l.length), (52, .imm (l.map sN.I)), (1, .ptr 0 0 0), (3, .ptr 1 0 0)], [(0, .arr 4 [sG.I ⟨l, es, nn, ne⟩]), (1, .arr 2 [[.imm (l.map sN.I), .fn 158 []]])], 107, 0⟩) l.length (To (fun x : Nd => LabelsOk x.labels ∧ PropsOk x.props) l) (Wk.less rfl (by simp) (by simp) (by simp)) .zero ?_
      intro i hi hv
      rcases Nat.lt_or_ge i l.length with hlt | hge
      · obtain ⟨⟨a, b, c⟩, hx⟩ : ∃ x, l[i]? = some x := ⟨_, List.getElem?_eq_getElem hlt⟩
        have hw : IntKind.i64.wrap ((i : Int) + 1) = (i : Int) + 1 := wrap1 (by omega)
        obtain ⟨_, f1, f2, f3, f4⟩ := hl' _ (List.mem_of_getElem? hx)
        simp only at f1 f2 f3 f4
        simp [-getElem?_pos, hx, hw, hlt]
        refine callK_val (by simp) (labelsOk_c b f1 f2) rfl ?_
        by_cases g1 : LabelsOk b
        · simp [-getElem?_pos, hx, hw, hlt, g1]
          refine callK_val (by simp) (propsOk_c c f3 f4) rfl ?_
          by_cases g2 : PropsOk c
          · simp [-getElem?_pos, hx, hw, hlt, g1, g2]
            exact ⟨hv.succ hx ⟨g1, g2⟩, Wk.to rfl (by simp) (by simp) (by simp [Blk.names]) (by simp)⟩
          · simp [-getElem?_pos, hx, hw, hlt, g1, g2]
            exact fin_val rfl (by simp [show ¬ GOk ⟨l, es, nn, ne⟩ from fun h => g2 (h.nok _ (List.mem_of_getElem? hx)).2]) (by simp)
        · simp [-getElem?_pos, hx, hw, hlt, g1]
          exact fin_val rfl (by simp [show ¬ GOk ⟨l, es, nn, ne⟩ from fun h => g1 (h.nok _ (List.mem_of_getElem? hx)).1]) (by simp)
      · have hnlt : ¬ i < l.length := by omega
        have hnok := hv.all hge
        simp [hnlt]
        refine W_for (fun i => ⟨[(72, .i .i64 i), (71, .i .i64 es.length), (70, .imm (es.map sE.I)), (1, .ptr 0 0 0), (3, .ptr 1 0 0)], [(0, .arr 4 [sG.I ⟨l, es, nn, ne⟩]), (1, .arr 2 [[.imm (l.map sN.I), .fn 158 []]])], 107, 0⟩) es.length (To (fun x : Eg => nameOk x.kind = true ∧ PropsOk x.props ∧ 0 ≤ posOf Nd.id x.frm l ∧ 0 ≤ posOf Nd.id x.to l) es) (Wk.less rfl (by simp) (by simp) (by simp)) .zero ?_
        intro i hi hv
        rcases Nat.lt_or_ge i es.length with hlt | hge
        · obtain ⟨⟨a, k, b, c, p⟩, hx⟩ : ∃ x, es[i]? = some x := ⟨_, List.getElem?_eq_getElem hlt⟩
          have hw : IntKind.i64.wrap ((i : Int) + 1) = (i : Int) + 1 := wrap1 (by omega)
          obtain ⟨_, f1, _, _, f3, f4⟩ := he' _ (List.mem_of_getElem? hx)
          simp only at f1 f3 f4
          have no : ¬ (nameOk k = true ∧ PropsOk p ∧ 0 ≤ posOf Nd.id b l ∧ 0 ≤ posOf Nd.id c l) → ¬ GOk ⟨l, es, nn, ne⟩ := fun h h2 => h (h2.eok _ (List.mem_of_getElem? hx))
          simp [-getElem?_pos, hx, hw, hlt]
          refine callK_val (by simp) (NameOk_c k f1) rfl ?_
          by_cases g1 : nameOk k = true
          · simp [-getElem?_pos, hx, hw, hlt, g1]
            refine callK_val (by simp) (propsOk_c p f3 f4) rfl ?_
            by_cases g2 : PropsOk p
            · simp [-getElem?_pos, hx, hw, hlt, g1, g2]
              refine callK_val (by simp) (placeN_c l (by omega) b) rfl ?_
              by_cases g3 : posOf Nd.id b l < 0
              · simp [-getElem?_pos, hx, hw, hlt, g1, g2, g3]
                exact fin_val rfl (by simp [no (by omega)]) (by simp)
              · simp [-getElem?_pos, hx, hw, hlt, g1, g2, g3]
                refine callK_val (by simp) (placeN_c l (by omega) c) rfl ?_
                by_cases g4 : posOf Nd.id c l < 0
                · simp [-getElem?_pos, hx, hw, hlt, g1, g2, g3, g4]
                  exact fin_val rfl (by simp [no (by omega)]) (by simp)
                · simp [-getElem?_pos, hx, hw, hlt, g1, g2, g3, g4]
                  exact ⟨hv.succ hx ⟨g1, g2, by simp only; omega, by simp only; omega⟩, Wk.to rfl (by simp) (by simp) (by simp [Blk.names]) (by simp)⟩
            · simp [-getElem?_pos, hx, hw, hlt, g1, g2]
              exact fin_val rfl (by simp [no (fun h => g2 h.2.1)]) (by simp)
          · simp [-getElem?_pos, hx, hw, hlt, g1]
            exact fin_val rfl (by simp [no (fun h => g1 h.1)]) (by simp)
        · have hnlt : ¬ i < es.length := by omega
          have heok := hv.all hge
          simp [hnlt]
          have : GOk ⟨l, es, nn, ne⟩ := ⟨by simp only; omega, by simp only; omega, by simp only; omega, by simp only; omega, h7, h8, hnok, heok⟩
          exact fin_val rfl (by simp [this]) (by simp)
    · simp [h7, h8]
      exact fin_val rfl (by simp [show ¬ GOk ⟨l, es, nn, ne⟩ from fun h => h8 h.ea]) (by simp)
  · simp [h7]
    exact fin_val rfl (by simp [show ¬ GOk ⟨l, es, nn, ne⟩ from fun h => h7 h.na]) (by simp)
theorem Asc.mono {α : Type} {f : α → Int} {e e' : Int} {l : List α} (h : Asc f e l) (he : e ≤ e') : Asc f e' l := fun i x hx => by
  obtain ⟨h1, h2, h3⟩ := h i x hx
  exact ⟨h1, by omega, h3⟩
/-- Between 0 and one less, behind the one ahead. -/
def Stp {α : Type} (f : α → Int) (e : Int) (l : List α) (i : Nat) (x : α) : Prop := 0 ≤ f x ∧ f x ≤ e ∧ ∀ y, 0 < i → l[i - 1]? = some y → f y < f x
def ToI {α : Type} (C : Nat → α → Prop) (l : List α) (n : Nat) : Prop := ∀ (i : Nat) (x : α), i < n → l[i]? = some x → C i x
theorem ToI.zero {α : Type} {C : Nat → α → Prop} {l : List α} : ToI C l 0 := fun i x h => by omega
theorem ToI.succ {α : Type} {C : Nat → α → Prop} {l : List α} {n : Nat} {x : α} (h : ToI C l n) (hx : l[n]? = some x) (h1 : C n x) : ToI C l (n + 1) := by
  intro i z hi hz
  rcases Nat.lt_or_ge i n with h3 | h3
  · exact h i z h3 hz
  · obtain rfl : i = n := by omega
    rw [hx] at hz; simp at hz; subst hz; exact h1
theorem ToI.all {α : Type} {C : Nat → α → Prop} {l : List α} {n : Nat} (h : ToI C l n) (hn : l.length ≤ n) : ∀ (i : Nat) (x : α), l[i]? = some x → C i x :=
  fun i x hx => h i x (by have := (List.getElem?_eq_some_iff.1 hx).1; omega) hx
open Classical in
theorem specGraphOk_c (g : Gr) (hf : g.fit) : Rv Try.prog 34 [.agg (sG.I g)] (.b (decide (GOk g))) := by
  obtain ⟨l, es, nn, ne⟩ := g
  obtain ⟨hl, hl', he, he', hn1, hn2⟩ := hf
  simp only at hl hl' he he' hn1 hn2
  have q1 : GOk ⟨l, es, nn, ne⟩ → IntKind.i64.wrap (nn - 1) = nn - 1 := fun h => wrap64 (by have := h.nn; simp only at this; omega) (by have := h.nn; simp only at this; omega)
  have q2 : GOk ⟨l, es, nn, ne⟩ → IntKind.i64.wrap (ne - 1) = ne - 1 := fun h => wrap64 (by have := h.ne; simp only at this; omega) (by have := h.ne; simp only at this; omega)
  refine via_spec_GraphOk (by simp) ?_
  have nN : ∀ (i : Nat) (x : Nd), l[i]? = some x → ¬ (Stp Nd.id (IntKind.i64.wrap (nn - 1)) l i x ∧ LabelsOk x.labels ∧ PropsOk x.props) → ¬ GOk ⟨l, es, nn, ne⟩ := by
    intro i x hx h hg
    refine h ⟨?_, hg.nok x (List.mem_of_getElem? hx)⟩
    obtain ⟨a1, a2, a3⟩ := hg.na i x hx
    rw [q1 hg]
    exact ⟨a1, by simp only at a2; omega, a3⟩
  have nE : ∀ (i : Nat) (x : Eg), es[i]? = some x → ¬ (Stp Eg.id (IntKind.i64.wrap (ne - 1)) es i x ∧ nameOk x.kind = true ∧ PropsOk x.props ∧ 0 ≤ posOf Nd.id x.frm l ∧ 0 ≤ posOf Nd.id x.to l) → ¬ GOk ⟨l, es, nn, ne⟩ := by
    intro i x hx h hg
    refine h ⟨?_, hg.eok x (List.mem_of_getElem? hx)⟩
    obtain ⟨a1, a2, a3⟩ := hg.ea i x hx
    rw [q2 hg]
    exact ⟨a1, by simp only at a2; omega, a3⟩
  generalize hq1 : IntKind.i64.wrap (nn - 1) = w1 at *
  generalize hq2 : IntKind.i64.wrap (ne - 1) = w2 at *
  simp [pc_spec_GraphOk]
  refine W_for (fun i => ⟨[(3, .i .i64 i), (1, .ptr 0 0 0)], [(0, .arr 4 [sG.I ⟨l, es, nn, ne⟩])], 1, 0⟩) l.length (ToI (fun i (x : Nd) => Stp Nd.id w1 l i x ∧ LabelsOk x.labels ∧ PropsOk x.props) l) (Wk.less rfl (by simp) (by simp) (by simp)) .zero ?_
  intro i hi hv
  rcases Nat.lt_or_ge i l.length with hlt | hge
  · obtain ⟨⟨a, b, c⟩, hx⟩ : ∃ x, l[i]? = some x := ⟨_, List.getElem?_eq_getElem hlt⟩
    have hw : IntKind.i64.wrap ((i : Int) + 1) = (i : Int) + 1 := wrap1 (by omega)
    obtain ⟨_, f1, f2, f3, f4⟩ := hl' _ (List.mem_of_getElem? hx)
    simp only at f1 f2 f3 f4
    have no := nN i _ hx
    simp only at no
    simp [-getElem?_pos, hx, hw, hlt, hq1]
    refine callK_val (by simp) (l1In_c a 0 w1) rfl ?_
    by_cases b1 : 0 ≤ a
    · by_cases b2 : a ≤ w1
      · simp [-getElem?_pos, hx, hw, hlt, hq1, b1, b2]
        refine callK_val (by simp) (l2Labels_c b f1 f2) rfl ?_
        by_cases g1 : LabelsOk b
        · simp [-getElem?_pos, hx, hw, hlt, hq1, b1, b2, g1]
          refine callK_val (by simp) (l2Props_c c f3 f4) rfl ?_
          by_cases g2 : PropsOk c
          · by_cases h0 : 0 < i
            · obtain ⟨⟨a', b', c'⟩, hy⟩ : ∃ y, l[i - 1]? = some y := ⟨_, List.getElem?_eq_getElem (by omega)⟩
              have hb := wback h0 (by omega)
              by_cases hlt2 : a ≤ a'
              · simp [-getElem?_pos, hx, hw, hlt, hq1, b1, b2, g1, g2, h0, hb, hy, hlt2]
                exact fin_val rfl (by simp [no (fun h => by have := h.1.2.2 _ h0 hy; simp only at this; omega)]) (by simp)
              · simp [-getElem?_pos, hx, hw, hlt, hq1, b1, b2, g1, g2, h0, hb, hy, hlt2]
                refine ⟨hv.succ hx ⟨⟨b1, b2, fun z _ hz => ?_⟩, g1, g2⟩, Wk.to1 rfl (by simp) (by simp) (by simp) (by simp) (by omega)⟩
                rw [hy] at hz; simp at hz; subst hz; simp only; omega
            · obtain rfl : i = 0 := by omega
              simp [-getElem?_pos, hx, hw, hlt, hq1, b1, b2, g1, g2]
              exact ⟨hv.succ hx ⟨⟨b1, b2, fun z h _ => by omega⟩, g1, g2⟩, Wk.to1 rfl (by simp) (by simp) (by simp) (by simp) (by omega)⟩
          · simp [-getElem?_pos, hx, hw, hlt, hq1, b1, b2, g1, g2]
            exact fin_val rfl (by simp [no (fun h => g2 h.2.2)]) (by simp)
        · simp [-getElem?_pos, hx, hw, hlt, hq1, b1, b2, g1]
          exact fin_val rfl (by simp [no (fun h => g1 h.2.1)]) (by simp)
      · simp [-getElem?_pos, hx, hw, hlt, hq1, b1, b2]
        exact fin_val rfl (by simp [no (fun h => b2 h.1.2.1)]) (by simp)
    · simp [-getElem?_pos, hx, hw, hlt, hq1, b1]
      exact fin_val rfl (by simp [no (fun h => b1 h.1.1)]) (by simp)
  · have hnlt : ¬ i < l.length := by omega
    have hnok := hv.all hge
    simp [hnlt]
    refine W_for (fun i => ⟨[(5, .i .i64 i), (1, .ptr 0 0 0)], [(0, .arr 4 [sG.I ⟨l, es, nn, ne⟩])], 1, 0⟩) es.length (ToI (fun i (x : Eg) => Stp Eg.id w2 es i x ∧ nameOk x.kind = true ∧ PropsOk x.props ∧ 0 ≤ posOf Nd.id x.frm l ∧ 0 ≤ posOf Nd.id x.to l) es) (Wk.less rfl (by simp) (by simp) (by simp)) .zero ?_
    intro i hi hv
    rcases Nat.lt_or_ge i es.length with hlt | hge
    · obtain ⟨⟨a, k, b, c, p⟩, hx⟩ : ∃ x, es[i]? = some x := ⟨_, List.getElem?_eq_getElem hlt⟩
      have hw : IntKind.i64.wrap ((i : Int) + 1) = (i : Int) + 1 := wrap1 (by omega)
      obtain ⟨_, f1, _, _, f3, f4⟩ := he' _ (List.mem_of_getElem? hx)
      simp only at f1 f3 f4
      have no := nE i _ hx
      simp only at no
      simp [-getElem?_pos, hx, hw, hlt, hq2]
      refine callK_val (by simp) (l1In_c a 0 w2) rfl ?_
      by_cases b1 : 0 ≤ a
      · by_cases b2 : a ≤ w2
        · simp [-getElem?_pos, hx, hw, hlt, hq2, b1, b2]
          refine callK_val (by simp) (l2Name_c k f1) rfl ?_
          by_cases g1 : nameOk k = true
          · simp [-getElem?_pos, hx, hw, hlt, hq2, b1, b2, g1]
            refine callK_val (by simp) (l2Props_c p f3 f4) rfl ?_
            by_cases g2 : PropsOk p
            · simp [-getElem?_pos, hx, hw, hlt, hq2, b1, b2, g1, g2]
              refine callK_val (by simp) (l2Node_c ⟨l, es, nn, ne⟩ hl b) rfl ?_
              by_cases g3 : posOf Nd.id b l < 0
              · simp [-getElem?_pos, hx, hw, hlt, hq2, b1, b2, g1, g2, g3]
                exact fin_val rfl (by simp [no (fun h => by have := h.2.2.2.1; omega)]) (by simp)
              · simp [-getElem?_pos, hx, hw, hlt, hq2, b1, b2, g1, g2, g3]
                refine callK_val (by simp) (l2Node_c ⟨l, es, nn, ne⟩ hl c) rfl ?_
                by_cases g4 : posOf Nd.id c l < 0
                · simp [-getElem?_pos, hx, hw, hlt, hq2, b1, b2, g1, g2, g3, g4]
                  exact fin_val rfl (by simp [no (fun h => by have := h.2.2.2.2; omega)]) (by simp)
                · by_cases h0 : 0 < i
                  · obtain ⟨⟨a', k', b', c', p'⟩, hy⟩ : ∃ y, es[i - 1]? = some y := ⟨_, List.getElem?_eq_getElem (by omega)⟩
                    have hb := wback h0 (by omega)
                    by_cases hlt2 : a ≤ a'
                    · simp [-getElem?_pos, hx, hw, hlt, hq2, b1, b2, g1, g2, g3, g4, h0, hb, hy, hlt2]
                      exact fin_val rfl (by simp [no (fun h => by have := h.1.2.2 _ h0 hy; simp only at this; omega)]) (by simp)
                    · simp [-getElem?_pos, hx, hw, hlt, hq2, b1, b2, g1, g2, g3, g4, h0, hb, hy, hlt2]
                      refine ⟨hv.succ hx ⟨⟨b1, b2, fun z _ hz => ?_⟩, g1, g2, by simp only; omega, by simp only; omega⟩, Wk.to1 rfl (by simp) (by simp) (by simp) (by simp) (by omega)⟩
                      rw [hy] at hz; simp at hz; subst hz; simp only; omega
                  · obtain rfl : i = 0 := by omega
                    simp [-getElem?_pos, hx, hw, hlt, hq2, b1, b2, g1, g2, g3, g4]
                    exact ⟨hv.succ hx ⟨⟨b1, b2, fun z h _ => by omega⟩, g1, g2, by simp only; omega, by simp only; omega⟩, Wk.to1 rfl (by simp) (by simp) (by simp) (by simp) (by omega)⟩
            · simp [-getElem?_pos, hx, hw, hlt, hq2, b1, b2, g1, g2]
              exact fin_val rfl (by simp [no (fun h => g2 h.2.2.1)]) (by simp)
          · simp [-getElem?_pos, hx, hw, hlt, hq2, b1, b2, g1]
            exact fin_val rfl (by simp [no (fun h => g1 h.2.1)]) (by simp)
        · simp [-getElem?_pos, hx, hw, hlt, hq2, b1, b2]
          exact fin_val rfl (by simp [no (fun h => b2 h.1.2.1)]) (by simp)
      · simp [-getElem?_pos, hx, hw, hlt, hq2, b1]
        exact fin_val rfl (by simp [no (fun h => b1 h.1.1)]) (by simp)
    · have hnlt : ¬ i < es.length := by omega
      have heok := hv.all hge
      have all : (0 ≤ nn ∧ nn ≤ 1000000000) → (0 ≤ ne ∧ ne ≤ 1000000000) → l.length ≤ 12 → es.length ≤ 16 → GOk ⟨l, es, nn, ne⟩ := by
        intro c1 c2 c3 c4
        have e1 : w1 = nn - 1 := by rw [← hq1]; exact wrap64 (by omega) (by omega)
        have e2 : w2 = ne - 1 := by rw [← hq2]; exact wrap64 (by omega) (by omega)
        refine ⟨c1, c2, c3, c4, fun i x hx => ?_, fun i x hx => ?_, fun x hx => ?_, fun x hx => ?_⟩
        · obtain ⟨⟨d1, d2, d3⟩, _⟩ := hnok i x hx; exact ⟨d1, by simp only; omega, d3⟩
        · obtain ⟨⟨d1, d2, d3⟩, _⟩ := heok i x hx; exact ⟨d1, by simp only; omega, d3⟩
        · obtain ⟨j, hj⟩ := List.mem_iff_getElem?.1 hx; exact (hnok j x hj).2
        · obtain ⟨j, hj⟩ := List.mem_iff_getElem?.1 hx; exact (heok j x hj).2
      by_cases c3 : (l.length : Int) ≤ 12
      · by_cases c4 : (es.length : Int) ≤ 16
        · simp [hnlt, c3, c4]
          refine callK_val (by simp) (l1In_c nn 0 1000000000) rfl ?_
          by_cases c1 : 0 ≤ nn ∧ nn ≤ 1000000000
          · simp [hnlt, c3, c4, c1.1, c1.2]
            refine callK_val (by simp) (l1In_c ne 0 1000000000) rfl ?_
            by_cases c2 : 0 ≤ ne ∧ ne ≤ 1000000000
            · simp [hnlt, c3, c4, c1.1, c1.2, c2.1, c2.2]
              exact fin_val rfl (by simp [all c1 c2 (by omega) (by omega)]) (by simp)
            · have c2' : (decide (0 ≤ ne) && decide (ne ≤ 1000000000)) = false := by
                simp only [Bool.and_eq_false_iff, decide_eq_false_iff_not]; omega
              simp [hnlt, c3, c4, c1.1, c1.2, c2']
              exact fin_val rfl (by simp [show ¬ GOk ⟨l, es, nn, ne⟩ from fun h => c2 h.ne]) (by simp)
          · have c1' : (decide (0 ≤ nn) && decide (nn ≤ 1000000000)) = false := by
              simp only [Bool.and_eq_false_iff, decide_eq_false_iff_not]; omega
            simp [hnlt, c3, c4, c1']
            exact fin_val rfl (by simp [show ¬ GOk ⟨l, es, nn, ne⟩ from fun h => c1 h.nn]) (by simp)
        · simp [hnlt, c3, c4]
          exact fin_val rfl (by simp [show ¬ GOk ⟨l, es, nn, ne⟩ from fun h => by have := h.el; simp only at this; omega]) (by simp)
      · simp [hnlt, c3]
        exact fin_val rfl (by simp [show ¬ GOk ⟨l, es, nn, ne⟩ from fun h => by have := h.nl; simp only at this; omega]) (by simp)
end Go.Proofs.Ytehdfbhfbidadaa.V
