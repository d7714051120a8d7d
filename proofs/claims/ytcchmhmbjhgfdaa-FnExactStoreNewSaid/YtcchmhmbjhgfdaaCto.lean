/- Sizes, copies, comparison of what came in. -/
import Derived.Test.YtcchmhmbjhgfdaaEva
import Derived.Test.YtcchmhmbjhgfdaaVpc
namespace Go.Proofs.Ytcchmhmbjhgfdaa.V
open Go
set_option linter.unusedVariables false
set_option linter.unusedSimpArgs false
set_option maxHeartbeats 2000000
/-! ### what memory can hold -/
abbrev i64 (x : Int) : Prop := -9223372036854775808 ≤ x ∧ x < 9223372036854775808
abbrev ln {α : Type} (l : List α) : Prop := l.length ≤ 9223372036854775807
mutual
def Vl.fit : Vl → Prop
  | .mk k n s l => i64 k ∧ i64 n ∧ ln s ∧ ln l ∧ Vl.fits l
def Vl.fits : List Vl → Prop
  | [] => True
  | v :: l => v.fit ∧ Vl.fits l
end
theorem Vl.fits_iff : ∀ {l : List Vl}, Vl.fits l ↔ ∀ v ∈ l, v.fit
  | [] => by simp [Vl.fits]
  | v :: l => by simp [Vl.fits, Vl.fits_iff (l := l)]
theorem Vl.fit_mk {k n : Int} {s : Tx} {l : List Vl} : (Vl.mk k n s l).fit ↔ i64 k ∧ i64 n ∧ ln s ∧ ln l ∧ ∀ v ∈ l, v.fit := by
  rw [Vl.fit, Vl.fits_iff]
def Pr.fit (p : Pr) : Prop := ln p.name ∧ p.val.fit
def Nd.fit (a : Nd) : Prop := i64 a.id ∧ ln a.labels ∧ (∀ x ∈ a.labels, ln x) ∧ ln a.props ∧ ∀ p ∈ a.props, p.fit
def Eg.fit (a : Eg) : Prop := i64 a.id ∧ ln a.kind ∧ i64 a.frm ∧ i64 a.to ∧ ln a.props ∧ ∀ p ∈ a.props, p.fit
def Gr.fit (a : Gr) : Prop := ln a.nodes ∧ (∀ x ∈ a.nodes, x.fit) ∧ ln a.edges ∧ (∀ x ∈ a.edges, x.fit) ∧ i64 a.nn ∧ i64 a.ne
theorem wsub {x : Int} {n : Nat} (h0 : 0 ≤ x) (h1 : x < 2 ^ 62) (h : n ≤ 9223372036854775807) : IntKind.i64.wrap (x - n) = x - n := wrap64 (by omega) (by omega)
theorem left_lt {x : Int} {n : Nat} (h1 : x < 2 ^ 62) : left x n < 2 ^ 62 := by unfold left; split <;> omega
@[simp] theorem wrap_one : IntKind.i64.wrap 1 = 1 := by decide
@[simp] theorem wrap_zero : IntKind.i64.wrap 0 = 0 := by decide
/-! ### sizes -/
theorem szValueS_of (l : List Vl) (hl : ln l) (h : ∀ v ∈ l, ∀ x : Int, 0 ≤ x → x < 2 ^ 62 → Rv Try.prog 28 [.agg (sV.I v), .i .i64 x] (.i .i64 (left x v.cnt))) (x : Int) (h0 : 0 ≤ x) (h1 : x < 2 ^ 62) :
    Rv Try.prog 93 [.imm (l.map sV.I), .i .i64 x] (.i .i64 (left x (cl Vl.cnt l))) := via_laws_szValueS (by simp) (szS_gen sV Vl.cnt l hl x h0 h1 h)
theorem szValue_c (v : Vl) : v.fit → ∀ x : Int, 0 ≤ x → x < 2 ^ 62 → Rv Try.prog 28 [.agg (sV.I v), .i .i64 x] (.i .i64 (left x v.cnt)) := by
  refine Vl.ind (p := fun v => v.fit → ∀ x : Int, 0 ≤ x → x < 2 ^ 62 → Rv Try.prog 28 [.agg (sV.I v), .i .i64 x] (.i .i64 (left x v.cnt))) ?_ v
  intro k n s l ih hf x h0 h1
  obtain ⟨_, _, hs, hl, hv⟩ := Vl.fit_mk.1 hf
  refine via_laws_szValue (by simp) ?_
  have hw := wsub h0 h1 hs
  rw [Vl.cnt_mk]
  by_cases hc : x - s.length < 0
  · simp [pc_laws_szValue, hw, hc]
    exact fin_val rfl (by simp [left_neg (show x - ((s.length + cl Vl.cnt l : Nat) : Int) < 0 by omega)]) (by simp)
  · simp [pc_laws_szValue, hw, hc]
    refine callK_val (by simp) (szValueS_of l hl (fun v hm => ih v hm (hv v hm)) (x - s.length) (by omega) (by omega)) rfl ?_
    by_cases h2 : x - s.length - cl Vl.cnt l < 0
    · simp [left_neg h2, hw]
      exact fin_val rfl (by simp [left_neg (show x - ((s.length + cl Vl.cnt l : Nat) : Int) < 0 by omega)]) (by simp)
    · simp [left_pos h2, h2, hw]
      exact fin_val rfl (by simp [left_pos (show ¬ x - ((s.length + cl Vl.cnt l : Nat) : Int) < 0 by omega)]; omega) (by simp)
theorem szValueS_c (l : List Vl) (hl : ln l) (h : ∀ v ∈ l, v.fit) (x : Int) (h0 : 0 ≤ x) (h1 : x < 2 ^ 62) : Rv Try.prog 93 [.imm (l.map sV.I), .i .i64 x] (.i .i64 (left x (cl Vl.cnt l))) :=
  szValueS_of l hl (fun v hv => szValue_c v (h v hv)) x h0 h1
theorem szProp_c (p : Pr) (hf : p.fit) (x : Int) (h0 : 0 ≤ x) (h1 : x < 2 ^ 62) : Rv Try.prog 106 [.agg (sP.I p), .i .i64 x] (.i .i64 (left x p.cnt)) := by
  obtain ⟨s, v⟩ := p
  obtain ⟨hs, hv⟩ := hf
  simp only [Pr.cnt] at hs hv ⊢
  refine via_laws_szProp (by simp) ?_
  have hw := wsub h0 h1 hs
  by_cases hc : x - s.length < 0
  · simp [pc_laws_szProp, hw, hc]
    exact fin_val rfl (by simp [left_neg (show x - ((s.length + v.cnt : Nat) : Int) < 0 by omega)]) (by simp)
  · simp [pc_laws_szProp, hw, hc]
    refine callK_val (by simp) (szValue_c v hv (x - s.length) (by omega) (by omega)) rfl ?_
    by_cases h2 : x - s.length - v.cnt < 0
    · simp [left_neg h2, hw]
      exact fin_val rfl (by simp [left_neg (show x - ((s.length + v.cnt : Nat) : Int) < 0 by omega)]) (by simp)
    · simp [left_pos h2, h2, hw]
      exact fin_val rfl (by simp [left_pos (show ¬ x - ((s.length + v.cnt : Nat) : Int) < 0 by omega)]; omega) (by simp)
theorem szPropS_c (l : List Pr) (hl : ln l) (h : ∀ v ∈ l, v.fit) (x : Int) (h0 : 0 ≤ x) (h1 : x < 2 ^ 62) : Rv Try.prog 38 [.imm (l.map sP.I), .i .i64 x] (.i .i64 (left x (cl Pr.cnt l))) :=
  via_laws_szPropS (by simp) (szS_gen sP Pr.cnt l hl x h0 h1 (fun v hv => szProp_c v (h v hv)))
theorem szStringS_c (l : List Tx) (hl : ln l) (h : ∀ v ∈ l, ln v) (x : Int) (h0 : 0 ≤ x) (h1 : x < 2 ^ 62) : Rv Try.prog 37 [.imm (l.map sS.I), .i .i64 x] (.i .i64 (left x (cl List.length l))) := by
  refine via_laws_szStringS (by simp) ?_
  unfold cl
  have hw := wsub h0 h1 hl
  by_cases hc : x - l.length < 0
  · simp [pc_laws_szStringS, hw, hc]
    exact fin_val rfl (by simp [left_neg (show x - ((l.length + sums List.length l : Nat) : Int) < 0 by omega)]) (by simp)
  · simp [pc_laws_szStringS, hw, hc]
    refine W_for (fun i => ⟨[(5, .i .i64 i), (1, .i .i64 (x - l.length - sums List.length (l.take i))), (0, .imm (l.map sS.I))], [], 0, 0⟩) l.length (fun i => 0 ≤ x - l.length - sums List.length (l.take i)) (Wk.less rfl (by simp) (by simp [sums]) (by simp)) (by simp [sums]; omega) ?_
    intro i hi hv
    rcases Nat.lt_or_ge i l.length with h2 | h2
    · obtain ⟨v, hx⟩ : ∃ v, l[i]? = some v := ⟨_, List.getElem?_eq_getElem h2⟩
      have hw2 : IntKind.i64.wrap ((i : Int) + 1) = (i : Int) + 1 := wrap1 (by omega)
      have hst := sums_take (c := List.length) hx
      have hle := sums_le (c := List.length) (l := l) (i + 1)
      have hw3 := wsub hv (by omega) (h v (List.mem_of_getElem? hx))
      by_cases h3 : x - l.length - sums List.length (l.take i) - v.length < 0
      · simp [-getElem?_pos, hx, hw2, h2, hw3, h3]
        exact fin_val rfl (by simp [left_neg (show x - ((l.length + sums List.length l : Nat) : Int) < 0 by omega)]) (by simp)
      · simp [-getElem?_pos, hx, hw2, h2, hw3, h3]
        exact ⟨by omega, Wk.to rfl (by simp) (by simp; omega) (by simp) (by simp)⟩
    · have h4 : ¬ i < l.length := by omega
      simp [h4]
      rw [List.take_of_length_le h2] at hv
      exact fin_val rfl (by simp [left_pos (show ¬ x - ((l.length + sums List.length l : Nat) : Int) < 0 by omega), List.take_of_length_le h2]; omega) (by simp)
theorem szNode_c (a : Nd) (hf : a.fit) (x : Int) (h0 : 0 ≤ x) (h1 : x < 2 ^ 62) : Rv Try.prog 147 [.agg (sN.I a), .i .i64 x] (.i .i64 (left x a.cnt)) := by
  obtain ⟨i, l, p⟩ := a
  obtain ⟨_, hl, hl', hp, hp'⟩ := hf
  simp only [Nd.cnt] at hl hl' hp hp' ⊢
  refine via_laws_szNode (by simp) ?_
  simp [pc_laws_szNode]
  refine callK_val (by simp) (szStringS_c l hl hl' x h0 h1) rfl ?_
  by_cases hc : x - cl List.length l < 0
  · simp [left_neg hc]
    exact fin_val rfl (by simp [left_neg (show x - ((cl List.length l + cl Pr.cnt p : Nat) : Int) < 0 by omega)]) (by simp)
  · simp [left_pos hc, hc]
    refine callK_val (by simp) (szPropS_c p hp hp' (x - cl List.length l) (by omega) (by omega)) rfl ?_
    by_cases h2 : x - cl List.length l - cl Pr.cnt p < 0
    · simp [left_neg h2]
      exact fin_val rfl (by simp [left_neg (show x - ((cl List.length l + cl Pr.cnt p : Nat) : Int) < 0 by omega)]) (by simp)
    · simp [left_pos h2, h2]
      exact fin_val rfl (by simp [left_pos (show ¬ x - ((cl List.length l + cl Pr.cnt p : Nat) : Int) < 0 by omega)]; omega) (by simp)
theorem szNodeS_c (l : List Nd) (hl : ln l) (h : ∀ v ∈ l, v.fit) (x : Int) (h0 : 0 ≤ x) (h1 : x < 2 ^ 62) : Rv Try.prog 67 [.imm (l.map sN.I), .i .i64 x] (.i .i64 (left x (cl Nd.cnt l))) :=
  via_laws_szNodeS (by simp) (szS_gen sN Nd.cnt l hl x h0 h1 (fun v hv => szNode_c v (h v hv)))
theorem szEdge_c (a : Eg) (hf : a.fit) (x : Int) (h0 : 0 ≤ x) (h1 : x < 2 ^ 62) : Rv Try.prog 148 [.agg (sE.I a), .i .i64 x] (.i .i64 (left x a.cnt)) := by
  obtain ⟨i, s, f, t, p⟩ := a
  obtain ⟨_, hs, _, _, hp, hp'⟩ := hf
  simp only [Eg.cnt] at hs hp hp' ⊢
  refine via_laws_szEdge (by simp) ?_
  have hw := wsub h0 h1 hs
  by_cases hc : x - s.length < 0
  · simp [pc_laws_szEdge, hw, hc]
    exact fin_val rfl (by simp [left_neg (show x - ((s.length + cl Pr.cnt p : Nat) : Int) < 0 by omega)]) (by simp)
  · simp [pc_laws_szEdge, hw, hc]
    refine callK_val (by simp) (szPropS_c p hp hp' (x - s.length) (by omega) (by omega)) rfl ?_
    by_cases h2 : x - s.length - cl Pr.cnt p < 0
    · simp [left_neg h2, hw]
      exact fin_val rfl (by simp [left_neg (show x - ((s.length + cl Pr.cnt p : Nat) : Int) < 0 by omega)]) (by simp)
    · simp [left_pos h2, h2, hw]
      exact fin_val rfl (by simp [left_pos (show ¬ x - ((s.length + cl Pr.cnt p : Nat) : Int) < 0 by omega)]; omega) (by simp)
theorem szEdgeS_c (l : List Eg) (hl : ln l) (h : ∀ v ∈ l, v.fit) (x : Int) (h0 : 0 ≤ x) (h1 : x < 2 ^ 62) : Rv Try.prog 68 [.imm (l.map sE.I), .i .i64 x] (.i .i64 (left x (cl Eg.cnt l))) :=
  via_laws_szEdgeS (by simp) (szS_gen sE Eg.cnt l hl x h0 h1 (fun v hv => szEdge_c v (h v hv)))
theorem szGraph_c (a : Gr) (hf : a.fit) (x : Int) (h0 : 0 ≤ x) (h1 : x < 2 ^ 62) : Rv Try.prog 15 [.agg (sG.I a), .i .i64 x] (.i .i64 (left x a.cnt)) := by
  obtain ⟨l, p, i, j⟩ := a
  obtain ⟨hl, hl', hp, hp', _, _⟩ := hf
  simp only [Gr.cnt] at hl hl' hp hp' ⊢
  refine via_laws_szGraph (by simp) ?_
  simp [pc_laws_szGraph]
  refine callK_val (by simp) (szNodeS_c l hl hl' x h0 h1) rfl ?_
  by_cases hc : x - cl Nd.cnt l < 0
  · simp [left_neg hc]
    exact fin_val rfl (by simp [left_neg (show x - ((cl Nd.cnt l + cl Eg.cnt p : Nat) : Int) < 0 by omega)]) (by simp)
  · simp [left_pos hc, hc]
    refine callK_val (by simp) (szEdgeS_c p hp hp' (x - cl Nd.cnt l) (by omega) (by omega)) rfl ?_
    by_cases h2 : x - cl Nd.cnt l - cl Eg.cnt p < 0
    · simp [left_neg h2]
      exact fin_val rfl (by simp [left_neg (show x - ((cl Nd.cnt l + cl Eg.cnt p : Nat) : Int) < 0 by omega)]) (by simp)
    · simp [left_pos h2, h2]
      exact fin_val rfl (by simp [left_pos (show ¬ x - ((cl Nd.cnt l + cl Eg.cnt p : Nat) : Int) < 0 by omega)]; omega) (by simp)
/-! ### equal data -/
theorem eqValue_c (v : Vl) : v.cnt ≤ 2 ^ 22 → Rv Try.prog 32 [.agg (sV.I v), .agg (sV.I v)] (.b true) := by
  refine Vl.ind (p := fun v => v.cnt ≤ 2 ^ 22 → Rv Try.prog 32 [.agg (sV.I v), .agg (sV.I v)] (.b true)) ?_ v
  intro k n s l ih hc
  rw [Vl.cnt_mk] at hc
  unfold cl at hc
  refine via_laws_eqValue (by simp) ?_
  simp [pc_laws_eqValue]
  refine callK_val (by simp) (r := .b true) (via_laws_eqValueS (by simp) (eqS_gen sV l (by omega) (fun v hv => ih v hv (by have := sums_mem (c := Vl.cnt) hv; omega)))) rfl ?_
  simp
  exact fin_val rfl (by simp) (by simp)
theorem eqValueS_c (l : List Vl) (hc : cl Vl.cnt l ≤ 2 ^ 22) : Rv Try.prog 100 [.imm (l.map sV.I), .imm (l.map sV.I)] (.b true) := by
  unfold cl at hc
  exact via_laws_eqValueS (by simp) (eqS_gen sV l (by omega) (fun v hv => eqValue_c v (by have := sums_mem (c := Vl.cnt) hv; omega)))
theorem eqProp_c (p : Pr) (hc : p.cnt ≤ 2 ^ 22) : Rv Try.prog 113 [.agg (sP.I p), .agg (sP.I p)] (.b true) := by
  obtain ⟨s, v⟩ := p
  simp only [Pr.cnt] at hc
  refine via_laws_eqProp (by simp) ?_
  simp [pc_laws_eqProp]
  refine callK_val (by simp) (eqValue_c v (by omega)) rfl ?_
  simp
  exact fin_val rfl (by simp) (by simp)
theorem eqPropS_c (l : List Pr) (hc : cl Pr.cnt l ≤ 2 ^ 22) : Rv Try.prog 44 [.imm (l.map sP.I), .imm (l.map sP.I)] (.b true) := by
  unfold cl at hc
  exact via_laws_eqPropS (by simp) (eqS_gen sP l (by omega) (fun v hv => eqProp_c v (by have := sums_mem (c := Pr.cnt) hv; omega)))
theorem eqStringS_c (l : List Tx) (hc : cl List.length l ≤ 2 ^ 22) : Rv Try.prog 43 [.imm (l.map sS.I), .imm (l.map sS.I)] (.b true) := by
  unfold cl at hc
  refine via_laws_eqStringS (by simp) ?_
  simp [pc_laws_eqStringS]
  refine W_for (fun i => ⟨[(5, .i .i64 i), (0, .imm (l.map sS.I)), (1, .imm (l.map sS.I))], [], 0, 0⟩) l.length (fun i => True) (Wk.less rfl (by simp) (by simp) (by simp)) trivial ?_
  intro i hi _
  rcases Nat.lt_or_ge i l.length with h1 | h1
  · obtain ⟨x, hx⟩ : ∃ x, l[i]? = some x := ⟨_, List.getElem?_eq_getElem h1⟩
    have hw : IntKind.i64.wrap ((i : Int) + 1) = (i : Int) + 1 := wrap1 (by omega)
    simp [-getElem?_pos, hx, hw, h1]
    exact Wk.to rfl (by simp) (by simp) (by simp) (by simp)
  · have h2 : ¬ i < l.length := by omega
    simp [h2]
    exact fin_val rfl (by simp) (by simp)
theorem eqNode_c (a : Nd) (hc : a.cnt ≤ 2 ^ 22) : Rv Try.prog 158 [.agg (sN.I a), .agg (sN.I a)] (.b true) := by
  obtain ⟨i, l, p⟩ := a
  simp only [Nd.cnt] at hc
  refine via_laws_eqNode (by simp) ?_
  simp [pc_laws_eqNode]
  refine callK_val (by simp) (eqStringS_c l (by omega)) rfl ?_
  simp
  refine callK_val (by simp) (eqPropS_c p (by omega)) rfl ?_
  simp
  exact fin_val rfl (by simp) (by simp)
theorem eqNodeS_c (l : List Nd) (hc : cl Nd.cnt l ≤ 2 ^ 22) : Rv Try.prog 84 [.imm (l.map sN.I), .imm (l.map sN.I)] (.b true) := by
  unfold cl at hc
  exact via_laws_eqNodeS (by simp) (eqS_gen sN l (by omega) (fun v hv => eqNode_c v (by have := sums_mem (c := Nd.cnt) hv; omega)))
theorem eqEdge_c (a : Eg) (hc : a.cnt ≤ 2 ^ 22) : Rv Try.prog 159 [.agg (sE.I a), .agg (sE.I a)] (.b true) := by
  obtain ⟨i, k, f, t, p⟩ := a
  simp only [Eg.cnt] at hc
  refine via_laws_eqEdge (by simp) ?_
  simp [pc_laws_eqEdge]
  refine callK_val (by simp) (eqPropS_c p (by omega)) rfl ?_
  simp
  exact fin_val rfl (by simp) (by simp)
theorem eqEdgeS_c (l : List Eg) (hc : cl Eg.cnt l ≤ 2 ^ 22) : Rv Try.prog 85 [.imm (l.map sE.I), .imm (l.map sE.I)] (.b true) := by
  unfold cl at hc
  exact via_laws_eqEdgeS (by simp) (eqS_gen sE l (by omega) (fun v hv => eqEdge_c v (by have := sums_mem (c := Eg.cnt) hv; omega)))
theorem eqGraph_c (a : Gr) (hc : a.cnt ≤ 2 ^ 22) : Rv Try.prog 19 [.agg (sG.I a), .agg (sG.I a)] (.b true) := by
  obtain ⟨l, p, i, j⟩ := a
  simp only [Gr.cnt] at hc
  refine via_laws_eqGraph (by simp) ?_
  simp [pc_laws_eqGraph]
  refine callK_val (by simp) (eqNodeS_c l (by omega)) rfl ?_
  simp
  refine callK_val (by simp) (eqEdgeS_c p (by omega)) rfl ?_
  simp
  exact fin_val rfl (by simp) (by simp)
end Go.Proofs.Ytcchmhmbjhgfdaa.V
