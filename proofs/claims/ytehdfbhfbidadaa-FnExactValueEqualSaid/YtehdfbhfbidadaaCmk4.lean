/- How far marks go; sizes of parts. -/
import Derived.Test.YtehdfbhfbidadaaCmk3
namespace Go.Proofs.Ytehdfbhfbidadaa.V
open Go
set_option linter.unusedVariables false
theorem mkG_far (g : Gr) (k : Int) : k ≤ (mkG k g).2 ∧ (mkG k g).2 ≤ k + 8 * g.cnt := by
  obtain ⟨a, b, c, d⟩ := g
  have h1 := Far.list (m := mkN) (c := Nd.cnt) (l := a) (fun v _ => far_node v) k
  have h2 := Far.list (m := mkE) (c := Eg.cnt) (l := b) (fun v _ => far_edge v) (mkL mkN k a).2
  simp only [mkG, Gr.cnt]
  omega
theorem mkVl_far (v : Vl) (k : Int) : k ≤ (mkL mkV k v.l).2 ∧ (mkL mkV k v.l).2 ≤ k + 8 * v.cnt := by
  have h1 := Far.list (m := mkV) (c := Vl.cnt) (l := v.l) (fun v _ => far_val v) k
  obtain ⟨a, b, s, l⟩ := v
  rw [Vl.cnt_mk]
  simp only [Vl.l] at h1 ⊢
  omega
theorem cl_cons {α : Type} {c : α → Nat} {a : α} {l : List α} : cl c (a :: l) = 1 + c a + cl c l := by
  simp only [cl, sums, List.length_cons, List.map_cons, List.sum_cons]; omega
theorem cl_append {α : Type} {c : α → Nat} {l l' : List α} : cl c (l ++ l') = cl c l + cl c l' := by
  simp only [cl, sums, List.length_append, List.map_append, List.sum_append]; omega
theorem cl_filter {α : Type} {c : α → Nat} {q : α → Bool} {l : List α} : cl c (l.filter q) ≤ cl c l := by
  induction l with
  | nil => simp
  | cons a l ih =>
    rw [cl_cons]
    by_cases h : q a = true
    · rw [List.filter_cons_of_pos h, cl_cons]; omega
    · rw [List.filter_cons_of_neg h]; omega
end Go.Proofs.Ytehdfbhfbidadaa.V
