/- Rows of cells: where a row lies, a row written anew. -/
import Derived.Test.YtcchmhmbjhgfdaaVb
namespace Go.Proofs.Ytcchmhmbjhgfdaa.V
open Go
set_option linter.unusedVariables false
section
variable {w w' : World} {O O' : Nat → Prop} {ρ ρ' : Nat → Option RB} {A A' : Nat → Prop}
theorem CVs_append : ∀ {xs ys : List T} {vs : List Value}, CVs w O ρ A (xs ++ ys) vs ↔ ∃ v1 v2, vs = v1 ++ v2 ∧ CVs w O ρ A xs v1 ∧ CVs w O ρ A ys v2
  | [], ys, vs => by
    simp only [List.nil_append, CVs]
    exact ⟨fun h => ⟨[], vs, rfl, rfl, h⟩, fun ⟨v1, v2, e, e1, h⟩ => by subst e1; simpa [e] using h⟩
  | x :: xs, ys, vs => by
    simp only [List.cons_append, CVs]
    constructor
    · rintro ⟨v, r, rfl, h1, h2⟩
      obtain ⟨v1, v2, rfl, h3, h4⟩ := CVs_append.1 h2
      exact ⟨v :: v1, v2, rfl, ⟨v, v1, rfl, h1, h3⟩, h4⟩
    · rintro ⟨v1, v2, rfl, ⟨v, r, rfl, h1, h2⟩, h3⟩
      exact ⟨v, r ++ v2, rfl, h1, CVs_append.2 ⟨r, v2, rfl, h2, h3⟩⟩
theorem CIs_append : ∀ {xs ys : List T} {vs : List Value}, CIs w O (xs ++ ys) vs ↔ ∃ v1 v2, vs = v1 ++ v2 ∧ CIs w O xs v1 ∧ CIs w O ys v2
  | [], ys, vs => by
    simp only [List.nil_append, CIs]
    exact ⟨fun h => ⟨[], vs, rfl, rfl, h⟩, fun ⟨v1, v2, e, e1, h⟩ => by subst e1; simpa [e] using h⟩
  | x :: xs, ys, vs => by
    simp only [List.cons_append, CIs]
    constructor
    · rintro ⟨v, r, rfl, h1, h2⟩
      obtain ⟨v1, v2, rfl, h3, h4⟩ := CIs_append.1 h2
      exact ⟨v :: v1, v2, rfl, ⟨v, v1, rfl, h1, h3⟩, h4⟩
    · rintro ⟨v1, v2, rfl, ⟨v, r, rfl, h1, h2⟩, h3⟩
      exact ⟨v, r ++ v2, rfl, h1, CIs_append.2 ⟨r, v2, rfl, h2, h3⟩⟩
theorem Ds_append : ∀ {xs ys : List T} {vs : List Value} {F : List Nat}, Ds w O ρ A (xs ++ ys) vs F ↔ ∃ v1 v2 F1 F2, vs = v1 ++ v2 ∧ F = F1 ++ F2 ∧ Ds w O ρ A xs v1 F1 ∧ Ds w O ρ A ys v2 F2
  | [], ys, vs, F => by
    simp only [List.nil_append, Ds]
    exact ⟨fun h => ⟨[], vs, [], F, rfl, rfl, ⟨rfl, rfl⟩, h⟩, fun ⟨v1, v2, F1, F2, e, e', ⟨e1, e2⟩, h⟩ => by subst e1 e2; simpa [e, e'] using h⟩
  | x :: xs, ys, vs, F => by
    simp only [List.cons_append, Ds]
    constructor
    · rintro ⟨v, r, F1, F2, rfl, rfl, h1, h2⟩
      obtain ⟨v1, v2, F3, F4, rfl, rfl, h3, h4⟩ := Ds_append.1 h2
      exact ⟨v :: v1, v2, F1 ++ F3, F4, rfl, by simp, ⟨v, v1, F1, F3, rfl, rfl, h1, h3⟩, h4⟩
    · rintro ⟨v1, v2, F1, F2, rfl, rfl, ⟨v, r, F3, F4, rfl, rfl, h1, h2⟩, h3⟩
      exact ⟨v, r ++ v2, F3, F4 ++ F2, rfl, by simp, h1, Ds_append.2 ⟨r, v2, F4, F2, rfl, rfl, h2, h3⟩⟩
theorem Dr_append : ∀ {xs ys : List (List T)} {vs : List Value} {F : List Nat}, Dr w O ρ A (xs ++ ys) vs F ↔ ∃ v1 v2 F1 F2, vs = v1 ++ v2 ∧ F = F1 ++ F2 ∧ Dr w O ρ A xs v1 F1 ∧ Dr w O ρ A ys v2 F2
  | [], ys, vs, F => by
    simp only [List.nil_append, Dr]
    exact ⟨fun h => ⟨[], vs, [], F, rfl, rfl, ⟨rfl, rfl⟩, h⟩, fun ⟨v1, v2, F1, F2, e, e', ⟨e1, e2⟩, h⟩ => by subst e1 e2; simpa [e, e'] using h⟩
  | x :: xs, ys, vs, F => by
    simp only [List.cons_append, Dr]
    constructor
    · rintro ⟨v, r, F1, F2, rfl, rfl, h1, h2⟩
      obtain ⟨v1, v2, F3, F4, rfl, rfl, h3, h4⟩ := Dr_append.1 h2
      exact ⟨v ++ v1, v2, F1 ++ F3, F4, by simp, by simp, ⟨v, v1, F1, F3, rfl, rfl, h1, h3⟩, h4⟩
    · rintro ⟨v1, v2, F1, F2, rfl, rfl, ⟨v, r, F3, F4, rfl, rfl, h1, h2⟩, h3⟩
      exact ⟨v, r ++ v2, F3, F4 ++ F2, by simp, by simp, h1, Dr_append.2 ⟨r, v2, F4, F2, rfl, rfl, h2, h3⟩⟩
theorem Dr.len {sz : Nat} : ∀ {rs : List (List T)} {vs : List Value} {F : List Nat}, (∀ r ∈ rs, r.length = sz) → Dr w O ρ A rs vs F → vs.length = rs.length * sz
  | [], vs, F, _, h => by simp only [Dr] at h; simp [h.1]
  | r :: rs, vs, F, hs, h => by
    simp only [Dr] at h
    obtain ⟨v1, v2, F1, F2, rfl, _, h1, h2⟩ := h
    have := h1.len; have := Dr.len (fun x hx => hs x (by simp [hx])) h2; have := hs r (by simp)
    simp only [List.length_append, List.length_cons, Nat.succ_mul]; omega
theorem CIr_append : ∀ {xs ys : List (List T)} {vs : List Value}, CIr w O (xs ++ ys) vs ↔ ∃ v1 v2, vs = v1 ++ v2 ∧ CIr w O xs v1 ∧ CIr w O ys v2
  | [], ys, vs => by
    simp only [List.nil_append, CIr]
    exact ⟨fun h => ⟨[], vs, rfl, rfl, h⟩, fun ⟨v1, v2, e, e1, h⟩ => by subst e1; simpa [e] using h⟩
  | x :: xs, ys, vs => by
    simp only [List.cons_append, CIr]
    constructor
    · rintro ⟨v, r, rfl, h1, h2⟩
      obtain ⟨v1, v2, rfl, h3, h4⟩ := CIr_append.1 h2
      exact ⟨v ++ v1, v2, by simp, ⟨v, v1, rfl, h1, h3⟩, h4⟩
    · rintro ⟨v1, v2, rfl, ⟨v, r, rfl, h1, h2⟩, h3⟩
      exact ⟨v, r ++ v2, by simp, h1, CIr_append.2 ⟨r, v2, rfl, h2, h3⟩⟩
theorem CIr.len {sz : Nat} : ∀ {rs : List (List T)} {vs : List Value}, (∀ r ∈ rs, r.length = sz) → CIr w O rs vs → vs.length = rs.length * sz
  | [], vs, _, h => by simp only [CIr] at h; simp [h]
  | r :: rs, vs, hs, h => by
    simp only [CIr] at h
    obtain ⟨v1, v2, rfl, h1, h2⟩ := h
    have := h1.len; have := CIr.len (fun x hx => hs x (by simp [hx])) h2; have := hs r (by simp)
    simp only [List.length_append, List.length_cons, Nat.succ_mul]; omega
theorem split_at {α : Type} {l : List α} {r : Nat} {x : α} (h : l[r]? = some x) : ∃ l1 l2, l = l1 ++ x :: l2 ∧ l1.length = r := by
  have hr : r < l.length := by
    rcases Nat.lt_or_ge r l.length with h' | h'
    · exact h'
    · rw [List.getElem?_eq_none h'] at h; exact absurd h (by simp)
  refine ⟨l.take r, l.drop (r + 1), ?_, by simp; omega⟩
  have : l[r] = x := by rw [List.getElem?_eq_getElem hr] at h; exact Option.some.inj h
  rw [← this]
  simp
theorem set_split {α : Type} (l1 : List α) (x y : α) (l2 : List α) : (l1 ++ x :: l2).set l1.length y = l1 ++ y :: l2 := by
  simp
end
end Go.Proofs.Ytcchmhmbjhgfdaa.V
