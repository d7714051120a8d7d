/- Whether a value has a kind within. -/
import Derived.Test.YtcchmhmbjhgfdaaPVBase
import Derived.Test.YtcchmhmbjhgfdaaGx19
namespace Go.Proofs.Ytcchmhmbjhgfdaa.Pur
open Go.RowKit Go.Proofs.Ytcchmhmbjhgfdaa.G Go.Proofs.YtcchmhmbjhgfdaaW.PrintWords Go.Proofs.YtcchmhmbjhgfdaaW.PrintLast
set_option linter.unusedVariables false
set_option linter.unusedSimpArgs false

/-- Somewhere within, a kind. -/
inductive Has (a : Int) : IV → Prop
  | here {x : IV} (h : x.f0 = a) : Has a x
  | sub {x y : IV} (hy : y ∈ x.f3) (h : Has a y) : Has a x
theorem valueHas_ev (a : Int) {v : IV} (sm : Sm v) : ∃ r, Ev (fun k => impl_valueHas.f k v.f0 v.f1 v.f2 v.f3 a) r ∧ (r = true ↔ Has a v) := by
  induction sm with
  | @mk x h2 h3 h4 ih =>
    by_cases c : x.f0 = a
    · refine ⟨true, Ev.succ ?_, by simp [Has.here c]⟩
      simp only [impl_valueHas.f, if_pos c]
      exact Ev.some _
    have loop : ∀ (d i : Nat), x.f3.length = i + d → ∃ r, Ev (fun k => impl_valueHas.l0 k a x.f3 (x.f3.length : Int) (i : Int)) r ∧ (r = true ↔ ∃ j, ∃ h : j < x.f3.length, i ≤ j ∧ Has a x.f3[j]) := by
      intro d
      induction d with
      | zero =>
        intro i hi
        refine ⟨false, Ev.succ ?_, ⟨(fun h => by cases h), (fun ⟨j, hj, hij, _⟩ => by omega)⟩⟩
        simp only [impl_valueHas.l0]
        exact Ev.neg (by omega) (Ev.some _)
      | succ d ihd =>
        intro i hi
        have hlt : i < x.f3.length := by omega
        obtain ⟨r, hr, hp⟩ := ih x.f3[i] (List.getElem_mem hlt)
        obtain ⟨q, hq, hp'⟩ := ihd (i + 1) (by omega)
        by_cases hn : r = true
        · refine ⟨true, Ev.succ ?_, ⟨fun _ => ⟨i, hlt, Nat.le_refl _, hp.1 hn⟩, fun _ => rfl⟩⟩
          simp only [impl_valueHas.l0, if_pos (show (i : Int) < (x.f3.length : Int) by omega), if_pos (show 0 ≤ (i : Int) by omega), rd_iv hlt]
          refine Ev.bind hr ?_
          simp only [if_pos hn]
          exact Ev.some _
        · refine ⟨q, Ev.succ ?_, ?_⟩
          · simp only [impl_valueHas.l0, if_pos (show (i : Int) < (x.f3.length : Int) by omega), if_pos (show 0 ≤ (i : Int) by omega), rd_iv hlt]
            refine Ev.bind hr ?_
            simp only [if_neg hn, wrap64_succ hlt (show x.f3.length ≤ 9223372036854775807 by omega)]
            exact hq
          · rw [hp']
            constructor
            · intro ⟨j, hj, hij, h⟩; exact ⟨j, hj, by omega, h⟩
            · intro ⟨j, hj, hij, h⟩
              refine ⟨j, hj, ?_, h⟩
              by_cases e : i = j
              · subst e; exact absurd (hp.2 h) hn
              · omega
    obtain ⟨r, hr, hp⟩ := loop x.f3.length 0 (by omega)
    refine ⟨r, Ev.succ ?_, ?_⟩
    · simp only [impl_valueHas.f, if_neg c]
      exact hr
    · rw [hp]
      constructor
      · intro ⟨j, hj, _, h⟩; exact Has.sub (List.getElem_mem hj) h
      · intro h
        cases h with
        | here h => exact absurd h c
        | sub hy h =>
          obtain ⟨j, hj, rfl⟩ := List.getElem_of_mem hy
          exact ⟨j, hj, Nat.zero_le _, h⟩
end Go.Proofs.Ytcchmhmbjhgfdaa.Pur
