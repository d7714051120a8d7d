-- Printed by a program of this claim's writer (wip/gen), out of the translation. Lean checks it.
import Derived.Test.YtcchmhmbjhgfdaaGx0
import Derived.Test.YtcchmhmbjhgfdaaGx1
namespace Go.Proofs.Ytcchmhmbjhgfdaa.G
open Go.RowKit Go.Proofs.YtcchmhmbjhgfdaaW.PrintWords Go.Proofs.YtcchmhmbjhgfdaaW.PrintLast Go.Proofs.YtcchmhmbjhgfdaaW.PrintMore
attribute [local go_sem] max2_int min2_int max_two min_two max_three min_three max_four min_four Own.str_gtr Own.str_leq Own.str_geq Own.sto_fn   -- for this text's walks alone
open Own
set_option linter.unusedVariables false
set_option linter.unusedSimpArgs false

open Opn
inductive Ok136 : S136 → Prop
  | mk {x : S136} (h0 : x.f0.size ≤ maxLen) (h1 : Ok45 x.f1) : Ok136 x
theorem Ok136.all {x : S136} (h : Ok136 x) : (x.f0.size ≤ maxLen) ∧ (Ok45 x.f1) := by
  cases h with
  | mk h0 h1 => exact ⟨h0, h1⟩
theorem open136 : ∀ n, OpensAt Try.prog n 136 k136 Ok136 := by
  intro n
  induction n using Nat.strongRecOn with
  | _ n _ =>
  intro H enc w cs x h
  obtain ⟨m, rfl, hl, hf⟩ := fields_of Try.underlying136 h
  obtain ⟨y0, g0⟩ := hf 0 _ rfl
  obtain ⟨y1, g1⟩ := hf 1 _ rfl
  rw [show Try.prog.cellsOf 136 = 5 from by kernel_rfl] at hl
  obtain ⟨c0, r0, rfl, hl0⟩ := len_cons hl
  obtain ⟨c1, r1, rfl, hl1⟩ := len_cons hl0
  obtain ⟨c2, r2, rfl, hl2⟩ := len_cons hl1
  obtain ⟨c3, r3, rfl, hl3⟩ := len_cons hl2
  obtain ⟨c4, r4, rfl, hl4⟩ := len_cons hl3
  obtain rfl := List.eq_nil_of_length_eq_zero hl4
  replace g0 : DataW.trod enc Try.prog w 0 (fun _ => true) true m 9 ((([c0, c1, c2, c3, c4] : List Value).drop 0).take (Try.prog.cellsOf 9)) = some y0 := g0
  rw [show Try.prog.cellsOf 9 = 1 from by kernel_rfl] at g0
  replace g0 : DataW.trod enc Try.prog w 0 (fun _ => true) true m 9 [c0] = some y0 := g0
  replace g1 : DataW.trod enc Try.prog w 0 (fun _ => true) true m 45 ((([c0, c1, c2, c3, c4] : List Value).drop 1).take (Try.prog.cellsOf 45)) = some y1 := g1
  rw [show Try.prog.cellsOf 45 = 4 from by kernel_rfl] at g1
  replace g1 : DataW.trod enc Try.prog w 0 (fun _ => true) true m 45 [c1, c2, c3, c4] = some y1 := g1
  obtain ⟨z0, K0, q0⟩ := (op_string (n := m) Try.underlying9) H enc w _ _ g0
  have e0 := K0
  replace e0 : [c0] = _ := e0
  simp only [List.cons.injEq, and_true] at e0
  obtain rfl := e0
  obtain ⟨z1, K1, q1⟩ := open45 m H enc w _ _ g1
  obtain ⟨A1_3, C1_3, e1, l4, G4⟩ := k45_open K1
  replace e1 : [c1, c2, c3, c4] = _ := e1
  simp only [List.cons.injEq, and_true] at e1
  obtain ⟨rfl, rfl, rfl, rfl⟩ := e1
  exact ⟨(⟨z0, z1⟩ : S136), k136_mk w (⟨z0, z1⟩ : S136) l4 G4, Ok136.mk q0 q1⟩

end Go.Proofs.Ytcchmhmbjhgfdaa.G
