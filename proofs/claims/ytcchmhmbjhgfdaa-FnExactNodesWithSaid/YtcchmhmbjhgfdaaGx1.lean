-- Printed by a program of this claim's writer (wip/gen), out of the translation. Lean checks it.
import Derived.Test.YtcchmhmbjhgfdaaGx0
namespace Go.Proofs.Ytcchmhmbjhgfdaa.G
open Go.RowKit Go.Proofs.YtcchmhmbjhgfdaaW.PrintWords Go.Proofs.YtcchmhmbjhgfdaaW.PrintLast Go.Proofs.YtcchmhmbjhgfdaaW.PrintMore
attribute [local go_sem] max2_int min2_int max_two min_two max_three min_three max_four min_four Own.str_gtr Own.str_leq Own.str_geq Own.sto_fn   -- for this text's walks alone
open Own
set_option linter.unusedVariables false
set_option linter.unusedSimpArgs false

open Opn
inductive Ok45 : S45 → Prop
  | mk {x : S45} (h0 : (Lit.int .i64 x.f0).wf = true) (h1 : (Lit.int .i64 x.f1).wf = true) (h2 : x.f2.size ≤ maxLen) (h3 : x.f3.length ≤ maxLen) (h4 : ∀ y_ ∈ x.f3, Ok45 y_) : Ok45 x
theorem Ok45.all {x : S45} (h : Ok45 x) : ((Lit.int .i64 x.f0).wf = true) ∧ ((Lit.int .i64 x.f1).wf = true) ∧ (x.f2.size ≤ maxLen) ∧ (x.f3.length ≤ maxLen) ∧ (∀ y_ ∈ x.f3, Ok45 y_) := by
  cases h with
  | mk h0 h1 h2 h3 h4 => exact ⟨h0, h1, h2, h3, h4⟩
theorem open45 : ∀ n, OpensAt Try.prog n 45 k45 Ok45 := by
  intro n
  induction n using Nat.strongRecOn with
  | _ n ih =>
  intro H enc w cs x h
  obtain ⟨m, rfl, hl, hf⟩ := fields_of Try.underlying45 h
  obtain ⟨y0, g0⟩ := hf 0 _ rfl
  obtain ⟨y1, g1⟩ := hf 1 _ rfl
  obtain ⟨y2, g2⟩ := hf 2 _ rfl
  obtain ⟨y3, g3⟩ := hf 3 _ rfl
  rw [show Try.prog.cellsOf 45 = 4 from by kernel_rfl] at hl
  obtain ⟨c0, r0, rfl, hl0⟩ := len_cons hl
  obtain ⟨c1, r1, rfl, hl1⟩ := len_cons hl0
  obtain ⟨c2, r2, rfl, hl2⟩ := len_cons hl1
  obtain ⟨c3, r3, rfl, hl3⟩ := len_cons hl2
  obtain rfl := List.eq_nil_of_length_eq_zero hl3
  replace g0 : DataW.trod enc Try.prog w 0 (fun _ => true) true m 3 ((([c0, c1, c2, c3] : List Value).drop 0).take (Try.prog.cellsOf 3)) = some y0 := g0
  rw [show Try.prog.cellsOf 3 = 1 from by kernel_rfl] at g0
  replace g0 : DataW.trod enc Try.prog w 0 (fun _ => true) true m 3 [c0] = some y0 := g0
  replace g1 : DataW.trod enc Try.prog w 0 (fun _ => true) true m 3 ((([c0, c1, c2, c3] : List Value).drop 1).take (Try.prog.cellsOf 3)) = some y1 := g1
  rw [show Try.prog.cellsOf 3 = 1 from by kernel_rfl] at g1
  replace g1 : DataW.trod enc Try.prog w 0 (fun _ => true) true m 3 [c1] = some y1 := g1
  replace g2 : DataW.trod enc Try.prog w 0 (fun _ => true) true m 9 ((([c0, c1, c2, c3] : List Value).drop 2).take (Try.prog.cellsOf 9)) = some y2 := g2
  rw [show Try.prog.cellsOf 9 = 1 from by kernel_rfl] at g2
  replace g2 : DataW.trod enc Try.prog w 0 (fun _ => true) true m 9 [c2] = some y2 := g2
  replace g3 : DataW.trod enc Try.prog w 0 (fun _ => true) true m 43 ((([c0, c1, c2, c3] : List Value).drop 3).take (Try.prog.cellsOf 43)) = some y3 := g3
  rw [show Try.prog.cellsOf 43 = 1 from by kernel_rfl] at g3
  replace g3 : DataW.trod enc Try.prog w 0 (fun _ => true) true m 43 [c3] = some y3 := g3
  obtain ⟨z0, K0, q0⟩ := (op_int (n := m) Try.underlying3) H enc w _ _ g0
  have e0 := K0
  replace e0 : [c0] = _ := e0
  simp only [List.cons.injEq, and_true] at e0
  obtain rfl := e0
  obtain ⟨z1, K1, q1⟩ := (op_int (n := m) Try.underlying3) H enc w _ _ g1
  have e1 := K1
  replace e1 : [c1] = _ := e1
  simp only [List.cons.injEq, and_true] at e1
  obtain rfl := e1
  obtain ⟨z2, K2, q2⟩ := (op_string (n := m) Try.underlying9) H enc w _ _ g2
  have e2 := K2
  replace e2 : [c2] = _ := e2
  simp only [List.cons.injEq, and_true] at e2
  obtain rfl := e2
  obtain ⟨z3, K3, q3⟩ := op_slice (n := m) Try.underlying43 (show Try.prog.cellsOf 45 = k45.sz from by kernel_rfl) (fun m_ hm_ => ih m_ (by omega)) H enc w _ _ g3
  obtain ⟨A3, C3, e3, l3, G3⟩ := K3
  replace e3 : [c3] = _ := e3
  simp only [List.cons.injEq, and_true] at e3
  obtain rfl := e3
  exact ⟨(⟨z0, z1, z2, z3⟩ : S45), k45_mk w (⟨z0, z1, z2, z3⟩ : S45) l3 G3, Ok45.mk q0 q1 q2 q3.1 q3.2⟩

end Go.Proofs.Ytcchmhmbjhgfdaa.G
