-- Printed by a program of this claim's writer (wip/gen), out of the translation. Lean checks it.
import Derived.Test.YtcchmhmbjhgfdaaGx0
import Derived.Test.YtcchmhmbjhgfdaaGx3
import Derived.Test.YtcchmhmbjhgfdaaGx4
namespace Go.Proofs.Ytcchmhmbjhgfdaa.G
open Go.RowKit Go.Proofs.YtcchmhmbjhgfdaaW.PrintWords Go.Proofs.YtcchmhmbjhgfdaaW.PrintLast Go.Proofs.YtcchmhmbjhgfdaaW.PrintMore
attribute [local go_sem] max2_int min2_int max_two min_two max_three min_three max_four min_four Own.str_gtr Own.str_leq Own.str_geq Own.sto_fn   -- for this text's walks alone
open Own
set_option linter.unusedVariables false
set_option linter.unusedSimpArgs false

open Opn
inductive Ok25 : S25 → Prop
  | mk {x : S25} (h0 : x.f0.length ≤ maxLen) (h1 : ∀ y_ ∈ x.f0, Ok170 y_) (h2 : x.f1.length ≤ maxLen) (h3 : ∀ y_ ∈ x.f1, Ok173 y_) (h4 : (Lit.int .i64 x.f2).wf = true) (h5 : (Lit.int .i64 x.f3).wf = true) : Ok25 x
theorem Ok25.all {x : S25} (h : Ok25 x) : (x.f0.length ≤ maxLen) ∧ (∀ y_ ∈ x.f0, Ok170 y_) ∧ (x.f1.length ≤ maxLen) ∧ (∀ y_ ∈ x.f1, Ok173 y_) ∧ ((Lit.int .i64 x.f2).wf = true) ∧ ((Lit.int .i64 x.f3).wf = true) := by
  cases h with
  | mk h0 h1 h2 h3 h4 h5 => exact ⟨h0, h1, h2, h3, h4, h5⟩
theorem open25 : ∀ n, OpensAt Try.prog n 25 k25 Ok25 := by
  intro n
  induction n using Nat.strongRecOn with
  | _ n _ =>
  intro H enc w cs x h
  obtain ⟨m, rfl, hl, hf⟩ := fields_of Try.underlying25 h
  obtain ⟨y0, g0⟩ := hf 0 _ rfl
  obtain ⟨y1, g1⟩ := hf 1 _ rfl
  obtain ⟨y2, g2⟩ := hf 2 _ rfl
  obtain ⟨y3, g3⟩ := hf 3 _ rfl
  rw [show Try.prog.cellsOf 25 = 4 from by kernel_rfl] at hl
  obtain ⟨c0, r0, rfl, hl0⟩ := len_cons hl
  obtain ⟨c1, r1, rfl, hl1⟩ := len_cons hl0
  obtain ⟨c2, r2, rfl, hl2⟩ := len_cons hl1
  obtain ⟨c3, r3, rfl, hl3⟩ := len_cons hl2
  obtain rfl := List.eq_nil_of_length_eq_zero hl3
  replace g0 : DataW.trod enc Try.prog w 0 (fun _ => true) true m 22 ((([c0, c1, c2, c3] : List Value).drop 0).take (Try.prog.cellsOf 22)) = some y0 := g0
  rw [show Try.prog.cellsOf 22 = 1 from by kernel_rfl] at g0
  replace g0 : DataW.trod enc Try.prog w 0 (fun _ => true) true m 22 [c0] = some y0 := g0
  replace g1 : DataW.trod enc Try.prog w 0 (fun _ => true) true m 23 ((([c0, c1, c2, c3] : List Value).drop 1).take (Try.prog.cellsOf 23)) = some y1 := g1
  rw [show Try.prog.cellsOf 23 = 1 from by kernel_rfl] at g1
  replace g1 : DataW.trod enc Try.prog w 0 (fun _ => true) true m 23 [c1] = some y1 := g1
  replace g2 : DataW.trod enc Try.prog w 0 (fun _ => true) true m 3 ((([c0, c1, c2, c3] : List Value).drop 2).take (Try.prog.cellsOf 3)) = some y2 := g2
  rw [show Try.prog.cellsOf 3 = 1 from by kernel_rfl] at g2
  replace g2 : DataW.trod enc Try.prog w 0 (fun _ => true) true m 3 [c2] = some y2 := g2
  replace g3 : DataW.trod enc Try.prog w 0 (fun _ => true) true m 3 ((([c0, c1, c2, c3] : List Value).drop 3).take (Try.prog.cellsOf 3)) = some y3 := g3
  rw [show Try.prog.cellsOf 3 = 1 from by kernel_rfl] at g3
  replace g3 : DataW.trod enc Try.prog w 0 (fun _ => true) true m 3 [c3] = some y3 := g3
  obtain ⟨z0, K0, q0⟩ := op_slice (n := m) Try.underlying22 (show Try.prog.cellsOf 170 = k170.sz from by kernel_rfl) (fun m_ hm_ => open170 m_) H enc w _ _ g0
  obtain ⟨A0, C0, e0, l0, G0⟩ := K0
  replace e0 : [c0] = _ := e0
  simp only [List.cons.injEq, and_true] at e0
  obtain rfl := e0
  obtain ⟨z1, K1, q1⟩ := op_slice (n := m) Try.underlying23 (show Try.prog.cellsOf 173 = k173.sz from by kernel_rfl) (fun m_ hm_ => open173 m_) H enc w _ _ g1
  obtain ⟨A1, C1, e1, l1, G1⟩ := K1
  replace e1 : [c1] = _ := e1
  simp only [List.cons.injEq, and_true] at e1
  obtain rfl := e1
  obtain ⟨z2, K2, q2⟩ := (op_int (n := m) Try.underlying3) H enc w _ _ g2
  have e2 := K2
  replace e2 : [c2] = _ := e2
  simp only [List.cons.injEq, and_true] at e2
  obtain rfl := e2
  obtain ⟨z3, K3, q3⟩ := (op_int (n := m) Try.underlying3) H enc w _ _ g3
  have e3 := K3
  replace e3 : [c3] = _ := e3
  simp only [List.cons.injEq, and_true] at e3
  obtain rfl := e3
  exact ⟨(⟨z0, z1, z2, z3⟩ : S25), k25_mk w (⟨z0, z1, z2, z3⟩ : S25) l0 G0 l1 G1, Ok25.mk q0.1 q0.2 q1.1 q1.2 q2 q3⟩

end Go.Proofs.Ytcchmhmbjhgfdaa.G
