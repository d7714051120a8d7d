-- Printed by a program of this claim's writer (wip/gen), out of the translation. Lean checks it.
import Derived.Test.YtcchmhmbjhgfdaaGx0
import Derived.Test.YtcchmhmbjhgfdaaGx2
namespace Go.Proofs.Ytcchmhmbjhgfdaa.G
open Go.RowKit Go.Proofs.YtcchmhmbjhgfdaaW.PrintWords Go.Proofs.YtcchmhmbjhgfdaaW.PrintLast Go.Proofs.YtcchmhmbjhgfdaaW.PrintMore
attribute [local go_sem] max2_int min2_int max_two min_two max_three min_three max_four min_four Own.str_gtr Own.str_leq Own.str_geq Own.sto_fn   -- for this text's walks alone
open Own
set_option linter.unusedVariables false
set_option linter.unusedSimpArgs false

open Opn
inductive Ok170 : S170 → Prop
  | mk {x : S170} (h0 : (Lit.int .i64 x.f0).wf = true) (h1 : x.f1.length ≤ maxLen) (h2 : ∀ y_ ∈ x.f1, y_.size ≤ maxLen) (h3 : x.f2.length ≤ maxLen) (h4 : ∀ y_ ∈ x.f2, Ok136 y_) : Ok170 x
theorem Ok170.all {x : S170} (h : Ok170 x) : ((Lit.int .i64 x.f0).wf = true) ∧ (x.f1.length ≤ maxLen) ∧ (∀ y_ ∈ x.f1, y_.size ≤ maxLen) ∧ (x.f2.length ≤ maxLen) ∧ (∀ y_ ∈ x.f2, Ok136 y_) := by
  cases h with
  | mk h0 h1 h2 h3 h4 => exact ⟨h0, h1, h2, h3, h4⟩
theorem open170 : ∀ n, OpensAt Try.prog n 170 k170 Ok170 := by
  intro n
  induction n using Nat.strongRecOn with
  | _ n _ =>
  intro H enc w cs x h
  obtain ⟨m, rfl, hl, hf⟩ := fields_of Try.underlying170 h
  obtain ⟨y0, g0⟩ := hf 0 _ rfl
  obtain ⟨y1, g1⟩ := hf 1 _ rfl
  obtain ⟨y2, g2⟩ := hf 2 _ rfl
  rw [show Try.prog.cellsOf 170 = 3 from by kernel_rfl] at hl
  obtain ⟨c0, r0, rfl, hl0⟩ := len_cons hl
  obtain ⟨c1, r1, rfl, hl1⟩ := len_cons hl0
  obtain ⟨c2, r2, rfl, hl2⟩ := len_cons hl1
  obtain rfl := List.eq_nil_of_length_eq_zero hl2
  replace g0 : DataW.trod enc Try.prog w 0 (fun _ => true) true m 3 ((([c0, c1, c2] : List Value).drop 0).take (Try.prog.cellsOf 3)) = some y0 := g0
  rw [show Try.prog.cellsOf 3 = 1 from by kernel_rfl] at g0
  replace g0 : DataW.trod enc Try.prog w 0 (fun _ => true) true m 3 [c0] = some y0 := g0
  replace g1 : DataW.trod enc Try.prog w 0 (fun _ => true) true m 57 ((([c0, c1, c2] : List Value).drop 1).take (Try.prog.cellsOf 57)) = some y1 := g1
  rw [show Try.prog.cellsOf 57 = 1 from by kernel_rfl] at g1
  replace g1 : DataW.trod enc Try.prog w 0 (fun _ => true) true m 57 [c1] = some y1 := g1
  replace g2 : DataW.trod enc Try.prog w 0 (fun _ => true) true m 58 ((([c0, c1, c2] : List Value).drop 2).take (Try.prog.cellsOf 58)) = some y2 := g2
  rw [show Try.prog.cellsOf 58 = 1 from by kernel_rfl] at g2
  replace g2 : DataW.trod enc Try.prog w 0 (fun _ => true) true m 58 [c2] = some y2 := g2
  obtain ⟨z0, K0, q0⟩ := (op_int (n := m) Try.underlying3) H enc w _ _ g0
  have e0 := K0
  replace e0 : [c0] = _ := e0
  simp only [List.cons.injEq, and_true] at e0
  obtain rfl := e0
  obtain ⟨z1, K1, q1⟩ := op_slice (n := m) Try.underlying57 (show Try.prog.cellsOf 9 = Kd.string.sz from by kernel_rfl) (fun m_ hm_ => op_string Try.underlying9) H enc w _ _ g1
  obtain ⟨A1, C1, e1, l1, G1⟩ := K1
  replace e1 : [c1] = _ := e1
  simp only [List.cons.injEq, and_true] at e1
  obtain rfl := e1
  obtain ⟨z2, K2, q2⟩ := op_slice (n := m) Try.underlying58 (show Try.prog.cellsOf 136 = k136.sz from by kernel_rfl) (fun m_ hm_ => open136 m_) H enc w _ _ g2
  obtain ⟨A2, C2, e2, l2, G2⟩ := K2
  replace e2 : [c2] = _ := e2
  simp only [List.cons.injEq, and_true] at e2
  obtain rfl := e2
  exact ⟨(⟨z0, z1, z2⟩ : S170), k170_mk w (⟨z0, z1, z2⟩ : S170) l1 G1 l2 G2, Ok170.mk q0 q1.1 q1.2 q2.1 q2.2⟩

end Go.Proofs.Ytcchmhmbjhgfdaa.G
