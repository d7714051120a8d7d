-- Printed by a program of this claim's writer (wip/gen), out of the translation. Lean checks it.
import Derived.Test.YtcchmhmbjhgfdaaGx0
namespace Go.Proofs.Ytcchmhmbjhgfdaa.G
open Go.RowKit Go.Proofs.YtcchmhmbjhgfdaaW.PrintWords Go.Proofs.YtcchmhmbjhgfdaaW.PrintLast Go.Proofs.YtcchmhmbjhgfdaaW.PrintMore
attribute [local go_sem] max2_int min2_int max_two min_two max_three min_three max_four min_four Own.str_gtr Own.str_leq Own.str_geq Own.sto_fn   -- for this text's walks alone
open Own
set_option linter.unusedVariables false
set_option linter.unusedSimpArgs false

open Opn
inductive Ok45 : S45 → Prop
  | mk {x : S45} (h0 : (Lit.int .i64 x.f0).wf = true) (h1 : (Lit.int .i64 x.f1).wf = true) (h2 : x.f2.size ≤ maxLen) (h3 : x.f3.length ≤ maxLen) (h4 : ∀ y_ ∈ x.f3, Ok45 y_) : Ok45 x
theorem Ok45.all {x : S45} (h : Ok45 x) : ((Lit.int .i64 x.f0).wf = true) ∧ ((Lit.int .i64 x.f1).wf = true) ∧ (x.f2.size ≤ maxLen) ∧ (x.f3.length ≤ maxLen) ∧ (∀ y_ ∈ x.f3, Ok45 y_) := by
  cases h with
  | mk h0 h1 h2 h3 h4 => exact ⟨h0, h1, h2, h3, h4⟩
theorem open45 : ∀ n, OpensAt Try.prog n 45 k45 Ok45 := by
  intro n
  induction n using Nat.strongRecOn with
  | _ n ih =>
  intro H enc w cs x h
  obtain ⟨m, rfl, hl, hf⟩ := fields_of Try.underlying45 h
  obtain ⟨y0, g0⟩ := hf 0 _ rfl
  obtain ⟨y1, g1⟩ := hf 1 _ rfl
  obtain ⟨y2, g2⟩ := hf 2 _ rfl
  obtain ⟨y3, g3⟩ := hf 3 _ rfl
  rw [show Try.prog.cellsOf 45 = 4 from by kernel_rfl] at hl
  obtain ⟨c0, r0, rfl, hl0⟩ := len_cons hl
  obtain ⟨c1, r1, rfl, hl1⟩ := len_cons hl0
  obtain ⟨c2, r2, rfl, hl2⟩ := len_cons hl1
  obtain ⟨c3, r3, rfl, hl3⟩ := len_cons hl2
  obtain rfl := List.eq_nil_of_length_eq_zero hl3
  replace g0 : DataW.trod enc Try.prog w 0 (fun _ => true) true m 3 ((([c0, c1, c2, c3] : List Value).drop 0).take (Try.prog.cellsOf 3)) = some y0 := g0
  rw [show Try.prog.cellsOf 3 = 1 from by kernel_rfl] at g0
  replace g0 : DataW.trod enc Try.prog w 0 (fun _ => true) true m 3 [c0] = some y0 := g0
  replace g1 : DataW.trod enc Try.prog w 0 (fun _ => true) true m 3 ((([c0, c1, c2, c3] : List Value).drop 1).take (Try.prog.cellsOf 3)) = some y1 := g1
  rw [show Try.prog.cellsOf 3 = 1 from by kernel_rfl] at g1
  replace g1 : DataW.trod enc Try.prog w 0 (fun _ => true) true m 3 [c1] = some y1 := g1
  replace g2 : DataW.trod enc Try.prog w 0 (fun _ => true) true m 9 ((([c0, c1, c2, c3] : List Value).drop 2).take (Try.prog.cellsOf 9)) = some y2 := g2
  rw [show Try.prog.cellsOf 9 = 1 from by kernel_rfl] at g2
  replace g2 : DataW.trod enc Try.prog w 0 (fun _ => true) true m 9 [c2] = some y2 := g2
  replace g3 : DataW.trod enc Try.prog w 0 (fun _ => true) true m 43 ((([c0, c1, c2, c3] : List Value).drop 3).take (Try.prog.cellsOf 43)) = some y3 := g3
  rw [show Try.prog.cellsOf 43 = 1 from by kernel_rfl] at g3
  replace g3 : DataW.trod enc Try.prog w 0 (fun _ => true) true m 43 [c3] = some y3 := g3
  obtain ⟨z0, K0, q0⟩ := (op_int (n := m) Try.underlying3) H enc w _ _ g0
  have e0 := K0
  replace e0 : [c0] = _ := e0
  simp only [List.cons.injEq, and_true] at e0
  obtain rfl := e0
  obtain ⟨z1, K1, q1⟩ := (op_int (n := m) Try.underlying3) H enc w _ _ g1
  have e1 := K1
  replace e1 : [c1] = _ := e1
  simp only [List.cons.injEq, and_true] at e1
  obtain rfl := e1
  obtain ⟨z2, K2, q2⟩ := (op_string (n := m) Try.underlying9) H enc w _ _ g2
  have e2 := K2
  replace e2 : [c2] = _ := e2
  simp only [List.cons.injEq, and_true] at e2
  obtain rfl := e2
  obtain ⟨z3, K3, q3⟩ := op_slice (n := m) Try.underlying43 (show Try.prog.cellsOf 45 = k45.sz from by kernel_rfl) (fun m_ hm_ => ih m_ (by omega)) H enc w _ _ g3
  obtain ⟨A3, C3, e3, l3, G3⟩ := K3
  replace e3 : [c3] = _ := e3
  simp only [List.cons.injEq, and_true] at e3
  obtain rfl := e3
  exact ⟨(⟨z0, z1, z2, z3⟩ : S45), k45_mk w (⟨z0, z1, z2, z3⟩ : S45) l3 G3, Ok45.mk q0 q1 q2 q3.1 q3.2⟩

inductive Ok136 : S136 → Prop
  | mk {x : S136} (h0 : x.f0.size ≤ maxLen) (h1 : Ok45 x.f1) : Ok136 x
theorem Ok136.all {x : S136} (h : Ok136 x) : (x.f0.size ≤ maxLen) ∧ (Ok45 x.f1) := by
  cases h with
  | mk h0 h1 => exact ⟨h0, h1⟩
theorem open136 : ∀ n, OpensAt Try.prog n 136 k136 Ok136 := by
  intro n
  induction n using Nat.strongRecOn with
  | _ n _ =>
  intro H enc w cs x h
  obtain ⟨m, rfl, hl, hf⟩ := fields_of Try.underlying136 h
  obtain ⟨y0, g0⟩ := hf 0 _ rfl
  obtain ⟨y1, g1⟩ := hf 1 _ rfl
  rw [show Try.prog.cellsOf 136 = 5 from by kernel_rfl] at hl
  obtain ⟨c0, r0, rfl, hl0⟩ := len_cons hl
  obtain ⟨c1, r1, rfl, hl1⟩ := len_cons hl0
  obtain ⟨c2, r2, rfl, hl2⟩ := len_cons hl1
  obtain ⟨c3, r3, rfl, hl3⟩ := len_cons hl2
  obtain ⟨c4, r4, rfl, hl4⟩ := len_cons hl3
  obtain rfl := List.eq_nil_of_length_eq_zero hl4
  replace g0 : DataW.trod enc Try.prog w 0 (fun _ => true) true m 9 ((([c0, c1, c2, c3, c4] : List Value).drop 0).take (Try.prog.cellsOf 9)) = some y0 := g0
  rw [show Try.prog.cellsOf 9 = 1 from by kernel_rfl] at g0
  replace g0 : DataW.trod enc Try.prog w 0 (fun _ => true) true m 9 [c0] = some y0 := g0
  replace g1 : DataW.trod enc Try.prog w 0 (fun _ => true) true m 45 ((([c0, c1, c2, c3, c4] : List Value).drop 1).take (Try.prog.cellsOf 45)) = some y1 := g1
  rw [show Try.prog.cellsOf 45 = 4 from by kernel_rfl] at g1
  replace g1 : DataW.trod enc Try.prog w 0 (fun _ => true) true m 45 [c1, c2, c3, c4] = some y1 := g1
  obtain ⟨z0, K0, q0⟩ := (op_string (n := m) Try.underlying9) H enc w _ _ g0
  have e0 := K0
  replace e0 : [c0] = _ := e0
  simp only [List.cons.injEq, and_true] at e0
  obtain rfl := e0
  obtain ⟨z1, K1, q1⟩ := open45 m H enc w _ _ g1
  obtain ⟨A1_3, C1_3, e1, l4, G4⟩ := k45_open K1
  replace e1 : [c1, c2, c3, c4] = _ := e1
  simp only [List.cons.injEq, and_true] at e1
  obtain ⟨rfl, rfl, rfl, rfl⟩ := e1
  exact ⟨(⟨z0, z1⟩ : S136), k136_mk w (⟨z0, z1⟩ : S136) l4 G4, Ok136.mk q0 q1⟩

inductive Ok170 : S170 → Prop
  | mk {x : S170} (h0 : (Lit.int .i64 x.f0).wf = true) (h1 : x.f1.length ≤ maxLen) (h2 : ∀ y_ ∈ x.f1, y_.size ≤ maxLen) (h3 : x.f2.length ≤ maxLen) (h4 : ∀ y_ ∈ x.f2, Ok136 y_) : Ok170 x
theorem Ok170.all {x : S170} (h : Ok170 x) : ((Lit.int .i64 x.f0).wf = true) ∧ (x.f1.length ≤ maxLen) ∧ (∀ y_ ∈ x.f1, y_.size ≤ maxLen) ∧ (x.f2.length ≤ maxLen) ∧ (∀ y_ ∈ x.f2, Ok136 y_) := by
  cases h with
  | mk h0 h1 h2 h3 h4 => exact ⟨h0, h1, h2, h3, h4⟩
theorem open170 : ∀ n, OpensAt Try.prog n 170 k170 Ok170 := by
  intro n
  induction n using Nat.strongRecOn with
  | _ n _ =>
  intro H enc w cs x h
  obtain ⟨m, rfl, hl, hf⟩ := fields_of Try.underlying170 h
  obtain ⟨y0, g0⟩ := hf 0 _ rfl
  obtain ⟨y1, g1⟩ := hf 1 _ rfl
  obtain ⟨y2, g2⟩ := hf 2 _ rfl
  rw [show Try.prog.cellsOf 170 = 3 from by kernel_rfl] at hl
  obtain ⟨c0, r0, rfl, hl0⟩ := len_cons hl
  obtain ⟨c1, r1, rfl, hl1⟩ := len_cons hl0
  obtain ⟨c2, r2, rfl, hl2⟩ := len_cons hl1
  obtain rfl := List.eq_nil_of_length_eq_zero hl2
  replace g0 : DataW.trod enc Try.prog w 0 (fun _ => true) true m 3 ((([c0, c1, c2] : List Value).drop 0).take (Try.prog.cellsOf 3)) = some y0 := g0
  rw [show Try.prog.cellsOf 3 = 1 from by kernel_rfl] at g0
  replace g0 : DataW.trod enc Try.prog w 0 (fun _ => true) true m 3 [c0] = some y0 := g0
  replace g1 : DataW.trod enc Try.prog w 0 (fun _ => true) true m 57 ((([c0, c1, c2] : List Value).drop 1).take (Try.prog.cellsOf 57)) = some y1 := g1
  rw [show Try.prog.cellsOf 57 = 1 from by kernel_rfl] at g1
  replace g1 : DataW.trod enc Try.prog w 0 (fun _ => true) true m 57 [c1] = some y1 := g1
  replace g2 : DataW.trod enc Try.prog w 0 (fun _ => true) true m 58 ((([c0, c1, c2] : List Value).drop 2).take (Try.prog.cellsOf 58)) = some y2 := g2
  rw [show Try.prog.cellsOf 58 = 1 from by kernel_rfl] at g2
  replace g2 : DataW.trod enc Try.prog w 0 (fun _ => true) true m 58 [c2] = some y2 := g2
  obtain ⟨z0, K0, q0⟩ := (op_int (n := m) Try.underlying3) H enc w _ _ g0
  have e0 := K0
  replace e0 : [c0] = _ := e0
  simp only [List.cons.injEq, and_true] at e0
  obtain rfl := e0
  obtain ⟨z1, K1, q1⟩ := op_slice (n := m) Try.underlying57 (show Try.prog.cellsOf 9 = Kd.string.sz from by kernel_rfl) (fun m_ hm_ => op_string Try.underlying9) H enc w _ _ g1
  obtain ⟨A1, C1, e1, l1, G1⟩ := K1
  replace e1 : [c1] = _ := e1
  simp only [List.cons.injEq, and_true] at e1
  obtain rfl := e1
  obtain ⟨z2, K2, q2⟩ := op_slice (n := m) Try.underlying58 (show Try.prog.cellsOf 136 = k136.sz from by kernel_rfl) (fun m_ hm_ => open136 m_) H enc w _ _ g2
  obtain ⟨A2, C2, e2, l2, G2⟩ := K2
  replace e2 : [c2] = _ := e2
  simp only [List.cons.injEq, and_true] at e2
  obtain rfl := e2
  exact ⟨(⟨z0, z1, z2⟩ : S170), k170_mk w (⟨z0, z1, z2⟩ : S170) l1 G1 l2 G2, Ok170.mk q0 q1.1 q1.2 q2.1 q2.2⟩

inductive Ok173 : S173 → Prop
  | mk {x : S173} (h0 : (Lit.int .i64 x.f0).wf = true) (h1 : x.f1.size ≤ maxLen) (h2 : (Lit.int .i64 x.f2).wf = true) (h3 : (Lit.int .i64 x.f3).wf = true) (h4 : x.f4.length ≤ maxLen) (h5 : ∀ y_ ∈ x.f4, Ok136 y_) : Ok173 x
theorem Ok173.all {x : S173} (h : Ok173 x) : ((Lit.int .i64 x.f0).wf = true) ∧ (x.f1.size ≤ maxLen) ∧ ((Lit.int .i64 x.f2).wf = true) ∧ ((Lit.int .i64 x.f3).wf = true) ∧ (x.f4.length ≤ maxLen) ∧ (∀ y_ ∈ x.f4, Ok136 y_) := by
  cases h with
  | mk h0 h1 h2 h3 h4 h5 => exact ⟨h0, h1, h2, h3, h4, h5⟩
theorem open173 : ∀ n, OpensAt Try.prog n 173 k173 Ok173 := by
  intro n
  induction n using Nat.strongRecOn with
  | _ n _ =>
  intro H enc w cs x h
  obtain ⟨m, rfl, hl, hf⟩ := fields_of Try.underlying173 h
  obtain ⟨y0, g0⟩ := hf 0 _ rfl
  obtain ⟨y1, g1⟩ := hf 1 _ rfl
  obtain ⟨y2, g2⟩ := hf 2 _ rfl
  obtain ⟨y3, g3⟩ := hf 3 _ rfl
  obtain ⟨y4, g4⟩ := hf 4 _ rfl
  rw [show Try.prog.cellsOf 173 = 5 from by kernel_rfl] at hl
  obtain ⟨c0, r0, rfl, hl0⟩ := len_cons hl
  obtain ⟨c1, r1, rfl, hl1⟩ := len_cons hl0
  obtain ⟨c2, r2, rfl, hl2⟩ := len_cons hl1
  obtain ⟨c3, r3, rfl, hl3⟩ := len_cons hl2
  obtain ⟨c4, r4, rfl, hl4⟩ := len_cons hl3
  obtain rfl := List.eq_nil_of_length_eq_zero hl4
  replace g0 : DataW.trod enc Try.prog w 0 (fun _ => true) true m 3 ((([c0, c1, c2, c3, c4] : List Value).drop 0).take (Try.prog.cellsOf 3)) = some y0 := g0
  rw [show Try.prog.cellsOf 3 = 1 from by kernel_rfl] at g0
  replace g0 : DataW.trod enc Try.prog w 0 (fun _ => true) true m 3 [c0] = some y0 := g0
  replace g1 : DataW.trod enc Try.prog w 0 (fun _ => true) true m 9 ((([c0, c1, c2, c3, c4] : List Value).drop 1).take (Try.prog.cellsOf 9)) = some y1 := g1
  rw [show Try.prog.cellsOf 9 = 1 from by kernel_rfl] at g1
  replace g1 : DataW.trod enc Try.prog w 0 (fun _ => true) true m 9 [c1] = some y1 := g1
  replace g2 : DataW.trod enc Try.prog w 0 (fun _ => true) true m 3 ((([c0, c1, c2, c3, c4] : List Value).drop 2).take (Try.prog.cellsOf 3)) = some y2 := g2
  rw [show Try.prog.cellsOf 3 = 1 from by kernel_rfl] at g2
  replace g2 : DataW.trod enc Try.prog w 0 (fun _ => true) true m 3 [c2] = some y2 := g2
  replace g3 : DataW.trod enc Try.prog w 0 (fun _ => true) true m 3 ((([c0, c1, c2, c3, c4] : List Value).drop 3).take (Try.prog.cellsOf 3)) = some y3 := g3
  rw [show Try.prog.cellsOf 3 = 1 from by kernel_rfl] at g3
  replace g3 : DataW.trod enc Try.prog w 0 (fun _ => true) true m 3 [c3] = some y3 := g3
  replace g4 : DataW.trod enc Try.prog w 0 (fun _ => true) true m 58 ((([c0, c1, c2, c3, c4] : List Value).drop 4).take (Try.prog.cellsOf 58)) = some y4 := g4
  rw [show Try.prog.cellsOf 58 = 1 from by kernel_rfl] at g4
  replace g4 : DataW.trod enc Try.prog w 0 (fun _ => true) true m 58 [c4] = some y4 := g4
  obtain ⟨z0, K0, q0⟩ := (op_int (n := m) Try.underlying3) H enc w _ _ g0
  have e0 := K0
  replace e0 : [c0] = _ := e0
  simp only [List.cons.injEq, and_true] at e0
  obtain rfl := e0
  obtain ⟨z1, K1, q1⟩ := (op_string (n := m) Try.underlying9) H enc w _ _ g1
  have e1 := K1
  replace e1 : [c1] = _ := e1
  simp only [List.cons.injEq, and_true] at e1
  obtain rfl := e1
  obtain ⟨z2, K2, q2⟩ := (op_int (n := m) Try.underlying3) H enc w _ _ g2
  have e2 := K2
  replace e2 : [c2] = _ := e2
  simp only [List.cons.injEq, and_true] at e2
  obtain rfl := e2
  obtain ⟨z3, K3, q3⟩ := (op_int (n := m) Try.underlying3) H enc w _ _ g3
  have e3 := K3
  replace e3 : [c3] = _ := e3
  simp only [List.cons.injEq, and_true] at e3
  obtain rfl := e3
  obtain ⟨z4, K4, q4⟩ := op_slice (n := m) Try.underlying58 (show Try.prog.cellsOf 136 = k136.sz from by kernel_rfl) (fun m_ hm_ => open136 m_) H enc w _ _ g4
  obtain ⟨A4, C4, e4, l4, G4⟩ := K4
  replace e4 : [c4] = _ := e4
  simp only [List.cons.injEq, and_true] at e4
  obtain rfl := e4
  exact ⟨(⟨z0, z1, z2, z3, z4⟩ : S173), k173_mk w (⟨z0, z1, z2, z3, z4⟩ : S173) l4 G4, Ok173.mk q0 q1 q2 q3 q4.1 q4.2⟩

inductive Ok25 : S25 → Prop
  | mk {x : S25} (h0 : x.f0.length ≤ maxLen) (h1 : ∀ y_ ∈ x.f0, Ok170 y_) (h2 : x.f1.length ≤ maxLen) (h3 : ∀ y_ ∈ x.f1, Ok173 y_) (h4 : (Lit.int .i64 x.f2).wf = true) (h5 : (Lit.int .i64 x.f3).wf = true) : Ok25 x
theorem Ok25.all {x : S25} (h : Ok25 x) : (x.f0.length ≤ maxLen) ∧ (∀ y_ ∈ x.f0, Ok170 y_) ∧ (x.f1.length ≤ maxLen) ∧ (∀ y_ ∈ x.f1, Ok173 y_) ∧ ((Lit.int .i64 x.f2).wf = true) ∧ ((Lit.int .i64 x.f3).wf = true) := by
  cases h with
  | mk h0 h1 h2 h3 h4 h5 => exact ⟨h0, h1, h2, h3, h4, h5⟩
theorem open25 : ∀ n, OpensAt Try.prog n 25 k25 Ok25 := by
  intro n
  induction n using Nat.strongRecOn with
  | _ n _ =>
  intro H enc w cs x h
  obtain ⟨m, rfl, hl, hf⟩ := fields_of Try.underlying25 h
  obtain ⟨y0, g0⟩ := hf 0 _ rfl
  obtain ⟨y1, g1⟩ := hf 1 _ rfl
  obtain ⟨y2, g2⟩ := hf 2 _ rfl
  obtain ⟨y3, g3⟩ := hf 3 _ rfl
  rw [show Try.prog.cellsOf 25 = 4 from by kernel_rfl] at hl
  obtain ⟨c0, r0, rfl, hl0⟩ := len_cons hl
  obtain ⟨c1, r1, rfl, hl1⟩ := len_cons hl0
  obtain ⟨c2, r2, rfl, hl2⟩ := len_cons hl1
  obtain ⟨c3, r3, rfl, hl3⟩ := len_cons hl2
  obtain rfl := List.eq_nil_of_length_eq_zero hl3
  replace g0 : DataW.trod enc Try.prog w 0 (fun _ => true) true m 22 ((([c0, c1, c2, c3] : List Value).drop 0).take (Try.prog.cellsOf 22)) = some y0 := g0
  rw [show Try.prog.cellsOf 22 = 1 from by kernel_rfl] at g0
  replace g0 : DataW.trod enc Try.prog w 0 (fun _ => true) true m 22 [c0] = some y0 := g0
  replace g1 : DataW.trod enc Try.prog w 0 (fun _ => true) true m 23 ((([c0, c1, c2, c3] : List Value).drop 1).take (Try.prog.cellsOf 23)) = some y1 := g1
  rw [show Try.prog.cellsOf 23 = 1 from by kernel_rfl] at g1
  replace g1 : DataW.trod enc Try.prog w 0 (fun _ => true) true m 23 [c1] = some y1 := g1
  replace g2 : DataW.trod enc Try.prog w 0 (fun _ => true) true m 3 ((([c0, c1, c2, c3] : List Value).drop 2).take (Try.prog.cellsOf 3)) = some y2 := g2
  rw [show Try.prog.cellsOf 3 = 1 from by kernel_rfl] at g2
  replace g2 : DataW.trod enc Try.prog w 0 (fun _ => true) true m 3 [c2] = some y2 := g2
  replace g3 : DataW.trod enc Try.prog w 0 (fun _ => true) true m 3 ((([c0, c1, c2, c3] : List Value).drop 3).take (Try.prog.cellsOf 3)) = some y3 := g3
  rw [show Try.prog.cellsOf 3 = 1 from by kernel_rfl] at g3
  replace g3 : DataW.trod enc Try.prog w 0 (fun _ => true) true m 3 [c3] = some y3 := g3
  obtain ⟨z0, K0, q0⟩ := op_slice (n := m) Try.underlying22 (show Try.prog.cellsOf 170 = k170.sz from by kernel_rfl) (fun m_ hm_ => open170 m_) H enc w _ _ g0
  obtain ⟨A0, C0, e0, l0, G0⟩ := K0
  replace e0 : [c0] = _ := e0
  simp only [List.cons.injEq, and_true] at e0
  obtain rfl := e0
  obtain ⟨z1, K1, q1⟩ := op_slice (n := m) Try.underlying23 (show Try.prog.cellsOf 173 = k173.sz from by kernel_rfl) (fun m_ hm_ => open173 m_) H enc w _ _ g1
  obtain ⟨A1, C1, e1, l1, G1⟩ := K1
  replace e1 : [c1] = _ := e1
  simp only [List.cons.injEq, and_true] at e1
  obtain rfl := e1
  obtain ⟨z2, K2, q2⟩ := (op_int (n := m) Try.underlying3) H enc w _ _ g2
  have e2 := K2
  replace e2 : [c2] = _ := e2
  simp only [List.cons.injEq, and_true] at e2
  obtain rfl := e2
  obtain ⟨z3, K3, q3⟩ := (op_int (n := m) Try.underlying3) H enc w _ _ g3
  have e3 := K3
  replace e3 : [c3] = _ := e3
  simp only [List.cons.injEq, and_true] at e3
  obtain rfl := e3
  exact ⟨(⟨z0, z1, z2, z3⟩ : S25), k25_mk w (⟨z0, z1, z2, z3⟩ : S25) l0 G0 l1 G1, Ok25.mk q0.1 q0.2 q1.1 q1.2 q2 q3⟩

end Go.Proofs.Ytcchmhmbjhgfdaa.G
