-- Printed by a program of this claim's writer (wip/gen), out of the translation. Lean checks it.
import Derived.Test.YtnecmjmimdojcaaGx0
namespace Go.Proofs.Ytnecmjmimdojcaa.G
open Go.RowKit Go.Proofs.YtnecmjmimdojcaaW.PrintWords Go.Proofs.YtnecmjmimdojcaaW.PrintLast Go.Proofs.YtnecmjmimdojcaaW.PrintMore
attribute [local go_sem] max2_int min2_int max_two min_two max_three min_three max_four min_four Own.str_gtr Own.str_leq Own.str_geq   -- for this text's walks alone
open Own
set_option linter.unusedVariables false
set_option linter.unusedSimpArgs false

open Opn
inductive Ok35 : S35 → Prop
  | mk {x : S35} (h0 : (Lit.int .i64 x.f0).wf = true) (h1 : (Lit.int .i64 x.f1).wf = true) (h2 : x.f2.size ≤ maxLen) (h3 : x.f3.length ≤ maxLen) (h4 : ∀ y_ ∈ x.f3, Ok35 y_) : Ok35 x
theorem Ok35.all {x : S35} (h : Ok35 x) : ((Lit.int .i64 x.f0).wf = true) ∧ ((Lit.int .i64 x.f1).wf = true) ∧ (x.f2.size ≤ maxLen) ∧ (x.f3.length ≤ maxLen) ∧ (∀ y_ ∈ x.f3, Ok35 y_) := by
  cases h with
  | mk h0 h1 h2 h3 h4 => exact ⟨h0, h1, h2, h3, h4⟩
theorem open35 : ∀ n, OpensAt Try.prog n 35 k35 Ok35 := by
  intro n
  induction n using Nat.strongRecOn with
  | _ n ih =>
  intro H enc w cs x h
  obtain ⟨m, rfl, hl, hf⟩ := fields_of Try.underlying35 h
  obtain ⟨y0, g0⟩ := hf 0 _ rfl
  obtain ⟨y1, g1⟩ := hf 1 _ rfl
  obtain ⟨y2, g2⟩ := hf 2 _ rfl
  obtain ⟨y3, g3⟩ := hf 3 _ rfl
  rw [show Try.prog.cellsOf 35 = 4 from by kernel_rfl] at hl
  obtain ⟨c0, r0, rfl, hl0⟩ := len_cons hl
  obtain ⟨c1, r1, rfl, hl1⟩ := len_cons hl0
  obtain ⟨c2, r2, rfl, hl2⟩ := len_cons hl1
  obtain ⟨c3, r3, rfl, hl3⟩ := len_cons hl2
  obtain rfl := List.eq_nil_of_length_eq_zero hl3
  replace g0 : DataW.trod enc Try.prog w 0 (fun _ => true) true m 3 ((([c0, c1, c2, c3] : List Value).drop 0).take (Try.prog.cellsOf 3)) = some y0 := g0
  rw [show Try.prog.cellsOf 3 = 1 from by kernel_rfl] at g0
  replace g0 : DataW.trod enc Try.prog w 0 (fun _ => true) true m 3 [c0] = some y0 := g0
  replace g1 : DataW.trod enc Try.prog w 0 (fun _ => true) true m 3 ((([c0, c1, c2, c3] : List Value).drop 1).take (Try.prog.cellsOf 3)) = some y1 := g1
  rw [show Try.prog.cellsOf 3 = 1 from by kernel_rfl] at g1
  replace g1 : DataW.trod enc Try.prog w 0 (fun _ => true) true m 3 [c1] = some y1 := g1
  replace g2 : DataW.trod enc Try.prog w 0 (fun _ => true) true m 9 ((([c0, c1, c2, c3] : List Value).drop 2).take (Try.prog.cellsOf 9)) = some y2 := g2
  rw [show Try.prog.cellsOf 9 = 1 from by kernel_rfl] at g2
  replace g2 : DataW.trod enc Try.prog w 0 (fun _ => true) true m 9 [c2] = some y2 := g2
  replace g3 : DataW.trod enc Try.prog w 0 (fun _ => true) true m 33 ((([c0, c1, c2, c3] : List Value).drop 3).take (Try.prog.cellsOf 33)) = some y3 := g3
  rw [show Try.prog.cellsOf 33 = 1 from by kernel_rfl] at g3
  replace g3 : DataW.trod enc Try.prog w 0 (fun _ => true) true m 33 [c3] = some y3 := g3
  obtain ⟨z0, K0, q0⟩ := (op_int (n := m) Try.underlying3) H enc w _ _ g0
  have e0 := K0
  replace e0 : [c0] = _ := e0
  simp only [List.cons.injEq, and_true] at e0
  obtain rfl := e0
  obtain ⟨z1, K1, q1⟩ := (op_int (n := m) Try.underlying3) H enc w _ _ g1
  have e1 := K1
  replace e1 : [c1] = _ := e1
  simp only [List.cons.injEq, and_true] at e1
  obtain rfl := e1
  obtain ⟨z2, K2, q2⟩ := (op_string (n := m) Try.underlying9) H enc w _ _ g2
  have e2 := K2
  replace e2 : [c2] = _ := e2
  simp only [List.cons.injEq, and_true] at e2
  obtain rfl := e2
  obtain ⟨z3, K3, q3⟩ := op_slice (n := m) Try.underlying33 (show Try.prog.cellsOf 35 = k35.sz from by kernel_rfl) (fun m_ hm_ => ih m_ (by omega)) H enc w _ _ g3
  obtain ⟨A3, C3, e3, l3, G3⟩ := K3
  replace e3 : [c3] = _ := e3
  simp only [List.cons.injEq, and_true] at e3
  obtain rfl := e3
  exact ⟨(⟨z0, z1, z2, z3⟩ : S35), k35_mk w (⟨z0, z1, z2, z3⟩ : S35) l3 G3, Ok35.mk q0 q1 q2 q3.1 q3.2⟩

inductive Ok38 : S38 → Prop
  | mk {x : S38} (h0 : (Lit.int .i64 x.f0).wf = true) (h1 : Ok35 x.f1) (h2 : x.f2.size ≤ maxLen) (h3 : x.f3.size ≤ maxLen) (h4 : x.f4.length ≤ maxLen) (h5 : ∀ y_ ∈ x.f4, Ok38 y_) : Ok38 x
theorem Ok38.all {x : S38} (h : Ok38 x) : ((Lit.int .i64 x.f0).wf = true) ∧ (Ok35 x.f1) ∧ (x.f2.size ≤ maxLen) ∧ (x.f3.size ≤ maxLen) ∧ (x.f4.length ≤ maxLen) ∧ (∀ y_ ∈ x.f4, Ok38 y_) := by
  cases h with
  | mk h0 h1 h2 h3 h4 h5 => exact ⟨h0, h1, h2, h3, h4, h5⟩
theorem open38 : ∀ n, OpensAt Try.prog n 38 k38 Ok38 := by
  intro n
  induction n using Nat.strongRecOn with
  | _ n ih =>
  intro H enc w cs x h
  obtain ⟨m, rfl, hl, hf⟩ := fields_of Try.underlying38 h
  obtain ⟨y0, g0⟩ := hf 0 _ rfl
  obtain ⟨y1, g1⟩ := hf 1 _ rfl
  obtain ⟨y2, g2⟩ := hf 2 _ rfl
  obtain ⟨y3, g3⟩ := hf 3 _ rfl
  obtain ⟨y4, g4⟩ := hf 4 _ rfl
  rw [show Try.prog.cellsOf 38 = 8 from by kernel_rfl] at hl
  obtain ⟨c0, r0, rfl, hl0⟩ := len_cons hl
  obtain ⟨c1, r1, rfl, hl1⟩ := len_cons hl0
  obtain ⟨c2, r2, rfl, hl2⟩ := len_cons hl1
  obtain ⟨c3, r3, rfl, hl3⟩ := len_cons hl2
  obtain ⟨c4, r4, rfl, hl4⟩ := len_cons hl3
  obtain ⟨c5, r5, rfl, hl5⟩ := len_cons hl4
  obtain ⟨c6, r6, rfl, hl6⟩ := len_cons hl5
  obtain ⟨c7, r7, rfl, hl7⟩ := len_cons hl6
  obtain rfl := List.eq_nil_of_length_eq_zero hl7
  replace g0 : DataW.trod enc Try.prog w 0 (fun _ => true) true m 3 ((([c0, c1, c2, c3, c4, c5, c6, c7] : List Value).drop 0).take (Try.prog.cellsOf 3)) = some y0 := g0
  rw [show Try.prog.cellsOf 3 = 1 from by kernel_rfl] at g0
  replace g0 : DataW.trod enc Try.prog w 0 (fun _ => true) true m 3 [c0] = some y0 := g0
  replace g1 : DataW.trod enc Try.prog w 0 (fun _ => true) true m 35 ((([c0, c1, c2, c3, c4, c5, c6, c7] : List Value).drop 1).take (Try.prog.cellsOf 35)) = some y1 := g1
  rw [show Try.prog.cellsOf 35 = 4 from by kernel_rfl] at g1
  replace g1 : DataW.trod enc Try.prog w 0 (fun _ => true) true m 35 [c1, c2, c3, c4] = some y1 := g1
  replace g2 : DataW.trod enc Try.prog w 0 (fun _ => true) true m 9 ((([c0, c1, c2, c3, c4, c5, c6, c7] : List Value).drop 5).take (Try.prog.cellsOf 9)) = some y2 := g2
  rw [show Try.prog.cellsOf 9 = 1 from by kernel_rfl] at g2
  replace g2 : DataW.trod enc Try.prog w 0 (fun _ => true) true m 9 [c5] = some y2 := g2
  replace g3 : DataW.trod enc Try.prog w 0 (fun _ => true) true m 9 ((([c0, c1, c2, c3, c4, c5, c6, c7] : List Value).drop 6).take (Try.prog.cellsOf 9)) = some y3 := g3
  rw [show Try.prog.cellsOf 9 = 1 from by kernel_rfl] at g3
  replace g3 : DataW.trod enc Try.prog w 0 (fun _ => true) true m 9 [c6] = some y3 := g3
  replace g4 : DataW.trod enc Try.prog w 0 (fun _ => true) true m 36 ((([c0, c1, c2, c3, c4, c5, c6, c7] : List Value).drop 7).take (Try.prog.cellsOf 36)) = some y4 := g4
  rw [show Try.prog.cellsOf 36 = 1 from by kernel_rfl] at g4
  replace g4 : DataW.trod enc Try.prog w 0 (fun _ => true) true m 36 [c7] = some y4 := g4
  obtain ⟨z0, K0, q0⟩ := (op_int (n := m) Try.underlying3) H enc w _ _ g0
  have e0 := K0
  replace e0 : [c0] = _ := e0
  simp only [List.cons.injEq, and_true] at e0
  obtain rfl := e0
  obtain ⟨z1, K1, q1⟩ := open35 m H enc w _ _ g1
  obtain ⟨A1_3, C1_3, e1, l4, G4⟩ := k35_open K1
  replace e1 : [c1, c2, c3, c4] = _ := e1
  simp only [List.cons.injEq, and_true] at e1
  obtain ⟨rfl, rfl, rfl, rfl⟩ := e1
  obtain ⟨z2, K2, q2⟩ := (op_string (n := m) Try.underlying9) H enc w _ _ g2
  have e2 := K2
  replace e2 : [c5] = _ := e2
  simp only [List.cons.injEq, and_true] at e2
  obtain rfl := e2
  obtain ⟨z3, K3, q3⟩ := (op_string (n := m) Try.underlying9) H enc w _ _ g3
  have e3 := K3
  replace e3 : [c6] = _ := e3
  simp only [List.cons.injEq, and_true] at e3
  obtain rfl := e3
  obtain ⟨z4, K4, q4⟩ := op_slice (n := m) Try.underlying36 (show Try.prog.cellsOf 38 = k38.sz from by kernel_rfl) (fun m_ hm_ => ih m_ (by omega)) H enc w _ _ g4
  obtain ⟨A4, C4, e4, l7, G7⟩ := K4
  replace e4 : [c7] = _ := e4
  simp only [List.cons.injEq, and_true] at e4
  obtain rfl := e4
  exact ⟨(⟨z0, z1, z2, z3, z4⟩ : S38), k38_mk w (⟨z0, z1, z2, z3, z4⟩ : S38) l4 G4 l7 G7, Ok38.mk q0 q1 q2 q3 q4.1 q4.2⟩

end Go.Proofs.Ytnecmjmimdojcaa.G
