/- What memory can hold. -/
import Derived.Test.YtehdfbhfbidadaaEva
import Derived.Test.YtehdfbhfbidadaaVpc
namespace Go.Proofs.Ytehdfbhfbidadaa.V
open Go
set_option linter.unusedVariables false
set_option linter.unusedSimpArgs false
set_option maxHeartbeats 2000000
/-! ### what memory can hold -/
abbrev i64 (x : Int) : Prop := -9223372036854775808 ≤ x ∧ x < 9223372036854775808
abbrev ln {α : Type} (l : List α) : Prop := l.length ≤ 9223372036854775807
mutual
def Vl.fit : Vl → Prop
  | .mk k n s l => i64 k ∧ i64 n ∧ ln s ∧ ln l ∧ Vl.fits l
def Vl.fits : List Vl → Prop
  | [] => True
  | v :: l => v.fit ∧ Vl.fits l
end
theorem Vl.fits_iff : ∀ {l : List Vl}, Vl.fits l ↔ ∀ v ∈ l, v.fit
  | [] => by simp [Vl.fits]
  | v :: l => by simp [Vl.fits, Vl.fits_iff (l := l)]
theorem Vl.fit_mk {k n : Int} {s : Tx} {l : List Vl} : (Vl.mk k n s l).fit ↔ i64 k ∧ i64 n ∧ ln s ∧ ln l ∧ ∀ v ∈ l, v.fit := by
  rw [Vl.fit, Vl.fits_iff]
def Pr.fit (p : Pr) : Prop := ln p.name ∧ p.val.fit
def Nd.fit (a : Nd) : Prop := i64 a.id ∧ ln a.labels ∧ (∀ x ∈ a.labels, ln x) ∧ ln a.props ∧ ∀ p ∈ a.props, p.fit
def Eg.fit (a : Eg) : Prop := i64 a.id ∧ ln a.kind ∧ i64 a.frm ∧ i64 a.to ∧ ln a.props ∧ ∀ p ∈ a.props, p.fit
def Gr.fit (a : Gr) : Prop := ln a.nodes ∧ (∀ x ∈ a.nodes, x.fit) ∧ ln a.edges ∧ (∀ x ∈ a.edges, x.fit) ∧ i64 a.nn ∧ i64 a.ne
theorem wsub {x : Int} {n : Nat} (h0 : 0 ≤ x) (h1 : x < 2 ^ 62) (h : n ≤ 9223372036854775807) : IntKind.i64.wrap (x - n) = x - n := wrap64 (by omega) (by omega)
theorem left_lt {x : Int} {n : Nat} (h1 : x < 2 ^ 62) : left x n < 2 ^ 62 := by unfold left; split <;> omega
@[simp] theorem wrap_one : IntKind.i64.wrap 1 = 1 := by decide
@[simp] theorem wrap_zero : IntKind.i64.wrap 0 = 0 := by decide
end Go.Proofs.Ytehdfbhfbidadaa.V
