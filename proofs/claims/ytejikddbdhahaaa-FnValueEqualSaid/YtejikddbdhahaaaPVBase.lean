/- Values: sizes, copies, equality, and what ValueOk says, in the program and in the reference. -/
import Derived.Test.YtejikddbdhahaaaPBase
import Derived.Test.YtejikddbdhahaaaGx2
namespace Go.Proofs.Ytejikddbdhahaaa.Pur
open Go.RowKit Go.Proofs.Ytejikddbdhahaaa.G Go.Proofs.YtejikddbdhahaaaW.PrintWords Go.Proofs.YtejikddbdhahaaaW.PrintLast
set_option linter.unusedVariables false
set_option linter.unusedSimpArgs false

abbrev IV := S31
theorem rd_iv {l : List IV} {i : Nat} (h : i < l.length) : rd_T31 l (i : Int) = l[i] := getD_nat h
/-- Small: texts and lists of at most 2^20, all the way down. -/
inductive Sm : IV → Prop
  | mk {x : IV} (h2 : x.f2.size ≤ 1048576) (h3 : x.f3.length ≤ 1048576) (h4 : ∀ y ∈ x.f3, Sm y) : Sm x
theorem Sm.all {x : IV} (h : Sm x) : x.f2.size ≤ 1048576 ∧ x.f3.length ≤ 1048576 ∧ ∀ y ∈ x.f3, Sm y := by
  cases h with
  | mk h2 h3 h4 => exact ⟨h2, h3, h4⟩
def Sms (l : List IV) : Prop := l.length ≤ 1048576 ∧ ∀ x ∈ l, Sm x
theorem iv_eta (x : IV) : x = ⟨x.f0, x.f1, x.f2, x.f3⟩ := by cases x; rfl
end Go.Proofs.Ytejikddbdhahaaa.Pur
