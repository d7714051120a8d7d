/- Within bounds, as the reference asks it. -/
import Derived.Test.YtejikddbdhahaaaPBase
import Derived.Test.YtejikddbdhahaaaGx1
namespace Go.Proofs.Ytejikddbdhahaaa.Pur
open Go.RowKit Go.Proofs.Ytejikddbdhahaaa.G Go.Proofs.YtejikddbdhahaaaW.PrintWords Go.Proofs.YtejikddbdhahaaaW.PrintLast
set_option linter.unusedVariables false

theorem l1In_eq (n a b : Int) : spec_l1In.f n a b = some (decide (a ≤ n) && decide (n ≤ b)) := by
  unfold spec_l1In.f
  by_cases h1 : a ≤ n <;> simp [h1]
end Go.Proofs.Ytejikddbdhahaaa.Pur
