/- Within bounds, as the reference asks it. -/
import Derived.Test.YtcchmhmbjhgfdaaPBase
import Derived.Test.YtcchmhmbjhgfdaaGx12
namespace Go.Proofs.Ytcchmhmbjhgfdaa.Pur
open Go.RowKit Go.Proofs.Ytcchmhmbjhgfdaa.G Go.Proofs.YtcchmhmbjhgfdaaW.PrintWords Go.Proofs.YtcchmhmbjhgfdaaW.PrintLast
set_option linter.unusedVariables false

theorem l1In_eq (n a b : Int) : spec_l1In.f n a b = some (decide (a ≤ n) && decide (n ≤ b)) := by
  unfold spec_l1In.f
  by_cases h1 : a ≤ n <;> simp [h1]
end Go.Proofs.Ytcchmhmbjhgfdaa.Pur
