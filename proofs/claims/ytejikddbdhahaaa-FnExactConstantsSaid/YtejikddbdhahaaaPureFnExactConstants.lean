/- FnExactConstants: the program's constants are the document's. No condition. -/
import Derived.Test.YtejikddbdhahaaaGx3
namespace Go.Proofs.Ytejikddbdhahaaa.Pure
open Go.RowKit Go.Proofs.Ytejikddbdhahaaa.G

theorem FnExactConstants : laws_FnExactConstants.Pure := by
  unfold laws_FnExactConstants.Pure laws_FnExactConstants.f
  rfl
end Go.Proofs.Ytejikddbdhahaaa.Pure
