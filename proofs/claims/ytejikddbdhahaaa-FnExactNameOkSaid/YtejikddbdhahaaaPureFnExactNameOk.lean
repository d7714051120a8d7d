/- FnExactNameOk: the program's NameOk returns what the reference's returns, for all arguments. No condition. -/
import Derived.Test.YtejikddbdhahaaaGx4
import Derived.Test.YtejikddbdhahaaaPName
namespace Go.Proofs.Ytejikddbdhahaaa.Pure
open Go.RowKit Go.Proofs.Ytejikddbdhahaaa.G Go.Proofs.Ytejikddbdhahaaa.Pur Go.Proofs.YtejikddbdhahaaaW.PrintWords Go.Proofs.YtejikddbdhahaaaW.PrintLast

theorem FnExactNameOk : laws_FnExactNameOk.Pure := by
  intro s hs
  refine Ev.rounds (r := true) ?_
  unfold laws_FnExactNameOk.f
  refine Ev.ite (fun _ => Ev.some _) (fun _ => ?_)
  have hm : s.size ≤ maxLen := by unfold maxLen; omega
  refine Ev.bind (specNameOk_ev s hm) (Ev.bind (nameOk_ev s hm) ?_)
  simp only [bne_self_eq_false, Bool.false_eq_true, if_false]
  exact Ev.some _
end Go.Proofs.Ytejikddbdhahaaa.Pure
