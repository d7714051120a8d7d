/- FnExactValueOk: the program's ValueOk returns what the reference's returns, for all arguments. No condition. -/
import Derived.Test.YtejikddbdhahaaaGx18
import Derived.Test.YtejikddbdhahaaaPValOk
namespace Go.Proofs.Ytejikddbdhahaaa.Pure
open Go.RowKit Go.Proofs.Ytejikddbdhahaaa.G Go.Proofs.Ytejikddbdhahaaa.Pur Go.Proofs.YtejikddbdhahaaaW.PrintWords Go.Proofs.YtejikddbdhahaaaW.PrintLast

theorem FnExactValueOk : laws_FnExactValueOk.Pure := by
  intro a b c l ok
  refine Ev.rounds (r := true) ?_
  unfold laws_FnExactValueOk.f
  obtain ⟨r, hr, _, hp⟩ := szValue_ev ok 1048576 (by omega) (by omega)
  refine Ev.bind hr (Ev.ite (fun _ => Ev.some _) (fun h => ?_))
  have sm := hp (by omega)
  have sm' := Sm.of sm
  refine Ev.bind (toValue_ev sm) (Ev.bind (specValueOk_ev _ sm') (Ev.bind (toValue_ev sm) (Ev.bind (implValueOk_ev _ sm') ?_)))
  simp only [bne_self_eq_false, Bool.false_eq_true, if_false]
  refine Ev.bind (toValue_ev sm) (Ev.bind (eqValue_refl sm') ?_)
  simp only [if_true]
  exact Ev.some _
end Go.Proofs.Ytejikddbdhahaaa.Pure
