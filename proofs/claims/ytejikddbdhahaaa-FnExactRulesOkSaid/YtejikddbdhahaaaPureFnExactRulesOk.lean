/- FnExactRulesOk: the program's RulesOk returns what the reference's returns, for all arguments. No condition. -/
import Derived.Test.YtejikddbdhahaaaGx11
import Derived.Test.YtejikddbdhahaaaPRule
namespace Go.Proofs.Ytejikddbdhahaaa.Pure
open Go.RowKit Go.Proofs.Ytejikddbdhahaaa.G Go.Proofs.Ytejikddbdhahaaa.Pur Go.Proofs.YtejikddbdhahaaaW.PrintWords Go.Proofs.YtejikddbdhahaaaW.PrintLast

theorem FnExactRulesOk : laws_FnExactRulesOk.Pure := by
  intro l ok
  refine Ev.rounds (r := true) ?_
  unfold laws_FnExactRulesOk.f
  obtain ⟨r, hr, _, hp⟩ := szRuleS_ev l ok.1 ok.2 1048576 (by omega) (by omega)
  refine Ev.bind hr (Ev.ite (fun _ => Ev.some _) (fun h => ?_))
  obtain ⟨hl, sm⟩ := hp (by omega)
  have hl' : (l.map cRule).length ≤ 1048576 := by simpa using hl
  have sm' : ∀ x ∈ l.map cRule, SmIRule x := by
    intro x hx
    obtain ⟨y, hy, rfl⟩ := List.mem_map.1 hx
    exact sm y hy
  refine Ev.bind (toRuleS_ev l hl) (Ev.bind (specRulesOk_ev _ hl' sm') (Ev.bind (toRuleS_ev l hl) (Ev.bind (implRulesOk_ev _ hl' sm') ?_)))
  simp only [bne_self_eq_false, Bool.false_eq_true, if_false]
  refine Ev.bind (toRuleS_ev l hl) (Ev.bind (eqRuleS_refl _ hl') ?_)
  simp only [if_true]
  exact Ev.some _
end Go.Proofs.Ytejikddbdhahaaa.Pure
