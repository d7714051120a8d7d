/- FnExactExprOk: the program's ExprOk returns what the reference's returns, for all arguments. No condition. -/
import Derived.Test.YtnecmjmimdojcaaGx15
import Derived.Test.YtnecmjmimdojcaaPExpr
namespace Go.Proofs.Ytnecmjmimdojcaa.Pure
open Go.RowKit Go.Proofs.Ytnecmjmimdojcaa.G Go.Proofs.Ytnecmjmimdojcaa.Pur Go.Proofs.YtnecmjmimdojcaaW.PrintWords Go.Proofs.YtnecmjmimdojcaaW.PrintLast

theorem FnExactExprOk : laws_FnExactExprOk.Pure := by
  intro a b0 b1 b2 b3 c d l ok
  refine Ev.rounds (r := true) ?_
  unfold laws_FnExactExprOk.f
  obtain ⟨r, hr, _, hp⟩ := szExpr_ev ok 1048576 (by omega) (by omega)
  refine Ev.bind hr (Ev.ite (fun _ => Ev.some _) (fun h => ?_))
  have sm := hp (by omega)
  have te := toExpr_ev sm
  have smi := SmE.of sm
  refine Ev.bind te (Ev.bind (specExprOk_ev _ smi) (Ev.bind te (Ev.bind (implExprOk_ev _ smi) ?_)))
  simp only [bne_self_eq_false, Bool.false_eq_true, if_false]
  refine Ev.bind te (Ev.bind (eqExpr_refl smi) ?_)
  simp only [if_true]
  exact Ev.some _
end Go.Proofs.Ytnecmjmimdojcaa.Pure
