/- FnExactGraphOk: the program's GraphOk returns what the reference's returns, for all arguments. No condition. -/
import Derived.Test.YtcchmhmbjhgfdaaGx22
import Derived.Test.YtcchmhmbjhgfdaaPGBase
import Derived.Test.YtcchmhmbjhgfdaaPGraph
namespace Go.Proofs.Ytcchmhmbjhgfdaa.Pure
open Go.RowKit Go.Proofs.Ytcchmhmbjhgfdaa.G Go.Proofs.Ytcchmhmbjhgfdaa.Pur Go.Proofs.YtcchmhmbjhgfdaaW.PrintWords Go.Proofs.YtcchmhmbjhgfdaaW.PrintLast

theorem FnExactGraphOk : laws_FnExactGraphOk.Pure := by
  intro ns es a b ok
  refine Ev.rounds (r := true) ?_
  unfold laws_FnExactGraphOk.f
  obtain ⟨r, hr, _, hp⟩ := szGraph_ev ok (left := 1048576) (by omega) (by omega)
  refine Ev.bind hr (Ev.ite (fun _ => Ev.some _) (fun h => ?_))
  obtain ⟨hn, he⟩ := hp (by omega)
  have te := toGraph_ev (a := a) (b := b) hn he
  have sn : Few SmN (ns.map cN) := hn.map fun _ => SmN.of
  have se : Few SmG (es.map cG) := he.map fun _ => SmG.of
  obtain ⟨q, h1, h2⟩ := Dec.same (specGraphOk_dec a b sn se) (implGraphOk_dec a b sn se)
  refine Ev.bind te (Ev.bind h1 (Ev.bind te (Ev.bind h2 ?_)))
  simp only [bne_self_eq_false, Bool.false_eq_true, if_false]
  refine Ev.bind te (Ev.bind (eqGraph_refl sn se) ?_)
  simp only [if_true]
  exact Ev.some _
end Go.Proofs.Ytcchmhmbjhgfdaa.Pure
