/- FnExactNodesWith: the program's NodesWith returns what the reference's returns, for all arguments. No condition. -/
import Derived.Test.YtcchmhmbjhgfdaaGx23
import Derived.Test.YtcchmhmbjhgfdaaPCnt
import Derived.Test.YtcchmhmbjhgfdaaPWith
namespace Go.Proofs.Ytcchmhmbjhgfdaa.Pure
open Go.RowKit Go.Proofs.Ytcchmhmbjhgfdaa.G Go.Proofs.Ytcchmhmbjhgfdaa.Pur Go.Proofs.Ytcchmhmbjhgfdaa.Mk Go.Proofs.YtcchmhmbjhgfdaaW.PrintWords Go.Proofs.YtcchmhmbjhgfdaaW.PrintLast

theorem FnExactNodesWith : laws_FnExactNodesWith.Pure := by
  intro ns es a b s ok hs
  refine Ev.rounds (r := true) ?_
  unfold laws_FnExactNodesWith.f
  refine Ev.ite (fun _ => Ev.some _) (fun _ => ?_)
  obtain ⟨r, hr, _, hp⟩ := szGraph_ev ok (left := 1048576) (by omega) (by omega)
  refine Ev.bind hr (Ev.ite (fun _ => Ev.some _) (fun h => ?_))
  obtain ⟨hn, he⟩ := hp (by omega)
  have hc : cntGr (ns.map cN) (es.map cG) ≤ 4194304 := marks_fit ok hr (by omega)
  have te := toGraph_ev (a := a) (b := b) hn he
  have sn : Few SmN (ns.map cN) := hn.map fun _ => SmN.of
  have se : Few SmG (es.map cG) := he.map fun _ => SmG.of
  have hl := withG_len sn.1 (es.map cG) a b s
  refine Ev.bind te (Ev.bind (specWith_ev a b sn se s) (Ev.bind te (Ev.bind (implNodesWith_ev a b sn se s) (Ev.bind (eqIntS_refl hl) ?_))))
  simp only [if_true]
  refine Ev.bind te (Ev.bind (eqGraph_refl sn se) ?_)
  simp only [if_true]
  have hm : laws_markGraph.f (ns.map cN) (es.map cG) a b 1 = some (1 + ((cntGr (ns.map cN) (es.map cG) : Nat) : Int)) := by
    unfold laws_markGraph.f
    rw [if_pos (by decide), if_pos (by omega)]
  simp only [hm, Option.bind_some]
  rw [show (fun k => if 1 + ((cntGr (ns.map cN) (es.map cG) : Nat) : Int) < 0 then _ else _) = _ from funext fun k => if_neg (by omega)]
  refine Ev.bind (eqIntS_refl hl) ?_
  refine Ev.succ ?_
  simp only [laws_FnExactNodesWith.j0, Bool.not_true, Bool.false_eq_true, if_false]
  refine Ev.bind (markIntS_ev hl) (Ev.bind (heldIntS_ev hl) ?_)
  simp only [if_neg (show ¬ (((withG (ns.map cN) (es.map cG) a b s).length : Int) + 1 < 0) by omega), if_true]
  refine Ev.bind te (Ev.bind (implNodesWith_ev a b sn se s) (Ev.bind (eqIntS_refl hl) ?_))
  simp only [if_true]
  refine Ev.bind (heldIntS_ev hl) ?_
  simp only [if_neg (show ¬ (((withG (ns.map cN) (es.map cG) a b s).length : Int) + 1 < 0) by omega), if_true]
  exact Ev.some _
end Go.Proofs.Ytcchmhmbjhgfdaa.Pure
