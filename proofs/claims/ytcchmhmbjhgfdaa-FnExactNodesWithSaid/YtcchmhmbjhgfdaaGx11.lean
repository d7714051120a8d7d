-- Printed by a program of this claim's writer (wip/gen), out of the translation. Lean checks it.
import Derived.Test.YtcchmhmbjhgfdaaGx0
import Derived.Test.YtcchmhmbjhgfdaaMkT
namespace Go.Proofs.Ytcchmhmbjhgfdaa.G
open Go.RowKit Go.Proofs.YtcchmhmbjhgfdaaW.PrintWords Go.Proofs.YtcchmhmbjhgfdaaW.PrintLast Go.Proofs.YtcchmhmbjhgfdaaW.PrintMore
attribute [local go_sem] max2_int min2_int max_two min_two max_three min_three max_four min_four Own.str_gtr Own.str_leq Own.str_geq Own.sto_fn   -- for this text's walks alone
open Own
set_option linter.unusedVariables false
set_option linter.unusedSimpArgs false

/-! ### laws_markGraph: function 23 -/
-- NEEDS MkT
def laws_markGraph.f (l0_0 : List S99) (l0_1 : List S104) (a0_2 : Int) (a0_3 : Int) (a1 : Int) : Option Int := if 0 < a1 then (if a1 + ((Mk.cntGr l0_0 l0_1 : Nat) : Int) ≤ 4611686018427387904 then some (a1 + ((Mk.cntGr l0_0 l0_1 : Nat) : Int)) else none) else none
theorem laws_markGraph.calls (A0_0 : Option Addr) (c0_0 : Nat) (l0_0 : List S99) (A0_1 : Option Addr) (c0_1 : Nat) (l0_1 : List S104) (a0_2 : Int) (a0_3 : Int) (a1 : Int) (r : Int) (w0 w : World) (hB : Below w0.heap.size w0 w) (h0 : ∃ ok, Kd.R k99 99 w w0.heap.size ok (.slice A0_0 l0_0.length c0_0) l0_0) (h1 : ∃ ok, Kd.R k104 104 w w0.heap.size ok (.slice A0_1 l0_1.length c0_1) l0_1) (h : laws_markGraph.f l0_0 l0_1 a0_2 a0_3 a1 = some r) :
    Calls Try.prog 23 #[.agg #[.slice A0_0 l0_0.length c0_0, .slice A0_1 l0_1.length c0_1, .int .i64 a0_2, .int .i64 a0_3], .int .i64 a1] w fun e w' => e = .returned (.int .i64 r) ∧ Mk.Over [99, 104, 140, 49, 9] w0 w w' := by
  unfold laws_markGraph.f at h
  by_cases g0 : 0 < a1
  rotate_left
  · rw [if_neg g0] at h; cases h
  rw [if_pos g0] at h
  by_cases g1 : a1 + ((Mk.cntGr l0_0 l0_1 : Nat) : Int) ≤ 4611686018427387904
  · rw [if_pos g1] at h
    obtain rfl := Option.some.inj h
    obtain ⟨_, h0⟩ := h0
    obtain ⟨_, h1⟩ := h1
    refine (Mk.markGraph_calls w0.heap.size _ l0_0 l0_1 a0_2 a0_3 _ _ a1 w (Mk.Over.fits (Es := [99, 104, 140, 49, 9]) (by decide) h0) (Mk.Over.fits (Es := [99, 104, 140, 49, 9]) (by decide) h1) g0 g1).mono ?_
    rintro e w' ⟨rfl, hs⟩
    exact ⟨rfl, hs.mono (fun k hk => hk.1)⟩
  rw [if_neg g1] at h; cases h

end Go.Proofs.Ytcchmhmbjhgfdaa.G
