/- The law FnExactValueOrder holds of trees: printed by a program of this claim's writer (wip/gen/exlaw.py). -/
import Derived.Test.YtehdfbhfbidadaaCord3
import Derived.Test.YtehdfbhfbidadaaCto2
import Derived.Test.YtehdfbhfbidadaaVfFnExactValueOrder
namespace Go.Proofs.Ytehdfbhfbidadaa.V
open Go
set_option linter.unusedVariables false
set_option linter.unusedSimpArgs false
set_option maxHeartbeats 32000000
theorem FnExactValueOrder_t (a : Vl) (ha : a.fit) (b : Vl) (hb : b.fit) : Rv Try.prog 4 [.agg (sV.I a), .agg (sV.I b)] (.b true) := by
  have sz0 := szValue_c a ha 1048576 (by omega) (by omega)
  by_cases hc0 : (1048576 : Int) - (a.cnt : Nat) < 0
  · rw [left_neg hc0] at sz0
    obtain ⟨k_a, n_a, s_a, vl_a⟩ := a
    obtain ⟨k_b, n_b, s_b, vl_b⟩ := b
    refine via_laws_FnExactValueOrder (by simp) ?_
    simp [pc_laws_FnExactValueOrder]
    refine callK_val (by simp) sz0 rfl ?_
    simp
    exact fin_val rfl (by simp) (by simp)
  rw [left_pos hc0] at sz0
  have sz1 := szValue_c b hb (1048576 - (a.cnt : Nat)) (by omega) (by omega)
  by_cases hc1 : (1048576 : Int) - (a.cnt : Nat) - (b.cnt : Nat) < 0
  · rw [left_neg hc1] at sz1
    obtain ⟨k_a, n_a, s_a, vl_a⟩ := a
    obtain ⟨k_b, n_b, s_b, vl_b⟩ := b
    refine via_laws_FnExactValueOrder (by simp) ?_
    simp [pc_laws_FnExactValueOrder]
    refine callK_val (by simp) sz0 rfl ?_
    simp [hc0]
    refine callK_val (by simp) sz1 rfl ?_
    simp [hc0]
    exact fin_val rfl (by simp) (by simp)
  rw [left_pos hc1] at sz1
  have hca : a.cnt ≤ 2 ^ 20 := by omega
  have toa := toValue_c a (by omega)
  have hcb : b.cnt ≤ 2 ^ 20 := by omega
  have tob := toValue_c b (by omega)
  obtain ⟨r0, hr0⟩ : ∃ r, r = orderV a b := ⟨_, rfl⟩
  have sp := specValueOrder_c a b ha hb
  have im := ValueOrder_c a b ha hb
  rw [← hr0] at sp im
  have eqa := eqValue_c a (by omega)
  have eqb := eqValue_c b (by omega)
  clear hr0
  obtain ⟨k_a, n_a, s_a, vl_a⟩ := a
  obtain ⟨k_b, n_b, s_b, vl_b⟩ := b
  refine via_laws_FnExactValueOrder (by simp) ?_
  simp [pc_laws_FnExactValueOrder]
  refine callK_val (by simp) sz0 (by simp [T.noImm]) ?_
  simp [hc0, hc1]
  refine callK_val (by simp) sz1 (by simp [T.noImm]) ?_
  simp [hc0, hc1]
  repeat with_reducible refine need_mk (by decide +kernel) ?_
  refine callK_val (by simp) toa (by simp [T.noImm]) ?_
  simp [hc0, hc1]
  repeat with_reducible refine need_mk (by decide +kernel) ?_
  refine callK_val (by simp) tob (by simp [T.noImm]) ?_
  simp [hc0, hc1]
  repeat with_reducible refine need_mk (by decide +kernel) ?_
  refine callK_val (by simp) sp (by simp [T.noImm]) ?_
  simp [hc0, hc1]
  repeat with_reducible refine need_mk (by decide +kernel) ?_
  refine callK_val (by simp) toa (by simp [T.noImm]) ?_
  simp [hc0, hc1]
  repeat with_reducible refine need_mk (by decide +kernel) ?_
  refine callK_val (by simp) tob (by simp [T.noImm]) ?_
  simp [hc0, hc1]
  repeat with_reducible refine need_mk (by decide +kernel) ?_
  refine callK_val (by simp) im (by simp [T.noImm]) ?_
  simp [hc0, hc1]
  repeat with_reducible refine need_mk (by decide +kernel) ?_
  refine callK_val (by simp) toa (by simp [T.noImm]) ?_
  simp [hc0, hc1]
  repeat with_reducible refine need_mk (by decide +kernel) ?_
  refine callK_val (by simp) eqa (by simp [T.noImm]) ?_
  simp [hc0, hc1]
  repeat with_reducible refine need_mk (by decide +kernel) ?_
  refine callK_val (by simp) tob (by simp [T.noImm]) ?_
  simp [hc0, hc1]
  repeat with_reducible refine need_mk (by decide +kernel) ?_
  refine callK_val (by simp) eqb (by simp [T.noImm]) ?_
  simp [hc0, hc1]
  repeat refine need_mk (by decide +kernel) ?_
  exact fin_val rfl (by simp) (by simp)
end Go.Proofs.Ytehdfbhfbidadaa.V
