/- The law FnExactValueEqual holds of trees: printed by a program of this claim's writer (wip/gen/exlaw.py). -/
import Derived.Test.YtehdfbhfbidadaaCequ
import Derived.Test.YtehdfbhfbidadaaCto2
import Derived.Test.YtehdfbhfbidadaaCmk4
import Derived.Test.YtehdfbhfbidadaaVfFnExactValueEqual
namespace Go.Proofs.Ytehdfbhfbidadaa.V
open Go
set_option linter.unusedVariables false
set_option linter.unusedSimpArgs false
set_option maxHeartbeats 32000000
theorem FnExactValueEqual_t (a : Vl) (ha : a.fit) (b : Vl) (hb : b.fit) : Rv Try.prog 3 [.agg (sV.I a), .agg (sV.I b)] (.b true) := by
  have sz0 := szValue_c a ha 1048576 (by omega) (by omega)
  by_cases hc0 : (1048576 : Int) - (a.cnt : Nat) < 0
  · rw [left_neg hc0] at sz0
    obtain ⟨k_a, n_a, s_a, vl_a⟩ := a
    obtain ⟨k_b, n_b, s_b, vl_b⟩ := b
    refine via_laws_FnExactValueEqual (by simp) ?_
    simp [pc_laws_FnExactValueEqual]
    refine callK_val (by simp) sz0 rfl ?_
    simp
    exact fin_val rfl (by simp) (by simp)
  rw [left_pos hc0] at sz0
  have sz1 := szValue_c b hb (1048576 - (a.cnt : Nat)) (by omega) (by omega)
  by_cases hc1 : (1048576 : Int) - (a.cnt : Nat) - (b.cnt : Nat) < 0
  · rw [left_neg hc1] at sz1
    obtain ⟨k_a, n_a, s_a, vl_a⟩ := a
    obtain ⟨k_b, n_b, s_b, vl_b⟩ := b
    refine via_laws_FnExactValueEqual (by simp) ?_
    simp [pc_laws_FnExactValueEqual]
    refine callK_val (by simp) sz0 rfl ?_
    simp [hc0]
    refine callK_val (by simp) sz1 rfl ?_
    simp [hc0]
    exact fin_val rfl (by simp) (by simp)
  rw [left_pos hc1] at sz1
  have hca : a.cnt ≤ 2 ^ 20 := by omega
  have toa := toValue_c a (by omega)
  have hcb : b.cnt ≤ 2 ^ 20 := by omega
  have tob := toValue_c b (by omega)
  obtain ⟨r0, hr0⟩ : ∃ r, r = eqR a b ha hb := ⟨_, rfl⟩
  have hrc0 : r0.cnt ≤ 2 ^ 22 := by
    rw [hr0]; have := eqR_cnt a b ha hb; omega
  have sp := eqR_spec a b ha hb
  have im := eqR_impl a b ha hb
  rw [← hr0] at sp im
  have eqr0 := eqValue_c r0 (by omega)
  have eqa := eqValue_c a (by omega)
  have eqb := eqValue_c b (by omega)
  have mka := markValue_c a 1 (by omega) (by omega)
  have faa := mkVl_far a 1
  have mla1 : (mkL mkV 1 a.l).1.length = a.l.length := mkL_len (m := mkV) a.l 1
  obtain ⟨q0, hq0⟩ : ∃ q, q = (mkL mkV 1 a.l).2 := ⟨_, rfl⟩
  rw [← hq0] at mka faa
  have negq0 : ¬ q0 < 0 := by omega
  have mkb := markValue_c b q0 (by omega) (by omega)
  have fab := mkVl_far b q0
  have mlb1 : (mkL mkV q0 b.l).1.length = b.l.length := mkL_len (m := mkV) b.l q0
  obtain ⟨q1, hq1⟩ : ∃ q, q = (mkL mkV q0 b.l).2 := ⟨_, rfl⟩
  rw [← hq1] at mkb fab
  have negq1 : ¬ q1 < 0 := by omega
  have mkr0 := markValue_c r0 1 (by omega) (by omega)
  have hdr0 := heldValue_c r0 (.mk r0.k r0.n r0.s (mkL mkV 1 r0.l).1) 1 (by omega) (by omega) rfl
  have far0 := mkVl_far r0 1
  have mlr01 : (mkL mkV 1 r0.l).1.length = r0.l.length := mkL_len (m := mkV) r0.l 1
  obtain ⟨p0, hp0⟩ : ∃ q, q = (mkL mkV 1 r0.l).2 := ⟨_, rfl⟩
  rw [← hp0] at mkr0 far0 hdr0
  have negp0 : ¬ p0 < 0 := by omega
  clear hq0
  clear hq1
  clear hp0
  generalize hg0 : (mkL mkV 1 a.l).1 = gm0 at *
  generalize hg1 : (mkL mkV q0 b.l).1 = gm1 at *
  generalize hg2 : (mkL mkV 1 r0.l).1 = gm2 at *
  clear hr0
  obtain ⟨k_a, n_a, s_a, vl_a⟩ := a
  obtain ⟨k_b, n_b, s_b, vl_b⟩ := b
  obtain ⟨k_r0, n_r0, s_r0, vl_r0⟩ := r0
  try simp only [Vl.k, Vl.n, Vl.s, Vl.l] at mla1 mlb1 mlr01 mka mkb mkr0 hdr0
  refine via_laws_FnExactValueEqual (by simp) ?_
  simp [pc_laws_FnExactValueEqual]
  refine callK_val (by simp) sz0 (by simp [T.noImm]) ?_
  simp [hc0, hc1, negq0, negq1, negp0]
  refine callK_val (by simp) sz1 (by simp [T.noImm]) ?_
  simp [hc0, hc1, negq0, negq1, negp0]
  repeat with_reducible refine need_mk (by decide +kernel) ?_
  refine callK_val (by simp) toa (by simp [T.noImm]) ?_
  simp [hc0, hc1, negq0, negq1, negp0]
  repeat with_reducible refine need_mk (by decide +kernel) ?_
  refine callK_val (by simp) tob (by simp [T.noImm]) ?_
  simp [hc0, hc1, negq0, negq1, negp0]
  repeat with_reducible refine need_mk (by decide +kernel) ?_
  refine callK_val (by simp) sp (by simp [T.noImm]) ?_
  simp [hc0, hc1, negq0, negq1, negp0]
  repeat with_reducible refine need_mk (by decide +kernel) ?_
  refine callK_val (by simp) toa (by simp [T.noImm]) ?_
  simp [hc0, hc1, negq0, negq1, negp0]
  repeat with_reducible refine need_mk (by decide +kernel) ?_
  refine callK_val (by simp) tob (by simp [T.noImm]) ?_
  simp [hc0, hc1, negq0, negq1, negp0]
  repeat with_reducible refine need_mk (by decide +kernel) ?_
  refine callK_val (by simp) im (by simp [T.noImm]) ?_
  simp [hc0, hc1, negq0, negq1, negp0]
  repeat with_reducible refine need_mk (by decide +kernel) ?_
  refine callK_val (by simp) eqr0 (by simp [T.noImm]) ?_
  simp [hc0, hc1, negq0, negq1, negp0]
  repeat with_reducible refine need_mk (by decide +kernel) ?_
  refine callK_val (by simp) toa (by simp [T.noImm]) ?_
  simp [hc0, hc1, negq0, negq1, negp0]
  repeat with_reducible refine need_mk (by decide +kernel) ?_
  refine callK_val (by simp) eqa (by simp [T.noImm]) ?_
  simp [hc0, hc1, negq0, negq1, negp0]
  repeat with_reducible refine need_mk (by decide +kernel) ?_
  refine callK_val (by simp) tob (by simp [T.noImm]) ?_
  simp [hc0, hc1, negq0, negq1, negp0]
  repeat with_reducible refine need_mk (by decide +kernel) ?_
  refine callK_val (by simp) eqb (by simp [T.noImm]) ?_
  simp [hc0, hc1, negq0, negq1, negp0]
  repeat with_reducible refine need_mk (by decide +kernel) ?_
  refine callK_mut (by simp) mka (by simp [mla1]; rfl) (by simp) (by simp) rfl (by simp [T.noImm]) ?_
  simp [hc0, hc1, negq0, negq1, negp0]
  repeat with_reducible refine need_mk (by decide +kernel) ?_
  refine callK_mut (by simp) mkb (by simp [mlb1]; rfl) (by simp) (by simp) rfl (by simp [T.noImm]) ?_
  simp [hc0, hc1, negq0, negq1, negp0]
  repeat with_reducible refine need_mk (by decide +kernel) ?_
  refine callK_val (by simp) eqr0 (by simp [T.noImm]) ?_
  simp [hc0, hc1, negq0, negq1, negp0]
  repeat with_reducible refine need_mk (by decide +kernel) ?_
  refine callK_mut (by simp) mkr0 (by simp [mlr01]; rfl) (by simp) (by simp) rfl (by simp [T.noImm]) ?_
  simp [hc0, hc1, negq0, negq1, negp0]
  repeat with_reducible refine need_mk (by decide +kernel) ?_
  refine callK_val (by simp [mlr01, take_map_eq mlr01]) hdr0 (by simp [T.noImm]) ?_
  simp [hc0, hc1, negq0, negq1, negp0]
  repeat with_reducible refine need_mk (by decide +kernel) ?_
  refine callK_val (by simp) toa (by simp [T.noImm]) ?_
  simp [hc0, hc1, negq0, negq1, negp0]
  repeat with_reducible refine need_mk (by decide +kernel) ?_
  refine callK_val (by simp) tob (by simp [T.noImm]) ?_
  simp [hc0, hc1, negq0, negq1, negp0]
  repeat with_reducible refine need_mk (by decide +kernel) ?_
  refine callK_val (by simp) im (by simp [T.noImm]) ?_
  simp [hc0, hc1, negq0, negq1, negp0]
  repeat with_reducible refine need_mk (by decide +kernel) ?_
  refine callK_val (by simp) eqr0 (by simp [T.noImm]) ?_
  simp [hc0, hc1, negq0, negq1, negp0]
  repeat with_reducible refine need_mk (by decide +kernel) ?_
  refine callK_val (by simp [mlr01, take_map_eq mlr01]) hdr0 (by simp [T.noImm]) ?_
  simp [hc0, hc1, negq0, negq1, negp0]
  repeat refine need_mk (by decide +kernel) ?_
  exact fin_val rfl (by simp) (by simp)
end Go.Proofs.Ytehdfbhfbidadaa.V
