/- The law FnExactMsgOk holds of trees: printed by a program of this claim's writer (wip/gen/exlaw.py). -/
import Derived.Test.YtehdfbhfbidadaaCmsg
import Derived.Test.YtehdfbhfbidadaaVfFnExactMsgOk
namespace Go.Proofs.Ytehdfbhfbidadaa.V
open Go
set_option linter.unusedVariables false
set_option linter.unusedSimpArgs false
set_option maxHeartbeats 32000000
theorem FnExactMsgOk_t (m : Ms) (hm : m.fit) : Rv Try.prog 6 [.agg (sM.I m)] (.b true) := by
  have sz0 := szMsg_c m hm 1048576 (by omega) (by omega)
  by_cases hc0 : (1048576 : Int) - (m.cnt : Nat) < 0
  · rw [left_neg hc0] at sz0
    obtain ⟨k_m, t_m, g_m, n_m⟩ := m
    refine via_laws_FnExactMsgOk (by simp) ?_
    simp [pc_laws_FnExactMsgOk]
    refine callK_val (by simp) sz0 rfl ?_
    simp
    exact fin_val rfl (by simp) (by simp)
  rw [left_pos hc0] at sz0
  have hcm : m.cnt ≤ 2 ^ 20 := by omega
  have tom := toMsg_c m (by omega)
  obtain ⟨r0, hr0⟩ : ∃ r, r = msgOk m := ⟨_, rfl⟩
  have sp := specMsgOk_c m hm
  have im := MsgOk_c m hm
  rw [← hr0] at sp im
  have eqm := eqMsg_c m (by omega)
  clear hr0
  obtain ⟨k_m, t_m, g_m, n_m⟩ := m
  refine via_laws_FnExactMsgOk (by simp) ?_
  simp [pc_laws_FnExactMsgOk]
  refine callK_val (by simp) sz0 (by simp [T.noImm]) ?_
  simp [hc0]
  repeat with_reducible refine need_mk (by decide +kernel) ?_
  refine callK_val (by simp) tom (by simp [T.noImm]) ?_
  simp [hc0]
  repeat with_reducible refine need_mk (by decide +kernel) ?_
  refine callK_val (by simp) sp (by simp [T.noImm]) ?_
  simp [hc0]
  repeat with_reducible refine need_mk (by decide +kernel) ?_
  refine callK_val (by simp) tom (by simp [T.noImm]) ?_
  simp [hc0]
  repeat with_reducible refine need_mk (by decide +kernel) ?_
  refine callK_val (by simp) im (by simp [T.noImm]) ?_
  simp [hc0]
  repeat with_reducible refine need_mk (by decide +kernel) ?_
  refine callK_val (by simp) tom (by simp [T.noImm]) ?_
  simp [hc0]
  repeat with_reducible refine need_mk (by decide +kernel) ?_
  refine callK_val (by simp) eqm (by simp [T.noImm]) ?_
  simp [hc0]
  repeat refine need_mk (by decide +kernel) ?_
  exact fin_val rfl (by simp) (by simp)
end Go.Proofs.Ytehdfbhfbidadaa.V
