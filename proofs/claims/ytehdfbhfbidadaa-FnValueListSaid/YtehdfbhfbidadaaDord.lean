/- The draw of two values. -/
import Derived.Test.YtehdfbhfbidadaaG3
import Derived.Test.YtehdfbhfbidadaaG2
import Derived.Test.YtehdfbhfbidadaaVpo
namespace Go.Proofs.Ytehdfbhfbidadaa.V
open Go
set_option linter.unusedVariables false
set_option linter.unusedSimpArgs false
set_option maxHeartbeats 8000000
set_option maxRecDepth 20000 in
theorem DrawValueSame_d (code : List UInt8) : ∃ v w : Vl, v.fit ∧ v.cnt ≤ 2048 ∧ w.fit ∧ w.cnt ≤ 2048 ∧ Ri Try.prog 55 [.imm (u8T code)] (.tup [.agg (sV.I v), .agg (sV.I w)]) := by
  obtain ⟨v, p1, _, _, v1, v2, h⟩ := anyValue_d (code.take 2000) (take_le _) 0 (by omega)
  obtain ⟨a, p2, _, _, k2, h2⟩ := pick_d (code.take 2000) (take_le _) p1 (by omega) 3 (by omega)
  by_cases c : a = 0
  · have hc := l1Copy_c v (by omega)
    refine ⟨v, v, v1, v2, v1, v2, .tup [.agg (sV.O v), .agg (sV.O v)], ?_, by simp [sV.toO]⟩
    obtain ⟨k, n, s, l⟩ := v
    refine via_spec_DrawValueSame (by simp) ?_
    simp [pc_spec_DrawValueSame]
    refine hookH_open rfl rfl ?_
    simp
    refine hookH_rd h rfl rfl (by simp) (by simp [T.im]) rfl ?_
    simp
    refine hookH_rd h2 rfl rfl (by simp) (by simp [T.im]) rfl ?_
    simp [c]
    repeat with_reducible refine need_mk (by first | decide +kernel | simp) ?_
    refine callK_val (by simp) hc (by simp [T.noImm]) ?_
    simp [c]
    repeat with_reducible refine need_mk (by first | decide +kernel | simp) ?_
    exact fin_own (by simp; rfl) (by simp) (by simp) (by simp)
  · obtain ⟨w, p3, _, _, w1, w2, h3⟩ := anyValue_d (code.take 2000) (take_le _) p2 (by omega)
    refine ⟨v, w, v1, v2, w1, w2, .tup [.agg (sV.O v), .agg (sV.O w)], ?_, by simp [sV.toO]⟩
    obtain ⟨k, n, s, l⟩ := v
    obtain ⟨k', n', s', l'⟩ := w
    refine via_spec_DrawValueSame (by simp) ?_
    simp [pc_spec_DrawValueSame]
    refine hookH_open rfl rfl ?_
    simp
    refine hookH_rd h rfl rfl (by simp) (by simp [T.im]) rfl ?_
    simp
    refine hookH_rd h2 rfl rfl (by simp) (by simp [T.im]) rfl ?_
    simp [c]
    repeat with_reducible refine need_mk (by first | decide +kernel | simp) ?_
    refine hookH_rd h3 rfl rfl (by simp) (by simp [T.im]) rfl ?_
    simp [c]
    repeat with_reducible refine need_mk (by first | decide +kernel | simp) ?_
    exact fin_own (by simp; rfl) (by simp) (by simp) (by simp)
theorem DrawValueOrder_d (code : List UInt8) : ∃ v w : Vl, v.fit ∧ v.cnt ≤ 2048 ∧ w.fit ∧ w.cnt ≤ 2048 ∧ Ri Try.prog 23 [.imm (u8T code)] (.tup [.agg (sV.I v), .agg (sV.I w)]) := by
  obtain ⟨v, w, v1, v2, w1, w2, h⟩ := DrawValueSame_d code
  refine ⟨v, w, v1, v2, w1, w2, .tup [.agg (sV.I v), .agg (sV.I w)], ?_, by obtain ⟨k, n, s, l⟩ := v; obtain ⟨k', n', s', l'⟩ := w; simp⟩
  obtain ⟨k, n, s, l⟩ := v
  obtain ⟨k', n', s', l'⟩ := w
  refine via_spec_DrawValueOrder (by simp) ?_
  simp [pc_spec_DrawValueOrder]
  refine callK_ri (by simp) h ?_
  simp
  exact fin_val (by simp; rfl) (by simp [rf, rfs]) (by simp)
end Go.Proofs.Ytehdfbhfbidadaa.V
