/- Copies of what came in. -/
import Derived.Test.YtehdfbhfbidadaaCto
namespace Go.Proofs.Ytehdfbhfbidadaa.V
open Go
set_option linter.unusedVariables false
set_option linter.unusedSimpArgs false
set_option maxHeartbeats 2000000
theorem toValueS_of (l : List Vl) (hl : l.length ≤ 2 ^ 20) (h : ∀ v ∈ l, Rv Try.prog 16 [.agg (sV.I v)] (.agg (sV.O v))) : Rv Try.prog 58 [.imm (l.map sV.I)] (.own 4 (l.map sV.O)) :=
  via_laws_toValueS (by simp) (toS_gen sV (by rfl) (by rfl) (by omega) l hl h)
theorem toValue_c (v : Vl) : v.cnt ≤ 2 ^ 20 → Rv Try.prog 16 [.agg (sV.I v)] (.agg (sV.O v)) := by
  refine Vl.ind (p := fun v => v.cnt ≤ 2 ^ 20 → Rv Try.prog 16 [.agg (sV.I v)] (.agg (sV.O v))) ?_ v
  intro k n s l ih hc
  rw [Vl.cnt_mk] at hc
  unfold cl at hc
  refine via_laws_toValue (by simp) ?_
  simp [pc_laws_toValue]
  refine callK_val (by simp) (toValueS_of l (by omega) (fun v hv => ih v hv (by have := sums_mem (c := Vl.cnt) hv; omega))) (by simp [T.noImm]) ?_
  simp
  exact fin_own (by simp; rfl) (by simp) (by simp) (by simp)
theorem toValueS_c (l : List Vl) (hc : cl Vl.cnt l ≤ 2 ^ 20) : Rv Try.prog 58 [.imm (l.map sV.I)] (.own 4 (l.map sV.O)) := by
  unfold cl at hc
  exact toValueS_of l (by omega) (fun v hv => toValue_c v (by have := sums_mem (c := Vl.cnt) hv; omega))
end Go.Proofs.Ytehdfbhfbidadaa.V
