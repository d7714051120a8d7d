/- Marks of graphs, values, numbers. -/
import Derived.Test.YtehdfbhfbidadaaCmk2
namespace Go.Proofs.Ytehdfbhfbidadaa.V
open Go
set_option linter.unusedVariables false
set_option linter.unusedSimpArgs false
set_option maxHeartbeats 4000000
def mkG (k : Int) : Gr → Gr × Int
  | ⟨a, b, c, d⟩ => (⟨(mkL mkN k a).1, (mkL mkE (mkL mkN k a).2 b).1, c, d⟩, (mkL mkE (mkL mkN k a).2 b).2)
theorem markValue_c (v : Vl) (k : Int) (h0 : 0 ≤ k) (h : k + 8 * v.cnt ≤ 2 ^ 50) : Ret Try.prog 19 [.agg (sV.O v), .i .i64 k] (.i .i64 (mkL mkV k v.l).2) [.agg [.dead, .dead, .dead, .own 4 ((mkL mkV k v.l).1.map sV.O)], .dead] := by
  obtain ⟨a, b, s, l⟩ := v
  rw [Vl.cnt_mk] at h
  simp only [Vl.l]
  have hm1 := mkL_len (m := mkV) l k
  refine via_laws_markValue (by simp) ?_
  simp [pc_laws_markValue]
  refine callK_mut (by simp) (markValueS_c l k h0 (by omega)) (by simp [hm1]; rfl) (by simp) (by simp) rfl (by simp [T.noImm]) ?_
  simp
  refine fin_ret (ts := []) rfl (by simp) (by simp [hm1]) (by simp)
theorem heldValue_c (v w : Vl) (k : Int) (h0 : 0 ≤ k) (h : k + 8 * v.cnt ≤ 2 ^ 50) (hw : w.l = (mkL mkV k v.l).1) : Rv Try.prog 20 [.agg (sV.I w), .i .i64 k] (.i .i64 (mkL mkV k v.l).2) := by
  obtain ⟨a, b, s, l⟩ := v
  obtain ⟨a', b', s', l'⟩ := w
  rw [Vl.cnt_mk] at h
  simp only [Vl.l] at hw ⊢
  subst hw
  have hf1 := Far.list (m := mkV) (c := Vl.cnt) (l := l) (fun v _ => far_val v) k
  have n1 : ¬ (mkL mkV k l).2 < 0 := by omega
  refine via_laws_heldValue (by simp) ?_
  simp [pc_laws_heldValue]
  refine callK_val (by simp) (heldValueS_c l k h0 (by omega)) rfl ?_
  simp [n1]
  exact fin_val rfl (by simp) (by simp)
/-! ### numbers -/
def mkI (k : Int) (_ : Int) : Int × Int := (k, k + 1)
theorem far_int (x : Int) : ∀ k, k ≤ (mkI k x).2 ∧ (mkI k x).2 ≤ k + 8 * (1 + (0 : Nat)) := by
  intro k; simp only [mkI]; omega
end Go.Proofs.Ytehdfbhfbidadaa.V
