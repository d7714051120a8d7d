/- Marks of props, nodes, edges: printed by a program of this claim's writer (wip/gen/marks.py). -/
import Derived.Test.YtehdfbhfbidadaaCmk
namespace Go.Proofs.Ytehdfbhfbidadaa.V
open Go
set_option linter.unusedVariables false
set_option linter.unusedSimpArgs false
set_option maxHeartbeats 4000000
theorem far_strv (x : Tx) : ∀ k, k ≤ (mkStr k x).2 ∧ (mkStr k x).2 ≤ k + 8 * (1 + List.length x) := far_str [x] x (by simp)
def mkP (k : Int) : Pr → Pr × Int
  | ⟨nm, .mk a b s l1⟩ => (⟨(mt k), .mk (k + 1) (k + 2) (mt (k + 3)) (mkL mkV (k + 4) l1).1⟩, (mkL mkV (k + 4) l1).2)
theorem far_prop (x : Pr) : ∀ k, k ≤ (mkP k x).2 ∧ (mkP k x).2 ≤ k + 8 * (1 + Pr.cnt x) := by
  intro k
  obtain ⟨nm, ⟨a, b, s, l1⟩⟩ := x
  simp only [mkP, Pr.cnt, Vl.cnt_mk]
  have h_l1 := Far.list (m := mkV) (c := Vl.cnt) (l := l1) (fun v _ => far_val v) (k + 4)
  omega
def mkN (k : Int) : Nd → Nd × Int
  | ⟨a, l1, l2⟩ => (⟨k, (mkL mkStr (k + 1) l1).1, (mkL mkP ((mkL mkStr (k + 1) l1).2) l2).1⟩, (mkL mkP ((mkL mkStr (k + 1) l1).2) l2).2)
theorem far_node (x : Nd) : ∀ k, k ≤ (mkN k x).2 ∧ (mkN k x).2 ≤ k + 8 * (1 + Nd.cnt x) := by
  intro k
  obtain ⟨a, l1, l2⟩ := x
  simp only [mkN, Nd.cnt]
  have h_l1 := Far.list (m := mkStr) (c := List.length) (l := l1) (fun v _ => far_strv v) (k + 1)
  have h_l2 := Far.list (m := mkP) (c := Pr.cnt) (l := l2) (fun v _ => far_prop v) ((mkL mkStr (k + 1) l1).2)
  omega
def mkE (k : Int) : Eg → Eg × Int
  | ⟨a, s, b, c, l1⟩ => (⟨k, (mt (k + 1)), (k + 2), (k + 3), (mkL mkP (k + 4) l1).1⟩, (mkL mkP (k + 4) l1).2)
theorem far_edge (x : Eg) : ∀ k, k ≤ (mkE k x).2 ∧ (mkE k x).2 ≤ k + 8 * (1 + Eg.cnt x) := by
  intro k
  obtain ⟨a, s, b, c, l1⟩ := x
  simp only [mkE, Eg.cnt]
  have h_l1 := Far.list (m := mkP) (c := Pr.cnt) (l := l1) (fun v _ => far_prop v) (k + 4)
  omega
end Go.Proofs.Ytehdfbhfbidadaa.V
