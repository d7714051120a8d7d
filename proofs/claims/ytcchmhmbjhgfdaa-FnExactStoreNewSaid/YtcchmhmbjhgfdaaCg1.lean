/- Copies of texts, props, nodes, edges, graphs. -/
import Derived.Test.YtcchmhmbjhgfdaaCget2
import Derived.Test.YtcchmhmbjhgfdaaVC
namespace Go.Proofs.Ytcchmhmbjhgfdaa.V
open Go
set_option linter.unusedVariables false
set_option linter.unusedSimpArgs false
set_option maxHeartbeats 16000000
theorem cloneTexts_c (l : List Tx) (hl : l.length ≤ 2 ^ 20) : Rv Try.prog 111 [.imm (l.map sS.I)] (.own 1 (l.map sS.O)) := by
  refine via_impl_cloneTexts (by simp) ?_
  by_cases h0 : l.length = 0
  · obtain rfl : l = [] := List.length_eq_zero_iff.1 h0
    simp [pc_impl_cloneTexts]
    exact fin_own rfl (by simp) (by simp) (by simp)
  · have h0' : ¬ l = [] := fun h => h0 (by simp [h])
    have hb1 : (l.length : Int) * 16 ≤ 35184372088832 := by omega
    have hb2 : (l.length : Int) ≤ 35184372088832 := by omega
    simp [pc_impl_cloneTexts, h0, h0', hb1, hb2]
    refine hookH_copy (sz := 1) (e := 9) (i := Try.t9) (dT := 57) (sT := 57) (rows := List.replicate l.length [.s []]) (by simp [hget]) rfl rfl (by kernel_rfl) (by kernel_rfl) (by kernel_rfl) (by simp) (by simp [T.cell]) (by simp) (by omega) ?_
    simp
    exact fin_own rfl (by simp) (by simp) (by simp)
theorem cloneProps_c (l : List Pr) (hl : l.length ≤ 2 ^ 20) (h : ∀ p ∈ l, Rv Try.prog 98 [.agg (sV.I p.val)] (.agg (sV.O p.val))) : Rv Try.prog 112 [.imm (l.map sP.I)] (.own 5 (l.map sP.O)) := by
  refine via_impl_cloneProps (by simp) ?_
  by_cases h0 : l.length = 0
  · obtain rfl : l = [] := List.length_eq_zero_iff.1 h0
    simp [pc_impl_cloneProps]
    exact fin_own rfl (by simp) (by simp) (by simp)
  · have h0' : ¬ l = [] := fun h => h0 (by simp [h])
    have hb1 : (l.length : Int) * 72 ≤ 35184372088832 := by omega
    have hb2 : (l.length : Int) ≤ 35184372088832 := by omega
    simp [pc_impl_cloneProps, h0, h0', hb1, hb2]
    refine W_for (fun i => ⟨[(14, .i .i64 i), (13, .i .i64 l.length), (12, .imm (l.map sP.I)), (3, .ref 0 0 l.length)], [(0, .arr 5 ((l.map sP.O).take i ++ List.replicate (l.length - i) [.s [], .i .i64 0, .i .i64 0, .s [], .nl]))], 20, 0⟩) l.length (fun i => True) (Wk.less rfl (by simp) (by simp) (by simp)) trivial ?_
    intro i hi _
    rcases Nat.lt_or_ge i l.length with h2 | h2
    · obtain ⟨v, hx⟩ : ∃ v, l[i]? = some v := ⟨_, List.getElem?_eq_getElem h2⟩
      have hw2 : IntKind.i64.wrap ((i : Int) + 1) = (i : Int) + 1 := wrap1 (by omega)
      have hrow := fill_row sP.O l (z := [.s [], .i .i64 0, .i .i64 0, .s [], .nl]) h2
      have hset := fill_set sP.O l (z := [.s [], .i .i64 0, .i .i64 0, .s [], .nl]) h2
      have hnew := fill_new sP.O hx
      have hg := fun r => fill_get sP.O (l := l) (r := r) (z := [.s [], .i .i64 0, .i .i64 0, .s [], .nl]) h2
      have hs2 := fun r r' => fill_set2 sP.O (l := l) (r := r) (r' := r') (z := [.s [], .i .i64 0, .i .i64 0, .s [], .nl]) h2
      have hcl := fill_clean sP (l := l) (z := [.s [], .i .i64 0, .i .i64 0, .s [], .nl]) (by rfl) (i + 1) (l.length - (i + 1))
      have hv := h v (List.mem_of_getElem? hx)
      obtain ⟨nm, k', n', s', l'⟩ := v
      simp only at hv
      simp [-getElem?_pos, hx, hw2, h2]
      repeat refine need_mk (by decide +kernel) ?_
      refine callK_val (by simp) hv (by simp [T.noImm]) ?_
      simp [-getElem?_pos, hx, hw2, h2, hrow, hset]
      repeat refine need_mk (by decide +kernel) ?_
      refine Wk.trans (Wk.join (b := 0) (r := i) (cs := sP.O ⟨nm, .mk k' n' s' l'⟩) rfl (by simp [hg]; rfl) (by simp) (by simp)) ?_
      exact Wk.to1 rfl (by simp) (by simp) (by simp [hs2, hnew]) hcl (by omega)
    · have h4 : ¬ i < l.length := by omega
      have h5 : l.length - i = 0 := by omega
      have e : (l.map sP.O).take i = l.map sP.O := List.take_of_length_le (by simp; omega)
      simp [h4, h5, e]
      exact fin_own (by simp; rfl) (by simp) (by simp) (by simp)
end Go.Proofs.Ytcchmhmbjhgfdaa.V
