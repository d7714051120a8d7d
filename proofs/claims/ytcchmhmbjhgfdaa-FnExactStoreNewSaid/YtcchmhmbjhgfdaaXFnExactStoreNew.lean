/- The law FnExactStoreNew holds of trees: printed by a program of this claim's writer (wip/gen/exlaw.py). -/
import Derived.Test.YtcchmhmbjhgfdaaCst
import Derived.Test.YtcchmhmbjhgfdaaOpn2
import Derived.Test.YtcchmhmbjhgfdaaVfFnExactStoreNew
namespace Go.Proofs.Ytcchmhmbjhgfdaa.V
open Go
set_option linter.unusedVariables false
set_option linter.unusedSimpArgs false
set_option maxHeartbeats 32000000
theorem storeNew_cnt (l : List Rl) : cl Rl.cnt (storeNew l).1 ≤ cl Rl.cnt l := by
  unfold storeNew
  split
  · exact Nat.le_refl _
  · exact Nat.zero_le _
theorem FnExactStoreNew_t (l : List Rl) (hl : ln l ∧ ∀ x ∈ l, Rl.fit x) : Rv Try.prog 14 [.imm (l.map sR.I)] (.b true) := by
  have sz0 := szRuleS_c l hl.1 hl.2 1048576 (by omega) (by omega)
  by_cases hc0 : (1048576 : Int) - (cl Rl.cnt l : Nat) < 0
  · rw [left_neg hc0] at sz0
    refine via_laws_FnExactStoreNew (by simp) ?_
    simp [pc_laws_FnExactStoreNew]
    refine callK_val (by simp) sz0 rfl ?_
    simp
    exact fin_val rfl (by simp) (by simp)
  rw [left_pos hc0] at sz0
  have hcl : cl Rl.cnt l ≤ 2 ^ 20 := by omega
  have tol := toRuleS_c l (by omega)
  obtain ⟨r0, hr0⟩ : ∃ r, r = (storeNew l).1 := ⟨_, rfl⟩
  have hrc0 : cl Rl.cnt r0 ≤ 2 ^ 22 := by
    rw [hr0]; have := storeNew_cnt l; omega
  obtain ⟨r1, hr1⟩ : ∃ r, r = (storeNew l).2 := ⟨_, rfl⟩
  have sp := specStoreNew_c l (by have := hcl; unfold cl at this; omega) hl.2
  have im := StoreNew_c l (by have := hcl; unfold cl at this; omega) hl.2
  rw [← hr0, ← hr1] at sp im
  have eqr0 := eqStore_c r0 (by omega)
  have eql := eqRuleS_c l (by omega)
  have mkl := markRuleS_c l 1 (by omega) (by omega)
  have fal := Far.list (m := mkR) (c := Rl.cnt) (l := l) (fun v _ => far_rule v) 1
  have mll1 : (mkL mkR 1 l).1.length = l.length := mkL_len (m := mkR) l 1
  obtain ⟨q0, hq0⟩ : ∃ q, q = (mkL mkR 1 l).2 := ⟨_, rfl⟩
  rw [← hq0] at mkl fal
  have negq0 : ¬ q0 < 0 := by omega
  have mkr0 := markStore_c r0 1 (by omega) (by omega)
  have hdr0 := heldStore_c r0 1 (by omega) (by omega)
  have far0 := Far.list (m := mkR) (c := Rl.cnt) (l := r0) (fun v _ => far_rule v) 1
  have mlr01 : (mkL mkR 1 r0).1.length = r0.length := mkL_len (m := mkR) r0 1
  obtain ⟨p0, hp0⟩ : ∃ q, q = (mkL mkR 1 r0).2 := ⟨_, rfl⟩
  rw [← hp0] at mkr0 far0 hdr0
  have negp0 : ¬ p0 < 0 := by omega
  clear hq0
  clear hp0
  generalize hg0 : (mkL mkR 1 l).1 = gm0 at *
  generalize hg1 : (mkL mkR 1 r0).1 = gm1 at *
  clear hr0 hr1
  simp only [stO, stI] at *
  refine via_laws_FnExactStoreNew (by simp) ?_
  simp [pc_laws_FnExactStoreNew, stO, stI]
  refine callK_val (by simp) sz0 (by simp [T.noImm]) ?_
  simp [hc0, negq0, negp0, stO, stI]
  repeat with_reducible refine need_mk (by decide +kernel) ?_
  refine callK_val (by simp) tol (by simp [T.noImm, stO, stI]) ?_
  simp [hc0, negq0, negp0, stO, stI]
  repeat with_reducible refine need_mk (by decide +kernel) ?_
  refine callK_val (by simp) sp (by simp [T.noImm, stO, stI]) ?_
  simp [hc0, negq0, negp0, stO, stI]
  repeat with_reducible refine need_mk (by decide +kernel) ?_
  refine callK_val (by simp) tol (by simp [T.noImm, stO, stI]) ?_
  simp [hc0, negq0, negp0, stO, stI]
  repeat with_reducible refine need_mk (by decide +kernel) ?_
  refine callK_val (by simp) im (by simp [T.noImm, stO, stI]) ?_
  simp [hc0, negq0, negp0, stO, stI]
  repeat with_reducible refine need_mk (by decide +kernel) ?_
  refine callK_val (by simp) eqr0 (by simp [T.noImm, stO, stI]) ?_
  simp [hc0, negq0, negp0, stO, stI]
  repeat with_reducible refine need_mk (by decide +kernel) ?_
  refine callK_val (by simp) tol (by simp [T.noImm, stO, stI]) ?_
  simp [hc0, negq0, negp0, stO, stI]
  repeat with_reducible refine need_mk (by decide +kernel) ?_
  refine callK_val (by simp) eql (by simp [T.noImm, stO, stI]) ?_
  simp [hc0, negq0, negp0, stO, stI]
  repeat with_reducible refine need_mk (by decide +kernel) ?_
  refine callK_mut (by simp) mkl (by simp [mll1]; rfl) (by simp) (by simp) rfl (by simp [T.noImm]) ?_
  simp [hc0, negq0, negp0, stO, stI]
  repeat with_reducible refine need_mk (by decide +kernel) ?_
  refine callK_val (by simp) eqr0 (by simp [T.noImm, stO, stI]) ?_
  simp [hc0, negq0, negp0, stO, stI]
  repeat with_reducible refine need_mk (by decide +kernel) ?_
  refine callK_mut (by simp) mkr0 (by simp [mlr01]; rfl) (by simp) (by simp) rfl (by simp [T.noImm]) ?_
  simp [hc0, negq0, negp0, stO, stI]
  repeat with_reducible refine need_mk (by decide +kernel) ?_
  refine callK_val (by simp [mlr01, take_map_eq mlr01]) hdr0 (by simp [T.noImm]) ?_
  simp [hc0, negq0, negp0, stO, stI]
  repeat with_reducible refine need_mk (by decide +kernel) ?_
  refine callK_val (by simp) tol (by simp [T.noImm, stO, stI]) ?_
  simp [hc0, negq0, negp0, stO, stI]
  repeat with_reducible refine need_mk (by decide +kernel) ?_
  refine callK_val (by simp) im (by simp [T.noImm, stO, stI]) ?_
  simp [hc0, negq0, negp0, stO, stI]
  repeat with_reducible refine need_mk (by decide +kernel) ?_
  refine callK_val (by simp) eqr0 (by simp [T.noImm, stO, stI]) ?_
  simp [hc0, negq0, negp0, stO, stI]
  repeat with_reducible refine need_mk (by decide +kernel) ?_
  refine callK_val (by simp [mlr01, take_map_eq mlr01]) hdr0 (by simp [T.noImm]) ?_
  simp [hc0, negq0, negp0, stO, stI]
  repeat refine need_mk (by decide +kernel) ?_
  exact fin_val rfl (by simp) (by simp)
end Go.Proofs.Ytcchmhmbjhgfdaa.V
