/- Sizes, copies, comparison of what came in. -/
import Derived.Test.YtehdfbhfbidadaaG1
import Derived.Test.YtehdfbhfbidadaaVpm
namespace Go.Proofs.Ytehdfbhfbidadaa.V
open Go
set_option linter.unusedVariables false
set_option linter.unusedSimpArgs false
set_option maxHeartbeats 2000000
/-! ### sizes -/
theorem szValueS_of (l : List Vl) (hl : ln l) (h : ∀ v ∈ l, ∀ x : Int, 0 ≤ x → x < 2 ^ 62 → Rv Try.prog 14 [.agg (sV.I v), .i .i64 x] (.i .i64 (left x v.cnt))) (x : Int) (h0 : 0 ≤ x) (h1 : x < 2 ^ 62) :
    Rv Try.prog 56 [.imm (l.map sV.I), .i .i64 x] (.i .i64 (left x (cl Vl.cnt l))) := via_laws_szValueS (by simp) (szS_gen sV Vl.cnt l hl x h0 h1 h)
theorem szValue_c (v : Vl) : v.fit → ∀ x : Int, 0 ≤ x → x < 2 ^ 62 → Rv Try.prog 14 [.agg (sV.I v), .i .i64 x] (.i .i64 (left x v.cnt)) := by
  refine Vl.ind (p := fun v => v.fit → ∀ x : Int, 0 ≤ x → x < 2 ^ 62 → Rv Try.prog 14 [.agg (sV.I v), .i .i64 x] (.i .i64 (left x v.cnt))) ?_ v
  intro k n s l ih hf x h0 h1
  obtain ⟨_, _, hs, hl, hv⟩ := Vl.fit_mk.1 hf
  refine via_laws_szValue (by simp) ?_
  have hw := wsub h0 h1 hs
  rw [Vl.cnt_mk]
  by_cases hc : x - s.length < 0
  · simp [pc_laws_szValue, hw, hc]
    exact fin_val rfl (by simp [left_neg (show x - ((s.length + cl Vl.cnt l : Nat) : Int) < 0 by omega)]) (by simp)
  · simp [pc_laws_szValue, hw, hc]
    refine callK_val (by simp) (szValueS_of l hl (fun v hm => ih v hm (hv v hm)) (x - s.length) (by omega) (by omega)) rfl ?_
    by_cases h2 : x - s.length - cl Vl.cnt l < 0
    · simp [left_neg h2, hw]
      exact fin_val rfl (by simp [left_neg (show x - ((s.length + cl Vl.cnt l : Nat) : Int) < 0 by omega)]) (by simp)
    · simp [left_pos h2, h2, hw]
      exact fin_val rfl (by simp [left_pos (show ¬ x - ((s.length + cl Vl.cnt l : Nat) : Int) < 0 by omega)]; omega) (by simp)
theorem szValueS_c (l : List Vl) (hl : ln l) (h : ∀ v ∈ l, v.fit) (x : Int) (h0 : 0 ≤ x) (h1 : x < 2 ^ 62) : Rv Try.prog 56 [.imm (l.map sV.I), .i .i64 x] (.i .i64 (left x (cl Vl.cnt l))) :=
  szValueS_of l hl (fun v hv => szValue_c v (h v hv)) x h0 h1
/-! ### equal data -/
theorem eqValue_c (v : Vl) : v.cnt ≤ 2 ^ 22 → Rv Try.prog 18 [.agg (sV.I v), .agg (sV.I v)] (.b true) := by
  refine Vl.ind (p := fun v => v.cnt ≤ 2 ^ 22 → Rv Try.prog 18 [.agg (sV.I v), .agg (sV.I v)] (.b true)) ?_ v
  intro k n s l ih hc
  rw [Vl.cnt_mk] at hc
  unfold cl at hc
  refine via_laws_eqValue (by simp) ?_
  simp [pc_laws_eqValue]
  refine callK_val (by simp) (r := .b true) (via_laws_eqValueS (by simp) (eqS_gen sV l (by omega) (fun v hv => ih v hv (by have := sums_mem (c := Vl.cnt) hv; omega)))) rfl ?_
  simp
  exact fin_val rfl (by simp) (by simp)
theorem eqValueS_c (l : List Vl) (hc : cl Vl.cnt l ≤ 2 ^ 22) : Rv Try.prog 60 [.imm (l.map sV.I), .imm (l.map sV.I)] (.b true) := by
  unfold cl at hc
  exact via_laws_eqValueS (by simp) (eqS_gen sV l (by omega) (fun v hv => eqValue_c v (by have := sums_mem (c := Vl.cnt) hv; omega)))
end Go.Proofs.Ytehdfbhfbidadaa.V
