/- Terms: values in order. -/
import Derived.Test.YtehdfbhfbidadaaG1
import Derived.Test.YtehdfbhfbidadaaVpo
import Derived.Test.YtehdfbhfbidadaaVE
namespace Go.Proofs.Ytehdfbhfbidadaa.V
open Go
set_option linter.unusedVariables false
set_option linter.unusedSimpArgs false
set_option maxHeartbeats 4000000
def cmpI (a b : Int) : Int := if a < b then -1 else if b < a then 1 else 0
theorem isNaN_impl_nodeTerm_c (a : Int) : Rv Try.prog 217 [.i .i64 a] (.b false) := by
  refine via_cmp_isNaN_impl_nodeTerm (by simp) ?_
  simp [pc_cmp_isNaN_impl_nodeTerm]
  exact fin_val rfl (by simp) (by simp)
theorem Compare_impl_nodeTerm_c (a b : Int) : Rv Try.prog 215 [.i .i64 a, .i .i64 b] (.i .i64 (cmpI a b)) := by
  have h1 := isNaN_impl_nodeTerm_c a
  have h2 := isNaN_impl_nodeTerm_c b
  refine via_cmp_Compare_impl_nodeTerm (by simp) ?_
  simp [pc_cmp_Compare_impl_nodeTerm]
  refine callK_val (by simp) h1 rfl ?_
  simp
  refine callK_val (by simp) h2 rfl ?_
  by_cases c1 : a < b
  · simp [c1]
    exact fin_val rfl (by simp [cmpI, c1]) (by simp)
  · by_cases c2 : b < a
    · simp [c1, c2]
      exact fin_val rfl (by simp [cmpI, c1, c2]) (by simp)
    · simp [c1, c2]
      exact fin_val rfl (by simp [cmpI, c1, c2]) (by simp)
theorem isNaN_impl_edgeTerm_c (a : Int) : Rv Try.prog 222 [.i .i64 a] (.b false) := by
  refine via_cmp_isNaN_impl_edgeTerm (by simp) ?_
  simp [pc_cmp_isNaN_impl_edgeTerm]
  exact fin_val rfl (by simp) (by simp)
theorem Compare_impl_edgeTerm_c (a b : Int) : Rv Try.prog 221 [.i .i64 a, .i .i64 b] (.i .i64 (cmpI a b)) := by
  have h1 := isNaN_impl_edgeTerm_c a
  have h2 := isNaN_impl_edgeTerm_c b
  refine via_cmp_Compare_impl_edgeTerm (by simp) ?_
  simp [pc_cmp_Compare_impl_edgeTerm]
  refine callK_val (by simp) h1 rfl ?_
  simp
  refine callK_val (by simp) h2 rfl ?_
  by_cases c1 : a < b
  · simp [c1]
    exact fin_val rfl (by simp [cmpI, c1]) (by simp)
  · by_cases c2 : b < a
    · simp [c1, c2]
      exact fin_val rfl (by simp [cmpI, c1, c2]) (by simp)
    · simp [c1, c2]
      exact fin_val rfl (by simp [cmpI, c1, c2]) (by simp)
theorem isNaN_impl_boolTerm_c (a : Int) : Rv Try.prog 232 [.i .i64 a] (.b false) := by
  refine via_cmp_isNaN_impl_boolTerm (by simp) ?_
  simp [pc_cmp_isNaN_impl_boolTerm]
  exact fin_val rfl (by simp) (by simp)
theorem Compare_impl_boolTerm_c (a b : Int) : Rv Try.prog 231 [.i .i64 a, .i .i64 b] (.i .i64 (cmpI a b)) := by
  have h1 := isNaN_impl_boolTerm_c a
  have h2 := isNaN_impl_boolTerm_c b
  refine via_cmp_Compare_impl_boolTerm (by simp) ?_
  simp [pc_cmp_Compare_impl_boolTerm]
  refine callK_val (by simp) h1 rfl ?_
  simp
  refine callK_val (by simp) h2 rfl ?_
  by_cases c1 : a < b
  · simp [c1]
    exact fin_val rfl (by simp [cmpI, c1]) (by simp)
  · by_cases c2 : b < a
    · simp [c1, c2]
      exact fin_val rfl (by simp [cmpI, c1, c2]) (by simp)
    · simp [c1, c2]
      exact fin_val rfl (by simp [cmpI, c1, c2]) (by simp)
theorem isNaN_impl_numTerm_c (a : Int) : Rv Try.prog 236 [.i .i64 a] (.b false) := by
  refine via_cmp_isNaN_impl_numTerm (by simp) ?_
  simp [pc_cmp_isNaN_impl_numTerm]
  exact fin_val rfl (by simp) (by simp)
theorem Compare_impl_numTerm_c (a b : Int) : Rv Try.prog 235 [.i .i64 a, .i .i64 b] (.i .i64 (cmpI a b)) := by
  have h1 := isNaN_impl_numTerm_c a
  have h2 := isNaN_impl_numTerm_c b
  refine via_cmp_Compare_impl_numTerm (by simp) ?_
  simp [pc_cmp_Compare_impl_numTerm]
  refine callK_val (by simp) h1 rfl ?_
  simp
  refine callK_val (by simp) h2 rfl ?_
  by_cases c1 : a < b
  · simp [c1]
    exact fin_val rfl (by simp [cmpI, c1]) (by simp)
  · by_cases c2 : b < a
    · simp [c1, c2]
      exact fin_val rfl (by simp [cmpI, c1, c2]) (by simp)
    · simp [c1, c2]
      exact fin_val rfl (by simp [cmpI, c1, c2]) (by simp)
theorem isNaN_int_c (a : Int) : Rv Try.prog 218 [.i .i64 a] (.b false) := by
  refine via_cmp_isNaN_int (by simp) ?_
  simp [pc_cmp_isNaN_int]
  exact fin_val rfl (by simp) (by simp)
theorem Compare_int_c (a b : Int) : Rv Try.prog 216 [.i .i64 a, .i .i64 b] (.i .i64 (cmpI a b)) := by
  have h1 := isNaN_int_c a
  have h2 := isNaN_int_c b
  refine via_cmp_Compare_int (by simp) ?_
  simp [pc_cmp_Compare_int]
  refine callK_val (by simp) h1 rfl ?_
  simp
  refine callK_val (by simp) h2 rfl ?_
  by_cases c1 : a < b
  · simp [c1]
    exact fin_val rfl (by simp [cmpI, c1]) (by simp)
  · by_cases c2 : b < a
    · simp [c1, c2]
      exact fin_val rfl (by simp [cmpI, c1, c2]) (by simp)
    · simp [c1, c2]
      exact fin_val rfl (by simp [cmpI, c1, c2]) (by simp)
theorem rank_node_c (n : Int) : Rv Try.prog 214 [.i .i64 n] (.i .i64 0) := by
  refine via_impl_nodeTerm_rank (by simp) ?_
  simp [pc_impl_nodeTerm_rank]
  exact fin_val rfl (by simp) (by simp)
theorem rank_edge_c (n : Int) : Rv Try.prog 220 [.i .i64 n] (.i .i64 1) := by
  refine via_impl_edgeTerm_rank (by simp) ?_
  simp [pc_impl_edgeTerm_rank]
  exact fin_val rfl (by simp) (by simp)
theorem rank_list_c (l : List Vl) : Rv Try.prog 224 [.imm (l.map sV.I)] (.i .i64 2) := by
  refine via_impl_listTerm_rank (by simp) ?_
  simp [pc_impl_listTerm_rank]
  exact fin_val rfl (by simp) (by simp)
theorem rank_text_c (s : Tx) : Rv Try.prog 226 [.s s] (.i .i64 3) := by
  refine via_impl_textTerm_rank (by simp) ?_
  simp [pc_impl_textTerm_rank]
  exact fin_val rfl (by simp) (by simp)
theorem rank_bool_c (n : Int) : Rv Try.prog 230 [.i .i64 n] (.i .i64 4) := by
  refine via_impl_boolTerm_rank (by simp) ?_
  simp [pc_impl_boolTerm_rank]
  exact fin_val rfl (by simp) (by simp)
theorem rank_num_c (n : Int) : Rv Try.prog 234 [.i .i64 n] (.i .i64 5) := by
  refine via_impl_numTerm_rank (by simp) ?_
  simp [pc_impl_numTerm_rank]
  exact fin_val rfl (by simp) (by simp)
theorem rank_null_c  : Rv Try.prog 238 [.agg []] (.i .i64 6) := by
  refine via_impl_nullTerm_rank (by simp) ?_
  simp [pc_impl_nullTerm_rank]
  exact fin_val rfl (by simp) (by simp)
/-- A value that is ok as it stands in order. -/
def termT : Vl → T
  | .mk k n s l => if k = 5 then .ifc 186 (.i .i64 n) else if k = 6 then .ifc 187 (.i .i64 n) else if k = 4 then .ifc 188 (.imm (l.map sV.I)) else if k = 3 then .ifc 189 (.s s) else if k = 1 then .ifc 190 (.i .i64 n) else if k = 2 then .ifc 191 (.i .i64 n) else .ifc 193 (.agg [])
theorem termOf_c (v : Vl) : Rv Try.prog 127 [.agg (sV.I v)] (termT v) := by
  obtain ⟨k, n, s, l⟩ := v
  refine via_impl_termOf (by simp) ?_
  by_cases k5 : k = 5
  · simp [pc_impl_termOf, k5]
    refine hookH_of [] (hook_mkIface (by decide) (by decide +kernel)) (by simp) ?_
    simp
    exact fin_ret (ts := []) (by simp; rfl) (by simp [termT, rf]) (by simp) (by simp)
  by_cases k6 : k = 6
  · simp [pc_impl_termOf, k5, k6]
    refine hookH_of [] (hook_mkIface (by decide) (by decide +kernel)) (by simp) ?_
    simp
    exact fin_ret (ts := []) (by simp; rfl) (by simp [termT, rf]) (by simp) (by simp)
  by_cases k4 : k = 4
  · simp [pc_impl_termOf, k5, k6, k4]
    refine hookH_of [] (hook_mkIface (by decide) (by decide +kernel)) (by simp) ?_
    simp
    exact fin_ret (ts := []) (by simp; rfl) (by simp [termT, rf]) (by simp) (by simp)
  by_cases k3 : k = 3
  · simp [pc_impl_termOf, k5, k6, k4, k3]
    refine hookH_of [] (hook_mkIface (by decide) (by decide +kernel)) (by simp) ?_
    simp
    exact fin_ret (ts := []) (by simp; rfl) (by simp [termT, rf]) (by simp) (by simp)
  by_cases k1 : k = 1
  · simp [pc_impl_termOf, k5, k6, k4, k3, k1]
    refine hookH_of [] (hook_mkIface (by decide) (by decide +kernel)) (by simp) ?_
    simp
    exact fin_ret (ts := []) (by simp; rfl) (by simp [termT, rf]) (by simp) (by simp)
  by_cases k2 : k = 2
  · simp [pc_impl_termOf, k5, k6, k4, k3, k1, k2]
    refine hookH_of [] (hook_mkIface (by decide) (by decide +kernel)) (by simp) ?_
    simp
    exact fin_ret (ts := []) (by simp; rfl) (by simp [termT, rf]) (by simp) (by simp)
  simp [pc_impl_termOf, k5, k6, k4, k3, k1, k2]
  refine hookH_of [] (hook_mkIface (by decide) (by decide +kernel)) (by simp) ?_
  simp
  exact fin_ret (ts := []) (by simp; rfl) (by simp [termT, rf, k5, k6, k4, k3, k1, k2]) (by simp) (by simp)
end Go.Proofs.Ytehdfbhfbidadaa.V
