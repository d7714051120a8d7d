/- Terms in order: two of a type, two of different types. -/
import Derived.Test.YtehdfbhfbidadaaCord
namespace Go.Proofs.Ytehdfbhfbidadaa.V
open Go
set_option linter.unusedVariables false
set_option linter.unusedSimpArgs false
set_option maxHeartbeats 4000000
theorem order_node_same (a b : Int) : Rv Try.prog 213 [.i .i64 a, .ifc 186 (.i .i64 b)] (.i .i64 (cmpI a b)) := by
  have h1 := Compare_impl_nodeTerm_c a b
  refine via_impl_nodeTerm_order (by simp) ?_
  simp [pc_impl_nodeTerm_order]
  refine hookH_of [] (hook_assertY (by decide) (by decide +kernel)) (by simp) ?_
  simp
  refine callK_val (by simp) h1 rfl ?_
  simp
  exact fin_val rfl (by simp) (by simp)
theorem order_node_other (a : Int) {t' f : Nat} {y : T} {r' : Int} (ht : t' < 4294967296) (hne : t' ≠ 186) (hr : Rv Try.prog f [y] (.i .i64 r')) (hm : methOk Try.prog t' "loop.example/ashlar/impl.rank" f = true) (hok : okCall Try.prog f = true) (hy : argI ⟨[], [], 0, 0⟩ y = some y ∧ y.names = []) : Rv Try.prog 213 [.i .i64 a, .ifc t' y] (.i .i64 (cmpI 0 r')) := by
  have h1 := rank_node_c a
  have h2 := Compare_int_c 0 r'
  refine via_impl_nodeTerm_order (by simp [hy.2]) ?_
  simp [pc_impl_nodeTerm_order]
  have uz : (Try.prog.info? 186).bind (·.zero) = some (.int .i64 0) := by kernel_rfl
  refine hookH_of [] (hook_assertN ht (by decide +kernel) hne uz rfl) (by simp) ?_
  simp
  refine callK_val (by simp) h1 rfl ?_
  simp
  refine hookH_inv hr ht rfl hm hok (by simp [handedX, hy.1]) (by simp [named, hy.2]) (by simp [named, hy.2]) (by simp [backX]) ?_
  simp [news]
  refine callK_val (by simp) h2 rfl ?_
  simp
  exact fin_val rfl (by simp) (by simp)
theorem order_edge_same (a b : Int) : Rv Try.prog 219 [.i .i64 a, .ifc 187 (.i .i64 b)] (.i .i64 (cmpI a b)) := by
  have h1 := Compare_impl_edgeTerm_c a b
  refine via_impl_edgeTerm_order (by simp) ?_
  simp [pc_impl_edgeTerm_order]
  refine hookH_of [] (hook_assertY (by decide) (by decide +kernel)) (by simp) ?_
  simp
  refine callK_val (by simp) h1 rfl ?_
  simp
  exact fin_val rfl (by simp) (by simp)
theorem order_edge_other (a : Int) {t' f : Nat} {y : T} {r' : Int} (ht : t' < 4294967296) (hne : t' ≠ 187) (hr : Rv Try.prog f [y] (.i .i64 r')) (hm : methOk Try.prog t' "loop.example/ashlar/impl.rank" f = true) (hok : okCall Try.prog f = true) (hy : argI ⟨[], [], 0, 0⟩ y = some y ∧ y.names = []) : Rv Try.prog 219 [.i .i64 a, .ifc t' y] (.i .i64 (cmpI 1 r')) := by
  have h1 := rank_edge_c a
  have h2 := Compare_int_c 1 r'
  refine via_impl_edgeTerm_order (by simp [hy.2]) ?_
  simp [pc_impl_edgeTerm_order]
  have uz : (Try.prog.info? 187).bind (·.zero) = some (.int .i64 0) := by kernel_rfl
  refine hookH_of [] (hook_assertN ht (by decide +kernel) hne uz rfl) (by simp) ?_
  simp
  refine callK_val (by simp) h1 rfl ?_
  simp
  refine hookH_inv hr ht rfl hm hok (by simp [handedX, hy.1]) (by simp [named, hy.2]) (by simp [named, hy.2]) (by simp [backX]) ?_
  simp [news]
  refine callK_val (by simp) h2 rfl ?_
  simp
  exact fin_val rfl (by simp) (by simp)
theorem order_bool_same (a b : Int) : Rv Try.prog 229 [.i .i64 a, .ifc 190 (.i .i64 b)] (.i .i64 (cmpI a b)) := by
  have h1 := Compare_impl_boolTerm_c a b
  refine via_impl_boolTerm_order (by simp) ?_
  simp [pc_impl_boolTerm_order]
  refine hookH_of [] (hook_assertY (by decide) (by decide +kernel)) (by simp) ?_
  simp
  refine callK_val (by simp) h1 rfl ?_
  simp
  exact fin_val rfl (by simp) (by simp)
theorem order_bool_other (a : Int) {t' f : Nat} {y : T} {r' : Int} (ht : t' < 4294967296) (hne : t' ≠ 190) (hr : Rv Try.prog f [y] (.i .i64 r')) (hm : methOk Try.prog t' "loop.example/ashlar/impl.rank" f = true) (hok : okCall Try.prog f = true) (hy : argI ⟨[], [], 0, 0⟩ y = some y ∧ y.names = []) : Rv Try.prog 229 [.i .i64 a, .ifc t' y] (.i .i64 (cmpI 4 r')) := by
  have h1 := rank_bool_c a
  have h2 := Compare_int_c 4 r'
  refine via_impl_boolTerm_order (by simp [hy.2]) ?_
  simp [pc_impl_boolTerm_order]
  have uz : (Try.prog.info? 190).bind (·.zero) = some (.int .i64 0) := by kernel_rfl
  refine hookH_of [] (hook_assertN ht (by decide +kernel) hne uz rfl) (by simp) ?_
  simp
  refine callK_val (by simp) h1 rfl ?_
  simp
  refine hookH_inv hr ht rfl hm hok (by simp [handedX, hy.1]) (by simp [named, hy.2]) (by simp [named, hy.2]) (by simp [backX]) ?_
  simp [news]
  refine callK_val (by simp) h2 rfl ?_
  simp
  exact fin_val rfl (by simp) (by simp)
theorem order_num_same (a b : Int) : Rv Try.prog 233 [.i .i64 a, .ifc 191 (.i .i64 b)] (.i .i64 (cmpI a b)) := by
  have h1 := Compare_impl_numTerm_c a b
  refine via_impl_numTerm_order (by simp) ?_
  simp [pc_impl_numTerm_order]
  refine hookH_of [] (hook_assertY (by decide) (by decide +kernel)) (by simp) ?_
  simp
  refine callK_val (by simp) h1 rfl ?_
  simp
  exact fin_val rfl (by simp) (by simp)
theorem order_num_other (a : Int) {t' f : Nat} {y : T} {r' : Int} (ht : t' < 4294967296) (hne : t' ≠ 191) (hr : Rv Try.prog f [y] (.i .i64 r')) (hm : methOk Try.prog t' "loop.example/ashlar/impl.rank" f = true) (hok : okCall Try.prog f = true) (hy : argI ⟨[], [], 0, 0⟩ y = some y ∧ y.names = []) : Rv Try.prog 233 [.i .i64 a, .ifc t' y] (.i .i64 (cmpI 5 r')) := by
  have h1 := rank_num_c a
  have h2 := Compare_int_c 5 r'
  refine via_impl_numTerm_order (by simp [hy.2]) ?_
  simp [pc_impl_numTerm_order]
  have uz : (Try.prog.info? 191).bind (·.zero) = some (.int .i64 0) := by kernel_rfl
  refine hookH_of [] (hook_assertN ht (by decide +kernel) hne uz rfl) (by simp) ?_
  simp
  refine callK_val (by simp) h1 rfl ?_
  simp
  refine hookH_inv hr ht rfl hm hok (by simp [handedX, hy.1]) (by simp [named, hy.2]) (by simp [named, hy.2]) (by simp [backX]) ?_
  simp [news]
  refine callK_val (by simp) h2 rfl ?_
  simp
  exact fin_val rfl (by simp) (by simp)
theorem isNaN_text_c (s : Tx) : Rv Try.prog 228 [.s s] (.b false) := by
  refine via_cmp_isNaN_impl_textTerm (by simp) ?_
  simp [pc_cmp_isNaN_impl_textTerm]
  exact fin_val rfl (by simp) (by simp)
def cmpT (a b : Tx) : Int := if Op.bytesLess a b = true then -1 else if a = b then 0 else 1
theorem Compare_text_c (a b : Tx) : Rv Try.prog 227 [.s a, .s b] (.i .i64 (cmpT a b)) := by
  have h1 := isNaN_text_c a
  have h2 := isNaN_text_c b
  refine via_cmp_Compare_impl_textTerm (by simp) ?_
  simp [pc_cmp_Compare_impl_textTerm]
  refine callK_val (by simp) h1 rfl ?_
  simp
  refine callK_val (by simp) h2 rfl ?_
  cases c1 : Op.bytesLess a b with
  | true =>
    simp [c1]
    exact fin_val rfl (by simp [cmpT, c1]) (by simp)
  | false =>
    by_cases c2 : a = b
    · subst c2
      simp [c1]
      exact fin_val rfl (by simp [cmpT, c1]) (by simp)
    · simp [c1, c2]
      exact fin_val rfl (by simp [cmpT, c1, c2]) (by simp)
theorem order_text_same (a b : Tx) : Rv Try.prog 225 [.s a, .ifc 189 (.s b)] (.i .i64 (cmpT a b)) := by
  have h1 := Compare_text_c a b
  refine via_impl_textTerm_order (by simp) ?_
  simp [pc_impl_textTerm_order]
  refine hookH_of [] (hook_assertY (by decide) (by decide +kernel)) (by simp) ?_
  simp
  refine callK_val (by simp) h1 rfl ?_
  simp
  exact fin_val rfl (by simp) (by simp)
theorem order_text_other (a : Tx) {t' f : Nat} {y : T} {r' : Int} (ht : t' < 4294967296) (hne : t' ≠ 189) (hr : Rv Try.prog f [y] (.i .i64 r')) (hm : methOk Try.prog t' "loop.example/ashlar/impl.rank" f = true) (hok : okCall Try.prog f = true) (hy : argI ⟨[], [], 0, 0⟩ y = some y ∧ y.names = []) : Rv Try.prog 225 [.s a, .ifc t' y] (.i .i64 (cmpI 3 r')) := by
  have h1 := rank_text_c a
  have h2 := Compare_int_c 3 r'
  refine via_impl_textTerm_order (by simp [hy.2]) ?_
  simp [pc_impl_textTerm_order]
  have uz : (Try.prog.info? 189).bind (·.zero) = some (.string ⟨#[]⟩) := by kernel_rfl
  refine hookH_of [] (hook_assertN ht (by decide +kernel) hne uz rfl) (by simp) ?_
  simp
  refine callK_val (by simp) h1 rfl ?_
  simp
  refine hookH_inv hr ht rfl hm hok (by simp [handedX, hy.1]) (by simp [named, hy.2]) (by simp [named, hy.2]) (by simp [backX]) ?_
  simp [news]
  refine callK_val (by simp) h2 rfl ?_
  simp
  exact fin_val rfl (by simp) (by simp)
theorem order_null_c {t' f : Nat} {y : T} {r' : Int} (ht : t' < 4294967296) (hr : Rv Try.prog f [y] (.i .i64 r')) (hm : methOk Try.prog t' "loop.example/ashlar/impl.rank" f = true) (hok : okCall Try.prog f = true) (hy : argI ⟨[], [], 0, 0⟩ y = some y ∧ y.names = []) : Rv Try.prog 237 [.agg [], .ifc t' y] (.i .i64 (cmpI 6 r')) := by
  have h1 := rank_null_c
  have h2 := Compare_int_c 6 r'
  refine via_impl_nullTerm_order (by simp [hy.2]) ?_
  simp [pc_impl_nullTerm_order]
  refine callK_val (by simp) h1 rfl ?_
  simp
  refine hookH_inv hr ht rfl hm hok (by simp [handedX, hy.1]) (by simp [named, hy.2]) (by simp [named, hy.2]) (by simp [backX]) ?_
  simp [news]
  refine callK_val (by simp) h2 rfl ?_
  simp
  exact fin_val rfl (by simp) (by simp)
theorem order_list_other (l : List Vl) {t' f : Nat} {y : T} {r' : Int} (ht : t' < 4294967296) (hne : t' ≠ 188) (hr : Rv Try.prog f [y] (.i .i64 r')) (hm : methOk Try.prog t' "loop.example/ashlar/impl.rank" f = true) (hok : okCall Try.prog f = true) (hy : argI ⟨[], [], 0, 0⟩ y = some y ∧ y.names = []) : Rv Try.prog 223 [.imm (l.map sV.I), .ifc t' y] (.i .i64 (cmpI 2 r')) := by
  have h1 := rank_list_c l
  have h2 := Compare_int_c 2 r'
  refine via_impl_listTerm_order (by simp [hy.2]) ?_
  simp [pc_impl_listTerm_order]
  have uz : (Try.prog.info? 188).bind (·.zero) = some (.slice none 0 0) := by kernel_rfl
  refine hookH_of [] (hook_assertN ht (by decide +kernel) hne uz rfl) (by simp) ?_
  simp
  refine callK_val (by simp) h1 rfl ?_
  simp
  refine hookH_inv hr ht rfl hm hok (by simp [handedX, hy.1]) (by simp [named, hy.2]) (by simp [named, hy.2]) (by simp [backX]) ?_
  simp [news]
  refine callK_val (by simp) h2 rfl ?_
  simp
  exact fin_val rfl (by simp) (by simp)
end Go.Proofs.Ytehdfbhfbidadaa.V
