-- Printed by a program of this claim's writer (wip/gen), out of the translation. Lean checks it.
import Derived.Test.YtcchmhmbjhgfdaaGx0
import Derived.Test.YtcchmhmbjhgfdaaGx5
import Derived.Test.YtcchmhmbjhgfdaaGx6
import Derived.Test.YtcchmhmbjhgfdaaGx8
import Derived.Test.YtcchmhmbjhgfdaaGx10
import Derived.Test.YtcchmhmbjhgfdaaGx11
import Derived.Test.YtcchmhmbjhgfdaaGx12
import Derived.Test.YtcchmhmbjhgfdaaGx16
import Derived.Test.YtcchmhmbjhgfdaaGx22
namespace Go.Proofs.Ytcchmhmbjhgfdaa.G
open Go.RowKit Go.Proofs.YtcchmhmbjhgfdaaW.PrintWords Go.Proofs.YtcchmhmbjhgfdaaW.PrintLast Go.Proofs.YtcchmhmbjhgfdaaW.PrintMore
attribute [local go_sem] max2_int min2_int max_two min_two max_three min_three max_four min_four Own.str_gtr Own.str_leq Own.str_geq Own.sto_fn   -- for this text's walks alone
open Own
set_option linter.unusedVariables false
set_option linter.unusedSimpArgs false

/-! ### laws_FnExactNodesWith: function 5 -/
def laws_FnExactNodesWith.j0 : Nat → ByteArray → List Int → List Int → Bool → List (S170) → List (S173) → Int → Int → Option (Bool)
  | 0, _, _, _, _, _, _, _, _ => none
  | k + 1, x1, x6, x8, x49, x102000, x102001, x102002, x102003 => if x49 = true then (some false) else ((laws_markIntS.f k x8 1).bind fun bt138 => ((laws_heldIntS.f k bt138.2 1).bind fun t140 => (if t140 < 0 then (some false) else (if t140 = bt138.1 then ((laws_toGraph.f k x102000 x102001 x102002 x102003).bind fun bt141 => ((impl_NodesWith.f k bt141.1 bt141.2.1 bt141.2.2.1 bt141.2.2.2 x1).bind fun t149 => ((laws_eqIntS.f k t149 x6).bind fun t152 => (if t152 = true then ((laws_heldIntS.f k bt138.2 1).bind fun t153 => (if t153 < 0 then (some false) else (if t153 = bt138.1 then (some true) else (some false)))) else (some false))))) else (some false)))))
def laws_FnExactNodesWith.f (k : Nat) (l0_0 : List (S170)) (l0_1 : List (S173)) (a0_2 : Int) (a0_3 : Int) (a1 : ByteArray) : Option (Bool) := if (a1.size : Int) > 1048576 then (some true) else ((laws_szGraph.f k l0_0 l0_1 a0_2 a0_3 1048576).bind fun t102 => (if t102 < 0 then (some true) else ((laws_toGraph.f k l0_0 l0_1 a0_2 a0_3).bind fun bt103 => ((spec_NodesWith.f k bt103.1 bt103.2.1 bt103.2.2.1 bt103.2.2.2 a1).bind fun t111 => ((laws_toGraph.f k l0_0 l0_1 a0_2 a0_3).bind fun bt114 => ((impl_NodesWith.f k bt114.1 bt114.2.1 bt114.2.2.1 bt114.2.2.2 a1).bind fun t123 => ((laws_eqIntS.f k t123 t111).bind fun t126 => (if t126 = true then ((laws_toGraph.f k l0_0 l0_1 a0_2 a0_3).bind fun bt127 => ((laws_eqGraph.f k bt114.1 bt114.2.1 bt114.2.2.1 bt114.2.2.2 bt127.1 bt127.2.1 bt127.2.2.1 bt127.2.2.2).bind fun t135 => (if t135 = true then ((laws_markGraph.f bt114.1 bt114.2.1 bt114.2.2.1 bt114.2.2.2 1).bind fun t136 => (if t136 < 0 then (laws_FnExactNodesWith.j0 k a1 t111 t123 true l0_0 l0_1 a0_2 a0_3) else ((laws_eqIntS.f k t123 t111).bind fun t137 => (laws_FnExactNodesWith.j0 k a1 t111 t123 (!t137) l0_0 l0_1 a0_2 a0_3)))) else (some false)))) else (some false)))))))))
set_option maxHeartbeats 8000000 in
set_option maxRecDepth 100000 in
theorem laws_FnExactNodesWith.calls (k : Nat) (A0_0 : Option Addr) (c0_0 : Nat) (l0_0 : List (S170)) (A0_1 : Option Addr) (c0_1 : Nat) (l0_1 : List (S173)) (a0_2 : Int) (a0_3 : Int) (a1 : ByteArray) (r : Bool) (w : World) (hr0_0 : Kd.C k170 w A0_0 l0_0.length l0_0) (hc0_0 : l0_0.length ≤ c0_0) (hr0_1 : Kd.C k173 w A0_1 l0_1.length l0_1) (hc0_1 : l0_1.length ≤ c0_1) (h : laws_FnExactNodesWith.f k l0_0 l0_1 a0_2 a0_3 a1 = some r) :
    Calls Try.prog 5 #[.agg #[.slice A0_0 l0_0.length c0_0, .slice A0_1 l0_1.length c0_1, .int .i64 a0_2, .int .i64 a0_3], .string a1] w fun e w' => e = .returned (.bool r) ∧ Below w.heap.size w w' := by
  have hu25 := Try.underlying25
  have hu31 := Try.underlying31
  have HR0_0 := Aside0.mk hr0_0
  have HC0_0 := Aside0.mk hc0_0
  clear hr0_0 hc0_0
  have HR0_1 := Aside0.mk hr0_1
  have HC0_1 := Aside0.mk hc0_1
  clear hr0_1 hc0_1
  have HB := Aside0.mk (Below.refl w.heap.size w)
  have H : (if (a1.size : Int) > 1048576 then (some true) else ((laws_szGraph.f k l0_0 l0_1 a0_2 a0_3 1048576).bind fun t102 => (if t102 < 0 then (some true) else ((laws_toGraph.f k l0_0 l0_1 a0_2 a0_3).bind fun bt103 => ((spec_NodesWith.f k bt103.1 bt103.2.1 bt103.2.2.1 bt103.2.2.2 a1).bind fun t111 => ((laws_toGraph.f k l0_0 l0_1 a0_2 a0_3).bind fun bt114 => ((impl_NodesWith.f k bt114.1 bt114.2.1 bt114.2.2.1 bt114.2.2.2 a1).bind fun t123 => ((laws_eqIntS.f k t123 t111).bind fun t126 => (if t126 = true then ((laws_toGraph.f k l0_0 l0_1 a0_2 a0_3).bind fun bt127 => ((laws_eqGraph.f k bt114.1 bt114.2.1 bt114.2.2.1 bt114.2.2.2 bt127.1 bt127.2.1 bt127.2.2.1 bt127.2.2.2).bind fun t135 => (if t135 = true then ((laws_markGraph.f bt114.1 bt114.2.1 bt114.2.2.1 bt114.2.2.2 1).bind fun t136 => (if t136 < 0 then (laws_FnExactNodesWith.j0 k a1 t111 t123 true l0_0 l0_1 a0_2 a0_3) else ((laws_eqIntS.f k t123 t111).bind fun t137 => (laws_FnExactNodesWith.j0 k a1 t111 t123 (!t137) l0_0 l0_1 a0_2 a0_3)))) else (some false)))) else (some false)))))))))) = some r := h
  clear h
  by_cases c3 : (a1.size : Int) > 1048576
  rotate_left
  rw [if_neg c3] at H
  have c3b0 : decide (1048576 < (a1.size : Int)) = false := decide_eq_false c3
  have c3b1 : decide (1048576 < a1.size) = false := decide_eq_false (by omega)
  clear c3
  replace H := Option.bind_eq_some_iff.mp H
  obtain ⟨t102, A50, H⟩ := H
  replace H : (if t102 < 0 then (some true) else ((laws_toGraph.f k l0_0 l0_1 a0_2 a0_3).bind fun bt103 => ((spec_NodesWith.f k bt103.1 bt103.2.1 bt103.2.2.1 bt103.2.2.2 a1).bind fun t111 => ((laws_toGraph.f k l0_0 l0_1 a0_2 a0_3).bind fun bt114 => ((impl_NodesWith.f k bt114.1 bt114.2.1 bt114.2.2.1 bt114.2.2.2 a1).bind fun t123 => ((laws_eqIntS.f k t123 t111).bind fun t126 => (if t126 = true then ((laws_toGraph.f k l0_0 l0_1 a0_2 a0_3).bind fun bt127 => ((laws_eqGraph.f k bt114.1 bt114.2.1 bt114.2.2.1 bt114.2.2.2 bt127.1 bt127.2.1 bt127.2.2.1 bt127.2.2.2).bind fun t135 => (if t135 = true then ((laws_markGraph.f bt114.1 bt114.2.1 bt114.2.2.1 bt114.2.2.2 1).bind fun t136 => (if t136 < 0 then (laws_FnExactNodesWith.j0 k a1 t111 t123 true l0_0 l0_1 a0_2 a0_3) else ((laws_eqIntS.f k t123 t111).bind fun t137 => (laws_FnExactNodesWith.j0 k a1 t111 t123 (!t137) l0_0 l0_1 a0_2 a0_3)))) else (some false)))) else (some false)))))))) = some r := H
  have A5 := Aside0.mk A50
  clear A50
  by_cases c6 : t102 < 0
  rotate_left
  rw [if_neg c6] at H
  have c6b0 : decide (t102 < 0) = false := decide_eq_false c6
  clear c6
  replace H := Option.bind_eq_some_iff.mp H
  obtain ⟨⟨t103, t106, t109, t110⟩, A100, H⟩ := H
  replace H : ((spec_NodesWith.f k t103 t106 t109 t110 a1).bind fun t111 => ((laws_toGraph.f k l0_0 l0_1 a0_2 a0_3).bind fun bt114 => ((impl_NodesWith.f k bt114.1 bt114.2.1 bt114.2.2.1 bt114.2.2.2 a1).bind fun t123 => ((laws_eqIntS.f k t123 t111).bind fun t126 => (if t126 = true then ((laws_toGraph.f k l0_0 l0_1 a0_2 a0_3).bind fun bt127 => ((laws_eqGraph.f k bt114.1 bt114.2.1 bt114.2.2.1 bt114.2.2.2 bt127.1 bt127.2.1 bt127.2.2.1 bt127.2.2.2).bind fun t135 => (if t135 = true then ((laws_markGraph.f bt114.1 bt114.2.1 bt114.2.2.1 bt114.2.2.2 1).bind fun t136 => (if t136 < 0 then (laws_FnExactNodesWith.j0 k a1 t111 t123 true l0_0 l0_1 a0_2 a0_3) else ((laws_eqIntS.f k t123 t111).bind fun t137 => (laws_FnExactNodesWith.j0 k a1 t111 t123 (!t137) l0_0 l0_1 a0_2 a0_3)))) else (some false)))) else (some false)))))) = some r := H
  have A10 := Aside0.mk A100
  clear A100
  replace H := Option.bind_eq_some_iff.mp H
  obtain ⟨t111, A110, H⟩ := H
  replace H : ((laws_toGraph.f k l0_0 l0_1 a0_2 a0_3).bind fun bt114 => ((impl_NodesWith.f k bt114.1 bt114.2.1 bt114.2.2.1 bt114.2.2.2 a1).bind fun t123 => ((laws_eqIntS.f k t123 t111).bind fun t126 => (if t126 = true then ((laws_toGraph.f k l0_0 l0_1 a0_2 a0_3).bind fun bt127 => ((laws_eqGraph.f k bt114.1 bt114.2.1 bt114.2.2.1 bt114.2.2.2 bt127.1 bt127.2.1 bt127.2.2.1 bt127.2.2.2).bind fun t135 => (if t135 = true then ((laws_markGraph.f bt114.1 bt114.2.1 bt114.2.2.1 bt114.2.2.2 1).bind fun t136 => (if t136 < 0 then (laws_FnExactNodesWith.j0 k a1 t111 t123 true l0_0 l0_1 a0_2 a0_3) else ((laws_eqIntS.f k t123 t111).bind fun t137 => (laws_FnExactNodesWith.j0 k a1 t111 t123 (!t137) l0_0 l0_1 a0_2 a0_3)))) else (some false)))) else (some false))))) = some r := H
  have A11 := Aside0.mk A110
  clear A110
  replace H := Option.bind_eq_some_iff.mp H
  obtain ⟨⟨t114, t117, t120, t121⟩, A120, H⟩ := H
  replace H : ((impl_NodesWith.f k t114 t117 t120 t121 a1).bind fun t123 => ((laws_eqIntS.f k t123 t111).bind fun t126 => (if t126 = true then ((laws_toGraph.f k l0_0 l0_1 a0_2 a0_3).bind fun bt127 => ((laws_eqGraph.f k t114 t117 t120 t121 bt127.1 bt127.2.1 bt127.2.2.1 bt127.2.2.2).bind fun t135 => (if t135 = true then ((laws_markGraph.f t114 t117 t120 t121 1).bind fun t136 => (if t136 < 0 then (laws_FnExactNodesWith.j0 k a1 t111 t123 true l0_0 l0_1 a0_2 a0_3) else ((laws_eqIntS.f k t123 t111).bind fun t137 => (laws_FnExactNodesWith.j0 k a1 t111 t123 (!t137) l0_0 l0_1 a0_2 a0_3)))) else (some false)))) else (some false)))) = some r := H
  have A12 := Aside0.mk A120
  clear A120
  replace H := Option.bind_eq_some_iff.mp H
  obtain ⟨t123, A130, H⟩ := H
  replace H : ((laws_eqIntS.f k t123 t111).bind fun t126 => (if t126 = true then ((laws_toGraph.f k l0_0 l0_1 a0_2 a0_3).bind fun bt127 => ((laws_eqGraph.f k t114 t117 t120 t121 bt127.1 bt127.2.1 bt127.2.2.1 bt127.2.2.2).bind fun t135 => (if t135 = true then ((laws_markGraph.f t114 t117 t120 t121 1).bind fun t136 => (if t136 < 0 then (laws_FnExactNodesWith.j0 k a1 t111 t123 true l0_0 l0_1 a0_2 a0_3) else ((laws_eqIntS.f k t123 t111).bind fun t137 => (laws_FnExactNodesWith.j0 k a1 t111 t123 (!t137) l0_0 l0_1 a0_2 a0_3)))) else (some false)))) else (some false))) = some r := H
  have A13 := Aside0.mk A130
  clear A130
  replace H := Option.bind_eq_some_iff.mp H
  obtain ⟨t126, A140, H⟩ := H
  replace H : (if t126 = true then ((laws_toGraph.f k l0_0 l0_1 a0_2 a0_3).bind fun bt127 => ((laws_eqGraph.f k t114 t117 t120 t121 bt127.1 bt127.2.1 bt127.2.2.1 bt127.2.2.2).bind fun t135 => (if t135 = true then ((laws_markGraph.f t114 t117 t120 t121 1).bind fun t136 => (if t136 < 0 then (laws_FnExactNodesWith.j0 k a1 t111 t123 true l0_0 l0_1 a0_2 a0_3) else ((laws_eqIntS.f k t123 t111).bind fun t137 => (laws_FnExactNodesWith.j0 k a1 t111 t123 (!t137) l0_0 l0_1 a0_2 a0_3)))) else (some false)))) else (some false)) = some r := H
  have A14 := Aside0.mk A140
  clear A140
  by_cases c15 : t126 = true
  rotate_left
  replace c15 := Bool.eq_false_iff.mpr c15
  subst c15
  have H1 : (some false) = some r := by rw [if_neg (show ¬ (false = true) by decide)] at H; exact H
  clear H
  have H := H1
  clear H1
  obtain rfl := Option.some.inj H
  rotate_right
  subst c15
  have H1 : ((laws_toGraph.f k l0_0 l0_1 a0_2 a0_3).bind fun bt127 => ((laws_eqGraph.f k t114 t117 t120 t121 bt127.1 bt127.2.1 bt127.2.2.1 bt127.2.2.2).bind fun t135 => (if t135 = true then ((laws_markGraph.f t114 t117 t120 t121 1).bind fun t136 => (if t136 < 0 then (laws_FnExactNodesWith.j0 k a1 t111 t123 true l0_0 l0_1 a0_2 a0_3) else ((laws_eqIntS.f k t123 t111).bind fun t137 => (laws_FnExactNodesWith.j0 k a1 t111 t123 (!t137) l0_0 l0_1 a0_2 a0_3)))) else (some false)))) = some r := by rw [if_pos rfl] at H; exact H
  clear H
  have H := H1
  clear H1
  replace H := Option.bind_eq_some_iff.mp H
  obtain ⟨⟨t127, t130, t133, t134⟩, A160, H⟩ := H
  replace H : ((laws_eqGraph.f k t114 t117 t120 t121 t127 t130 t133 t134).bind fun t135 => (if t135 = true then ((laws_markGraph.f t114 t117 t120 t121 1).bind fun t136 => (if t136 < 0 then (laws_FnExactNodesWith.j0 k a1 t111 t123 true l0_0 l0_1 a0_2 a0_3) else ((laws_eqIntS.f k t123 t111).bind fun t137 => (laws_FnExactNodesWith.j0 k a1 t111 t123 (!t137) l0_0 l0_1 a0_2 a0_3)))) else (some false))) = some r := H
  have A16 := Aside0.mk A160
  clear A160
  replace H := Option.bind_eq_some_iff.mp H
  obtain ⟨t135, A170, H⟩ := H
  replace H : (if t135 = true then ((laws_markGraph.f t114 t117 t120 t121 1).bind fun t136 => (if t136 < 0 then (laws_FnExactNodesWith.j0 k a1 t111 t123 true l0_0 l0_1 a0_2 a0_3) else ((laws_eqIntS.f k t123 t111).bind fun t137 => (laws_FnExactNodesWith.j0 k a1 t111 t123 (!t137) l0_0 l0_1 a0_2 a0_3)))) else (some false)) = some r := H
  have A17 := Aside0.mk A170
  clear A170
  by_cases c18 : t135 = true
  rotate_left
  replace c18 := Bool.eq_false_iff.mpr c18
  subst c18
  have H1 : (some false) = some r := by rw [if_neg (show ¬ (false = true) by decide)] at H; exact H
  clear H
  have H := H1
  clear H1
  obtain rfl := Option.some.inj H
  rotate_right
  subst c18
  have H1 : ((laws_markGraph.f t114 t117 t120 t121 1).bind fun t136 => (if t136 < 0 then (laws_FnExactNodesWith.j0 k a1 t111 t123 true l0_0 l0_1 a0_2 a0_3) else ((laws_eqIntS.f k t123 t111).bind fun t137 => (laws_FnExactNodesWith.j0 k a1 t111 t123 (!t137) l0_0 l0_1 a0_2 a0_3)))) = some r := by rw [if_pos rfl] at H; exact H
  clear H
  have H := H1
  clear H1
  replace H := Option.bind_eq_some_iff.mp H
  obtain ⟨t136, A190, H⟩ := H
  replace H : (if t136 < 0 then (laws_FnExactNodesWith.j0 k a1 t111 t123 true l0_0 l0_1 a0_2 a0_3) else ((laws_eqIntS.f k t123 t111).bind fun t137 => (laws_FnExactNodesWith.j0 k a1 t111 t123 (!t137) l0_0 l0_1 a0_2 a0_3))) = some r := H
  have A19 := Aside0.mk A190
  clear A190
  have HC20 := Aside0.mk H
  clear H
  rotate_right
  rw [if_pos c6] at H
  have c6b0 : decide (t102 < 0) = true := decide_eq_true c6
  clear c6
  obtain rfl := Option.some.inj H
  rotate_right
  rw [if_pos c3] at H
  have c3b0 : decide (1048576 < (a1.size : Int)) = true := decide_eq_true c3
  have c3b1 : decide (1048576 < a1.size) = true := decide_eq_true (by omega)
  clear c3
  obtain rfl := Option.some.inj H
  all_goals
    go_enter Try.func5, Try.ntmps5
  rotate_left
  · go_wp2_with (first | ((with_reducible refine gate_dst (N := 2) rfl ?_); refine bx_ 2 #[.slice A0_0 l0_0.length c0_0, .slice A0_1 l0_1.length c0_1, .int .i64 a0_2, .int .i64 a0_3] 25 ?_; intro gb7101 hg w7 hbox hb; have BK7101 := Aside0.mk (hbox); have GW7101 := gw_ hg; have GE7101 := gw_ hg; replace HB := bs_ hb; clear hb hbox hg; obtain ⟨hcz78_0, hcz78_1, hcz78_2, hcz78_3, hfz78_0, hfz78_1, hfz78_2, hfz78_3⟩ := blk4 BK7101) | ((with_reducible refine gate_callee (f := 15) rfl ?_); refine goesL_ (some 18) rfl rfl Try.func15 (by kernel_rfl) rfl #[.agg #[.slice A0_0 l0_0.length c0_0, .slice A0_1 l0_1.length c0_1, .int .i64 a0_2, .int .i64 a0_3], .int .i64 1048576] rfl ar_ ?_; (with_reducible refine (laws_szGraph.calls k _ _ l0_0 _ _ l0_1 a0_2 a0_3 1048576 t102 _ ?side1 ?side2 ?side3 ?side4 A5.out).mono ?_); (case side1 => exact rdb_ HR0_0); (case side2 => exact HC0_0.out); (case side3 => exact rdb_ HR0_1); (case side4 => exact HC0_1.out); rintro e w9 ⟨rfl, hb⟩; refine ⟨_, rfl, ?_⟩; replace BK7101 := bb_ BK7101 hb; replace HB := bs_ hb; (try clear hb); (try clear hb2); (try clear hk); (try clear hi)))
    go_ret
    exact re_
  rotate_right
  · go_wp2_with (first | ((with_reducible refine gate_dst (N := 2) rfl ?_); refine bx_ 2 #[.slice A0_0 l0_0.length c0_0, .slice A0_1 l0_1.length c0_1, .int .i64 a0_2, .int .i64 a0_3] 25 ?_; intro gb7101 hg w4 hbox hb; have BK7101 := Aside0.mk (hbox); have GW7101 := gw_ hg; have GE7101 := gw_ hg; replace HB := bs_ hb; clear hb hbox hg))
    go_ret
    exact re_
  all_goals
    try go_wp2_with (first | ((with_reducible refine gate_dst (N := 2) rfl ?_); refine bx_ 2 #[.slice A0_0 l0_0.length c0_0, .slice A0_1 l0_1.length c0_1, .int .i64 a0_2, .int .i64 a0_3] 25 ?_; intro gb101 hg w21 hbox hb; have BK101 := Aside0.mk (hbox); have GW101 := gw_ hg; have GE101 := gw_ hg; replace HB := bs_ hb; clear hb hbox hg; obtain ⟨hcz22_0, hcz22_1, hcz22_2, hcz22_3, hfz22_0, hfz22_1, hfz22_2, hfz22_3⟩ := blk4 BK101) | ((with_reducible refine gate_callee (f := 15) rfl ?_); refine goesL_ (some 18) rfl rfl Try.func15 (by kernel_rfl) rfl #[.agg #[.slice A0_0 l0_0.length c0_0, .slice A0_1 l0_1.length c0_1, .int .i64 a0_2, .int .i64 a0_3], .int .i64 1048576] rfl ar_ ?_; (with_reducible refine (laws_szGraph.calls k _ _ l0_0 _ _ l0_1 a0_2 a0_3 1048576 t102 _ ?side1 ?side2 ?side3 ?side4 A5.out).mono ?_); (case side1 => exact rdb_ HR0_0); (case side2 => exact HC0_0.out); (case side3 => exact rdb_ HR0_1); (case side4 => exact HC0_1.out); rintro e w23 ⟨rfl, hb⟩; refine ⟨_, rfl, ?_⟩; replace BK101 := bb_ BK101 hb; replace HB := bs_ hb; (try clear hb); (try clear hb2); (try clear hk); (try clear hi); obtain ⟨hcz24_0, hcz24_1, hcz24_2, hcz24_3, hfz24_0, hfz24_1, hfz24_2, hfz24_3⟩ := blk4 BK101) | ((with_reducible refine gate_callee (f := 17) rfl ?_); refine goesL_ (some 22) rfl rfl Try.func17 (by kernel_rfl) rfl #[.agg #[.slice A0_0 l0_0.length c0_0, .slice A0_1 l0_1.length c0_1, .int .i64 a0_2, .int .i64 a0_3]] rfl ar_ ?_; (with_reducible refine (laws_toGraph.calls k _ _ l0_0 _ _ l0_1 a0_2 a0_3 t103 t106 t109 t110 _ ?side1 ?side2 ?side3 ?side4 A10.out).mono ?_); (case side1 => exact rdb_ HR0_0); (case side2 => exact HC0_0.out); (case side3 => exact rdb_ HR0_1); (case side4 => exact HC0_1.out); rintro e w25 ⟨v104, v107, rfl, ho0, ho1, hb⟩; refine ⟨_, rfl, ?_⟩; have HO105 := Aside0.mk (Kd.R_lower ho0 (below_size (bel_))); have HO108 := Aside0.mk (Kd.R_lower ho1 (below_size (bel_))); replace BK101 := bb_ BK101 hb; replace HB := bs_ hb; (try clear hb); (try clear hb2); (try clear hk); (try clear hi); (try clear ho0); (try clear ho1); obtain ⟨Ao26, co26, eo26⟩ := Kd.R_slice HO105.out; subst eo26; obtain ⟨Ao27, co27, eo27⟩ := Kd.R_slice HO108.out; subst eo27) | ((with_reducible refine gate_callee (f := 26) rfl ?_); refine goesL_ (some 24) rfl rfl Try.func26 (by kernel_rfl) rfl #[.agg #[.slice Ao26 t103.length co26, .slice Ao27 t106.length co27, .int .i64 t109, .int .i64 t110], .string a1] rfl ar_ ?_; (with_reducible refine (spec_NodesWith.calls k _ _ t103 _ _ t106 t109 t110 a1 t111 _ ?side1 ?side2 ?side3 ?side4 A11.out).mono ?_); (case side1 => repeat (first | exact (Kd.R_reads' HO105.out).2.2 | (with_reducible refine Kd.C_alloc ?_ _) | (with_reducible refine Kd.C_drewN ?_ _) | (with_reducible refine Kd.C_drew ?_))); (case side2 => exact (Kd.R_reads' HO105.out).2.1); (case side3 => repeat (first | exact (Kd.R_reads' HO108.out).2.2 | (with_reducible refine Kd.C_alloc ?_ _) | (with_reducible refine Kd.C_drewN ?_ _) | (with_reducible refine Kd.C_drew ?_))); (case side4 => exact (Kd.R_reads' HO108.out).2.1); rintro e w28 ⟨v112, rfl, ho0, hb⟩; refine ⟨_, rfl, ?_⟩; have HO113 := Aside0.mk (Kd.R_lower ho0 (below_size (bel_))); replace HO105 := Aside0.mk (Kd.R_below (by (with_reducible repeat (first | apply Kd.R_alloc | apply Kd.R_drewN | apply Kd.R_drew)); exact HO105.out) hb); replace HO108 := Aside0.mk (Kd.R_below (by (with_reducible repeat (first | apply Kd.R_alloc | apply Kd.R_drewN | apply Kd.R_drew)); exact HO108.out) hb); replace BK101 := bb_ BK101 hb; replace HB := bs_ hb; (try clear hb); (try clear hb2); (try clear hk); (try clear hi); (try clear ho0); obtain ⟨hcz29_0, hcz29_1, hcz29_2, hcz29_3, hfz29_0, hfz29_1, hfz29_2, hfz29_3⟩ := blk4 BK101) | ((with_reducible refine gate_callee (f := 17) rfl ?_); refine goesL_ (some 26) rfl rfl Try.func17 (by kernel_rfl) rfl #[.agg #[.slice A0_0 l0_0.length c0_0, .slice A0_1 l0_1.length c0_1, .int .i64 a0_2, .int .i64 a0_3]] rfl ar_ ?_; (with_reducible refine (laws_toGraph.calls k _ _ l0_0 _ _ l0_1 a0_2 a0_3 t114 t117 t120 t121 _ ?side1 ?side2 ?side3 ?side4 A12.out).mono ?_); (case side1 => exact rdb_ HR0_0); (case side2 => exact HC0_0.out); (case side3 => exact rdb_ HR0_1); (case side4 => exact HC0_1.out); rintro e w30 ⟨v115, v118, rfl, ho0, ho1, hb⟩; refine ⟨_, rfl, ?_⟩; have HO116 := Aside0.mk (Kd.R_lower (Kd.R_new' ho0 (Kd.R_lt (by (with_reducible repeat (first | apply Kd.R_alloc | apply Kd.R_drewN | apply Kd.R_drew)); exact HO105.out))) (below_size (bel_))); have HO119 := Aside0.mk (Kd.R_lower (Kd.R_new' ho1 (Kd.R_lt (by (with_reducible repeat (first | apply Kd.R_alloc | apply Kd.R_drewN | apply Kd.R_drew)); exact HO108.out))) (below_size (bel_))); replace HO105 := Aside0.mk (Kd.R_elder' (by (with_reducible repeat (first | apply Kd.R_alloc | apply Kd.R_drewN | apply Kd.R_drew)); exact HO105.out) (Kd.R_base ho0) hb); replace HO108 := Aside0.mk (Kd.R_elder' (by (with_reducible repeat (first | apply Kd.R_alloc | apply Kd.R_drewN | apply Kd.R_drew)); exact HO108.out) (Kd.R_base ho1) hb); replace HO113 := Aside0.mk (Kd.R_below (by (with_reducible repeat (first | apply Kd.R_alloc | apply Kd.R_drewN | apply Kd.R_drew)); exact HO113.out) hb); replace BK101 := bb_ BK101 hb; replace HB := bs_ hb; (try clear hb); (try clear hb2); (try clear hk); (try clear hi); (try clear ho0); (try clear ho1)) | ((with_reducible refine gate_dst (N := 7) rfl ?_); refine bx_ 7 #[.slice none 0 0, .slice none 0 0, .int .i64 0, .int .i64 0] 31 ?_; intro gb122 hg w31 hbox hb; have BK122 := Aside0.mk (hbox); have GW122 := gw_ hg; have GE122 := gw_ hg; have NB101_122 := nlt_ hg BK101; have NB122_101 := ngt_ hg BK101; replace HO105 := Aside0.mk (Kd.R_below (by (with_reducible repeat (first | apply Kd.R_alloc | apply Kd.R_drewN | apply Kd.R_drew)); exact HO105.out) hb); replace HO108 := Aside0.mk (Kd.R_below (by (with_reducible repeat (first | apply Kd.R_alloc | apply Kd.R_drewN | apply Kd.R_drew)); exact HO108.out) hb); replace HO113 := Aside0.mk (Kd.R_below (by (with_reducible repeat (first | apply Kd.R_alloc | apply Kd.R_drewN | apply Kd.R_drew)); exact HO113.out) hb); replace HO116 := Aside0.mk (Kd.R_below (by (with_reducible repeat (first | apply Kd.R_alloc | apply Kd.R_drewN | apply Kd.R_drew)); exact HO116.out) hb); replace HO119 := Aside0.mk (Kd.R_below (by (with_reducible repeat (first | apply Kd.R_alloc | apply Kd.R_drewN | apply Kd.R_drew)); exact HO119.out) hb); replace BK101 := bb_ BK101 hb; replace HB := bs_ hb; clear hb hbox hg; obtain ⟨Ao32, co32, eo32⟩ := Kd.R_slice HO116.out; subst eo32; have hnb33 := NB122_101.out; have hnc33 := NB101_122.out; obtain ⟨hcz34_0, hcz34_1, hcz34_2, hcz34_3, hfz34_0, hfz34_1, hfz34_2, hfz34_3⟩ := blk4 BK122; obtain ⟨Ao35, co35, eo35⟩ := Kd.R_slice HO119.out; subst eo35) | ((with_reducible refine gate_callee (f := 27) rfl ?_); refine goesL_ (some 29) rfl rfl Try.func27 (by kernel_rfl) rfl #[.agg #[.slice Ao32 t114.length co32, .slice Ao35 t117.length co35, .int .i64 t120, .int .i64 t121], .string a1] rfl ar_ ?_; (with_reducible refine (impl_NodesWith.calls k _ _ t114 _ _ t117 t120 t121 a1 t123 _ ?side1 ?side2 ?side3 ?side4 A13.out).mono ?_); (case side1 => refine (Kd.R_reads' (e := 99) (base := w.heap.size) (ok := fun k_ => (True ∧ some k_ ≠ (.slice Ao26 t103.length co26 : Value).ownBlock)) (n := t114.length) (c := co32) ?_).2.2; exact (by (with_reducible repeat (first | apply Kd.R_alloc | apply Kd.R_drewN | apply Kd.R_drew)); exact (Kd.R_mono (rf4 gb122 (Kd.R_types HO116.out BK122.out (by decide)) (fun _ hk => hk.2)) (fun _ h_ => h_.1)))); (case side2 => exact (Kd.R_reads' HO116.out).2.1); (case side3 => refine (Kd.R_reads' (e := 104) (base := w.heap.size) (ok := fun k_ => (True ∧ some k_ ≠ (.slice Ao27 t106.length co27 : Value).ownBlock)) (n := t117.length) (c := co35) ?_).2.2; exact (by (with_reducible repeat (first | apply Kd.R_alloc | apply Kd.R_drewN | apply Kd.R_drew)); exact (Kd.R_mono (rf4 gb122 (Kd.R_types HO119.out BK122.out (by decide)) (fun _ hk => hk.2)) (fun _ h_ => h_.1)))); (case side4 => exact (Kd.R_reads' HO119.out).2.1); rintro e w36 ⟨v124, rfl, ho0, hb⟩; refine ⟨_, rfl, ?_⟩; have HO125 := Aside0.mk (Kd.R_lower (Kd.R_new' ho0 (Kd.R_lt (by (with_reducible repeat (first | apply Kd.R_alloc | apply Kd.R_drewN | apply Kd.R_drew)); exact (Kd.R_mono (rf4 gb122 (Kd.R_types HO113.out BK122.out (by decide)) (fun _ hk => hk.2)) (fun _ h_ => h_.1))))) (below_size (bel_))); replace HO105 := Aside0.mk (Kd.R_below (by (with_reducible repeat (first | apply Kd.R_alloc | apply Kd.R_drewN | apply Kd.R_drew)); exact (Kd.R_mono (rf4 gb122 (Kd.R_types HO105.out BK122.out (by decide)) (fun _ hk => hk.2)) (fun _ h_ => h_.1))) hb); replace HO108 := Aside0.mk (Kd.R_below (by (with_reducible repeat (first | apply Kd.R_alloc | apply Kd.R_drewN | apply Kd.R_drew)); exact (Kd.R_mono (rf4 gb122 (Kd.R_types HO108.out BK122.out (by decide)) (fun _ hk => hk.2)) (fun _ h_ => h_.1))) hb); replace HO113 := Aside0.mk (Kd.R_elder' (by (with_reducible repeat (first | apply Kd.R_alloc | apply Kd.R_drewN | apply Kd.R_drew)); exact (Kd.R_mono (rf4 gb122 (Kd.R_types HO113.out BK122.out (by decide)) (fun _ hk => hk.2)) (fun _ h_ => h_.1))) (Kd.R_base ho0) hb); replace HO116 := Aside0.mk (Kd.R_below (by (with_reducible repeat (first | apply Kd.R_alloc | apply Kd.R_drewN | apply Kd.R_drew)); exact (Kd.R_mono (rf4 gb122 (Kd.R_types HO116.out BK122.out (by decide)) (fun _ hk => hk.2)) (fun _ h_ => h_.1))) hb); replace HO119 := Aside0.mk (Kd.R_below (by (with_reducible repeat (first | apply Kd.R_alloc | apply Kd.R_drewN | apply Kd.R_drew)); exact (Kd.R_mono (rf4 gb122 (Kd.R_types HO119.out BK122.out (by decide)) (fun _ hk => hk.2)) (fun _ h_ => h_.1))) hb); replace BK101 := Aside0.mk (blk_below (g := gb101) (o := .cells #[.slice A0_0 l0_0.length c0_0, .slice A0_1 l0_1.length c0_1, .int .i64 a0_2, .int .i64 a0_3] 25 (0, 0)) (by refine pe_ ?_; refine blk_far ?_ NB101_122.out _; refine pe_ ?_; refine blk_far ?_ NB101_122.out _; refine pe_ ?_; refine blk_far ?_ NB101_122.out _; refine pe_ ?_; refine blk_far ?_ NB101_122.out _; refine pe_ ?_; exact BK101.out) hb); replace BK122 := Aside0.mk (blk_below (g := gb122) (o := .cells #[.slice Ao32 t114.length co32, .slice Ao35 t117.length co35, .int .i64 t120, .int .i64 t121] 31 (0, 0)) (by refine pe_ ?_; refine blk_put (cs := #[.slice Ao32 t114.length co32, .slice Ao35 t117.length co35, .int .i64 t120, .int .i64 0]) ?_ 3 _ rfl; refine pe_ ?_; refine blk_put (cs := #[.slice Ao32 t114.length co32, .slice Ao35 t117.length co35, .int .i64 0, .int .i64 0]) ?_ 2 _ rfl; refine pe_ ?_; refine blk_put (cs := #[.slice Ao32 t114.length co32, .slice none 0 0, .int .i64 0, .int .i64 0]) ?_ 1 _ rfl; refine pe_ ?_; refine blk_put (cs := #[.slice none 0 0, .slice none 0 0, .int .i64 0, .int .i64 0]) ?_ 0 _ rfl; refine pe_ ?_; exact BK122.out) hb); replace HB := bs_ hb; (try clear hb); (try clear hb2); (try clear hk); (try clear hi); (try clear ho0); obtain ⟨Ao37, co37, eo37⟩ := Kd.R_slice HO125.out; subst eo37; obtain ⟨Ao38, co38, eo38⟩ := Kd.R_slice HO113.out; subst eo38) | ((with_reducible refine gate_callee (f := 22) rfl ?_); refine goesL_ (some 32) rfl rfl Try.func22 (by kernel_rfl) rfl #[.slice Ao37 t123.length co37, .slice Ao38 t111.length co38] rfl ar_ ?_; (with_reducible refine (laws_eqIntS.calls k _ _ t123 _ _ t111 _ _ ?side1 ?side2 ?side3 ?side4 A14.out).mono ?_); (case side1 => repeat (first | exact (Kd.R_reads' HO125.out).2.2 | (with_reducible refine Kd.C_alloc ?_ _) | (with_reducible refine Kd.C_drewN ?_ _) | (with_reducible refine Kd.C_drew ?_))); (case side2 => exact (Kd.R_reads' HO125.out).2.1); (case side3 => repeat (first | exact (Kd.R_reads' HO113.out).2.2 | (with_reducible refine Kd.C_alloc ?_ _) | (with_reducible refine Kd.C_drewN ?_ _) | (with_reducible refine Kd.C_drew ?_))); (case side4 => exact (Kd.R_reads' HO113.out).2.1); rintro e w' ⟨rfl, ⟨nd, rfl⟩⟩; refine ⟨_, rfl, ?_⟩))
  rotate_left 2
  · go_ret
    exact re_
  all_goals
    (try (rw [drewN_self w36]; generalize hq_ : World.drewN w36 _ = w36; have n0_ : Aside0 (Kd.R k99 99 w36 w.heap.size (fun k_ => (True ∧ some k_ ≠ (.slice Ao32 t114.length co32 : Value).ownBlock)) (.slice Ao26 t103.length co26) t103) := ⟨by rw [← hq_]; exact (by (with_reducible repeat (first | apply Kd.R_alloc | apply Kd.R_drewN | apply Kd.R_drew)); exact HO105.out)⟩; have n1_ : Aside0 (Kd.R k104 104 w36 w.heap.size (fun k_ => (True ∧ some k_ ≠ (.slice Ao35 t117.length co35 : Value).ownBlock)) (.slice Ao27 t106.length co27) t106) := ⟨by rw [← hq_]; exact (by (with_reducible repeat (first | apply Kd.R_alloc | apply Kd.R_drewN | apply Kd.R_drew)); exact HO108.out)⟩; have n2_ : Aside0 (Kd.R (Kd.int .i64) 3 w36 w.heap.size (fun k_ => (True ∧ some k_ ≠ (.slice Ao37 t123.length co37 : Value).ownBlock)) (.slice Ao38 t111.length co38) t111) := ⟨by rw [← hq_]; exact (by (with_reducible repeat (first | apply Kd.R_alloc | apply Kd.R_drewN | apply Kd.R_drew)); exact HO113.out)⟩; have n3_ : Aside0 (Kd.R k99 99 w36 w.heap.size (fun k_ => (True ∧ some k_ ≠ (.slice Ao26 t103.length co26 : Value).ownBlock)) (.slice Ao32 t114.length co32) t114) := ⟨by rw [← hq_]; exact (by (with_reducible repeat (first | apply Kd.R_alloc | apply Kd.R_drewN | apply Kd.R_drew)); exact HO116.out)⟩; have n4_ : Aside0 (Kd.R k104 104 w36 w.heap.size (fun k_ => (True ∧ some k_ ≠ (.slice Ao27 t106.length co27 : Value).ownBlock)) (.slice Ao35 t117.length co35) t117) := ⟨by rw [← hq_]; exact (by (with_reducible repeat (first | apply Kd.R_alloc | apply Kd.R_drewN | apply Kd.R_drew)); exact HO119.out)⟩; have n5_ : Aside0 (Kd.R (Kd.int .i64) 3 w36 w.heap.size (fun k_ => (True ∧ some k_ ≠ (.slice Ao38 t111.length co38 : Value).ownBlock)) (.slice Ao37 t123.length co37) t123) := ⟨by rw [← hq_]; exact (by (with_reducible repeat (first | apply Kd.R_alloc | apply Kd.R_drewN | apply Kd.R_drew)); exact HO125.out)⟩; have n6_ : Aside0 (w36.heap[gb101]? = some (.cells #[.slice A0_0 l0_0.length c0_0, .slice A0_1 l0_1.length c0_1, .int .i64 a0_2, .int .i64 a0_3] 25 (0, 0))) := ⟨by rw [← hq_]; exact (bk_ BK101)⟩; have n7_ : Aside0 (w36.heap[gb122]? = some (.cells #[.slice Ao32 t114.length co32, .slice Ao35 t117.length co35, .int .i64 t120, .int .i64 t121] 31 (0, 0))) := ⟨by rw [← hq_]; exact (bk_ BK122)⟩; have n8_ : Aside0 (Below w.heap.size w w36) := ⟨by rw [← hq_]; exact (bel_)⟩; clear HO105 HO108 HO113 HO116 HO119 HO125 BK101 BK122 HB hq_; have HO105 := n0_; have HO108 := n1_; have HO113 := n2_; have HO116 := n3_; have HO119 := n4_; have HO125 := n5_; have BK101 := n6_; have BK122 := n7_; have HB := n8_; clear n0_ n1_ n2_ n3_ n4_ n5_ n6_ n7_ n8_))
    replace HO105 := Aside0.mk (Kd.R_drew HO105.out)
    replace HO108 := Aside0.mk (Kd.R_drew HO108.out)
    replace HO113 := Aside0.mk (Kd.R_drew HO113.out)
    replace HO116 := Aside0.mk (Kd.R_drew HO116.out)
    replace HO119 := Aside0.mk (Kd.R_drew HO119.out)
    replace HO125 := Aside0.mk (Kd.R_drew HO125.out)
    replace BK101 := Aside0.mk (blk_drew BK101.out)
    replace BK122 := Aside0.mk (blk_drew BK122.out)
    replace HB := Aside0.mk (below_drew1 HB.out)
    refine start_ (n := 5) (S := fun w' => w'.cell? ⟨gb122, 0, none⟩ = some (.slice Ao32 t114.length co32) ∧ w'.cell? ⟨gb122, 1, none⟩ = some (.slice Ao35 t117.length co35) ∧ w'.cell? ⟨gb122, 2, none⟩ = some (.int .i64 t120) ∧ w'.cell? ⟨gb122, 3, none⟩ = some (.int .i64 t121) ∧ w'.cell? ⟨gb101, 0, none⟩ = some (.slice A0_0 l0_0.length c0_0) ∧ w'.cell? ⟨gb101, 1, none⟩ = some (.slice A0_1 l0_1.length c0_1) ∧ w'.cell? ⟨gb101, 2, none⟩ = some (.int .i64 a0_2) ∧ w'.cell? ⟨gb101, 3, none⟩ = some (.int .i64 a0_3)) (ds := []) #[false, false, false, false, false] (by kernel_rfl) rfl rfl ⟨(blkc BK122 0), (blkc BK122 1), (blkc BK122 2), (blkc BK122 3), (blkc BK101 0), (blkc BK101 1), (blkc BK101 2), (blkc BK101 3)⟩ (fun hHeld => ?_)
    generalize w36.drew = w39 at HO105 HO108 HO113 HO116 HO119 HO125 BK101 BK122 HB hHeld ⊢
    refine take_ (i := 0) (N := some 34) (v := ?_) (a' := ?_) #[true, false, false, false, false] rfl rfl (by kernel_rfl) (fun _ _ _ h => h) (Or.inl ⟨by rfl, ?_⟩) hHeld ?_ ?_
    rotate_left
    · rintro w' ⟨s0, s1, s2, s3, s4, s5, s6, s7⟩
      go_simp
      with_reducible rfl
    rotate_left
    · simp only [Act.put, List.setIfInBounds_toArray, List.set_cons_zero, List.set_cons_succ, i64_w, i32_w]
      rfl
    refine take_ (i := 1) (N := some 35) (v := ?_) (a' := ?_) #[true, true, false, false, false] rfl rfl (by kernel_rfl) (fun _ _ _ h => h) (Or.inl ⟨by rfl, ?_⟩) hHeld ?_ ?_
    rotate_left
    · rintro w' ⟨s0, s1, s2, s3, s4, s5, s6, s7⟩
      go_simp
      with_reducible rfl
    rotate_left
    · simp only [Act.put, List.setIfInBounds_toArray, List.set_cons_zero, List.set_cons_succ, i64_w, i32_w]
      rfl
    refine one_ (i := 2) (N := some 36) #[true, true, true, false, false] rfl rfl (by kernel_rfl) (by decide) (fun K hK => ?_)
    refine goes_ Try.func17 (by kernel_rfl) rfl #[.agg #[.slice A0_0 l0_0.length c0_0, .slice A0_1 l0_1.length c0_1, .int .i64 a0_2, .int .i64 a0_3]] (by rfl) rfl rfl ar_ ?_
    with_reducible refine (laws_toGraph.calls k _ _ l0_0 _ _ l0_1 a0_2 a0_3 t127 t130 t133 t134 _ ?side1 ?side2 ?side3 ?side4 A16.out).mono ?_
    (case side1 => exact rdb_ HR0_0)
    (case side2 => exact HC0_0.out)
    (case side3 => exact rdb_ HR0_1)
    (case side4 => exact HC0_1.out)
    rintro e w40 ⟨v128, v131, rfl, ho0, ho1, hb⟩
    refine ⟨_, rfl, ?_⟩
    have HO129 := Aside0.mk (Kd.R_lower (Kd.R_new' (Kd.R_new' ho0 (Kd.R_lt (by (with_reducible repeat (first | apply Kd.R_alloc | apply Kd.R_drewN | apply Kd.R_drew)); exact HO105.out))) (Kd.R_lt (by (with_reducible repeat (first | apply Kd.R_alloc | apply Kd.R_drewN | apply Kd.R_drew)); exact HO116.out))) (below_size (bel_)))
    have HO132 := Aside0.mk (Kd.R_lower (Kd.R_new' (Kd.R_new' ho1 (Kd.R_lt (by (with_reducible repeat (first | apply Kd.R_alloc | apply Kd.R_drewN | apply Kd.R_drew)); exact HO108.out))) (Kd.R_lt (by (with_reducible repeat (first | apply Kd.R_alloc | apply Kd.R_drewN | apply Kd.R_drew)); exact HO119.out))) (below_size (bel_)))
    replace HO105 := Aside0.mk (Kd.R_elder' (by (with_reducible repeat (first | apply Kd.R_alloc | apply Kd.R_drewN | apply Kd.R_drew)); exact HO105.out) (Kd.R_base ho0) hb)
    replace HO108 := Aside0.mk (Kd.R_elder' (by (with_reducible repeat (first | apply Kd.R_alloc | apply Kd.R_drewN | apply Kd.R_drew)); exact HO108.out) (Kd.R_base ho1) hb)
    replace HO113 := Aside0.mk (Kd.R_below (by (with_reducible repeat (first | apply Kd.R_alloc | apply Kd.R_drewN | apply Kd.R_drew)); exact HO113.out) hb)
    replace HO116 := Aside0.mk (Kd.R_elder' (by (with_reducible repeat (first | apply Kd.R_alloc | apply Kd.R_drewN | apply Kd.R_drew)); exact HO116.out) (Kd.R_base ho0) hb)
    replace HO119 := Aside0.mk (Kd.R_elder' (by (with_reducible repeat (first | apply Kd.R_alloc | apply Kd.R_drewN | apply Kd.R_drew)); exact HO119.out) (Kd.R_base ho1) hb)
    replace HO125 := Aside0.mk (Kd.R_below (by (with_reducible repeat (first | apply Kd.R_alloc | apply Kd.R_drewN | apply Kd.R_drew)); exact HO125.out) hb)
    replace BK101 := bb_ BK101 hb
    replace BK122 := bb_ BK122 hb
    replace HB := bs_ hb
    (try clear hb)
    (try clear hb2)
    (try clear hk)
    (try clear hi)
    (try clear ho0)
    (try clear ho1)
    obtain ⟨Ao41, co41, eo41⟩ := Kd.R_slice HO129.out
    (first | subst eo41 | (injection eo41 with f1_ f2_ f3_; have f4_ := f1_.symm; have f5_ := f3_.symm; clear f1_ f2_ f3_; subst f4_; subst f5_))
    obtain ⟨Ao42, co42, eo42⟩ := Kd.R_slice HO132.out
    (first | subst eo42 | (injection eo42 with f1_ f2_ f3_; have f4_ := f1_.symm; have f5_ := f3_.symm; clear f1_ f2_ f3_; subst f4_; subst f5_))
    refine hK.out _ _ ⟨(blkc BK122 0), (blkc BK122 1), (blkc BK122 2), (blkc BK122 3), (blkc BK101 0), (blkc BK101 1), (blkc BK101 2), (blkc BK101 3)⟩ (fun hHeld => ?_)
    clear hK K
    refine norm_ (a' := ?_) ?_ ?_
    rotate_left
    · show Act.put _ (some 36) _ = _
      simp only [Act.put, List.setIfInBounds_toArray, List.set_cons_zero, List.set_cons_succ, i64_w, i32_w]
      rfl
    refine one_ (i := 3) (N := some 37) #[true, true, true, true, false] rfl rfl (by kernel_rfl) (by decide) (fun K hK => ?_)
    refine goes_ Try.func19 (by kernel_rfl) rfl #[.agg #[.slice Ao32 t114.length co32, .slice Ao35 t117.length co35, .int .i64 t120, .int .i64 t121], .agg #[.slice Ao41 t127.length co41, .slice Ao42 t130.length co42, .int .i64 t133, .int .i64 t134]] (by rfl) rfl rfl ar_ ?_
    with_reducible refine (laws_eqGraph.calls k _ _ t114 _ _ t117 t120 t121 _ _ t127 _ _ t130 t133 t134 _ _ ?side1 ?side2 ?side3 ?side4 ?side5 ?side6 ?side7 ?side8 A17.out).mono ?_
    (case side1 => repeat (first | exact (Kd.R_reads' HO116.out).2.2 | (with_reducible refine Kd.C_alloc ?_ _) | (with_reducible refine Kd.C_drewN ?_ _) | (with_reducible refine Kd.C_drew ?_)))
    (case side2 => exact (Kd.R_reads' HO116.out).2.1)
    (case side3 => repeat (first | exact (Kd.R_reads' HO119.out).2.2 | (with_reducible refine Kd.C_alloc ?_ _) | (with_reducible refine Kd.C_drewN ?_ _) | (with_reducible refine Kd.C_drew ?_)))
    (case side4 => exact (Kd.R_reads' HO119.out).2.1)
    (case side5 => repeat (first | exact (Kd.R_reads' HO129.out).2.2 | (with_reducible refine Kd.C_alloc ?_ _) | (with_reducible refine Kd.C_drewN ?_ _) | (with_reducible refine Kd.C_drew ?_)))
    (case side6 => exact (Kd.R_reads' HO129.out).2.1)
    (case side7 => repeat (first | exact (Kd.R_reads' HO132.out).2.2 | (with_reducible refine Kd.C_alloc ?_ _) | (with_reducible refine Kd.C_drewN ?_ _) | (with_reducible refine Kd.C_drew ?_)))
    (case side8 => exact (Kd.R_reads' HO132.out).2.1)
    rintro e w43 ⟨rfl, hb⟩
    refine ⟨_, rfl, ?_⟩
    replace HO105 := Aside0.mk (Kd.R_below (by (with_reducible repeat (first | apply Kd.R_alloc | apply Kd.R_drewN | apply Kd.R_drew)); exact HO105.out) hb)
    replace HO108 := Aside0.mk (Kd.R_below (by (with_reducible repeat (first | apply Kd.R_alloc | apply Kd.R_drewN | apply Kd.R_drew)); exact HO108.out) hb)
    replace HO113 := Aside0.mk (Kd.R_below (by (with_reducible repeat (first | apply Kd.R_alloc | apply Kd.R_drewN | apply Kd.R_drew)); exact HO113.out) hb)
    replace HO116 := Aside0.mk (Kd.R_below (by (with_reducible repeat (first | apply Kd.R_alloc | apply Kd.R_drewN | apply Kd.R_drew)); exact HO116.out) hb)
    replace HO119 := Aside0.mk (Kd.R_below (by (with_reducible repeat (first | apply Kd.R_alloc | apply Kd.R_drewN | apply Kd.R_drew)); exact HO119.out) hb)
    replace HO125 := Aside0.mk (Kd.R_below (by (with_reducible repeat (first | apply Kd.R_alloc | apply Kd.R_drewN | apply Kd.R_drew)); exact HO125.out) hb)
    replace HO129 := Aside0.mk (Kd.R_below (by (with_reducible repeat (first | apply Kd.R_alloc | apply Kd.R_drewN | apply Kd.R_drew)); exact HO129.out) hb)
    replace HO132 := Aside0.mk (Kd.R_below (by (with_reducible repeat (first | apply Kd.R_alloc | apply Kd.R_drewN | apply Kd.R_drew)); exact HO132.out) hb)
    replace BK101 := bb_ BK101 hb
    replace BK122 := bb_ BK122 hb
    replace HB := bs_ hb
    (try clear hb)
    (try clear hb2)
    (try clear hk)
    (try clear hi)
    refine hK.out _ _ ⟨(blkc BK122 0), (blkc BK122 1), (blkc BK122 2), (blkc BK122 3), (blkc BK101 0), (blkc BK101 1), (blkc BK101 2), (blkc BK101 3)⟩ (fun hHeld => ?_)
    clear hK K
    refine norm_ (a' := ?_) ?_ ?_
    rotate_left
    · show Act.put _ (some 37) _ = _
      simp only [Act.put, List.setIfInBounds_toArray, List.set_cons_zero, List.set_cons_succ, i64_w, i32_w]
      rfl
    refine pure_ (i := 4) (N := some 38) (v := ?_) (a' := ?_) #[true, true, true, true, true] rfl rfl (by kernel_rfl) (fun _ _ _ h => h) (Or.inl ⟨by rfl, ?_⟩) ?_ ?_
    rotate_left
    · intro w'
      go_simp
      with_reducible rfl
    rotate_left
    · simp only [Act.put, List.setIfInBounds_toArray, List.set_cons_zero, List.set_cons_succ, i64_w, i32_w]
      rfl
    refine done_ (by kernel_rfl) ?_
  rotate_left
  · try go_wp2
    go_ret
    exact re_
  obtain ⟨hcz44_0, hcz44_1, hcz44_2, hcz44_3, hfz44_0, hfz44_1, hfz44_2, hfz44_3⟩ := blk4 BK122
  go_upto_region 16 with (first | ((with_reducible refine gate_callee (f := 23) rfl ?_); refine goesL_ (some 41) rfl rfl Try.func23 (by kernel_rfl) rfl #[.agg #[.slice Ao32 t114.length co32, .slice Ao35 t117.length co35, .int .i64 t120, .int .i64 t121], .int .i64 1] rfl ar_ ?_; (with_reducible refine (laws_markGraph.calls _ _ t114 _ _ t117 t120 t121 1 t136 w _ ?side1 ?side2 ?side3 A19.out).mono ?_); (case side1 => repeat (first | (with_reducible first | exact HB.out | apply below_alloc | apply pw_below_drewN | apply below_drew1 | refine below_set ?_ GE101.out | refine below_set ?_ GE122.out) | exact HB.out)); (case side2 => exact ⟨_, HO116.out⟩); (case side3 => exact ⟨_, HO119.out⟩); rintro e w45 ⟨rfl, hm⟩; refine ⟨_, rfl, ?_⟩; replace BK101 := Aside0.mk (Mk.Over.blk (g := gb101) (cs := #[.slice A0_0 l0_0.length c0_0, .slice A0_1 l0_1.length c0_1, .int .i64 a0_2, .int .i64 a0_3]) (t := 25) hm (by decide) (bk_ BK101)); replace HO113 := Aside0.mk (Mk.Over.R hm (by decide) (HO113.out)); replace BK122 := Aside0.mk (Mk.Over.blk (g := gb122) (cs := #[.slice Ao32 t114.length co32, .slice Ao35 t117.length co35, .int .i64 t120, .int .i64 t121]) (t := 31) hm (by decide) (bk_ BK122)); replace HO125 := Aside0.mk (Mk.Over.R hm (by decide) (HO125.out)); replace HB := Aside0.mk (Mk.Over.below hm (bel_)); clear HO105 HO108 HO116 HO119 HO129 HO132; (try clear hm)))
  (try simp only [Act.put, List.setIfInBounds_toArray, List.set_cons_zero, List.set_cons_succ])
  go_cut [49] (fun v49 wc => ∃ (kq : Nat) (x49_19 : Bool), v49 = .bool x49_19 ∧ Aside0 (laws_FnExactNodesWith.j0 kq a1 t111 t123 x49_19 l0_0 l0_1 a0_2 a0_3 = some r) ∧ Aside0 (kq ≤ k) ∧ Aside0 (Kd.R (Kd.int .i64) 3 wc w.heap.size (fun k_ => some k_ ≠ ((.slice Ao37 t123.length co37) : Value).ownBlock) (.slice Ao38 t111.length co38) t111) ∧ Aside0 (Kd.R (Kd.int .i64) 3 wc w.heap.size (fun k_ => some k_ ≠ ((.slice Ao38 t111.length co38) : Value).ownBlock) (.slice Ao37 t123.length co37) t123) ∧ Aside0 (wc.heap[gb101]? = some (.cells #[(.slice A0_0 l0_0.length c0_0), (.slice A0_1 l0_1.length c0_1), .int .i64 a0_2, .int .i64 a0_3] 25 (0, 0))) ∧ Aside0 (Below w.heap.size w wc))
  case first =>
    have H := HC20.out
    clear HC20
    by_cases c46 : t136 < 0
    rotate_left
    rw [if_neg c46] at H
    have c46b0 : decide (t136 < 0) = false := decide_eq_false c46
    clear c46
    rotate_right
    rw [if_pos c46] at H
    have c46b0 : decide (t136 < 0) = true := decide_eq_true c46
    clear c46
    all_goals
      (first | rw [c46b0] | (simp only [i64_w, i32_w]; rw [c46b0]) | skip)
    · have H' := Aside0.mk H
      clear H
      go_wp2
      go_meet
      case rel => exact ⟨_, (true), sm_, H', ⟨by first | omega | exact Nat.le_refl _⟩, ⟨by (with_reducible repeat (first | apply Kd.R_alloc | apply Kd.R_drewN | apply Kd.R_drew)); exact Kd.R_mono HO113.out (fun _ hk => hk.2)⟩, ⟨by (with_reducible repeat (first | apply Kd.R_alloc | apply Kd.R_drewN | apply Kd.R_drew)); exact Kd.R_mono HO125.out (fun _ hk => hk.2)⟩, ⟨by refine pe_ ?_; exact BK101.out⟩, ⟨bel_⟩⟩
    replace H := Option.bind_eq_some_iff.mp H
    obtain ⟨t137, A470, H⟩ := H
    replace H : (laws_FnExactNodesWith.j0 k a1 t111 t123 (!t137) l0_0 l0_1 a0_2 a0_3) = some r := H
    have A47 := Aside0.mk A470
    clear A470
    have H' := Aside0.mk H
    clear H
    go_wp2_with (first | (go_at_call 22; (with_reducible refine (laws_eqIntS.calls k _ _ t123 _ _ t111 t137 _ ?side1 ?side2 ?side3 ?side4 A47.out).mono ?_); (case side1 => repeat (first | exact (Kd.R_reads' HO125.out).2.2 | (with_reducible refine Kd.C_alloc ?_ _) | (with_reducible refine Kd.C_drewN ?_ _) | (with_reducible refine Kd.C_drew ?_))); (case side2 => exact (Kd.R_reads' HO125.out).2.1); (case side3 => repeat (first | exact (Kd.R_reads' HO113.out).2.2 | (with_reducible refine Kd.C_alloc ?_ _) | (with_reducible refine Kd.C_drewN ?_ _) | (with_reducible refine Kd.C_drew ?_))); (case side4 => exact (Kd.R_reads' HO113.out).2.1); rintro e w' ⟨rfl, ⟨nd, rfl⟩⟩))
    go_meet
    case rel => exact ⟨_, (!t137), sm_, H', ⟨by first | omega | exact Nat.le_refl _⟩, ⟨by (with_reducible repeat (first | apply Kd.R_alloc | apply Kd.R_drewN | apply Kd.R_drew)); exact Kd.R_mono HO113.out (fun _ hk => hk.2)⟩, ⟨by (with_reducible repeat (first | apply Kd.R_alloc | apply Kd.R_drewN | apply Kd.R_drew)); exact Kd.R_mono HO125.out (fun _ hk => hk.2)⟩, ⟨by refine pe_ ?_; exact BK101.out⟩, ⟨bel_⟩⟩
  case rest =>
    clear HC20
    try clear c1
    try clear c2
    try clear p2
    try clear c3
    try clear c3b0
    try clear c3b1
    try clear c4
    try clear c5
    try clear c6
    try clear c6b0
    try clear c15
    try clear c17
    try clear c18
    try clear c19
    try clear c22
    try clear c23
    try clear c26
    try clear c27
    try clear c33
    try clear c46
    try clear c46b0
    try clear hcz22_0 hcz22_1 hcz22_2 hcz22_3
    try clear hcz24_0 hcz24_1 hcz24_2 hcz24_3
    try clear hcz29_0 hcz29_1 hcz29_2 hcz29_3
    try clear hcz34_0 hcz34_1 hcz34_2 hcz34_3
    try clear hcz44_0 hcz44_1 hcz44_2 hcz44_3
    try clear hcz8_0 hcz8_1 hcz8_2 hcz8_3
    try clear hfz22_0 hfz22_1 hfz22_2 hfz22_3
    try clear hfz24_0 hfz24_1 hfz24_2 hfz24_3
    try clear hfz29_0 hfz29_1 hfz29_2 hfz29_3
    try clear hfz34_0 hfz34_1 hfz34_2 hfz34_3
    try clear hfz44_0 hfz44_1 hfz44_2 hfz44_3
    try clear hfz8_0 hfz8_1 hfz8_2 hfz8_3
    obtain ⟨kq, x49_19, rfl, HA, HJ19, HO_6, HO_8, BK101, HB⟩ := hcut
    cases kq with
    | zero => exact absurd HA.out (by simp [laws_FnExactNodesWith.j0])
    | succ kj19 =>
      have H := HA.out
      clear HA
      simp only [laws_FnExactNodesWith.j0] at H
      by_cases c48 : x49_19 = true
      rotate_left
      replace c48 := Bool.eq_false_iff.mpr c48
      subst c48
      have H1 : ((laws_markIntS.f kj19 t123 1).bind fun bt138 => ((laws_heldIntS.f kj19 bt138.2 1).bind fun t140 => (if t140 < 0 then (some false) else (if t140 = bt138.1 then ((laws_toGraph.f kj19 l0_0 l0_1 a0_2 a0_3).bind fun bt141 => ((impl_NodesWith.f kj19 bt141.1 bt141.2.1 bt141.2.2.1 bt141.2.2.2 a1).bind fun t149 => ((laws_eqIntS.f kj19 t149 t111).bind fun t152 => (if t152 = true then ((laws_heldIntS.f kj19 bt138.2 1).bind fun t153 => (if t153 < 0 then (some false) else (if t153 = bt138.1 then (some true) else (some false)))) else (some false))))) else (some false))))) = some r := by rw [if_neg (show ¬ (false = true) by decide)] at H; exact H
      clear H
      have H := H1
      clear H1
      replace H := Option.bind_eq_some_iff.mp H
      obtain ⟨⟨t138, t139⟩, A490, H⟩ := H
      replace H : ((laws_heldIntS.f kj19 t139 1).bind fun t140 => (if t140 < 0 then (some false) else (if t140 = t138 then ((laws_toGraph.f kj19 l0_0 l0_1 a0_2 a0_3).bind fun bt141 => ((impl_NodesWith.f kj19 bt141.1 bt141.2.1 bt141.2.2.1 bt141.2.2.2 a1).bind fun t149 => ((laws_eqIntS.f kj19 t149 t111).bind fun t152 => (if t152 = true then ((laws_heldIntS.f kj19 t139 1).bind fun t153 => (if t153 < 0 then (some false) else (if t153 = t138 then (some true) else (some false)))) else (some false))))) else (some false)))) = some r := H
      have A49 := Aside0.mk A490
      clear A490
      replace H := Option.bind_eq_some_iff.mp H
      obtain ⟨t140, A500, H⟩ := H
      replace H : (if t140 < 0 then (some false) else (if t140 = t138 then ((laws_toGraph.f kj19 l0_0 l0_1 a0_2 a0_3).bind fun bt141 => ((impl_NodesWith.f kj19 bt141.1 bt141.2.1 bt141.2.2.1 bt141.2.2.2 a1).bind fun t149 => ((laws_eqIntS.f kj19 t149 t111).bind fun t152 => (if t152 = true then ((laws_heldIntS.f kj19 t139 1).bind fun t153 => (if t153 < 0 then (some false) else (if t153 = t138 then (some true) else (some false)))) else (some false))))) else (some false))) = some r := H
      have A50 := Aside0.mk A500
      clear A500
      by_cases c51 : t140 < 0
      rotate_left
      rw [if_neg c51] at H
      have c51b0 : decide (t140 < 0) = false := decide_eq_false c51
      clear c51
      by_cases c53 : t140 = t138
      rotate_left
      rw [if_neg c53] at H
      have c53b0 : (t140 == t138) = false := beq_eq_false_iff_ne.mpr c53
      have c53b1 : (t140 != t138) = true := bne_iff_ne.mpr c53
      obtain rfl := Option.some.inj H
      rotate_right
      rw [if_pos c53] at H
      have c53b0 : (t140 == t138) = true := beq_iff_eq.mpr c53
      have c53b1 : (t140 != t138) = false := bne_eq_false_iff_eq.mpr c53
      clear c53
      replace H := Option.bind_eq_some_iff.mp H
      obtain ⟨⟨t141, t144, t147, t148⟩, A540, H⟩ := H
      replace H : ((impl_NodesWith.f kj19 t141 t144 t147 t148 a1).bind fun t149 => ((laws_eqIntS.f kj19 t149 t111).bind fun t152 => (if t152 = true then ((laws_heldIntS.f kj19 t139 1).bind fun t153 => (if t153 < 0 then (some false) else (if t153 = t138 then (some true) else (some false)))) else (some false)))) = some r := H
      have A54 := Aside0.mk A540
      clear A540
      replace H := Option.bind_eq_some_iff.mp H
      obtain ⟨t149, A550, H⟩ := H
      replace H : ((laws_eqIntS.f kj19 t149 t111).bind fun t152 => (if t152 = true then ((laws_heldIntS.f kj19 t139 1).bind fun t153 => (if t153 < 0 then (some false) else (if t153 = t138 then (some true) else (some false)))) else (some false))) = some r := H
      have A55 := Aside0.mk A550
      clear A550
      replace H := Option.bind_eq_some_iff.mp H
      obtain ⟨t152, A560, H⟩ := H
      replace H : (if t152 = true then ((laws_heldIntS.f kj19 t139 1).bind fun t153 => (if t153 < 0 then (some false) else (if t153 = t138 then (some true) else (some false)))) else (some false)) = some r := H
      have A56 := Aside0.mk A560
      clear A560
      by_cases c57 : t152 = true
      · subst c57
        have H1 : ((laws_heldIntS.f kj19 t139 1).bind fun t153 => (if t153 < 0 then (some false) else (if t153 = t138 then (some true) else (some false)))) = some r := by rw [if_pos rfl] at H; exact H
        clear H
        have H := H1
        clear H1
        replace H := Option.bind_eq_some_iff.mp H
        obtain ⟨t153, A580, H⟩ := H
        replace H : (if t153 < 0 then (some false) else (if t153 = t138 then (some true) else (some false))) = some r := H
        have A58 := Aside0.mk A580
        clear A580
        by_cases c59 : t153 < 0
        rotate_left
        rw [if_neg c59] at H
        have c59b0 : decide (t153 < 0) = false := decide_eq_false c59
        clear c59
        by_cases c67 : t153 = t138
        rotate_left
        rw [if_neg c67] at H
        have c67b0 : (t153 == t138) = false := beq_eq_false_iff_ne.mpr c67
        have c67b1 : (t153 != t138) = true := bne_iff_ne.mpr c67
        obtain rfl := Option.some.inj H
        rotate_right
        rw [if_pos c67] at H
        have c67b0 : (t153 == t138) = true := beq_iff_eq.mpr c67
        have c67b1 : (t153 != t138) = false := bne_eq_false_iff_eq.mpr c67
        clear c67
        obtain rfl := Option.some.inj H
        rotate_right
        rw [if_pos c59] at H
        have c59b0 : decide (t153 < 0) = true := decide_eq_true c59
        clear c59
        obtain rfl := Option.some.inj H
        all_goals
          go_wp2_with (first | ((with_reducible refine gate_callee (f := 24) rfl ?_); refine goesL_ (some 52) rfl rfl Try.func24 (by kernel_rfl) rfl #[.slice Ao37 t123.length co37, .int .i64 1] rfl ar_ ?_; (with_reducible refine (laws_markIntS.calls kj19 (fun k_ => some k_ = (.slice Ao37 t123.length co37 : Value).ownBlock) (.slice Ao37 t123.length co37) t123 1 t138 t139 w _ ?side1 ?side2 A49.out).mono ?_); (case side1 => repeat (first | (with_reducible first | exact HB.out | apply below_alloc | apply pw_below_drewN | apply below_drew1 | refine below_set ?_ GE101.out) | exact HB.out)); (case side2 => exact Kd.R_tight rfl HO_8.out); rintro e w75 ⟨rfl, hy0, hb, hkp⟩; refine ⟨_, rfl, ?_⟩; replace HO_6 := Aside0.mk (Kd.R_mono (ok' := fun k_ => some k_ ≠ (.slice Ao37 t123.length co37 : Value).ownBlock) (Kd.R_keptB (HO_6.out) hkp (fun k_ hk_ hs_ => (hk_) hs_)) (fun k_ hk_ => hk_.1)); replace BK101 := Aside0.mk (blk_kept (bk_ BK101) hkp (fun hs_ => (fun e_ => (Kd.R_ne HO_8.out BK101.out (by decide)) e_) hs_)); replace HO_8 := Aside0.mk (Kd.R_reok rfl hy0 (fun k_ e_ => HO_8.out.1 k_ e_)); replace HB := Aside0.mk (hb); (try clear hb); (try clear hkp); (try clear hy0)) | ((with_reducible refine gate_callee (f := 25) rfl ?_); refine goesL_ (some 55) rfl rfl Try.func25 (by kernel_rfl) rfl #[.slice Ao37 t139.length co37, .int .i64 1] rfl (by (try simp only [List.map_toArray, List.map_cons, List.map_nil]); first | done | (rw [show t139.length = t123.length from (Kd.R_reads' HO_8.out).1.symm] <;> rfl) | rfl | (simp only [List.length_drop, List.length_take]; rfl)) ?_; (with_reducible refine (laws_heldIntS.calls kj19 _ _ t139 1 t140 _ ?side1 ?side2 A50.out).mono ?_); (case side1 => repeat (first | exact (Kd.R_reads' HO_8.out).2.2 | (with_reducible refine Kd.C_alloc ?_ _) | (with_reducible refine Kd.C_drewN ?_ _) | (with_reducible refine Kd.C_drew ?_))); (case side2 => rw [show t139.length = t123.length from (Kd.R_reads' HO_8.out).1.symm]; exact (Kd.R_reads' HO_8.out).2.1); rintro e w' ⟨rfl, ⟨nd, rfl⟩⟩; refine ⟨_, rfl, ?_⟩; obtain ⟨hcz76_0, hcz76_1, hcz76_2, hcz76_3, hfz76_0, hfz76_1, hfz76_2, hfz76_3⟩ := blk4 BK101) | ((with_reducible refine gate_callee (f := 17) rfl ?_); refine goesL_ (some 62) rfl rfl Try.func17 (by kernel_rfl) rfl #[.agg #[.slice A0_0 l0_0.length c0_0, .slice A0_1 l0_1.length c0_1, .int .i64 a0_2, .int .i64 a0_3]] rfl ar_ ?_; (with_reducible refine (laws_toGraph.calls kj19 _ _ l0_0 _ _ l0_1 a0_2 a0_3 t141 t144 t147 t148 _ ?side1 ?side2 ?side3 ?side4 A54.out).mono ?_); (case side1 => repeat (first | exact (Kd.C_below HR0_0.out (bel_)) | (with_reducible refine Kd.C_alloc ?_ _) | (with_reducible refine Kd.C_drewN ?_ _) | (with_reducible refine Kd.C_drew ?_))); (case side2 => exact HC0_0.out); (case side3 => repeat (first | exact (Kd.C_below HR0_1.out (bel_)) | (with_reducible refine Kd.C_alloc ?_ _) | (with_reducible refine Kd.C_drewN ?_ _) | (with_reducible refine Kd.C_drew ?_))); (case side4 => exact HC0_1.out); rintro e w77 ⟨v142, v145, rfl, ho0, ho1, hb⟩; refine ⟨_, rfl, ?_⟩; have HO143 := Aside0.mk (Kd.R_lower ho0 (below_size (bel_))); have HO146 := Aside0.mk (Kd.R_lower ho1 (below_size (bel_))); replace HO_6 := Aside0.mk (Kd.R_below (by (with_reducible repeat (first | apply Kd.R_alloc | apply Kd.R_drewN | apply Kd.R_drew)); exact HO_6.out) hb); replace HO_8 := Aside0.mk (Kd.R_below (by (with_reducible repeat (first | apply Kd.R_alloc | apply Kd.R_drewN | apply Kd.R_drew)); exact HO_8.out) hb); replace BK101 := bb_ BK101 hb; replace HB := bs_ hb; (try clear hb); (try clear hb2); (try clear hk); (try clear hi); (try clear ho0); (try clear ho1); obtain ⟨Ao78, co78, eo78⟩ := Kd.R_slice HO143.out; subst eo78; obtain ⟨Ao79, co79, eo79⟩ := Kd.R_slice HO146.out; subst eo79) | ((with_reducible refine gate_callee (f := 27) rfl ?_); refine goesL_ (some 64) rfl rfl Try.func27 (by kernel_rfl) rfl #[.agg #[.slice Ao78 t141.length co78, .slice Ao79 t144.length co79, .int .i64 t147, .int .i64 t148], .string a1] rfl ar_ ?_; (with_reducible refine (impl_NodesWith.calls kj19 _ _ t141 _ _ t144 t147 t148 a1 t149 _ ?side1 ?side2 ?side3 ?side4 A55.out).mono ?_); (case side1 => repeat (first | exact (Kd.R_reads' HO143.out).2.2 | (with_reducible refine Kd.C_alloc ?_ _) | (with_reducible refine Kd.C_drewN ?_ _) | (with_reducible refine Kd.C_drew ?_))); (case side2 => exact (Kd.R_reads' HO143.out).2.1); (case side3 => repeat (first | exact (Kd.R_reads' HO146.out).2.2 | (with_reducible refine Kd.C_alloc ?_ _) | (with_reducible refine Kd.C_drewN ?_ _) | (with_reducible refine Kd.C_drew ?_))); (case side4 => exact (Kd.R_reads' HO146.out).2.1); rintro e w80 ⟨v150, rfl, ho0, hb⟩; refine ⟨_, rfl, ?_⟩; have HO151 := Aside0.mk (Kd.R_lower (Kd.R_new' (Kd.R_new' ho0 (Kd.R_lt (by (with_reducible repeat (first | apply Kd.R_alloc | apply Kd.R_drewN | apply Kd.R_drew)); exact HO_6.out))) (Kd.R_lt (by (with_reducible repeat (first | apply Kd.R_alloc | apply Kd.R_drewN | apply Kd.R_drew)); exact HO_8.out))) (below_size (bel_))); replace HO_6 := Aside0.mk (Kd.R_elder' (by (with_reducible repeat (first | apply Kd.R_alloc | apply Kd.R_drewN | apply Kd.R_drew)); exact HO_6.out) (Kd.R_base ho0) hb); replace HO_8 := Aside0.mk (Kd.R_elder' (by (with_reducible repeat (first | apply Kd.R_alloc | apply Kd.R_drewN | apply Kd.R_drew)); exact HO_8.out) (Kd.R_base ho0) hb); replace HO143 := Aside0.mk (Kd.R_below (by (with_reducible repeat (first | apply Kd.R_alloc | apply Kd.R_drewN | apply Kd.R_drew)); exact HO143.out) hb); replace HO146 := Aside0.mk (Kd.R_below (by (with_reducible repeat (first | apply Kd.R_alloc | apply Kd.R_drewN | apply Kd.R_drew)); exact HO146.out) hb); replace BK101 := bb_ BK101 hb; replace HB := bs_ hb; (try clear hb); (try clear hb2); (try clear hk); (try clear hi); (try clear ho0); obtain ⟨Ao81, co81, eo81⟩ := Kd.R_slice HO151.out; subst eo81) | ((with_reducible refine gate_callee (f := 22) rfl ?_); refine goesL_ (some 67) rfl rfl Try.func22 (by kernel_rfl) rfl #[.slice Ao81 t149.length co81, .slice Ao38 t111.length co38] rfl ar_ ?_; (with_reducible refine (laws_eqIntS.calls kj19 _ _ t149 _ _ t111 true _ ?side1 ?side2 ?side3 ?side4 A56.out).mono ?_); (case side1 => repeat (first | exact (Kd.R_reads' HO151.out).2.2 | (with_reducible refine Kd.C_alloc ?_ _) | (with_reducible refine Kd.C_drewN ?_ _) | (with_reducible refine Kd.C_drew ?_))); (case side2 => exact (Kd.R_reads' HO151.out).2.1); (case side3 => repeat (first | exact (Kd.R_reads' HO_6.out).2.2 | (with_reducible refine Kd.C_alloc ?_ _) | (with_reducible refine Kd.C_drewN ?_ _) | (with_reducible refine Kd.C_drew ?_))); (case side4 => exact (Kd.R_reads' HO_6.out).2.1); rintro e w' ⟨rfl, ⟨nd, rfl⟩⟩; refine ⟨_, rfl, ?_⟩) | ((with_reducible refine gate_callee (f := 25) rfl ?_); refine goesL_ (some 71) rfl rfl Try.func25 (by kernel_rfl) rfl #[.slice Ao37 t139.length co37, .int .i64 1] rfl (by (try simp only [List.map_toArray, List.map_cons, List.map_nil]); first | done | (rw [show t139.length = t123.length from (Kd.R_reads' HO_8.out).1.symm] <;> rfl) | rfl | (simp only [List.length_drop, List.length_take]; rfl)) ?_; (with_reducible refine (laws_heldIntS.calls kj19 _ _ t139 1 t153 _ ?side1 ?side2 A58.out).mono ?_); (case side1 => repeat (first | exact (Kd.R_reads' HO_8.out).2.2 | (with_reducible refine Kd.C_alloc ?_ _) | (with_reducible refine Kd.C_drewN ?_ _) | (with_reducible refine Kd.C_drew ?_))); (case side2 => rw [show t139.length = t123.length from (Kd.R_reads' HO_8.out).1.symm]; exact (Kd.R_reads' HO_8.out).2.1); rintro e w' ⟨rfl, ⟨nd, rfl⟩⟩; refine ⟨_, rfl, ?_⟩))
          go_ret
          exact re_
      replace c57 := Bool.eq_false_iff.mpr c57
      subst c57
      have H1 : (some false) = some r := by rw [if_neg (show ¬ (false = true) by decide)] at H; exact H
      clear H
      have H := H1
      clear H1
      obtain rfl := Option.some.inj H
      rotate_right
      rw [if_pos c51] at H
      have c51b0 : decide (t140 < 0) = true := decide_eq_true c51
      clear c51
      obtain rfl := Option.some.inj H
      rotate_right
      subst c48
      have H1 : (some false) = some r := by rw [if_pos rfl] at H; exact H
      clear H
      have H := H1
      clear H1
      obtain rfl := Option.some.inj H
      rotate_left 2
      · go_wp2_with (first | ((with_reducible refine gate_callee (f := 24) rfl ?_); refine goesL_ (some 52) rfl rfl Try.func24 (by kernel_rfl) rfl #[.slice Ao37 t123.length co37, .int .i64 1] rfl ar_ ?_; (with_reducible refine (laws_markIntS.calls kj19 (fun k_ => some k_ = (.slice Ao37 t123.length co37 : Value).ownBlock) (.slice Ao37 t123.length co37) t123 1 t138 t139 w _ ?side1 ?side2 A49.out).mono ?_); (case side1 => repeat (first | (with_reducible first | exact HB.out | apply below_alloc | apply pw_below_drewN | apply below_drew1 | refine below_set ?_ GE101.out) | exact HB.out)); (case side2 => exact Kd.R_tight rfl HO_8.out); rintro e w82 ⟨rfl, hy70, hb, hkp⟩; refine ⟨_, rfl, ?_⟩; replace HO_6 := Aside0.mk (Kd.R_mono (ok' := fun k_ => some k_ ≠ (.slice Ao37 t123.length co37 : Value).ownBlock) (Kd.R_keptB (HO_6.out) hkp (fun k_ hk_ hs_ => (hk_) hs_)) (fun k_ hk_ => hk_.1)); replace BK101 := Aside0.mk (blk_kept (bk_ BK101) hkp (fun hs_ => (fun e_ => (Kd.R_ne HO_8.out BK101.out (by decide)) e_) hs_)); replace HO_8 := Aside0.mk (Kd.R_reok rfl hy70 (fun k_ e_ => HO_8.out.1 k_ e_)); replace HB := Aside0.mk (hb); (try clear hb); (try clear hkp); (try clear hy70)) | ((with_reducible refine gate_callee (f := 25) rfl ?_); refine goesL_ (some 55) rfl rfl Try.func25 (by kernel_rfl) rfl #[.slice Ao37 t139.length co37, .int .i64 1] rfl (by (try simp only [List.map_toArray, List.map_cons, List.map_nil]); first | done | (rw [show t139.length = t123.length from (Kd.R_reads' HO_8.out).1.symm] <;> rfl) | rfl | (simp only [List.length_drop, List.length_take]; rfl)) ?_; (with_reducible refine (laws_heldIntS.calls kj19 _ _ t139 1 t140 _ ?side1 ?side2 A50.out).mono ?_); (case side1 => repeat (first | exact (Kd.R_reads' HO_8.out).2.2 | (with_reducible refine Kd.C_alloc ?_ _) | (with_reducible refine Kd.C_drewN ?_ _) | (with_reducible refine Kd.C_drew ?_))); (case side2 => rw [show t139.length = t123.length from (Kd.R_reads' HO_8.out).1.symm]; exact (Kd.R_reads' HO_8.out).2.1); rintro e w' ⟨rfl, ⟨nd, rfl⟩⟩; refine ⟨_, rfl, ?_⟩; obtain ⟨hcz83_0, hcz83_1, hcz83_2, hcz83_3, hfz83_0, hfz83_1, hfz83_2, hfz83_3⟩ := blk4 BK101) | ((with_reducible refine gate_callee (f := 17) rfl ?_); refine goesL_ (some 62) rfl rfl Try.func17 (by kernel_rfl) rfl #[.agg #[.slice A0_0 l0_0.length c0_0, .slice A0_1 l0_1.length c0_1, .int .i64 a0_2, .int .i64 a0_3]] rfl ar_ ?_; (with_reducible refine (laws_toGraph.calls kj19 _ _ l0_0 _ _ l0_1 a0_2 a0_3 t141 t144 t147 t148 _ ?side1 ?side2 ?side3 ?side4 A54.out).mono ?_); (case side1 => repeat (first | exact (Kd.C_below HR0_0.out (bel_)) | (with_reducible refine Kd.C_alloc ?_ _) | (with_reducible refine Kd.C_drewN ?_ _) | (with_reducible refine Kd.C_drew ?_))); (case side2 => exact HC0_0.out); (case side3 => repeat (first | exact (Kd.C_below HR0_1.out (bel_)) | (with_reducible refine Kd.C_alloc ?_ _) | (with_reducible refine Kd.C_drewN ?_ _) | (with_reducible refine Kd.C_drew ?_))); (case side4 => exact HC0_1.out); rintro e w84 ⟨v142, v145, rfl, ho0, ho1, hb⟩; refine ⟨_, rfl, ?_⟩; have HO143 := Aside0.mk (Kd.R_lower ho0 (below_size (bel_))); have HO146 := Aside0.mk (Kd.R_lower ho1 (below_size (bel_))); replace HO_6 := Aside0.mk (Kd.R_below (by (with_reducible repeat (first | apply Kd.R_alloc | apply Kd.R_drewN | apply Kd.R_drew)); exact HO_6.out) hb); replace HO_8 := Aside0.mk (Kd.R_below (by (with_reducible repeat (first | apply Kd.R_alloc | apply Kd.R_drewN | apply Kd.R_drew)); exact HO_8.out) hb); replace BK101 := bb_ BK101 hb; replace HB := bs_ hb; (try clear hb); (try clear hb2); (try clear hk); (try clear hi); (try clear ho0); (try clear ho1); obtain ⟨Ao85, co85, eo85⟩ := Kd.R_slice HO143.out; subst eo85; obtain ⟨Ao86, co86, eo86⟩ := Kd.R_slice HO146.out; subst eo86) | ((with_reducible refine gate_callee (f := 27) rfl ?_); refine goesL_ (some 64) rfl rfl Try.func27 (by kernel_rfl) rfl #[.agg #[.slice Ao85 t141.length co85, .slice Ao86 t144.length co86, .int .i64 t147, .int .i64 t148], .string a1] rfl ar_ ?_; (with_reducible refine (impl_NodesWith.calls kj19 _ _ t141 _ _ t144 t147 t148 a1 t149 _ ?side1 ?side2 ?side3 ?side4 A55.out).mono ?_); (case side1 => repeat (first | exact (Kd.R_reads' HO143.out).2.2 | (with_reducible refine Kd.C_alloc ?_ _) | (with_reducible refine Kd.C_drewN ?_ _) | (with_reducible refine Kd.C_drew ?_))); (case side2 => exact (Kd.R_reads' HO143.out).2.1); (case side3 => repeat (first | exact (Kd.R_reads' HO146.out).2.2 | (with_reducible refine Kd.C_alloc ?_ _) | (with_reducible refine Kd.C_drewN ?_ _) | (with_reducible refine Kd.C_drew ?_))); (case side4 => exact (Kd.R_reads' HO146.out).2.1); rintro e w87 ⟨v150, rfl, ho0, hb⟩; refine ⟨_, rfl, ?_⟩; have HO151 := Aside0.mk (Kd.R_lower (Kd.R_new' (Kd.R_new' ho0 (Kd.R_lt (by (with_reducible repeat (first | apply Kd.R_alloc | apply Kd.R_drewN | apply Kd.R_drew)); exact HO_6.out))) (Kd.R_lt (by (with_reducible repeat (first | apply Kd.R_alloc | apply Kd.R_drewN | apply Kd.R_drew)); exact HO_8.out))) (below_size (bel_))); replace HO_6 := Aside0.mk (Kd.R_elder' (by (with_reducible repeat (first | apply Kd.R_alloc | apply Kd.R_drewN | apply Kd.R_drew)); exact HO_6.out) (Kd.R_base ho0) hb); replace HO_8 := Aside0.mk (Kd.R_elder' (by (with_reducible repeat (first | apply Kd.R_alloc | apply Kd.R_drewN | apply Kd.R_drew)); exact HO_8.out) (Kd.R_base ho0) hb); replace HO143 := Aside0.mk (Kd.R_below (by (with_reducible repeat (first | apply Kd.R_alloc | apply Kd.R_drewN | apply Kd.R_drew)); exact HO143.out) hb); replace HO146 := Aside0.mk (Kd.R_below (by (with_reducible repeat (first | apply Kd.R_alloc | apply Kd.R_drewN | apply Kd.R_drew)); exact HO146.out) hb); replace BK101 := bb_ BK101 hb; replace HB := bs_ hb; (try clear hb); (try clear hb2); (try clear hk); (try clear hi); (try clear ho0); obtain ⟨Ao88, co88, eo88⟩ := Kd.R_slice HO151.out; subst eo88) | ((with_reducible refine gate_callee (f := 22) rfl ?_); refine goesL_ (some 67) rfl rfl Try.func22 (by kernel_rfl) rfl #[.slice Ao88 t149.length co88, .slice Ao38 t111.length co38] rfl ar_ ?_; (with_reducible refine (laws_eqIntS.calls kj19 _ _ t149 _ _ t111 false _ ?side1 ?side2 ?side3 ?side4 A56.out).mono ?_); (case side1 => repeat (first | exact (Kd.R_reads' HO151.out).2.2 | (with_reducible refine Kd.C_alloc ?_ _) | (with_reducible refine Kd.C_drewN ?_ _) | (with_reducible refine Kd.C_drew ?_))); (case side2 => exact (Kd.R_reads' HO151.out).2.1); (case side3 => repeat (first | exact (Kd.R_reads' HO_6.out).2.2 | (with_reducible refine Kd.C_alloc ?_ _) | (with_reducible refine Kd.C_drewN ?_ _) | (with_reducible refine Kd.C_drew ?_))); (case side4 => exact (Kd.R_reads' HO_6.out).2.1); rintro e w' ⟨rfl, ⟨nd, rfl⟩⟩; refine ⟨_, rfl, ?_⟩))
        go_ret
        exact re_
      rotate_right 2
      · go_wp2
        go_ret
        exact re_
      all_goals
        go_wp2_with (first | ((with_reducible refine gate_callee (f := 24) rfl ?_); refine goesL_ (some 52) rfl rfl Try.func24 (by kernel_rfl) rfl #[.slice Ao37 t123.length co37, .int .i64 1] rfl ar_ ?_; (with_reducible refine (laws_markIntS.calls kj19 (fun k_ => some k_ = (.slice Ao37 t123.length co37 : Value).ownBlock) (.slice Ao37 t123.length co37) t123 1 t138 t139 w _ ?side1 ?side2 A49.out).mono ?_); (case side1 => repeat (first | (with_reducible first | exact HB.out | apply below_alloc | apply pw_below_drewN | apply below_drew1 | refine below_set ?_ GE101.out) | exact HB.out)); (case side2 => exact Kd.R_tight rfl HO_8.out); rintro e w89 ⟨rfl, hy0, hb, hkp⟩; refine ⟨_, rfl, ?_⟩; replace HO_6 := Aside0.mk (Kd.R_mono (ok' := fun k_ => some k_ ≠ (.slice Ao37 t123.length co37 : Value).ownBlock) (Kd.R_keptB (HO_6.out) hkp (fun k_ hk_ hs_ => (hk_) hs_)) (fun k_ hk_ => hk_.1)); replace BK101 := Aside0.mk (blk_kept (bk_ BK101) hkp (fun hs_ => (fun e_ => (Kd.R_ne HO_8.out BK101.out (by decide)) e_) hs_)); replace HO_8 := Aside0.mk (Kd.R_reok rfl hy0 (fun k_ e_ => HO_8.out.1 k_ e_)); replace HB := Aside0.mk (hb); (try clear hb); (try clear hkp); (try clear hy0)) | ((with_reducible refine gate_callee (f := 25) rfl ?_); refine goesL_ (some 55) rfl rfl Try.func25 (by kernel_rfl) rfl #[.slice Ao37 t139.length co37, .int .i64 1] rfl (by (try simp only [List.map_toArray, List.map_cons, List.map_nil]); first | done | (rw [show t139.length = t123.length from (Kd.R_reads' HO_8.out).1.symm] <;> rfl) | rfl | (simp only [List.length_drop, List.length_take]; rfl)) ?_; (with_reducible refine (laws_heldIntS.calls kj19 _ _ t139 1 t140 _ ?side1 ?side2 A50.out).mono ?_); (case side1 => repeat (first | exact (Kd.R_reads' HO_8.out).2.2 | (with_reducible refine Kd.C_alloc ?_ _) | (with_reducible refine Kd.C_drewN ?_ _) | (with_reducible refine Kd.C_drew ?_))); (case side2 => rw [show t139.length = t123.length from (Kd.R_reads' HO_8.out).1.symm]; exact (Kd.R_reads' HO_8.out).2.1); rintro e w' ⟨rfl, ⟨nd, rfl⟩⟩; refine ⟨_, rfl, ?_⟩))
        go_ret
        exact re_

/-- THE ONE PURE STATEMENT of laws_FnExactNodesWith. -/
def laws_FnExactNodesWith.Pure : Prop := ∀ (l0_0 : List (S170)) (l0_1 : List (S173)) (a0_2 : Int) (a0_3 : Int) (a1 : ByteArray), Ok25 (⟨l0_0, l0_1, a0_2, a0_3⟩ : S25) → a1.size ≤ maxLen → ∃ k, laws_FnExactNodesWith.f k l0_0 l0_1 a0_2 a0_3 a1 = some true
theorem laws_FnExactNodesWith.walk (P : laws_FnExactNodesWith.Pure) (A0_0 : Option Addr) (c0_0 : Nat) (l0_0 : List (S170)) (A0_1 : Option Addr) (c0_1 : Nat) (l0_1 : List (S173)) (a0_2 : Int) (a0_3 : Int) (a1 : ByteArray) (w : World) (hr0_0 : Kd.C k170 w A0_0 l0_0.length l0_0) (hc0_0 : l0_0.length ≤ c0_0) (hr0_1 : Kd.C k173 w A0_1 l0_1.length l0_1) (hc0_1 : l0_1.length ≤ c0_1) (w0 : Ok25 (⟨l0_0, l0_1, a0_2, a0_3⟩ : S25)) (w1 : a1.size ≤ maxLen) :
    Calls Try.prog 5 #[.agg #[.slice A0_0 l0_0.length c0_0, .slice A0_1 l0_1.length c0_1, .int .i64 a0_2, .int .i64 a0_3], .string a1] w fun e w' => e = .returned (.bool true) ∧ Below w.heap.size w w' := by
  obtain ⟨k, h⟩ := P l0_0 l0_1 a0_2 a0_3 a1 w0 w1
  refine (laws_FnExactNodesWith.calls k _ _ l0_0 _ _ l0_1 a0_2 a0_3 a1 true w hr0_0 hc0_0 hr0_1 hc0_1 h).mono ?_
  rintro e w' ⟨rfl, hd⟩
  exact ⟨rfl, hd⟩

end Go.Proofs.Ytcchmhmbjhgfdaa.G
