-- Printed by a program of this claim's writer (wip/gen), out of the translation. Lean checks it.
import Derived.Test.YtcchmhmbjhgfdaaGx0
import Derived.Test.YtcchmhmbjhgfdaaGx21
namespace Go.Proofs.Ytcchmhmbjhgfdaa.G
open Go.RowKit Go.Proofs.YtcchmhmbjhgfdaaW.PrintWords Go.Proofs.YtcchmhmbjhgfdaaW.PrintLast Go.Proofs.YtcchmhmbjhgfdaaW.PrintMore
attribute [local go_sem] max2_int min2_int max_two min_two max_three min_three max_four min_four Own.str_gtr Own.str_leq Own.str_geq Own.sto_fn   -- for this text's walks alone
open Own
set_option linter.unusedVariables false
set_option linter.unusedSimpArgs false

/-! ### slices_Index_string_string: function 184 -/
def slices_Index_string_string.l0 : Nat → List ByteArray → ByteArray → Int → Int → Option (Int)
  | 0, _, _, _, _ => none
  | k + 1, x0, x1, x7, x8 => if x8 < x7 then (if 0 ≤ x8 then (if x8 < (x0.length : Int) then (if x1.toList = (rdOf ByteArray.empty x0 x8).toList then (some x8) else (slices_Index_string_string.l0 k x0 x1 x7 (wrap64 (x8 + 1)))) else (none)) else (none)) else (some (-1))
def slices_Index_string_string.f (k : Nat) (l0 : List ByteArray) (a1 : ByteArray) : Option (Int) := slices_Index_string_string.l0 k l0 a1 (l0.length : Int) 0
set_option maxHeartbeats 8000000 in
set_option maxRecDepth 100000 in
theorem slices_Index_string_string.calls (k : Nat) (A0 : Option Addr) (c0 : Nat) (l0 : List ByteArray) (a1 : ByteArray) (r : Int) (w : World) (hr0 : Kd.C Kd.string w A0 l0.length l0) (hc0 : l0.length ≤ c0) (h : slices_Index_string_string.f k l0 a1 = some r) :
    Calls Try.prog 184 #[.slice A0 l0.length c0, .string a1] w fun e w' => e = .returned (.int .i64 r) ∧ Drawn0 w w' := by
  have HR0 := Aside0.mk hr0
  have HC0 := Aside0.mk hc0
  clear hr0 hc0
  have H : (slices_Index_string_string.l0 k l0 a1 (l0.length : Int) 0) = some r := h
  clear h
  have H' := Aside0.mk H
  clear H
  go_enter Try.func184, Try.ntmps184
  go_wp2
  go_loopg [8] k (fun kq v8 w' => ∃ (x8_1 : Int), v8 = .int .i64 x8_1 ∧ Aside0 (slices_Index_string_string.l0 kq l0 a1 (l0.length : Int) x8_1 = some r) ∧ Aside0 (kq ≤ k) ∧ Drawn0 w w')
  case atStart => exact ⟨(0), sm_, H', ⟨Nat.le_refl _⟩, by repeat (first | exact Drawn0.refl _ | apply Drawn0.step)⟩
  case round =>
    clear H'
    try clear c1
    try clear p2
    obtain ⟨x8_1, rfl, HA, HK1, ⟨m1, rfl⟩⟩ := hrel
    cases gk with
    | zero => exact absurd HA.out (by simp [slices_Index_string_string.l0])
    | succ k1 =>
      have H := HA.out
      clear HA
      simp only [slices_Index_string_string.l0] at H
      by_cases c3 : x8_1 < (l0.length : Int)
      rotate_left
      rw [if_neg c3] at H
      have c3b0 : decide (x8_1 < (l0.length : Int)) = false := decide_eq_false c3
      clear c3
      obtain rfl := Option.some.inj H
      rotate_right
      rw [if_pos c3] at H
      have c3b0 : decide (x8_1 < (l0.length : Int)) = true := decide_eq_true c3
      clear c3
      by_cases c4 : 0 ≤ x8_1
      rotate_left
      · rw [if_neg c4] at H
        exact absurd H (by simp)
      rotate_right
      rw [if_pos c4] at H
      have c4b0 : decide (0 ≤ x8_1) = true := decide_eq_true c4
      clear c4
      by_cases c5 : x8_1 < (l0.length : Int)
      rotate_left
      · rw [if_neg c5] at H
        exact absurd H (by simp)
      rotate_right
      rw [if_pos c5] at H
      have c5b0 : decide (x8_1 < (l0.length : Int)) = true := decide_eq_true c5
      clear c5
      by_cases c6 : a1.toList = (rdOf ByteArray.empty l0 x8_1).toList
      rotate_left
      rw [if_neg c6] at H
      have c6b0 : (a1.toList == (rdOf ByteArray.empty l0 x8_1).toList) = false := beq_eq_false_iff_ne.mpr c6
      have c6b1 : (a1.toList != (rdOf ByteArray.empty l0 x8_1).toList) = true := bne_iff_ne.mpr c6
      have H' := Aside0.mk H
      clear H
      rotate_right
      rw [if_pos c6] at H
      have c6b0 : (a1.toList == (rdOf ByteArray.empty l0 x8_1).toList) = true := beq_iff_eq.mpr c6
      have c6b1 : (a1.toList != (rdOf ByteArray.empty l0 x8_1).toList) = false := bne_eq_false_iff_eq.mpr c6
      clear c6
      obtain rfl := Option.some.inj H
      rotate_left 2
      · go_wp2
        go_ret
        exact rd_
      all_goals
        have p101 : 0 ≤ (x8_1 : Int) := od_
        have q101 : x8_1 < (l0.length : Int) := od_
        obtain ⟨ad101, e101, hx101_0⟩ := Kd.at_string HR0.out x8_1 p101 q101
        cases e101
        replace p101 := eq_true p101
        replace q101 := eq_true q101
        go_wp2
      · go_ret
        exact rd_
      go_roundg k1
      case measure => have := HK1.out; omega
      case rel => exact ⟨(wrap64 (x8_1 + 1)), sm_, H', ⟨by have := HK1.out; omega⟩, by repeat (first | exact Drawn0.refl _ | apply Drawn0.step)⟩

/-! ### slices_Contains_string_string: function 161 -/
def slices_Contains_string_string.f (k : Nat) (l0 : List ByteArray) (a1 : ByteArray) : Option (Bool) := (slices_Index_string_string.f k l0 a1).bind fun t101 => (some (decide (t101 ≥ 0)))
set_option maxHeartbeats 8000000 in
set_option maxRecDepth 100000 in
theorem slices_Contains_string_string.calls (k : Nat) (A0 : Option Addr) (c0 : Nat) (l0 : List ByteArray) (a1 : ByteArray) (r : Bool) (w : World) (hr0 : Kd.C Kd.string w A0 l0.length l0) (hc0 : l0.length ≤ c0) (h : slices_Contains_string_string.f k l0 a1 = some r) :
    Calls Try.prog 161 #[.slice A0 l0.length c0, .string a1] w fun e w' => e = .returned (.bool r) ∧ Drawn0 w w' := by
  have HR0 := Aside0.mk hr0
  have HC0 := Aside0.mk hc0
  clear hr0 hc0
  have H : ((slices_Index_string_string.f k l0 a1).bind fun t101 => (some (decide (t101 ≥ 0)))) = some r := h
  clear h
  replace H := Option.bind_eq_some_iff.mp H
  obtain ⟨t101, A30, H⟩ := H
  replace H : (some (decide (t101 ≥ 0))) = some r := H
  have A3 := Aside0.mk A30
  clear A30
  obtain rfl := Option.some.inj H
  go_enter Try.func161, Try.ntmps161
  go_wp2_with (first | ((with_reducible refine gate_callee (f := 184) rfl ?_); refine goesL_ (some 7) rfl rfl Try.func184 (by kernel_rfl) rfl #[.slice A0 l0.length c0, .string a1] rfl ar_ ?_; (with_reducible refine (slices_Index_string_string.calls k _ _ l0 a1 t101 _ ?side1 ?side2 A3.out).mono ?_); (case side1 => repeat (first | exact HR0.out | (with_reducible refine Kd.C_alloc ?_ _) | (with_reducible refine Kd.C_drewN ?_ _) | (with_reducible refine Kd.C_drew ?_))); (case side2 => exact HC0.out); rintro e w' ⟨rfl, ⟨nd, rfl⟩⟩; refine ⟨_, rfl, ?_⟩))
  go_ret
  exact rd_

/-! ### impl_hasLabel: function 92 -/
def impl_hasLabel.f (k : Nat) (a0_0 : Int) (l0_1 : List ByteArray) (l0_2 : List (S140)) (a1 : ByteArray) : Option (Bool) := if a1.toList = ([] : List UInt8) then (some true) else ((slices_Contains_string_string.f k l0_1 a1).bind fun t102 => (some t102))
set_option maxHeartbeats 8000000 in
set_option maxRecDepth 100000 in
theorem impl_hasLabel.calls (k : Nat) (a0_0 : Int) (A0_1 : Option Addr) (c0_1 : Nat) (l0_1 : List ByteArray) (A0_2 : Option Addr) (c0_2 : Nat) (l0_2 : List (S140)) (a1 : ByteArray) (r : Bool) (w : World) (hr0_1 : Kd.C Kd.string w A0_1 l0_1.length l0_1) (hc0_1 : l0_1.length ≤ c0_1) (hr0_2 : Kd.C k140 w A0_2 l0_2.length l0_2) (hc0_2 : l0_2.length ≤ c0_2) (h : impl_hasLabel.f k a0_0 l0_1 l0_2 a1 = some r) :
    Calls Try.prog 92 #[.agg #[.int .i64 a0_0, .slice A0_1 l0_1.length c0_1, .slice A0_2 l0_2.length c0_2], .string a1] w fun e w' => e = .returned (.bool r) ∧ Below w.heap.size w w' := by
  have hu99 := Try.underlying99
  have HR0_1 := Aside0.mk hr0_1
  have HC0_1 := Aside0.mk hc0_1
  clear hr0_1 hc0_1
  have HR0_2 := Aside0.mk hr0_2
  have HC0_2 := Aside0.mk hc0_2
  clear hr0_2 hc0_2
  have HB := Aside0.mk (Below.refl w.heap.size w)
  have H : (if a1.toList = ([] : List UInt8) then (some true) else ((slices_Contains_string_string.f k l0_1 a1).bind fun t102 => (some t102))) = some r := h
  clear h
  by_cases c3 : a1.toList = ([] : List UInt8)
  rotate_left
  rw [if_neg c3] at H
  have c3b0 : (a1.toList == ([] : List UInt8)) = false := beq_eq_false_iff_ne.mpr c3
  have c3b1 : (a1.toList != ([] : List UInt8)) = true := bne_iff_ne.mpr c3
  replace H := Option.bind_eq_some_iff.mp H
  obtain ⟨t102, A50, H⟩ := H
  replace H : (some t102) = some r := H
  have A5 := Aside0.mk A50
  clear A50
  obtain rfl := Option.some.inj H
  rotate_right
  rw [if_pos c3] at H
  have c3b0 : (a1.toList == ([] : List UInt8)) = true := beq_iff_eq.mpr c3
  have c3b1 : (a1.toList != ([] : List UInt8)) = false := bne_eq_false_iff_eq.mpr c3
  clear c3
  obtain rfl := Option.some.inj H
  all_goals
    go_enter Try.func92, Try.ntmps92
  · go_wp2_with (first | ((with_reducible refine gate_dst (N := 2) rfl ?_); refine bx_ 2 #[.int .i64 a0_0, .slice A0_1 l0_1.length c0_1, .slice A0_2 l0_2.length c0_2] 99 ?_; intro gb7101 hg w4 hbox hb; have BK7101 := Aside0.mk (hbox); have GW7101 := gw_ hg; have GE7101 := gw_ hg; replace HB := bs_ hb; clear hb hbox hg))
    go_ret
    exact re_
  go_wp2_with (first | ((with_reducible refine gate_dst (N := 2) rfl ?_); refine bx_ 2 #[.int .i64 a0_0, .slice A0_1 l0_1.length c0_1, .slice A0_2 l0_2.length c0_2] 99 ?_; intro gb101 hg w6 hbox hb; have BK101 := Aside0.mk (hbox); have GW101 := gw_ hg; have GE101 := gw_ hg; replace HB := bs_ hb; clear hb hbox hg; obtain ⟨hcz7_0, hcz7_1, hcz7_2, hfz7_0, hfz7_1, hfz7_2⟩ := blk3 BK101) | (go_at_call 161; (with_reducible refine (slices_Contains_string_string.calls k _ _ l0_1 a1 t102 _ ?side1 ?side2 A5.out).mono ?_); (case side1 => exact rdb_ HR0_1); (case side2 => exact HC0_1.out); rintro e w' ⟨rfl, ⟨nd, rfl⟩⟩))
  go_ret
  exact re_

/-! ### impl_NodesWith: function 27 -/
def impl_NodesWith.l0 : Nat → ByteArray → List Int → List (S99) → Int → Int → Option (List Int)
  | 0, _, _, _, _, _ => none
  | k + 1, x1, x5, x12, x13, x14 => if x14 < x13 then (if 0 ≤ x14 then (if x14 < (x12.length : Int) then ((impl_hasLabel.f k ((rd_T99 x12 x14).f0) ((rd_T99 x12 x14).f1) ((rd_T99 x12 x14).f2) x1).bind fun t105 => (if t105 = true then (if x5.length < 17592186044416 then (impl_NodesWith.l0 k x1 (x5 ++ [(rd_T99 x12 x14).f0]) x12 x13 (wrap64 (x14 + 1))) else (none)) else (impl_NodesWith.l0 k x1 x5 x12 x13 (wrap64 (x14 + 1))))) else (none)) else (none)) else (some x5)
def impl_NodesWith.f (k : Nat) (l0_0 : List (S99)) (l0_1 : List (S104)) (a0_2 : Int) (a0_3 : Int) (a1 : ByteArray) : Option (List Int) := (impl_GraphOk.f k l0_0 l0_1 a0_2 a0_3).bind fun t102 => (if t102 = true then (impl_NodesWith.l0 k a1 ([] : List Int) l0_0 (l0_0.length : Int) 0) else (some ([] : List Int)))
set_option maxHeartbeats 8000000 in
set_option maxRecDepth 100000 in
theorem impl_NodesWith.calls (k : Nat) (A0_0 : Option Addr) (c0_0 : Nat) (l0_0 : List (S99)) (A0_1 : Option Addr) (c0_1 : Nat) (l0_1 : List (S104)) (a0_2 : Int) (a0_3 : Int) (a1 : ByteArray) (r : List Int) (w : World) (hr0_0 : Kd.C k99 w A0_0 l0_0.length l0_0) (hc0_0 : l0_0.length ≤ c0_0) (hr0_1 : Kd.C k104 w A0_1 l0_1.length l0_1) (hc0_1 : l0_1.length ≤ c0_1) (h : impl_NodesWith.f k l0_0 l0_1 a0_2 a0_3 a1 = some r) :
    Calls Try.prog 27 #[.agg #[.slice A0_0 l0_0.length c0_0, .slice A0_1 l0_1.length c0_1, .int .i64 a0_2, .int .i64 a0_3], .string a1] w fun e w' => ∃ v0_ : Value, e = .returned (v0_) ∧ Kd.R (Kd.int .i64) 3 w' w.heap.size (fun _ => True) v0_ r ∧ Below w.heap.size w w' := by
  have hu31 := Try.underlying31
  have hu99 := Try.underlying99
  have HR0_0 := Aside0.mk hr0_0
  have HC0_0 := Aside0.mk hc0_0
  clear hr0_0 hc0_0
  have HR0_1 := Aside0.mk hr0_1
  have HC0_1 := Aside0.mk hc0_1
  clear hr0_1 hc0_1
  have HB := Aside0.mk (Below.refl w.heap.size w)
  have H : ((impl_GraphOk.f k l0_0 l0_1 a0_2 a0_3).bind fun t102 => (if t102 = true then (impl_NodesWith.l0 k a1 ([] : List Int) l0_0 (l0_0.length : Int) 0) else (some ([] : List Int)))) = some r := h
  clear h
  replace H := Option.bind_eq_some_iff.mp H
  obtain ⟨t102, A30, H⟩ := H
  replace H : (if t102 = true then (impl_NodesWith.l0 k a1 ([] : List Int) l0_0 (l0_0.length : Int) 0) else (some ([] : List Int))) = some r := H
  have A3 := Aside0.mk A30
  clear A30
  by_cases c4 : t102 = true
  rotate_left
  replace c4 := Bool.eq_false_iff.mpr c4
  subst c4
  have H1 : (some ([] : List Int)) = some r := by rw [if_neg (show ¬ (false = true) by decide)] at H; exact H
  clear H
  have H := H1
  clear H1
  obtain rfl := Option.some.inj H
  rotate_right
  subst c4
  have H1 : (impl_NodesWith.l0 k a1 ([] : List Int) l0_0 (l0_0.length : Int) 0) = some r := by rw [if_pos rfl] at H; exact H
  clear H
  have H := H1
  clear H1
  have H' := Aside0.mk H
  clear H
  all_goals
    go_enter Try.func27, Try.ntmps27
  rotate_left
  · go_wp2_with (first | ((with_reducible refine gate_dst (N := 2) rfl ?_); refine bx_ 2 #[.slice A0_0 l0_0.length c0_0, .slice A0_1 l0_1.length c0_1, .int .i64 a0_2, .int .i64 a0_3] 31 ?_; intro gb7101 hg w25 hbox hb; have BK7101 := Aside0.mk (hbox); have GW7101 := gw_ hg; have GE7101 := gw_ hg; replace HB := bs_ hb; clear hb hbox hg; obtain ⟨hcz26_0, hcz26_1, hcz26_2, hcz26_3, hfz26_0, hfz26_1, hfz26_2, hfz26_3⟩ := blk4 BK7101) | ((with_reducible refine gate_callee (f := 18) rfl ?_); refine goesL_ (some 9) rfl rfl Try.func18 (by kernel_rfl) rfl #[.agg #[.slice A0_0 l0_0.length c0_0, .slice A0_1 l0_1.length c0_1, .int .i64 a0_2, .int .i64 a0_3]] rfl ar_ ?_; (with_reducible refine (impl_GraphOk.calls k _ _ l0_0 _ _ l0_1 a0_2 a0_3 false _ ?side1 ?side2 ?side3 ?side4 A3.out).mono ?_); (case side1 => exact rdb_ HR0_0); (case side2 => exact HC0_0.out); (case side3 => exact rdb_ HR0_1); (case side4 => exact HC0_1.out); rintro e w27 ⟨rfl, hb⟩; refine ⟨_, rfl, ?_⟩; replace BK7101 := bb_ BK7101 hb; replace HB := bs_ hb; (try clear hb); (try clear hb2); (try clear hk); (try clear hi)))
    go_ret
    exact ⟨_, by first | rfl | (simp [errW_none, errW_some] <;> rfl) | (simp [*, errW_none, errW_some] <;> rfl), by first | exact Kd.R_nil _ _ _ _ _ | exact Kd.N_nil _ _ _ _ _ | exact Kd.V_nil _ _ _ _ _ | exact Kd.Q_nil _ _ _ _ _ | exact Kd.S_nil _ _ _ _ _, bel_⟩
  go_wp2_with (first | ((with_reducible refine gate_dst (N := 2) rfl ?_); refine bx_ 2 #[.slice A0_0 l0_0.length c0_0, .slice A0_1 l0_1.length c0_1, .int .i64 a0_2, .int .i64 a0_3] 31 ?_; intro gb101 hg w5 hbox hb; have BK101 := Aside0.mk (hbox); have GW101 := gw_ hg; have GE101 := gw_ hg; replace HB := bs_ hb; clear hb hbox hg; obtain ⟨hcz6_0, hcz6_1, hcz6_2, hcz6_3, hfz6_0, hfz6_1, hfz6_2, hfz6_3⟩ := blk4 BK101) | ((with_reducible refine gate_callee (f := 18) rfl ?_); refine goesL_ (some 9) rfl rfl Try.func18 (by kernel_rfl) rfl #[.agg #[.slice A0_0 l0_0.length c0_0, .slice A0_1 l0_1.length c0_1, .int .i64 a0_2, .int .i64 a0_3]] rfl ar_ ?_; (with_reducible refine (impl_GraphOk.calls k _ _ l0_0 _ _ l0_1 a0_2 a0_3 true _ ?side1 ?side2 ?side3 ?side4 A3.out).mono ?_); (case side1 => exact rdb_ HR0_0); (case side2 => exact HC0_0.out); (case side3 => exact rdb_ HR0_1); (case side4 => exact HC0_1.out); rintro e w7 ⟨rfl, hb⟩; refine ⟨_, rfl, ?_⟩; replace BK101 := bb_ BK101 hb; replace HB := bs_ hb; (try clear hb); (try clear hb2); (try clear hk); (try clear hi); obtain ⟨hcz8_0, hcz8_1, hcz8_2, hcz8_3, hfz8_0, hfz8_1, hfz8_2, hfz8_3⟩ := blk4 BK101))
  go_loopg [5, 14] k (fun kq v5 v14 w' => ∃ (x5_1 : List Int) (x14_1 : Int), v14 = .int .i64 x14_1 ∧ Aside0 (impl_NodesWith.l0 kq a1 x5_1 l0_0 (l0_0.length : Int) x14_1 = some r) ∧ Aside0 (kq ≤ k) ∧ Aside0 (Kd.R (Kd.int .i64) 3 w' w.heap.size (fun _ => True) v5 x5_1) ∧ Aside0 (w'.heap[gb101]? = some (.cells #[(.slice A0_0 l0_0.length c0_0), (.slice A0_1 l0_1.length c0_1), .int .i64 a0_2, .int .i64 a0_3] 31 (0, 0))) ∧ Aside0 (Below w.heap.size w w'))
  case atStart => exact ⟨(([] : List Int)), (0), sm_, H', ⟨Nat.le_refl _⟩, ⟨by first | exact Kd.R_nil _ _ _ _ _ | exact Kd.N_nil _ _ _ _ _ | exact Kd.V_nil _ _ _ _ _ | exact Kd.Q_nil _ _ _ _ _ | exact Kd.S_nil _ _ _ _ _⟩, ⟨by refine pe_ ?_; exact BK101.out⟩, ⟨bel_⟩⟩
  case round =>
    clear H'
    try clear c1
    try clear c2
    try clear p2
    try clear c4
    try clear hcz6_0 hcz6_1 hcz6_2 hcz6_3
    try clear hcz8_0 hcz8_1 hcz8_2 hcz8_3
    try clear hfz6_0 hfz6_1 hfz6_2 hfz6_3
    try clear hfz8_0 hfz8_1 hfz8_2 hfz8_3
    obtain ⟨x5_1, x14_1, rfl, HA, HK1, HO_5, BK101, HB⟩ := hrel
    cases gk with
    | zero => exact absurd HA.out (by simp [impl_NodesWith.l0])
    | succ k1 =>
      have H := HA.out
      clear HA
      simp only [impl_NodesWith.l0] at H
      by_cases c9 : x14_1 < (l0_0.length : Int)
      rotate_left
      rw [if_neg c9] at H
      have c9b0 : decide (x14_1 < (l0_0.length : Int)) = false := decide_eq_false c9
      clear c9
      obtain rfl := Option.some.inj H
      rotate_right
      rw [if_pos c9] at H
      have c9b0 : decide (x14_1 < (l0_0.length : Int)) = true := decide_eq_true c9
      clear c9
      by_cases c10 : 0 ≤ x14_1
      rotate_left
      · rw [if_neg c10] at H
        exact absurd H (by simp)
      rotate_right
      rw [if_pos c10] at H
      have c10b0 : decide (0 ≤ x14_1) = true := decide_eq_true c10
      clear c10
      by_cases c11 : x14_1 < (l0_0.length : Int)
      rotate_left
      · rw [if_neg c11] at H
        exact absurd H (by simp)
      rotate_right
      rw [if_pos c11] at H
      have c11b0 : decide (x14_1 < (l0_0.length : Int)) = true := decide_eq_true c11
      clear c11
      replace H := Option.bind_eq_some_iff.mp H
      obtain ⟨t105, A120, H⟩ := H
      replace H : (if t105 = true then (if x5_1.length < 17592186044416 then (impl_NodesWith.l0 k1 a1 (x5_1 ++ [(rd_T99 l0_0 x14_1).f0]) l0_0 (l0_0.length : Int) (wrap64 (x14_1 + 1))) else (none)) else (impl_NodesWith.l0 k1 a1 x5_1 l0_0 (l0_0.length : Int) (wrap64 (x14_1 + 1)))) = some r := H
      have A12 := Aside0.mk A120
      clear A120
      by_cases c13 : t105 = true
      rotate_left
      replace c13 := Bool.eq_false_iff.mpr c13
      subst c13
      have H1 : (impl_NodesWith.l0 k1 a1 x5_1 l0_0 (l0_0.length : Int) (wrap64 (x14_1 + 1))) = some r := by rw [if_neg (show ¬ (false = true) by decide)] at H; exact H
      clear H
      have H := H1
      clear H1
      have H' := Aside0.mk H
      clear H
      rotate_right
      subst c13
      have H1 : (if x5_1.length < 17592186044416 then (impl_NodesWith.l0 k1 a1 (x5_1 ++ [(rd_T99 l0_0 x14_1).f0]) l0_0 (l0_0.length : Int) (wrap64 (x14_1 + 1))) else (none)) = some r := by rw [if_pos rfl] at H; exact H
      clear H
      have H := H1
      clear H1
      by_cases c14 : x5_1.length < 17592186044416
      rotate_left
      · rw [if_neg c14] at H
        exact absurd H (by simp)
      rotate_right
      rw [if_pos c14] at H
      have LMc14 := Aside0.mk c14
      clear c14
      obtain ⟨y106, hy106⟩ : ∃ y_ : List Int, y_ = (x5_1 ++ [(rd_T99 l0_0 x14_1).f0]) := ⟨_, rfl⟩
      replace H : (impl_NodesWith.l0 k1 a1 y106 l0_0 (l0_0.length : Int) (wrap64 (x14_1 + 1))) = some r := by first | (rw [hy106]; with_reducible exact H) | (have H2_ := (Option.bind_some _ _).symm.trans H; rw [hy106]; with_reducible exact H2_) | (have H2_ := (Option.bind_some _ _).symm.trans H; with_reducible exact H2_) | with_reducible exact H | (rw [hy106]; exact H) | exact H
      have Ny106 := Aside0.mk hy106
      clear hy106
      have H' := Aside0.mk H
      clear H
      rotate_left 2
      · go_wp2
        go_ret
        exact ⟨_, by first | rfl | (simp [errW_none, errW_some] <;> rfl) | (simp [*, errW_none, errW_some] <;> rfl), by (with_reducible repeat (first | apply Kd.R_alloc | apply Kd.R_drewN | apply Kd.R_drew)); exact HO_5.out, bel_⟩
      all_goals
        have p103 : 0 ≤ (x14_1 : Int) := od_
        have q103 : x14_1 < (l0_0.length : Int) := od_
        obtain ⟨ad103, A103_1, c103_1, A103_2, c103_2, e103, hx103_0, hx103_1, hx103_2, hl103_1, hi103_1, hl103_2, hi103_2⟩ := at_T99 HR0_0.out x14_1 p103 q103
        cases e103
        replace hx103_0 := mv_ HB hx103_0
        replace hx103_1 := mv_ HB hx103_1
        replace hx103_2 := mv_ HB hx103_2
        have HR103_1 := Aside0.mk hi103_1
        have HC103_1 := Aside0.mk hl103_1
        clear hi103_1 hl103_1
        have HR103_2 := Aside0.mk hi103_2
        have HC103_2 := Aside0.mk hl103_2
        clear hi103_2 hl103_2
        replace p103 := eq_true p103
        replace q103 := eq_true q103
      · go_wp2_with (first | ((with_reducible refine gate_dst (N := 7) rfl ?_); refine bx_ 7 #[.int .i64 0, .slice none 0 0, .slice none 0 0] 99 ?_; intro gb7104 hg w15 hbox hb; have BK7104 := Aside0.mk (hbox); have GW7104 := gw_ hg; have GE7104 := gw_ hg; have NB7101_104 := nlt_ hg BK101; have NB7104_101 := ngt_ hg BK101; replace HO_5 := Aside0.mk (Kd.R_below (by (with_reducible repeat (first | apply Kd.R_alloc | apply Kd.R_drewN | apply Kd.R_drew)); exact HO_5.out) hb); replace BK101 := bb_ BK101 hb; replace HB := bs_ hb; clear hb hbox hg; have hnb16 := NB7104_101.out; have hnc16 := NB7101_104.out; obtain ⟨hcz17_0, hcz17_1, hcz17_2, hfz17_0, hfz17_1, hfz17_2⟩ := blk3 BK7104) | ((with_reducible refine gate_callee (f := 92) rfl ?_); refine goesL_ (some 20) rfl rfl Try.func92 (by kernel_rfl) rfl #[.agg #[.int .i64 ((rd_T99 l0_0 x14_1).f0), .slice A103_1 ((rd_T99 l0_0 x14_1).f1).length c103_1, .slice A103_2 ((rd_T99 l0_0 x14_1).f2).length c103_2], .string a1] rfl ar_ ?_; (with_reducible refine (impl_hasLabel.calls k1 ((rd_T99 l0_0 x14_1).f0) _ _ ((rd_T99 l0_0 x14_1).f1) _ _ ((rd_T99 l0_0 x14_1).f2) a1 true _ ?side1 ?side2 ?side3 ?side4 A12.out).mono ?_); (case side1 => exact Kd.C_below HR103_1.out (bel_)); (case side2 => exact HC103_1.out); (case side3 => exact Kd.C_below HR103_2.out (bel_)); (case side4 => exact HC103_2.out); rintro e w18 ⟨rfl, hb⟩; refine ⟨_, rfl, ?_⟩; replace HO_5 := Aside0.mk (Kd.R_below (by (with_reducible repeat (first | apply Kd.R_alloc | apply Kd.R_drewN | apply Kd.R_drew)); exact (Kd.R_mono (rf3 gb7104 (Kd.R_types HO_5.out BK7104.out (by decide)) (fun _ hk => hk.2)) (fun _ h_ => h_.1))) hb); replace BK101 := Aside0.mk (blk_below (g := gb101) (o := .cells #[.slice (some ad103) l0_0.length c0_0, .slice A0_1 l0_1.length c0_1, .int .i64 a0_2, .int .i64 a0_3] 31 (0, 0)) (by refine pe_ ?_; refine blk_far ?_ NB7101_104.out _; refine pe_ ?_; refine blk_far ?_ NB7101_104.out _; refine pe_ ?_; refine blk_far ?_ NB7101_104.out _; refine pe_ ?_; exact BK101.out) hb); replace BK7104 := Aside0.mk (blk_below (g := gb7104) (o := .cells #[.int .i64 ((rd_T99 l0_0 x14_1).f0), .slice A103_1 ((rd_T99 l0_0 x14_1).f1).length c103_1, .slice A103_2 ((rd_T99 l0_0 x14_1).f2).length c103_2] 99 (0, 0)) (by refine pe_ ?_; refine blk_put (cs := #[.int .i64 ((rd_T99 l0_0 x14_1).f0), .slice A103_1 ((rd_T99 l0_0 x14_1).f1).length c103_1, .slice none 0 0]) ?_ 2 _ rfl; refine pe_ ?_; refine blk_put (cs := #[.int .i64 ((rd_T99 l0_0 x14_1).f0), .slice none 0 0, .slice none 0 0]) ?_ 1 _ rfl; refine pe_ ?_; refine blk_put (cs := #[.int .i64 0, .slice none 0 0, .slice none 0 0]) ?_ 0 _ rfl; refine pe_ ?_; exact BK7104.out) hb); replace HB := bs_ hb; (try clear hb); (try clear hb2); (try clear hk); (try clear hi); obtain ⟨hcz19_0, hcz19_1, hcz19_2, hfz19_0, hfz19_1, hfz19_2⟩ := blk3 BK7104) | ((with_reducible refine gate_builtin (b := .append) (xs := #[.tmp 21, .tmp 24]) rfl ?_); at_builtin; refine Kd.R_append (Kd.int .i64) (w0 := w) w.heap.size rfl (.tmp 21) (.tmp 24) 35 3 (.int .i64 0) 8 rfl Try.underlying35 info3 rfl (by decide) (by omega) u5 x5_1 ((rd_T99 l0_0 x14_1).f0) [.int .i64 ((rd_T99 l0_0 x14_1).f0)] (fun _ => True) (fun _ => False) rfl rfl ?aP (fun _ hk => hk.elim) ?aF ?aO ?aB ?aS ?aL ?_; (case aP => exact rfl); (case aB => exact (bel_)); (case aF => exact (fun _ _ => trivial)); (case aO => exact (by (with_reducible repeat (first | apply Kd.R_alloc | apply Kd.R_drewN | apply Kd.R_drew)); exact HO_5.out)); (case aS => exact (below_size (bel_))); (case aL => have := LMc14.out; omega); intro v107 w20 ho hb hg hat; rw [← Ny106.out] at ho; have HO108 := Aside0.mk (ho); replace BK101 := Aside0.mk (blk_grown (g := gb101) (o := .cells #[.slice (some ad103) l0_0.length c0_0, .slice A0_1 l0_1.length c0_1, .int .i64 a0_2, .int .i64 a0_3] 31 (0, 0)) (bk_ BK101) hg (Kd.R_ne HO_5.out BK101.out (by decide))); replace BK7104 := Aside0.mk (blk_grown (g := gb7104) (o := .cells #[.int .i64 ((rd_T99 l0_0 x14_1).f0), .slice A103_1 ((rd_T99 l0_0 x14_1).f1).length c103_1, .slice A103_2 ((rd_T99 l0_0 x14_1).f2).length c103_2] 99 (0, 0)) (bk_ BK7104) hg (Kd.R_ne HO_5.out BK7104.out (by decide))); replace HB := Aside0.mk (hb); clear HO_5; clear ho hb hg hat))
        go_roundg k1
        case measure => have := HK1.out; omega
        case rel => exact ⟨(y106), (wrap64 (x14_1 + 1)), sm_, H', ⟨by have := HK1.out; omega⟩, ⟨by (with_reducible repeat (first | apply Kd.R_alloc | apply Kd.R_drewN | apply Kd.R_drew)); exact HO108.out⟩, ⟨by refine pe_ ?_; exact BK101.out⟩, ⟨bel_⟩⟩
      go_wp2_with (first | ((with_reducible refine gate_dst (N := 7) rfl ?_); refine bx_ 7 #[.int .i64 0, .slice none 0 0, .slice none 0 0] 99 ?_; intro gb104 hg w21 hbox hb; have BK104 := Aside0.mk (hbox); have GW104 := gw_ hg; have GE104 := gw_ hg; have NB101_104 := nlt_ hg BK101; have NB104_101 := ngt_ hg BK101; replace HO_5 := Aside0.mk (Kd.R_below (by (with_reducible repeat (first | apply Kd.R_alloc | apply Kd.R_drewN | apply Kd.R_drew)); exact HO_5.out) hb); replace BK101 := bb_ BK101 hb; replace HB := bs_ hb; clear hb hbox hg; have hnb22 := NB104_101.out; have hnc22 := NB101_104.out; obtain ⟨hcz23_0, hcz23_1, hcz23_2, hfz23_0, hfz23_1, hfz23_2⟩ := blk3 BK104) | ((with_reducible refine gate_callee (f := 92) rfl ?_); refine goesL_ (some 20) rfl rfl Try.func92 (by kernel_rfl) rfl #[.agg #[.int .i64 ((rd_T99 l0_0 x14_1).f0), .slice A103_1 ((rd_T99 l0_0 x14_1).f1).length c103_1, .slice A103_2 ((rd_T99 l0_0 x14_1).f2).length c103_2], .string a1] rfl ar_ ?_; (with_reducible refine (impl_hasLabel.calls k1 ((rd_T99 l0_0 x14_1).f0) _ _ ((rd_T99 l0_0 x14_1).f1) _ _ ((rd_T99 l0_0 x14_1).f2) a1 false _ ?side1 ?side2 ?side3 ?side4 A12.out).mono ?_); (case side1 => exact Kd.C_below HR103_1.out (bel_)); (case side2 => exact HC103_1.out); (case side3 => exact Kd.C_below HR103_2.out (bel_)); (case side4 => exact HC103_2.out); rintro e w24 ⟨rfl, hb⟩; refine ⟨_, rfl, ?_⟩; replace HO_5 := Aside0.mk (Kd.R_below (by (with_reducible repeat (first | apply Kd.R_alloc | apply Kd.R_drewN | apply Kd.R_drew)); exact (Kd.R_mono (rf3 gb104 (Kd.R_types HO_5.out BK104.out (by decide)) (fun _ hk => hk.2)) (fun _ h_ => h_.1))) hb); replace BK101 := Aside0.mk (blk_below (g := gb101) (o := .cells #[.slice (some ad103) l0_0.length c0_0, .slice A0_1 l0_1.length c0_1, .int .i64 a0_2, .int .i64 a0_3] 31 (0, 0)) (by refine pe_ ?_; refine blk_far ?_ NB101_104.out _; refine pe_ ?_; refine blk_far ?_ NB101_104.out _; refine pe_ ?_; refine blk_far ?_ NB101_104.out _; refine pe_ ?_; exact BK101.out) hb); replace BK104 := Aside0.mk (blk_below (g := gb104) (o := .cells #[.int .i64 ((rd_T99 l0_0 x14_1).f0), .slice A103_1 ((rd_T99 l0_0 x14_1).f1).length c103_1, .slice A103_2 ((rd_T99 l0_0 x14_1).f2).length c103_2] 99 (0, 0)) (by refine pe_ ?_; refine blk_put (cs := #[.int .i64 ((rd_T99 l0_0 x14_1).f0), .slice A103_1 ((rd_T99 l0_0 x14_1).f1).length c103_1, .slice none 0 0]) ?_ 2 _ rfl; refine pe_ ?_; refine blk_put (cs := #[.int .i64 ((rd_T99 l0_0 x14_1).f0), .slice none 0 0, .slice none 0 0]) ?_ 1 _ rfl; refine pe_ ?_; refine blk_put (cs := #[.int .i64 0, .slice none 0 0, .slice none 0 0]) ?_ 0 _ rfl; refine pe_ ?_; exact BK104.out) hb); replace HB := bs_ hb; (try clear hb); (try clear hb2); (try clear hk); (try clear hi)))
      go_roundg k1
      case measure => have := HK1.out; omega
      case rel => exact ⟨(x5_1), (wrap64 (x14_1 + 1)), sm_, H', ⟨by have := HK1.out; omega⟩, ⟨by (with_reducible repeat (first | apply Kd.R_alloc | apply Kd.R_drewN | apply Kd.R_drew)); exact HO_5.out⟩, ⟨by refine pe_ ?_; exact BK101.out⟩, ⟨bel_⟩⟩

end Go.Proofs.Ytcchmhmbjhgfdaa.G
