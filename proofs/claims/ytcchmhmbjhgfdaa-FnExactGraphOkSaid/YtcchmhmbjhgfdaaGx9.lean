-- Printed by a program of this claim's writer (wip/gen), out of the translation. Lean checks it.
import Derived.Test.YtcchmhmbjhgfdaaGx0
namespace Go.Proofs.Ytcchmhmbjhgfdaa.G
open Go.RowKit Go.Proofs.YtcchmhmbjhgfdaaW.PrintWords Go.Proofs.YtcchmhmbjhgfdaaW.PrintLast Go.Proofs.YtcchmhmbjhgfdaaW.PrintMore
attribute [local go_sem] max2_int min2_int max_two min_two max_three min_three max_four min_four Own.str_gtr Own.str_leq Own.str_geq Own.sto_fn   -- for this text's walks alone
open Own
set_option linter.unusedVariables false
set_option linter.unusedSimpArgs false

/-! ### spec_l2Node: function 73 -/
def spec_l2Node.l0 : Nat → Int → Int → List (S99) → List (S104) → Int → Int → Option (Int)
  | 0, _, _, _, _, _, _ => none
  | k + 1, x1, x5, x155000, x155001, x155002, x155003 => if x5 < (x155000.length : Int) then (if 0 ≤ x5 then (if ((rd_T99 x155000 x5).f0) = x1 then (some x5) else (spec_l2Node.l0 k x1 (wrap64 (x5 + 1)) x155000 x155001 x155002 x155003)) else (none)) else (some (-1))
def spec_l2Node.f (k : Nat) (l0_0 : List (S99)) (l0_1 : List (S104)) (a0_2 : Int) (a0_3 : Int) (a1 : Int) : Option (Int) := spec_l2Node.l0 k a1 0 l0_0 l0_1 a0_2 a0_3
set_option maxHeartbeats 8000000 in
set_option maxRecDepth 100000 in
theorem spec_l2Node.calls (k : Nat) (A0_0 : Option Addr) (c0_0 : Nat) (l0_0 : List (S99)) (A0_1 : Option Addr) (c0_1 : Nat) (l0_1 : List (S104)) (a0_2 : Int) (a0_3 : Int) (a1 : Int) (r : Int) (w : World) (hr0_0 : Kd.C k99 w A0_0 l0_0.length l0_0) (hc0_0 : l0_0.length ≤ c0_0) (hr0_1 : Kd.C k104 w A0_1 l0_1.length l0_1) (hc0_1 : l0_1.length ≤ c0_1) (h : spec_l2Node.f k l0_0 l0_1 a0_2 a0_3 a1 = some r) :
    Calls Try.prog 73 #[.agg #[.slice A0_0 l0_0.length c0_0, .slice A0_1 l0_1.length c0_1, .int .i64 a0_2, .int .i64 a0_3], .int .i64 a1] w fun e w' => e = .returned (.int .i64 r) ∧ Below w.heap.size w w' := by
  have hu31 := Try.underlying31
  have HR0_0 := Aside0.mk hr0_0
  have HC0_0 := Aside0.mk hc0_0
  clear hr0_0 hc0_0
  have HR0_1 := Aside0.mk hr0_1
  have HC0_1 := Aside0.mk hc0_1
  clear hr0_1 hc0_1
  have HB := Aside0.mk (Below.refl w.heap.size w)
  have H : (spec_l2Node.l0 k a1 0 l0_0 l0_1 a0_2 a0_3) = some r := h
  clear h
  have H' := Aside0.mk H
  clear H
  go_enter Try.func73, Try.ntmps73
  go_wp2_with (first | ((with_reducible refine gate_dst (N := 2) rfl ?_); refine bx_ 2 #[.slice A0_0 l0_0.length c0_0, .slice A0_1 l0_1.length c0_1, .int .i64 a0_2, .int .i64 a0_3] 31 ?_; intro gb154 hg w3 hbox hb; have BK154 := Aside0.mk (hbox); have GW154 := gw_ hg; have GE154 := gw_ hg; replace HB := bs_ hb; clear hb hbox hg))
  go_loopg [5] k (fun kq v5 w' => ∃ (x5_1 : Int), v5 = .int .i64 x5_1 ∧ Aside0 (spec_l2Node.l0 kq a1 x5_1 l0_0 l0_1 a0_2 a0_3 = some r) ∧ Aside0 (kq ≤ k) ∧ Aside0 (w'.heap[gb154]? = some (.cells #[(.slice A0_0 l0_0.length c0_0), (.slice A0_1 l0_1.length c0_1), .int .i64 a0_2, .int .i64 a0_3] 31 (0, 0))) ∧ Aside0 (Below w.heap.size w w'))
  case atStart => exact ⟨(0), sm_, H', ⟨Nat.le_refl _⟩, ⟨by refine pe_ ?_; exact BK154.out⟩, ⟨bel_⟩⟩
  case round =>
    clear H'
    try clear p2
    obtain ⟨x5_1, rfl, HA, HK1, BK154, HB⟩ := hrel
    cases gk with
    | zero => exact absurd HA.out (by simp [spec_l2Node.l0])
    | succ k1 =>
      have H := HA.out
      clear HA
      simp only [spec_l2Node.l0] at H
      by_cases c4 : x5_1 < (l0_0.length : Int)
      rotate_left
      · rw [if_neg c4] at H
        have c4b0 : decide (x5_1 < (l0_0.length : Int)) = false := decide_eq_false c4
        clear c4
        obtain rfl := Option.some.inj H
        obtain ⟨hcz9_0, hcz9_1, hcz9_2, hcz9_3, hfz9_0, hfz9_1, hfz9_2, hfz9_3⟩ := blk4 BK154
        go_wp2
        go_ret
        exact re_
      rw [if_pos c4] at H
      have c4b0 : decide (x5_1 < (l0_0.length : Int)) = true := decide_eq_true c4
      clear c4
      by_cases c5 : 0 ≤ x5_1
      rotate_left
      · rw [if_neg c5] at H
        exact absurd H (by simp)
      rw [if_pos c5] at H
      have c5b0 : decide (0 ≤ x5_1) = true := decide_eq_true c5
      clear c5
      by_cases c6 : ((rd_T99 l0_0 x5_1).f0) = a1
      · rw [if_pos c6] at H
        have c6b0 : (((rd_T99 l0_0 x5_1).f0) == a1) = true := beq_iff_eq.mpr c6
        have c6b1 : (((rd_T99 l0_0 x5_1).f0) != a1) = false := bne_eq_false_iff_eq.mpr c6
        clear c6
        obtain rfl := Option.some.inj H
        obtain ⟨hcz7_0, hcz7_1, hcz7_2, hcz7_3, hfz7_0, hfz7_1, hfz7_2, hfz7_3⟩ := blk4 BK154
        have p155 : 0 ≤ (x5_1 : Int) := od_
        have q155 : x5_1 < (l0_0.length : Int) := od_
        obtain ⟨ad155, A155_1, c155_1, A155_2, c155_2, e155, hx155_0, hx155_1, hx155_2, hl155_1, hi155_1, hl155_2, hi155_2⟩ := at_T99 HR0_0.out x5_1 p155 q155
        cases e155
        replace hx155_0 := mv_ HB hx155_0
        replace hx155_1 := mv_ HB hx155_1
        replace hx155_2 := mv_ HB hx155_2
        have HR155_1 := Aside0.mk hi155_1
        have HC155_1 := Aside0.mk hl155_1
        clear hi155_1 hl155_1
        have HR155_2 := Aside0.mk hi155_2
        have HC155_2 := Aside0.mk hl155_2
        clear hi155_2 hl155_2
        replace p155 := eq_true p155
        replace q155 := eq_true q155
        go_wp2
        go_ret
        exact re_
      rw [if_neg c6] at H
      have c6b0 : (((rd_T99 l0_0 x5_1).f0) == a1) = false := beq_eq_false_iff_ne.mpr c6
      have c6b1 : (((rd_T99 l0_0 x5_1).f0) != a1) = true := bne_iff_ne.mpr c6
      have H' := Aside0.mk H
      clear H
      obtain ⟨hcz8_0, hcz8_1, hcz8_2, hcz8_3, hfz8_0, hfz8_1, hfz8_2, hfz8_3⟩ := blk4 BK154
      have p155 : 0 ≤ (x5_1 : Int) := od_
      have q155 : x5_1 < (l0_0.length : Int) := od_
      obtain ⟨ad155, A155_1, c155_1, A155_2, c155_2, e155, hx155_0, hx155_1, hx155_2, hl155_1, hi155_1, hl155_2, hi155_2⟩ := at_T99 HR0_0.out x5_1 p155 q155
      cases e155
      replace hx155_0 := mv_ HB hx155_0
      replace hx155_1 := mv_ HB hx155_1
      replace hx155_2 := mv_ HB hx155_2
      have HR155_1 := Aside0.mk hi155_1
      have HC155_1 := Aside0.mk hl155_1
      clear hi155_1 hl155_1
      have HR155_2 := Aside0.mk hi155_2
      have HC155_2 := Aside0.mk hl155_2
      clear hi155_2 hl155_2
      replace p155 := eq_true p155
      replace q155 := eq_true q155
      go_wp2
      go_roundg k1
      case measure => have := HK1.out; omega
      case rel => exact ⟨(wrap64 (x5_1 + 1)), sm_, H', ⟨by have := HK1.out; omega⟩, ⟨by refine pe_ ?_; exact BK154.out⟩, ⟨bel_⟩⟩

end Go.Proofs.Ytcchmhmbjhgfdaa.G
