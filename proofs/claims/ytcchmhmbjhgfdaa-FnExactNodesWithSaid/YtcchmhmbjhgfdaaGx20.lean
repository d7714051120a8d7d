-- Printed by a program of this claim's writer (wip/gen), out of the translation. Lean checks it.
import Derived.Test.YtcchmhmbjhgfdaaGx0
import Derived.Test.YtcchmhmbjhgfdaaGx16
namespace Go.Proofs.Ytcchmhmbjhgfdaa.G
open Go.RowKit Go.Proofs.YtcchmhmbjhgfdaaW.PrintWords Go.Proofs.YtcchmhmbjhgfdaaW.PrintLast Go.Proofs.YtcchmhmbjhgfdaaW.PrintMore
attribute [local go_sem] max2_int min2_int max_two min_two max_three min_three max_four min_four Own.str_gtr Own.str_leq Own.str_geq Own.sto_fn   -- for this text's walks alone
open Own
set_option linter.unusedVariables false
set_option linter.unusedSimpArgs false

/-! ### impl_Node_place: function 83 -/
def impl_Node_place.l0 : Nat → Int → List (S99) → Int → Int → Option (Int)
  | 0, _, _, _, _ => none
  | k + 1, x1, x8, x9, x10 => if x10 < x9 then (if 0 ≤ x10 then (if x10 < (x8.length : Int) then ((impl_nodesOf_1.f ((rd_T99 x8 x10).f0) ((rd_T99 x8 x10).f1) ((rd_T99 x8 x10).f2)).bind fun t104 => (if t104 = x1 then (some x10) else (impl_Node_place.l0 k x1 x8 x9 (wrap64 (x10 + 1))))) else (none)) else (none)) else (some (-1))
def impl_Node_place.f (k : Nat) (l0_0 : List (S99)) (a0_1 : Bool) (a1 : Int) : Option (Int) := impl_Node_place.l0 k a1 l0_0 (l0_0.length : Int) 0
set_option maxHeartbeats 8000000 in
set_option maxRecDepth 100000 in
theorem impl_Node_place.calls (k : Nat) (A0_0 : Option Addr) (c0_0 : Nat) (l0_0 : List (S99)) (a0_1 : Bool) (a1 : Int) (r : Int) (w : World) (hr0_0 : Kd.C k99 w A0_0 l0_0.length l0_0) (hc0_0 : l0_0.length ≤ c0_0) (h : impl_Node_place.f k l0_0 a0_1 a1 = some r) :
    Calls Try.prog 83 #[.agg #[.slice A0_0 l0_0.length c0_0, .func (.func 154) #[] #[]], .int .i64 a1] w fun e w' => e = .returned (.int .i64 r) ∧ Below w.heap.size w w' := by
  have hu110 := Try.underlying110
  have hu99 := Try.underlying99
  have HR0_0 := Aside0.mk hr0_0
  have HC0_0 := Aside0.mk hc0_0
  clear hr0_0 hc0_0
  have HB := Aside0.mk (Below.refl w.heap.size w)
  have H : (impl_Node_place.l0 k a1 l0_0 (l0_0.length : Int) 0) = some r := h
  clear h
  have H' := Aside0.mk H
  clear H
  go_enter Try.func83, Try.ntmps83
  go_wp2_with (first | ((with_reducible refine gate_dst (N := 2) rfl ?_); refine bx_ 2 #[.slice A0_0 l0_0.length c0_0, .func (.func 154) #[] #[]] 110 ?_; intro gb101 hg w3 hbox hb; have BK101 := Aside0.mk (hbox); have GW101 := gw_ hg; have GE101 := gw_ hg; replace HB := bs_ hb; clear hb hbox hg; obtain ⟨hcz4_0, hcz4_1, hfz4_0, hfz4_1⟩ := blk2 BK101))
  go_loopg [10] k (fun kq v10 w' => ∃ (x10_1 : Int), v10 = .int .i64 x10_1 ∧ Aside0 (impl_Node_place.l0 kq a1 l0_0 (l0_0.length : Int) x10_1 = some r) ∧ Aside0 (kq ≤ k) ∧ Aside0 (w'.heap[gb101]? = some (.cells #[(.slice A0_0 l0_0.length c0_0), .func (.func 154) #[] #[]] 110 (0, 0))) ∧ Aside0 (Below w.heap.size w w'))
  case atStart => exact ⟨(0), sm_, H', ⟨Nat.le_refl _⟩, ⟨by refine pe_ ?_; exact BK101.out⟩, ⟨bel_⟩⟩
  case round =>
    clear H'
    try clear p2
    try clear hcz4_0 hcz4_1
    try clear hfz4_0 hfz4_1
    obtain ⟨x10_1, rfl, HA, HK1, BK101, HB⟩ := hrel
    cases gk with
    | zero => exact absurd HA.out (by simp [impl_Node_place.l0])
    | succ k1 =>
      have H := HA.out
      clear HA
      simp only [impl_Node_place.l0] at H
      by_cases c5 : x10_1 < (l0_0.length : Int)
      rotate_left
      rw [if_neg c5] at H
      have c5b0 : decide (x10_1 < (l0_0.length : Int)) = false := decide_eq_false c5
      clear c5
      obtain rfl := Option.some.inj H
      rotate_right
      rw [if_pos c5] at H
      have c5b0 : decide (x10_1 < (l0_0.length : Int)) = true := decide_eq_true c5
      clear c5
      by_cases c6 : 0 ≤ x10_1
      rotate_left
      · rw [if_neg c6] at H
        exact absurd H (by simp)
      rotate_right
      rw [if_pos c6] at H
      have c6b0 : decide (0 ≤ x10_1) = true := decide_eq_true c6
      clear c6
      by_cases c7 : x10_1 < (l0_0.length : Int)
      rotate_left
      · rw [if_neg c7] at H
        exact absurd H (by simp)
      rotate_right
      rw [if_pos c7] at H
      have c7b0 : decide (x10_1 < (l0_0.length : Int)) = true := decide_eq_true c7
      clear c7
      replace H := Option.bind_eq_some_iff.mp H
      obtain ⟨t104, A80, H⟩ := H
      replace H : (if t104 = a1 then (some x10_1) else (impl_Node_place.l0 k1 a1 l0_0 (l0_0.length : Int) (wrap64 (x10_1 + 1)))) = some r := H
      have A8 := Aside0.mk A80
      clear A80
      by_cases c9 : t104 = a1
      rotate_left
      rw [if_neg c9] at H
      have c9b0 : (t104 == a1) = false := beq_eq_false_iff_ne.mpr c9
      have c9b1 : (t104 != a1) = true := bne_iff_ne.mpr c9
      have H' := Aside0.mk H
      clear H
      rotate_right
      rw [if_pos c9] at H
      have c9b0 : (t104 == a1) = true := beq_iff_eq.mpr c9
      have c9b1 : (t104 != a1) = false := bne_eq_false_iff_eq.mpr c9
      clear c9
      obtain rfl := Option.some.inj H
      rotate_left 2
      · go_wp2
        go_ret
        exact re_
      all_goals
        have p102 : 0 ≤ (x10_1 : Int) := od_
        have q102 : x10_1 < (l0_0.length : Int) := od_
        obtain ⟨ad102, A102_1, c102_1, A102_2, c102_2, e102, hx102_0, hx102_1, hx102_2, hl102_1, hi102_1, hl102_2, hi102_2⟩ := at_T99 HR0_0.out x10_1 p102 q102
        cases e102
        replace hx102_0 := mv_ HB hx102_0
        replace hx102_1 := mv_ HB hx102_1
        replace hx102_2 := mv_ HB hx102_2
        have HR102_1 := Aside0.mk hi102_1
        have HC102_1 := Aside0.mk hl102_1
        clear hi102_1 hl102_1
        have HR102_2 := Aside0.mk hi102_2
        have HC102_2 := Aside0.mk hl102_2
        clear hi102_2 hl102_2
        replace p102 := eq_true p102
        replace q102 := eq_true q102
        go_wp2_with (first | ((with_reducible refine gate_dst (N := 6) rfl ?_); refine bx_ 6 #[.int .i64 0, .slice none 0 0, .slice none 0 0] 99 ?_; intro gb103 hg w15 hbox hb; have BK103 := Aside0.mk (hbox); have GW103 := gw_ hg; have GE103 := gw_ hg; have NB101_103 := nlt_ hg BK101; have NB103_101 := ngt_ hg BK101; replace BK101 := bb_ BK101 hb; replace HB := bs_ hb; clear hb hbox hg; have hnb16 := NB103_101.out; have hnc16 := NB101_103.out; obtain ⟨hcz17_0, hcz17_1, hcz17_2, hfz17_0, hfz17_1, hfz17_2⟩ := blk3 BK103; obtain ⟨hcz18_0, hcz18_1, hfz18_0, hfz18_1⟩ := blk2 BK101) | ((with_reducible refine gate_dst (N := 18) rfl ?_); refine goesT_ (some 18) rfl rfl Try.func154 (by kernel_rfl) rfl #[.agg #[.int .i64 ((rd_T99 l0_0 x10_1).f0), .slice A102_1 ((rd_T99 l0_0 x10_1).f1).length c102_1, .slice A102_2 ((rd_T99 l0_0 x10_1).f2).length c102_2]] rfl rfl ar_ ?_; (with_reducible refine (impl_nodesOf_1.calls ((rd_T99 l0_0 x10_1).f0) _ _ ((rd_T99 l0_0 x10_1).f1) _ _ ((rd_T99 l0_0 x10_1).f2) t104 _ ?side1 ?side2 ?side3 ?side4 A8.out).mono ?_); (case side1 => exact Kd.C_below HR102_1.out (bel_)); (case side2 => exact HC102_1.out); (case side3 => exact Kd.C_below HR102_2.out (bel_)); (case side4 => exact HC102_2.out); rintro e w19 ⟨rfl, hb⟩; refine ⟨_, rfl, ?_⟩; replace BK101 := Aside0.mk (blk_below (g := gb101) (o := .cells #[.slice (some ad102) l0_0.length c0_0, .func (.func 154) #[] #[]] 110 (0, 0)) (by refine pe_ ?_; refine blk_far ?_ NB101_103.out _; refine pe_ ?_; refine blk_far ?_ NB101_103.out _; refine pe_ ?_; refine blk_far ?_ NB101_103.out _; refine pe_ ?_; exact BK101.out) hb); replace BK103 := Aside0.mk (blk_below (g := gb103) (o := .cells #[.int .i64 ((rd_T99 l0_0 x10_1).f0), .slice A102_1 ((rd_T99 l0_0 x10_1).f1).length c102_1, .slice A102_2 ((rd_T99 l0_0 x10_1).f2).length c102_2] 99 (0, 0)) (by refine pe_ ?_; refine blk_put (cs := #[.int .i64 ((rd_T99 l0_0 x10_1).f0), .slice A102_1 ((rd_T99 l0_0 x10_1).f1).length c102_1, .slice none 0 0]) ?_ 2 _ rfl; refine pe_ ?_; refine blk_put (cs := #[.int .i64 ((rd_T99 l0_0 x10_1).f0), .slice none 0 0, .slice none 0 0]) ?_ 1 _ rfl; refine pe_ ?_; refine blk_put (cs := #[.int .i64 0, .slice none 0 0, .slice none 0 0]) ?_ 0 _ rfl; refine pe_ ?_; exact BK103.out) hb); replace HB := bs_ hb; (try clear hb); (try clear hb2); (try clear hk); (try clear hi)))
      · go_ret
        exact re_
      go_roundg k1
      case measure => have := HK1.out; omega
      case rel => exact ⟨(wrap64 (x10_1 + 1)), sm_, H', ⟨by have := HK1.out; omega⟩, ⟨by refine pe_ ?_; exact BK101.out⟩, ⟨bel_⟩⟩

end Go.Proofs.Ytcchmhmbjhgfdaa.G
