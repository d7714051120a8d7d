-- Printed by a program of this claim's writer (wip/gen), out of the translation. Lean checks it.
import Derived.Test.YtnecmjmimdojcaaGx0
namespace Go.Proofs.Ytnecmjmimdojcaa.G
open Go.RowKit Go.Proofs.YtnecmjmimdojcaaW.PrintWords Go.Proofs.YtnecmjmimdojcaaW.PrintLast Go.Proofs.YtnecmjmimdojcaaW.PrintMore
attribute [local go_sem] max2_int min2_int max_two min_two max_three min_three max_four min_four Own.str_gtr Own.str_leq Own.str_geq   -- for this text's walks alone
open Own
set_option linter.unusedVariables false
set_option linter.unusedSimpArgs false

/-! ### spec_l4Lit: function 62 -/
mutual
def spec_l4Lit.l0 : Nat → Int → Int → Int → ByteArray → List (S43) → Option (Bool)
  | 0, _, _, _, _, _ => none
  | k + 1, x3, x127000, x127001, x127002, x127003 => if x3 < (x127003.length : Int) then (if 0 ≤ x3 then ((spec_l4Lit.f k ((rd_T43 x127003 x3).f0) ((rd_T43 x127003 x3).f1) ((rd_T43 x127003 x3).f2) ((rd_T43 x127003 x3).f3)).bind fun t128 => (if t128 = true then (spec_l4Lit.l0 k (wrap64 (x3 + 1)) x127000 x127001 x127002 x127003) else (some false))) else (none)) else (some (decide (x127000 ≤ 4)))
def spec_l4Lit.f : Nat → Int → Int → ByteArray → List (S43) → Option (Bool)
  | 0, _, _, _, _ => none
  | k + 1, a0_0, a0_1, a0_2, l0_3 => spec_l4Lit.l0 k 0 a0_0 a0_1 a0_2 l0_3
end
set_option maxHeartbeats 8000000 in
set_option maxRecDepth 100000 in
theorem spec_l4Lit.calls (k : Nat) : ∀ (a0_0 : Int) (a0_1 : Int) (a0_2 : ByteArray) (A0_3 : Option Addr) (c0_3 : Nat) (l0_3 : List (S43)) (r : Bool) (w : World) (hr0_3 : Kd.C k43 w A0_3 l0_3.length l0_3) (hc0_3 : l0_3.length ≤ c0_3) (h : spec_l4Lit.f k a0_0 a0_1 a0_2 l0_3 = some r),
    Calls Try.prog 62 #[.agg #[.int .i64 a0_0, .int .i64 a0_1, .string a0_2, .slice A0_3 l0_3.length c0_3]] w fun e w' => e = .returned (.bool r) ∧ Below w.heap.size w w' := by
  induction k using Nat.strongRecOn with
  | _ k ih =>
  intro a0_0 a0_1 a0_2 A0_3 c0_3 l0_3 r w hr0_3 hc0_3 h
  cases k with
  | zero => exact absurd h (by simp [spec_l4Lit.f])
  | succ k =>
  simp only [spec_l4Lit.f] at h
  have hu43 := Try.underlying43
  have HR0_3 := Aside0.mk hr0_3
  have HC0_3 := Aside0.mk hc0_3
  clear hr0_3 hc0_3
  have HB := Aside0.mk (Below.refl w.heap.size w)
  have H : (spec_l4Lit.l0 k 0 a0_0 a0_1 a0_2 l0_3) = some r := h
  clear h
  have H' := Aside0.mk H
  clear H
  go_enter Try.func62, Try.ntmps62
  go_wp2_with (first | ((with_reducible refine gate_dst (N := 1) rfl ?_); refine box_event ?hg (N := 1) ?hd (cs := #[.int .i64 a0_0, .int .i64 a0_1, .string a0_2, .slice A0_3 l0_3.length c0_3]) (t := 43) ?hr ?_; (case hd => rfl); (case hg => rfl); (case hr => first | (go_simp; done) | (go_simp; rfl)); intro gb126 hg w2 hbox hb; have BK126 := Aside0.mk (hbox); have GW126 := gw_ hg; have GE126 := gw_ hg; replace HB := bs_ hb; clear hb hbox hg))
  go_loopg [3] k (fun kq v3 w' => ∃ (x3_1 : Int), v3 = .int .i64 x3_1 ∧ Aside0 (spec_l4Lit.l0 kq x3_1 a0_0 a0_1 a0_2 l0_3 = some r) ∧ Aside0 (kq ≤ k) ∧ Aside0 (w'.heap[gb126]? = some (.cells #[.int .i64 a0_0, .int .i64 a0_1, .string a0_2, (.slice A0_3 l0_3.length c0_3)] 43 (0, 0))) ∧ Aside0 (Below w.heap.size w w'))
  case atStart => exact ⟨(0), sm_, H', ⟨Nat.le_refl _⟩, ⟨by (with_reducible repeat (first | refine blk_drewN ?_ _ | refine blk_drew ?_ | refine blk_alloc ?_ _)); exact BK126.out⟩, ⟨bel_⟩⟩
  case round =>
    clear H'
    try clear p2
    obtain ⟨x3_1, rfl, HA, HK1, BK126, HB⟩ := hrel
    cases gk with
    | zero => exact absurd HA.out (by simp [spec_l4Lit.l0])
    | succ k1 =>
      have H := HA.out
      clear HA
      simp only [spec_l4Lit.l0] at H
      by_cases c3 : x3_1 < (l0_3.length : Int)
      rotate_left
      · rw [if_neg c3] at H
        have c3b0 : decide (x3_1 < (l0_3.length : Int)) = false := decide_eq_false c3
        clear c3
        obtain rfl := Option.some.inj H
        obtain ⟨hcz11_0, hcz11_1, hcz11_2, hcz11_3, hfz11_0, hfz11_1, hfz11_2, hfz11_3⟩ := blk4 BK126
        go_wp2
        go_ret
        exact re_
      rw [if_pos c3] at H
      have c3b0 : decide (x3_1 < (l0_3.length : Int)) = true := decide_eq_true c3
      clear c3
      by_cases c4 : 0 ≤ x3_1
      rotate_left
      · rw [if_neg c4] at H
        exact absurd H (by simp)
      rw [if_pos c4] at H
      have c4b0 : decide (0 ≤ x3_1) = true := decide_eq_true c4
      clear c4
      replace H := Option.bind_eq_some_iff.mp H
      obtain ⟨t128, A50, H⟩ := H
      replace H : (if t128 = true then (spec_l4Lit.l0 k1 (wrap64 (x3_1 + 1)) a0_0 a0_1 a0_2 l0_3) else (some false)) = some r := H
      have A5 := Aside0.mk A50
      clear A50
      by_cases c6 : t128 = true
      · subst c6
        have H1 : (spec_l4Lit.l0 k1 (wrap64 (x3_1 + 1)) a0_0 a0_1 a0_2 l0_3) = some r := by rw [if_pos rfl] at H; exact H
        clear H
        have H := H1
        clear H1
        have H' := Aside0.mk H
        clear H
        obtain ⟨hcz7_0, hcz7_1, hcz7_2, hcz7_3, hfz7_0, hfz7_1, hfz7_2, hfz7_3⟩ := blk4 BK126
        have p127 : 0 ≤ (x3_1 : Int) := od_
        have q127 : x3_1 < (l0_3.length : Int) := od_
        obtain ⟨ad127, A127_3, c127_3, e127, hx127_0, hx127_1, hx127_2, hx127_3, hl127_3, hi127_3⟩ := at_T43 HR0_3.out x3_1 p127 q127
        cases e127
        replace hx127_0 := mv_ HB hx127_0
        replace hx127_1 := mv_ HB hx127_1
        replace hx127_2 := mv_ HB hx127_2
        replace hx127_3 := mv_ HB hx127_3
        have HR127_3 := Aside0.mk hi127_3
        have HC127_3 := Aside0.mk hl127_3
        clear hi127_3 hl127_3
        replace p127 := eq_true p127
        replace q127 := eq_true q127
        go_wp2_with (first | ((with_reducible refine gate_callee (f := 62) rfl ?_); refine goesL_ (some 16) rfl rfl Try.func62 (by kernel_rfl) rfl #[.agg #[.int .i64 ((rd_T43 l0_3 x3_1).f0), .int .i64 ((rd_T43 l0_3 x3_1).f1), .string ((rd_T43 l0_3 x3_1).f2), .slice A127_3 ((rd_T43 l0_3 x3_1).f3).length c127_3]] rfl ar_ ?_; (with_reducible refine (ih k1 (by have := HK1.out; omega) ((rd_T43 l0_3 x3_1).f0) ((rd_T43 l0_3 x3_1).f1) ((rd_T43 l0_3 x3_1).f2) _ _ ((rd_T43 l0_3 x3_1).f3) true _ ?side1 ?side2 A5.out).mono ?_); (case side1 => exact rdb_ HR127_3); (case side2 => exact HC127_3.out); rintro e w8 ⟨rfl, hb⟩; refine ⟨_, rfl, ?_⟩; replace BK126 := bb_ BK126 hb; replace HB := bs_ hb; (try clear hb); (try clear hb2); (try clear hk); (try clear hi)))
        go_roundg k1
        case measure => have := HK1.out; omega
        case rel => exact ⟨(wrap64 (x3_1 + 1)), sm_, H', ⟨by have := HK1.out; omega⟩, ⟨by (with_reducible repeat (first | refine blk_drewN ?_ _ | refine blk_drew ?_ | refine blk_alloc ?_ _)); exact BK126.out⟩, ⟨bel_⟩⟩
      replace c6 := Bool.eq_false_iff.mpr c6
      subst c6
      have H1 : (some false) = some r := by rw [if_neg (show ¬ (false = true) by decide)] at H; exact H
      clear H
      have H := H1
      clear H1
      obtain rfl := Option.some.inj H
      obtain ⟨hcz9_0, hcz9_1, hcz9_2, hcz9_3, hfz9_0, hfz9_1, hfz9_2, hfz9_3⟩ := blk4 BK126
      have p127 : 0 ≤ (x3_1 : Int) := od_
      have q127 : x3_1 < (l0_3.length : Int) := od_
      obtain ⟨ad127, A127_3, c127_3, e127, hx127_0, hx127_1, hx127_2, hx127_3, hl127_3, hi127_3⟩ := at_T43 HR0_3.out x3_1 p127 q127
      cases e127
      replace hx127_0 := mv_ HB hx127_0
      replace hx127_1 := mv_ HB hx127_1
      replace hx127_2 := mv_ HB hx127_2
      replace hx127_3 := mv_ HB hx127_3
      have HR127_3 := Aside0.mk hi127_3
      have HC127_3 := Aside0.mk hl127_3
      clear hi127_3 hl127_3
      replace p127 := eq_true p127
      replace q127 := eq_true q127
      go_wp2_with (first | ((with_reducible refine gate_callee (f := 62) rfl ?_); refine goesL_ (some 16) rfl rfl Try.func62 (by kernel_rfl) rfl #[.agg #[.int .i64 ((rd_T43 l0_3 x3_1).f0), .int .i64 ((rd_T43 l0_3 x3_1).f1), .string ((rd_T43 l0_3 x3_1).f2), .slice A127_3 ((rd_T43 l0_3 x3_1).f3).length c127_3]] rfl ar_ ?_; (with_reducible refine (ih k1 (by have := HK1.out; omega) ((rd_T43 l0_3 x3_1).f0) ((rd_T43 l0_3 x3_1).f1) ((rd_T43 l0_3 x3_1).f2) _ _ ((rd_T43 l0_3 x3_1).f3) false _ ?side1 ?side2 A5.out).mono ?_); (case side1 => exact rdb_ HR127_3); (case side2 => exact HC127_3.out); rintro e w10 ⟨rfl, hb⟩; refine ⟨_, rfl, ?_⟩; replace BK126 := bb_ BK126 hb; replace HB := bs_ hb; (try clear hb); (try clear hb2); (try clear hk); (try clear hi)))
      go_ret
      exact re_

end Go.Proofs.Ytnecmjmimdojcaa.G
