-- Printed by a program of this claim's writer (wip/gen), out of the translation. Lean checks it.
import Derived.Test.YtcchmhmbjhgfdaaGx0
import Derived.Test.YtcchmhmbjhgfdaaGx17
import Derived.Test.YtcchmhmbjhgfdaaGx18
namespace Go.Proofs.Ytcchmhmbjhgfdaa.G
open Go.RowKit Go.Proofs.YtcchmhmbjhgfdaaW.PrintWords Go.Proofs.YtcchmhmbjhgfdaaW.PrintLast Go.Proofs.YtcchmhmbjhgfdaaW.PrintMore
attribute [local go_sem] max2_int min2_int max_two min_two max_three min_three max_four min_four Own.str_gtr Own.str_leq Own.str_geq Own.sto_fn   -- for this text's walks alone
open Own
set_option linter.unusedVariables false
set_option linter.unusedSimpArgs false

/-! ### impl_valueHas: function 175 -/
mutual
def impl_valueHas.l0 : Nat → Int → List (S49) → Int → Int → Option (Bool)
  | 0, _, _, _, _ => none
  | k + 1, x1, x12, x13, x14 => if x14 < x13 then (if 0 ≤ x14 then (if x14 < (x12.length : Int) then ((impl_valueHas.f k ((rd_T49 x12 x14).f0) ((rd_T49 x12 x14).f1) ((rd_T49 x12 x14).f2) ((rd_T49 x12 x14).f3) x1).bind fun t104 => (if t104 = true then (some true) else (impl_valueHas.l0 k x1 x12 x13 (wrap64 (x14 + 1))))) else (none)) else (none)) else (some false)
def impl_valueHas.f : Nat → Int → Int → ByteArray → List (S49) → Int → Option (Bool)
  | 0, _, _, _, _, _ => none
  | k + 1, a0_0, a0_1, a0_2, l0_3, a1 => if a0_0 = a1 then (some true) else (impl_valueHas.l0 k a1 l0_3 (l0_3.length : Int) 0)
end
set_option maxHeartbeats 8000000 in
set_option maxRecDepth 100000 in
theorem impl_valueHas.calls (k : Nat) : ∀ (a0_0 : Int) (a0_1 : Int) (a0_2 : ByteArray) (A0_3 : Option Addr) (c0_3 : Nat) (l0_3 : List (S49)) (a1 : Int) (r : Bool) (w : World) (hr0_3 : Kd.C k49 w A0_3 l0_3.length l0_3) (hc0_3 : l0_3.length ≤ c0_3) (h : impl_valueHas.f k a0_0 a0_1 a0_2 l0_3 a1 = some r),
    Calls Try.prog 175 #[.agg #[.int .i64 a0_0, .int .i64 a0_1, .string a0_2, .slice A0_3 l0_3.length c0_3], .int .i64 a1] w fun e w' => e = .returned (.bool r) ∧ Below w.heap.size w w' := by
  induction k using Nat.strongRecOn with
  | _ k ih =>
  intro a0_0 a0_1 a0_2 A0_3 c0_3 l0_3 a1 r w hr0_3 hc0_3 h
  cases k with
  | zero => exact absurd h (by simp [impl_valueHas.f])
  | succ k =>
  simp only [impl_valueHas.f] at h
  have hu49 := Try.underlying49
  have HR0_3 := Aside0.mk hr0_3
  have HC0_3 := Aside0.mk hc0_3
  clear hr0_3 hc0_3
  have HB := Aside0.mk (Below.refl w.heap.size w)
  have H : (if a0_0 = a1 then (some true) else (impl_valueHas.l0 k a1 l0_3 (l0_3.length : Int) 0)) = some r := h
  clear h
  by_cases c3 : a0_0 = a1
  rotate_left
  rw [if_neg c3] at H
  have c3b0 : (a0_0 == a1) = false := beq_eq_false_iff_ne.mpr c3
  have c3b1 : (a0_0 != a1) = true := bne_iff_ne.mpr c3
  have H' := Aside0.mk H
  clear H
  rotate_right
  rw [if_pos c3] at H
  have c3b0 : (a0_0 == a1) = true := beq_iff_eq.mpr c3
  have c3b1 : (a0_0 != a1) = false := bne_eq_false_iff_eq.mpr c3
  clear c3
  obtain rfl := Option.some.inj H
  all_goals
    go_enter Try.func175, Try.ntmps175
    go_wp2_with (first | ((with_reducible refine gate_dst (N := 2) rfl ?_); refine bx_ 2 #[.int .i64 a0_0, .int .i64 a0_1, .string a0_2, .slice A0_3 l0_3.length c0_3] 49 ?_; intro gb101 hg w6 hbox hb; have BK101 := Aside0.mk (hbox); have GW101 := gw_ hg; have GE101 := gw_ hg; replace HB := bs_ hb; clear hb hbox hg; obtain ⟨hcz7_0, hcz7_1, hcz7_2, hcz7_3, hfz7_0, hfz7_1, hfz7_2, hfz7_3⟩ := blk4 BK101))
  · go_ret
    exact re_
  go_loopg [14] k (fun kq v14 w' => ∃ (x14_1 : Int), v14 = .int .i64 x14_1 ∧ Aside0 (impl_valueHas.l0 kq a1 l0_3 (l0_3.length : Int) x14_1 = some r) ∧ Aside0 (kq ≤ k) ∧ Aside0 (w'.heap[gb101]? = some (.cells #[.int .i64 a0_0, .int .i64 a0_1, .string a0_2, (.slice A0_3 l0_3.length c0_3)] 49 (0, 0))) ∧ Aside0 (Below w.heap.size w w'))
  case atStart => exact ⟨(0), sm_, H', ⟨Nat.le_refl _⟩, ⟨by refine pe_ ?_; exact BK101.out⟩, ⟨bel_⟩⟩
  case round =>
    clear H'
    try clear c1
    try clear p2
    try clear c3
    try clear c3b0
    try clear c3b1
    try clear hcz5_0 hcz5_1 hcz5_2 hcz5_3
    try clear hcz7_0 hcz7_1 hcz7_2 hcz7_3
    try clear hfz5_0 hfz5_1 hfz5_2 hfz5_3
    try clear hfz7_0 hfz7_1 hfz7_2 hfz7_3
    obtain ⟨x14_1, rfl, HA, HK1, BK101, HB⟩ := hrel
    cases gk with
    | zero => exact absurd HA.out (by simp [impl_valueHas.l0])
    | succ k1 =>
      have H := HA.out
      clear HA
      simp only [impl_valueHas.l0] at H
      by_cases c8 : x14_1 < (l0_3.length : Int)
      rotate_left
      rw [if_neg c8] at H
      have c8b0 : decide (x14_1 < (l0_3.length : Int)) = false := decide_eq_false c8
      clear c8
      obtain rfl := Option.some.inj H
      rotate_right
      rw [if_pos c8] at H
      have c8b0 : decide (x14_1 < (l0_3.length : Int)) = true := decide_eq_true c8
      clear c8
      by_cases c9 : 0 ≤ x14_1
      rotate_left
      · rw [if_neg c9] at H
        exact absurd H (by simp)
      rotate_right
      rw [if_pos c9] at H
      have c9b0 : decide (0 ≤ x14_1) = true := decide_eq_true c9
      clear c9
      by_cases c10 : x14_1 < (l0_3.length : Int)
      rotate_left
      · rw [if_neg c10] at H
        exact absurd H (by simp)
      rotate_right
      rw [if_pos c10] at H
      have c10b0 : decide (x14_1 < (l0_3.length : Int)) = true := decide_eq_true c10
      clear c10
      replace H := Option.bind_eq_some_iff.mp H
      obtain ⟨t104, A110, H⟩ := H
      replace H : (if t104 = true then (some true) else (impl_valueHas.l0 k1 a1 l0_3 (l0_3.length : Int) (wrap64 (x14_1 + 1)))) = some r := H
      have A11 := Aside0.mk A110
      clear A110
      by_cases c12 : t104 = true
      rotate_left
      replace c12 := Bool.eq_false_iff.mpr c12
      subst c12
      have H1 : (impl_valueHas.l0 k1 a1 l0_3 (l0_3.length : Int) (wrap64 (x14_1 + 1))) = some r := by rw [if_neg (show ¬ (false = true) by decide)] at H; exact H
      clear H
      have H := H1
      clear H1
      have H' := Aside0.mk H
      clear H
      rotate_right
      subst c12
      have H1 : (some true) = some r := by rw [if_pos rfl] at H; exact H
      clear H
      have H := H1
      clear H1
      obtain rfl := Option.some.inj H
      rotate_left 2
      · go_wp2
        go_ret
        exact re_
      all_goals
        have p102 : 0 ≤ (x14_1 : Int) := od_
        have q102 : x14_1 < (l0_3.length : Int) := od_
        obtain ⟨ad102, A102_3, c102_3, e102, hx102_0, hx102_1, hx102_2, hx102_3, hl102_3, hi102_3⟩ := at_T49 HR0_3.out x14_1 p102 q102
        cases e102
        replace hx102_0 := mv_ HB hx102_0
        replace hx102_1 := mv_ HB hx102_1
        replace hx102_2 := mv_ HB hx102_2
        replace hx102_3 := mv_ HB hx102_3
        have HR102_3 := Aside0.mk hi102_3
        have HC102_3 := Aside0.mk hl102_3
        clear hi102_3 hl102_3
        replace p102 := eq_true p102
        replace q102 := eq_true q102
      · go_wp2_with (first | ((with_reducible refine gate_dst (N := 6) rfl ?_); refine bx_ 6 #[.int .i64 0, .int .i64 0, .string (⟨#[]⟩ : ByteArray), .slice none 0 0] 49 ?_; intro gb7103 hg w13 hbox hb; have BK7103 := Aside0.mk (hbox); have GW7103 := gw_ hg; have GE7103 := gw_ hg; have NB7101_103 := nlt_ hg BK101; have NB7103_101 := ngt_ hg BK101; replace BK101 := bb_ BK101 hb; replace HB := bs_ hb; clear hb hbox hg; have hnb14 := NB7103_101.out; have hnc14 := NB7101_103.out; obtain ⟨hcz15_0, hcz15_1, hcz15_2, hcz15_3, hfz15_0, hfz15_1, hfz15_2, hfz15_3⟩ := blk4 BK7103) | ((with_reducible refine gate_callee (f := 175) rfl ?_); refine goesL_ (some 20) rfl rfl Try.func175 (by kernel_rfl) rfl #[.agg #[.int .i64 ((rd_T49 l0_3 x14_1).f0), .int .i64 ((rd_T49 l0_3 x14_1).f1), .string ((rd_T49 l0_3 x14_1).f2), .slice A102_3 ((rd_T49 l0_3 x14_1).f3).length c102_3], .int .i64 a1] rfl ar_ ?_; (with_reducible refine (ih k1 (by have := HK1.out; omega) ((rd_T49 l0_3 x14_1).f0) ((rd_T49 l0_3 x14_1).f1) ((rd_T49 l0_3 x14_1).f2) _ _ ((rd_T49 l0_3 x14_1).f3) a1 true _ ?side1 ?side2 A11.out).mono ?_); (case side1 => exact Kd.C_below HR102_3.out (bel_)); (case side2 => exact HC102_3.out); rintro e w16 ⟨rfl, hb⟩; refine ⟨_, rfl, ?_⟩; replace BK101 := Aside0.mk (blk_below (g := gb101) (o := .cells #[.int .i64 a0_0, .int .i64 a0_1, .string a0_2, .slice (some ad102) l0_3.length c0_3] 49 (0, 0)) (by refine pe_ ?_; refine blk_far ?_ NB7101_103.out _; refine pe_ ?_; refine blk_far ?_ NB7101_103.out _; refine pe_ ?_; refine blk_far ?_ NB7101_103.out _; refine pe_ ?_; refine blk_far ?_ NB7101_103.out _; refine pe_ ?_; exact BK101.out) hb); replace BK7103 := Aside0.mk (blk_below (g := gb7103) (o := .cells #[.int .i64 ((rd_T49 l0_3 x14_1).f0), .int .i64 ((rd_T49 l0_3 x14_1).f1), .string ((rd_T49 l0_3 x14_1).f2), .slice A102_3 ((rd_T49 l0_3 x14_1).f3).length c102_3] 49 (0, 0)) (by refine pe_ ?_; refine blk_put (cs := #[.int .i64 ((rd_T49 l0_3 x14_1).f0), .int .i64 ((rd_T49 l0_3 x14_1).f1), .string ((rd_T49 l0_3 x14_1).f2), .slice none 0 0]) ?_ 3 _ rfl; refine pe_ ?_; refine blk_put (cs := #[.int .i64 ((rd_T49 l0_3 x14_1).f0), .int .i64 ((rd_T49 l0_3 x14_1).f1), .string (⟨#[]⟩ : ByteArray), .slice none 0 0]) ?_ 2 _ rfl; refine pe_ ?_; refine blk_put (cs := #[.int .i64 ((rd_T49 l0_3 x14_1).f0), .int .i64 0, .string (⟨#[]⟩ : ByteArray), .slice none 0 0]) ?_ 1 _ rfl; refine pe_ ?_; refine blk_put (cs := #[.int .i64 0, .int .i64 0, .string (⟨#[]⟩ : ByteArray), .slice none 0 0]) ?_ 0 _ rfl; refine pe_ ?_; exact BK7103.out) hb); replace HB := bs_ hb; (try clear hb); (try clear hb2); (try clear hk); (try clear hi)))
        go_ret
        exact re_
      go_wp2_with (first | ((with_reducible refine gate_dst (N := 6) rfl ?_); refine bx_ 6 #[.int .i64 0, .int .i64 0, .string (⟨#[]⟩ : ByteArray), .slice none 0 0] 49 ?_; intro gb103 hg w17 hbox hb; have BK103 := Aside0.mk (hbox); have GW103 := gw_ hg; have GE103 := gw_ hg; have NB101_103 := nlt_ hg BK101; have NB103_101 := ngt_ hg BK101; replace BK101 := bb_ BK101 hb; replace HB := bs_ hb; clear hb hbox hg; have hnb18 := NB103_101.out; have hnc18 := NB101_103.out; obtain ⟨hcz19_0, hcz19_1, hcz19_2, hcz19_3, hfz19_0, hfz19_1, hfz19_2, hfz19_3⟩ := blk4 BK103) | ((with_reducible refine gate_callee (f := 175) rfl ?_); refine goesL_ (some 20) rfl rfl Try.func175 (by kernel_rfl) rfl #[.agg #[.int .i64 ((rd_T49 l0_3 x14_1).f0), .int .i64 ((rd_T49 l0_3 x14_1).f1), .string ((rd_T49 l0_3 x14_1).f2), .slice A102_3 ((rd_T49 l0_3 x14_1).f3).length c102_3], .int .i64 a1] rfl ar_ ?_; (with_reducible refine (ih k1 (by have := HK1.out; omega) ((rd_T49 l0_3 x14_1).f0) ((rd_T49 l0_3 x14_1).f1) ((rd_T49 l0_3 x14_1).f2) _ _ ((rd_T49 l0_3 x14_1).f3) a1 false _ ?side1 ?side2 A11.out).mono ?_); (case side1 => exact Kd.C_below HR102_3.out (bel_)); (case side2 => exact HC102_3.out); rintro e w20 ⟨rfl, hb⟩; refine ⟨_, rfl, ?_⟩; replace BK101 := Aside0.mk (blk_below (g := gb101) (o := .cells #[.int .i64 a0_0, .int .i64 a0_1, .string a0_2, .slice (some ad102) l0_3.length c0_3] 49 (0, 0)) (by refine pe_ ?_; refine blk_far ?_ NB101_103.out _; refine pe_ ?_; refine blk_far ?_ NB101_103.out _; refine pe_ ?_; refine blk_far ?_ NB101_103.out _; refine pe_ ?_; refine blk_far ?_ NB101_103.out _; refine pe_ ?_; exact BK101.out) hb); replace BK103 := Aside0.mk (blk_below (g := gb103) (o := .cells #[.int .i64 ((rd_T49 l0_3 x14_1).f0), .int .i64 ((rd_T49 l0_3 x14_1).f1), .string ((rd_T49 l0_3 x14_1).f2), .slice A102_3 ((rd_T49 l0_3 x14_1).f3).length c102_3] 49 (0, 0)) (by refine pe_ ?_; refine blk_put (cs := #[.int .i64 ((rd_T49 l0_3 x14_1).f0), .int .i64 ((rd_T49 l0_3 x14_1).f1), .string ((rd_T49 l0_3 x14_1).f2), .slice none 0 0]) ?_ 3 _ rfl; refine pe_ ?_; refine blk_put (cs := #[.int .i64 ((rd_T49 l0_3 x14_1).f0), .int .i64 ((rd_T49 l0_3 x14_1).f1), .string (⟨#[]⟩ : ByteArray), .slice none 0 0]) ?_ 2 _ rfl; refine pe_ ?_; refine blk_put (cs := #[.int .i64 ((rd_T49 l0_3 x14_1).f0), .int .i64 0, .string (⟨#[]⟩ : ByteArray), .slice none 0 0]) ?_ 1 _ rfl; refine pe_ ?_; refine blk_put (cs := #[.int .i64 0, .int .i64 0, .string (⟨#[]⟩ : ByteArray), .slice none 0 0]) ?_ 0 _ rfl; refine pe_ ?_; exact BK103.out) hb); replace HB := bs_ hb; (try clear hb); (try clear hb2); (try clear hk); (try clear hi)))
      go_roundg k1
      case measure => have := HK1.out; omega
      case rel => exact ⟨(wrap64 (x14_1 + 1)), sm_, H', ⟨by have := HK1.out; omega⟩, ⟨by refine pe_ ?_; exact BK101.out⟩, ⟨bel_⟩⟩

/-! ### impl_storable: function 130 -/
def impl_storable.f (k : Nat) (a0_0 : Int) (a0_1 : Int) (a0_2 : ByteArray) (l0_3 : List (S49)) : Option (Bool) := (impl_ValueOk.f k a0_0 a0_1 a0_2 l0_3).bind fun t102 => (if t102 = true then ((impl_valueHas.f k a0_0 a0_1 a0_2 l0_3 0).bind fun t103 => (if t103 = true then (some false) else ((impl_valueHas.f k a0_0 a0_1 a0_2 l0_3 5).bind fun t104 => (if t104 = true then (some false) else ((impl_valueHas.f k a0_0 a0_1 a0_2 l0_3 6).bind fun t105 => (some (!t105))))))) else (some false))
set_option maxHeartbeats 8000000 in
set_option maxRecDepth 100000 in
theorem impl_storable.calls (k : Nat) (a0_0 : Int) (a0_1 : Int) (a0_2 : ByteArray) (A0_3 : Option Addr) (c0_3 : Nat) (l0_3 : List (S49)) (r : Bool) (w : World) (hr0_3 : Kd.C k49 w A0_3 l0_3.length l0_3) (hc0_3 : l0_3.length ≤ c0_3) (h : impl_storable.f k a0_0 a0_1 a0_2 l0_3 = some r) :
    Calls Try.prog 130 #[.agg #[.int .i64 a0_0, .int .i64 a0_1, .string a0_2, .slice A0_3 l0_3.length c0_3]] w fun e w' => e = .returned (.bool r) ∧ Below w.heap.size w w' := by
  have hu49 := Try.underlying49
  have HR0_3 := Aside0.mk hr0_3
  have HC0_3 := Aside0.mk hc0_3
  clear hr0_3 hc0_3
  have HB := Aside0.mk (Below.refl w.heap.size w)
  have H : ((impl_ValueOk.f k a0_0 a0_1 a0_2 l0_3).bind fun t102 => (if t102 = true then ((impl_valueHas.f k a0_0 a0_1 a0_2 l0_3 0).bind fun t103 => (if t103 = true then (some false) else ((impl_valueHas.f k a0_0 a0_1 a0_2 l0_3 5).bind fun t104 => (if t104 = true then (some false) else ((impl_valueHas.f k a0_0 a0_1 a0_2 l0_3 6).bind fun t105 => (some (!t105))))))) else (some false))) = some r := h
  clear h
  replace H := Option.bind_eq_some_iff.mp H
  obtain ⟨t102, A20, H⟩ := H
  replace H : (if t102 = true then ((impl_valueHas.f k a0_0 a0_1 a0_2 l0_3 0).bind fun t103 => (if t103 = true then (some false) else ((impl_valueHas.f k a0_0 a0_1 a0_2 l0_3 5).bind fun t104 => (if t104 = true then (some false) else ((impl_valueHas.f k a0_0 a0_1 a0_2 l0_3 6).bind fun t105 => (some (!t105))))))) else (some false)) = some r := H
  have A2 := Aside0.mk A20
  clear A20
  by_cases c3 : t102 = true
  rotate_left
  replace c3 := Bool.eq_false_iff.mpr c3
  subst c3
  have H1 : (some false) = some r := by rw [if_neg (show ¬ (false = true) by decide)] at H; exact H
  clear H
  have H := H1
  clear H1
  obtain rfl := Option.some.inj H
  rotate_right
  subst c3
  have H1 : ((impl_valueHas.f k a0_0 a0_1 a0_2 l0_3 0).bind fun t103 => (if t103 = true then (some false) else ((impl_valueHas.f k a0_0 a0_1 a0_2 l0_3 5).bind fun t104 => (if t104 = true then (some false) else ((impl_valueHas.f k a0_0 a0_1 a0_2 l0_3 6).bind fun t105 => (some (!t105))))))) = some r := by rw [if_pos rfl] at H; exact H
  clear H
  have H := H1
  clear H1
  replace H := Option.bind_eq_some_iff.mp H
  obtain ⟨t103, A40, H⟩ := H
  replace H : (if t103 = true then (some false) else ((impl_valueHas.f k a0_0 a0_1 a0_2 l0_3 5).bind fun t104 => (if t104 = true then (some false) else ((impl_valueHas.f k a0_0 a0_1 a0_2 l0_3 6).bind fun t105 => (some (!t105)))))) = some r := H
  have A4 := Aside0.mk A40
  clear A40
  by_cases c5 : t103 = true
  rotate_left
  replace c5 := Bool.eq_false_iff.mpr c5
  subst c5
  have H1 : ((impl_valueHas.f k a0_0 a0_1 a0_2 l0_3 5).bind fun t104 => (if t104 = true then (some false) else ((impl_valueHas.f k a0_0 a0_1 a0_2 l0_3 6).bind fun t105 => (some (!t105))))) = some r := by rw [if_neg (show ¬ (false = true) by decide)] at H; exact H
  clear H
  have H := H1
  clear H1
  replace H := Option.bind_eq_some_iff.mp H
  obtain ⟨t104, A110, H⟩ := H
  replace H : (if t104 = true then (some false) else ((impl_valueHas.f k a0_0 a0_1 a0_2 l0_3 6).bind fun t105 => (some (!t105)))) = some r := H
  have A11 := Aside0.mk A110
  clear A110
  by_cases c12 : t104 = true
  rotate_left
  replace c12 := Bool.eq_false_iff.mpr c12
  subst c12
  have H1 : ((impl_valueHas.f k a0_0 a0_1 a0_2 l0_3 6).bind fun t105 => (some (!t105))) = some r := by rw [if_neg (show ¬ (false = true) by decide)] at H; exact H
  clear H
  have H := H1
  clear H1
  replace H := Option.bind_eq_some_iff.mp H
  obtain ⟨t105, A200, H⟩ := H
  replace H : (some (!t105)) = some r := H
  have A20 := Aside0.mk A200
  clear A200
  obtain rfl := Option.some.inj H
  rotate_right
  subst c12
  have H1 : (some false) = some r := by rw [if_pos rfl] at H; exact H
  clear H
  have H := H1
  clear H1
  obtain rfl := Option.some.inj H
  rotate_right
  subst c5
  have H1 : (some false) = some r := by rw [if_pos rfl] at H; exact H
  clear H
  have H := H1
  clear H1
  obtain rfl := Option.some.inj H
  all_goals
    go_enter Try.func130, Try.ntmps130
  rotate_left 2
  · go_wp2_with (first | ((with_reducible refine gate_dst (N := 1) rfl ?_); refine bx_ 1 #[.int .i64 a0_0, .int .i64 a0_1, .string a0_2, .slice A0_3 l0_3.length c0_3] 49 ?_; intro gb7101 hg w21 hbox hb; have BK7101 := Aside0.mk (hbox); have GW7101 := gw_ hg; have GE7101 := gw_ hg; replace HB := bs_ hb; clear hb hbox hg; obtain ⟨hcz22_0, hcz22_1, hcz22_2, hcz22_3, hfz22_0, hfz22_1, hfz22_2, hfz22_3⟩ := blk4 BK7101) | ((with_reducible refine gate_callee (f := 97) rfl ?_); refine goesL_ (some 4) rfl rfl Try.func97 (by kernel_rfl) rfl #[.agg #[.int .i64 a0_0, .int .i64 a0_1, .string a0_2, .slice A0_3 l0_3.length c0_3]] rfl ar_ ?_; (with_reducible refine (impl_ValueOk.calls k a0_0 a0_1 a0_2 _ _ l0_3 true _ ?side1 ?side2 A2.out).mono ?_); (case side1 => exact rdb_ HR0_3); (case side2 => exact HC0_3.out); rintro e w23 ⟨rfl, hb⟩; refine ⟨_, rfl, ?_⟩; replace BK7101 := bb_ BK7101 hb; replace HB := bs_ hb; (try clear hb); (try clear hb2); (try clear hk); (try clear hi); obtain ⟨hcz24_0, hcz24_1, hcz24_2, hcz24_3, hfz24_0, hfz24_1, hfz24_2, hfz24_3⟩ := blk4 BK7101) | (go_at_call 175; (with_reducible refine (impl_valueHas.calls k a0_0 a0_1 a0_2 _ _ l0_3 0 false _ ?side1 ?side2 A4.out).mono ?_); (case side1 => exact rdb_ HR0_3); (case side2 => exact HC0_3.out); rintro e w25 ⟨rfl, hb⟩; replace BK7101 := bb_ BK7101 hb; replace HB := bs_ hb; (try clear hb); (try clear hb2); (try clear hk); (try clear hi); obtain ⟨hcz26_0, hcz26_1, hcz26_2, hcz26_3, hfz26_0, hfz26_1, hfz26_2, hfz26_3⟩ := blk4 BK7101) | (go_at_call 175; (with_reducible refine (impl_valueHas.calls k a0_0 a0_1 a0_2 _ _ l0_3 5 false _ ?side1 ?side2 A11.out).mono ?_); (case side1 => exact rdb_ HR0_3); (case side2 => exact HC0_3.out); rintro e w27 ⟨rfl, hb⟩; replace BK7101 := bb_ BK7101 hb; replace HB := bs_ hb; (try clear hb); (try clear hb2); (try clear hk); (try clear hi); obtain ⟨hcz28_0, hcz28_1, hcz28_2, hcz28_3, hfz28_0, hfz28_1, hfz28_2, hfz28_3⟩ := blk4 BK7101) | (go_at_call 175; (with_reducible refine (impl_valueHas.calls k a0_0 a0_1 a0_2 _ _ l0_3 6 t105 _ ?side1 ?side2 A20.out).mono ?_); (case side1 => exact rdb_ HR0_3); (case side2 => exact HC0_3.out); rintro e w29 ⟨rfl, hb⟩; replace BK7101 := bb_ BK7101 hb; replace HB := bs_ hb; (try clear hb); (try clear hb2); (try clear hk); (try clear hi)))
    go_ret
    exact re_
  rotate_right 2
  rotate_left
  · go_wp2_with (first | ((with_reducible refine gate_dst (N := 1) rfl ?_); refine bx_ 1 #[.int .i64 a0_0, .int .i64 a0_1, .string a0_2, .slice A0_3 l0_3.length c0_3] 49 ?_; intro gb7101 hg w13 hbox hb; have BK7101 := Aside0.mk (hbox); have GW7101 := gw_ hg; have GE7101 := gw_ hg; replace HB := bs_ hb; clear hb hbox hg; obtain ⟨hcz14_0, hcz14_1, hcz14_2, hcz14_3, hfz14_0, hfz14_1, hfz14_2, hfz14_3⟩ := blk4 BK7101) | ((with_reducible refine gate_callee (f := 97) rfl ?_); refine goesL_ (some 4) rfl rfl Try.func97 (by kernel_rfl) rfl #[.agg #[.int .i64 a0_0, .int .i64 a0_1, .string a0_2, .slice A0_3 l0_3.length c0_3]] rfl ar_ ?_; (with_reducible refine (impl_ValueOk.calls k a0_0 a0_1 a0_2 _ _ l0_3 true _ ?side1 ?side2 A2.out).mono ?_); (case side1 => exact rdb_ HR0_3); (case side2 => exact HC0_3.out); rintro e w15 ⟨rfl, hb⟩; refine ⟨_, rfl, ?_⟩; replace BK7101 := bb_ BK7101 hb; replace HB := bs_ hb; (try clear hb); (try clear hb2); (try clear hk); (try clear hi); obtain ⟨hcz16_0, hcz16_1, hcz16_2, hcz16_3, hfz16_0, hfz16_1, hfz16_2, hfz16_3⟩ := blk4 BK7101) | (go_at_call 175; (with_reducible refine (impl_valueHas.calls k a0_0 a0_1 a0_2 _ _ l0_3 0 false _ ?side1 ?side2 A4.out).mono ?_); (case side1 => exact rdb_ HR0_3); (case side2 => exact HC0_3.out); rintro e w17 ⟨rfl, hb⟩; replace BK7101 := bb_ BK7101 hb; replace HB := bs_ hb; (try clear hb); (try clear hb2); (try clear hk); (try clear hi); obtain ⟨hcz18_0, hcz18_1, hcz18_2, hcz18_3, hfz18_0, hfz18_1, hfz18_2, hfz18_3⟩ := blk4 BK7101) | (go_at_call 175; (with_reducible refine (impl_valueHas.calls k a0_0 a0_1 a0_2 _ _ l0_3 5 true _ ?side1 ?side2 A11.out).mono ?_); (case side1 => exact rdb_ HR0_3); (case side2 => exact HC0_3.out); rintro e w19 ⟨rfl, hb⟩; replace BK7101 := bb_ BK7101 hb; replace HB := bs_ hb; (try clear hb); (try clear hb2); (try clear hk); (try clear hi)))
    go_ret
    exact re_
  rotate_right
  · go_wp2_with (first | ((with_reducible refine gate_dst (N := 1) rfl ?_); refine bx_ 1 #[.int .i64 a0_0, .int .i64 a0_1, .string a0_2, .slice A0_3 l0_3.length c0_3] 49 ?_; intro gb7101 hg w6 hbox hb; have BK7101 := Aside0.mk (hbox); have GW7101 := gw_ hg; have GE7101 := gw_ hg; replace HB := bs_ hb; clear hb hbox hg; obtain ⟨hcz7_0, hcz7_1, hcz7_2, hcz7_3, hfz7_0, hfz7_1, hfz7_2, hfz7_3⟩ := blk4 BK7101) | ((with_reducible refine gate_callee (f := 97) rfl ?_); refine goesL_ (some 4) rfl rfl Try.func97 (by kernel_rfl) rfl #[.agg #[.int .i64 a0_0, .int .i64 a0_1, .string a0_2, .slice A0_3 l0_3.length c0_3]] rfl ar_ ?_; (with_reducible refine (impl_ValueOk.calls k a0_0 a0_1 a0_2 _ _ l0_3 true _ ?side1 ?side2 A2.out).mono ?_); (case side1 => exact rdb_ HR0_3); (case side2 => exact HC0_3.out); rintro e w8 ⟨rfl, hb⟩; refine ⟨_, rfl, ?_⟩; replace BK7101 := bb_ BK7101 hb; replace HB := bs_ hb; (try clear hb); (try clear hb2); (try clear hk); (try clear hi); obtain ⟨hcz9_0, hcz9_1, hcz9_2, hcz9_3, hfz9_0, hfz9_1, hfz9_2, hfz9_3⟩ := blk4 BK7101) | (go_at_call 175; (with_reducible refine (impl_valueHas.calls k a0_0 a0_1 a0_2 _ _ l0_3 0 true _ ?side1 ?side2 A4.out).mono ?_); (case side1 => exact rdb_ HR0_3); (case side2 => exact HC0_3.out); rintro e w10 ⟨rfl, hb⟩; replace BK7101 := bb_ BK7101 hb; replace HB := bs_ hb; (try clear hb); (try clear hb2); (try clear hk); (try clear hi)))
    go_ret
    exact re_
  go_wp2_with (first | ((with_reducible refine gate_dst (N := 1) rfl ?_); refine bx_ 1 #[.int .i64 a0_0, .int .i64 a0_1, .string a0_2, .slice A0_3 l0_3.length c0_3] 49 ?_; intro gb101 hg w30 hbox hb; have BK101 := Aside0.mk (hbox); have GW101 := gw_ hg; have GE101 := gw_ hg; replace HB := bs_ hb; clear hb hbox hg; obtain ⟨hcz31_0, hcz31_1, hcz31_2, hcz31_3, hfz31_0, hfz31_1, hfz31_2, hfz31_3⟩ := blk4 BK101) | ((with_reducible refine gate_callee (f := 97) rfl ?_); refine goesL_ (some 4) rfl rfl Try.func97 (by kernel_rfl) rfl #[.agg #[.int .i64 a0_0, .int .i64 a0_1, .string a0_2, .slice A0_3 l0_3.length c0_3]] rfl ar_ ?_; (with_reducible refine (impl_ValueOk.calls k a0_0 a0_1 a0_2 _ _ l0_3 false _ ?side1 ?side2 A2.out).mono ?_); (case side1 => exact rdb_ HR0_3); (case side2 => exact HC0_3.out); rintro e w32 ⟨rfl, hb⟩; refine ⟨_, rfl, ?_⟩; replace BK101 := bb_ BK101 hb; replace HB := bs_ hb; (try clear hb); (try clear hb2); (try clear hk); (try clear hi)))
  go_ret
  exact re_

/-! ### impl_propsOk: function 81 -/
def impl_propsOk.l0 : Nat → List (S140) → List (S140) → Int → Int → Option (Bool)
  | 0, _, _, _, _ => none
  | k + 1, x0, x8, x9, x10 => if x10 < x9 then (if 0 ≤ x10 then (if x10 < (x8.length : Int) then ((impl_NameOk.f k ((rd_T140 x8 x10).f0)).bind fun t103 => (if t103 = true then ((impl_storable.f k ((rd_T140 x8 x10).f1.f0) ((rd_T140 x8 x10).f1.f1) ((rd_T140 x8 x10).f1.f2) ((rd_T140 x8 x10).f1.f3)).bind fun t104 => (if t104 = true then (if x10 > 0 then (if 0 ≤ (wrap64 (x10 - 1)) then (if (wrap64 (x10 - 1)) < (x0.length : Int) then (if ((Op.bytesLess (((rd_T140 x0 (wrap64 (x10 - 1))).f0).toList) (((rd_T140 x8 x10).f0).toList)) = true) then (impl_propsOk.l0 k x0 x8 x9 (wrap64 (x10 + 1))) else (some false)) else (none)) else (none)) else (impl_propsOk.l0 k x0 x8 x9 (wrap64 (x10 + 1)))) else (some false))) else (some false))) else (none)) else (none)) else (some true)
def impl_propsOk.f (k : Nat) (l0 : List (S140)) : Option (Bool) := if (l0.length : Int) > 4 then (some false) else (impl_propsOk.l0 k l0 l0 (l0.length : Int) 0)
def impl_propsOk.T6 : Bool × List (List Nat × List Nat) := (true, [([], []), ([0], [0]), ([1], [1]), ([2], [2]), ([3, 2], [3]), ([4], [4]), ([5, 4], [4, 5]), ([6, 4, 4], [4, 6]), ([7, 4], [4, 7]), ([4, 8], [4, 8]), ([9, 7], [9]), ([10], [10]), ([11, 10], [10, 11]), ([12, 10, 10], [10, 12]), ([13], [13]), ([13], [13]), ([15, 13], [13, 15]), ([14, 16, 13], [13, 14, 16]), ([17, 13], [13, 17]), ([18, 13], [13, 18]), ([13], [13]), ([20, 13], [13, 20]), ([19, 21, 13], [13, 19, 21]), ([13, 22, 10], [10, 13, 22]), ([10, 23], [10, 23])])
def impl_propsOk.B6 : List Nat := [0, 1, 3, 7, 15, 31, 63, 127, 255, 511, 1023, 2047, 4095, 8191, 16383, 16383, 49151, 131071, 262143, 524287, 16383, 1064959, 4194303, 8388607, 16777215]
theorem impl_propsOk.tab6 : rtab .any (opsOf Try.f81 6) = impl_propsOk.T6 := by kernel_rfl
theorem impl_propsOk.bits6 : waitsOk impl_propsOk.T6.2 impl_propsOk.B6 = true := by kernel_rfl
set_option maxHeartbeats 8000000 in
set_option maxRecDepth 100000 in
theorem impl_propsOk.calls (k : Nat) (A0 : Option Addr) (c0 : Nat) (l0 : List (S140)) (r : Bool) (w : World) (hr0 : Kd.C k140 w A0 l0.length l0) (hc0 : l0.length ≤ c0) (h : impl_propsOk.f k l0 = some r) :
    Calls Try.prog 81 #[.slice A0 l0.length c0] w fun e w' => e = .returned (.bool r) ∧ Below w.heap.size w w' := by
  have hu140 := Try.underlying140
  have hu49 := Try.underlying49
  have HR0 := Aside0.mk hr0
  have HC0 := Aside0.mk hc0
  clear hr0 hc0
  have HB := Aside0.mk (Below.refl w.heap.size w)
  have H : (if (l0.length : Int) > 4 then (some false) else (impl_propsOk.l0 k l0 l0 (l0.length : Int) 0)) = some r := h
  clear h
  by_cases c2 : (l0.length : Int) > 4
  rotate_left
  rw [if_neg c2] at H
  have c2b0 : decide (4 < (l0.length : Int)) = false := decide_eq_false c2
  have c2b1 : decide (4 < l0.length) = false := decide_eq_false (by omega)
  clear c2
  have H' := Aside0.mk H
  clear H
  rotate_right
  rw [if_pos c2] at H
  have c2b0 : decide (4 < (l0.length : Int)) = true := decide_eq_true c2
  have c2b1 : decide (4 < l0.length) = true := decide_eq_true (by omega)
  clear c2
  obtain rfl := Option.some.inj H
  all_goals
    go_enter Try.func81, Try.ntmps81
    go_wp2
  · go_ret
    exact re_
  go_loopg [10] k (fun kq v10 w' => ∃ (x10_1 : Int), v10 = .int .i64 x10_1 ∧ Aside0 (impl_propsOk.l0 kq l0 l0 (l0.length : Int) x10_1 = some r) ∧ Aside0 (kq ≤ k) ∧ Aside0 (Below w.heap.size w w'))
  case atStart => exact ⟨(0), sm_, H', ⟨Nat.le_refl _⟩, ⟨bel_⟩⟩
  case round =>
    clear H'
    try clear c2
    try clear c2b0
    try clear c2b1
    try clear p2
    obtain ⟨x10_1, rfl, HA, HK1, HB⟩ := hrel
    cases gk with
    | zero => exact absurd HA.out (by simp [impl_propsOk.l0])
    | succ k1 =>
      have H := HA.out
      clear HA
      simp only [impl_propsOk.l0] at H
      by_cases c3 : x10_1 < (l0.length : Int)
      rotate_left
      rw [if_neg c3] at H
      have c3b0 : decide (x10_1 < (l0.length : Int)) = false := decide_eq_false c3
      clear c3
      obtain rfl := Option.some.inj H
      rotate_right
      rw [if_pos c3] at H
      have c3b0 : decide (x10_1 < (l0.length : Int)) = true := decide_eq_true c3
      clear c3
      by_cases c4 : 0 ≤ x10_1
      rotate_left
      · rw [if_neg c4] at H
        exact absurd H (by simp)
      rotate_right
      rw [if_pos c4] at H
      have c4b0 : decide (0 ≤ x10_1) = true := decide_eq_true c4
      clear c4
      by_cases c5 : x10_1 < (l0.length : Int)
      rotate_left
      · rw [if_neg c5] at H
        exact absurd H (by simp)
      rotate_right
      rw [if_pos c5] at H
      have c5b0 : decide (x10_1 < (l0.length : Int)) = true := decide_eq_true c5
      clear c5
      replace H := Option.bind_eq_some_iff.mp H
      obtain ⟨t103, A60, H⟩ := H
      replace H : (if t103 = true then ((impl_storable.f k1 ((rd_T140 l0 x10_1).f1.f0) ((rd_T140 l0 x10_1).f1.f1) ((rd_T140 l0 x10_1).f1.f2) ((rd_T140 l0 x10_1).f1.f3)).bind fun t104 => (if t104 = true then (if x10_1 > 0 then (if 0 ≤ (wrap64 (x10_1 - 1)) then (if (wrap64 (x10_1 - 1)) < (l0.length : Int) then (if ((Op.bytesLess (((rd_T140 l0 (wrap64 (x10_1 - 1))).f0).toList) (((rd_T140 l0 x10_1).f0).toList)) = true) then (impl_propsOk.l0 k1 l0 l0 (l0.length : Int) (wrap64 (x10_1 + 1))) else (some false)) else (none)) else (none)) else (impl_propsOk.l0 k1 l0 l0 (l0.length : Int) (wrap64 (x10_1 + 1)))) else (some false))) else (some false)) = some r := H
      have A6 := Aside0.mk A60
      clear A60
      by_cases c7 : t103 = true
      rotate_left
      replace c7 := Bool.eq_false_iff.mpr c7
      subst c7
      have H1 : (some false) = some r := by rw [if_neg (show ¬ (false = true) by decide)] at H; exact H
      clear H
      have H := H1
      clear H1
      obtain rfl := Option.some.inj H
      rotate_right
      subst c7
      have H1 : ((impl_storable.f k1 ((rd_T140 l0 x10_1).f1.f0) ((rd_T140 l0 x10_1).f1.f1) ((rd_T140 l0 x10_1).f1.f2) ((rd_T140 l0 x10_1).f1.f3)).bind fun t104 => (if t104 = true then (if x10_1 > 0 then (if 0 ≤ (wrap64 (x10_1 - 1)) then (if (wrap64 (x10_1 - 1)) < (l0.length : Int) then (if ((Op.bytesLess (((rd_T140 l0 (wrap64 (x10_1 - 1))).f0).toList) (((rd_T140 l0 x10_1).f0).toList)) = true) then (impl_propsOk.l0 k1 l0 l0 (l0.length : Int) (wrap64 (x10_1 + 1))) else (some false)) else (none)) else (none)) else (impl_propsOk.l0 k1 l0 l0 (l0.length : Int) (wrap64 (x10_1 + 1)))) else (some false))) = some r := by rw [if_pos rfl] at H; exact H
      clear H
      have H := H1
      clear H1
      replace H := Option.bind_eq_some_iff.mp H
      obtain ⟨t104, A80, H⟩ := H
      replace H : (if t104 = true then (if x10_1 > 0 then (if 0 ≤ (wrap64 (x10_1 - 1)) then (if (wrap64 (x10_1 - 1)) < (l0.length : Int) then (if ((Op.bytesLess (((rd_T140 l0 (wrap64 (x10_1 - 1))).f0).toList) (((rd_T140 l0 x10_1).f0).toList)) = true) then (impl_propsOk.l0 k1 l0 l0 (l0.length : Int) (wrap64 (x10_1 + 1))) else (some false)) else (none)) else (none)) else (impl_propsOk.l0 k1 l0 l0 (l0.length : Int) (wrap64 (x10_1 + 1)))) else (some false)) = some r := H
      have A8 := Aside0.mk A80
      clear A80
      by_cases c9 : t104 = true
      rotate_left
      replace c9 := Bool.eq_false_iff.mpr c9
      subst c9
      have H1 : (some false) = some r := by rw [if_neg (show ¬ (false = true) by decide)] at H; exact H
      clear H
      have H := H1
      clear H1
      obtain rfl := Option.some.inj H
      rotate_right
      subst c9
      have H1 : (if x10_1 > 0 then (if 0 ≤ (wrap64 (x10_1 - 1)) then (if (wrap64 (x10_1 - 1)) < (l0.length : Int) then (if ((Op.bytesLess (((rd_T140 l0 (wrap64 (x10_1 - 1))).f0).toList) (((rd_T140 l0 x10_1).f0).toList)) = true) then (impl_propsOk.l0 k1 l0 l0 (l0.length : Int) (wrap64 (x10_1 + 1))) else (some false)) else (none)) else (none)) else (impl_propsOk.l0 k1 l0 l0 (l0.length : Int) (wrap64 (x10_1 + 1)))) = some r := by rw [if_pos rfl] at H; exact H
      clear H
      have H := H1
      clear H1
      by_cases c10 : x10_1 > 0
      · rw [if_pos c10] at H
        have c10b0 : decide (0 < x10_1) = true := decide_eq_true c10
        clear c10
        obtain ⟨ji11, hji11⟩ : ∃ j_ : Int, (wrap64 (x10_1 - 1)) = j_ := ⟨_, rfl⟩
        replace H : (if 0 ≤ (ji11) then (if (ji11) < (l0.length : Int) then (if ((Op.bytesLess (((rd_T140 l0 (ji11)).f0).toList) (((rd_T140 l0 x10_1).f0).toList)) = true) then (impl_propsOk.l0 k1 l0 l0 (l0.length : Int) (wrap64 (x10_1 + 1))) else (some false)) else (none)) else (none)) = some r := by first | (rw [hji11] at H; exact H) | (simp only [hji11] at H ⊢; exact H)
        (try rw [hji11] at A6)
        (try rw [hji11] at A8)
        have hji11w : (IntKind.i64.wrap (x10_1 - 1)) = ji11 := (i64_w _).trans hji11
        by_cases c12 : 0 ≤ (ji11)
        rotate_left
        · rw [if_neg c12] at H
          exact absurd H (by simp)
        rotate_right
        rw [if_pos c12] at H
        have c12b0 : decide (0 ≤ (ji11)) = true := decide_eq_true c12
        clear c12
        by_cases c13 : (ji11) < (l0.length : Int)
        rotate_left
        · rw [if_neg c13] at H
          exact absurd H (by simp)
        rotate_right
        rw [if_pos c13] at H
        have c13b0 : decide ((ji11) < (l0.length : Int)) = true := decide_eq_true c13
        clear c13
        by_cases c14 : ((Op.bytesLess (((rd_T140 l0 (ji11)).f0).toList) (((rd_T140 l0 x10_1).f0).toList)) = true)
        rotate_left
        rw [if_neg c14] at H
        have c14b0 : (Op.bytesLess (((rd_T140 l0 (ji11)).f0).toList) (((rd_T140 l0 x10_1).f0).toList)) = false := by simpa using c14
        clear c14
        obtain rfl := Option.some.inj H
        rotate_right
        rw [if_pos c14] at H
        have c14b0 : (Op.bytesLess (((rd_T140 l0 (ji11)).f0).toList) (((rd_T140 l0 x10_1).f0).toList)) = true := c14
        clear c14
        have H' := Aside0.mk H
        clear H
        all_goals
          have p101 : 0 ≤ (x10_1 : Int) := od_
          have q101 : x10_1 < (l0.length : Int) := od_
          obtain ⟨ad101, A101_4, c101_4, e101, hx101_0, hx101_1, hx101_2, hx101_3, hx101_4, hl101_4, hi101_4⟩ := at_T140 HR0.out x10_1 p101 q101
          cases e101
          replace hx101_0 := mv_ HB hx101_0
          replace hx101_1 := mv_ HB hx101_1
          replace hx101_2 := mv_ HB hx101_2
          replace hx101_3 := mv_ HB hx101_3
          replace hx101_4 := mv_ HB hx101_4
          have HR101_4 := Aside0.mk hi101_4
          have HC101_4 := Aside0.mk hl101_4
          clear hi101_4 hl101_4
          replace p101 := eq_true p101
          replace q101 := eq_true q101
          try go_wp2_with (first | ((with_reducible refine gate_dst (N := 4) rfl ?_); refine bx_ 4 #[.string (⟨#[]⟩ : ByteArray), .int .i64 0, .int .i64 0, .string (⟨#[]⟩ : ByteArray), .slice none 0 0] 140 ?_; intro gb102 hg w15 hbox hb; have BK102 := Aside0.mk (hbox); have GW102 := gw_ hg; have GE102 := gw_ hg; replace HB := bs_ hb; clear hb hbox hg; obtain ⟨hcz16_0, hcz16_1, hcz16_2, hcz16_3, hcz16_4, hfz16_0, hfz16_1, hfz16_2, hfz16_3, hfz16_4⟩ := blk5 BK102))
          have n0_ : Aside0 ((((((w15.setCell ⟨gb102, 0, none⟩ (.string ((rd_T140 l0 x10_1).f0))).setCell ⟨gb102, 1, none⟩ (.int .i64 ((rd_T140 l0 x10_1).f1.f0))).setCell ⟨gb102, 2, none⟩ (.int .i64 ((rd_T140 l0 x10_1).f1.f1))).setCell ⟨gb102, 3, none⟩ (.string ((rd_T140 l0 x10_1).f1.f2))).setCell ⟨gb102, 4, none⟩ (.slice A101_4 ((rd_T140 l0 x10_1).f1.f3).length c101_4)).heap[gb102]? = some (.cells #[.string ((rd_T140 l0 x10_1).f0), .int .i64 ((rd_T140 l0 x10_1).f1.f0), .int .i64 ((rd_T140 l0 x10_1).f1.f1), .string ((rd_T140 l0 x10_1).f1.f2), .slice A101_4 ((rd_T140 l0 x10_1).f1.f3).length c101_4] 140 (0, 0))) := ⟨by refine pe_ ?_; refine blk_put (cs := #[.string ((rd_T140 l0 x10_1).f0), .int .i64 ((rd_T140 l0 x10_1).f1.f0), .int .i64 ((rd_T140 l0 x10_1).f1.f1), .string ((rd_T140 l0 x10_1).f1.f2), .slice none 0 0]) ?_ 4 _ rfl; refine pe_ ?_; refine blk_put (cs := #[.string ((rd_T140 l0 x10_1).f0), .int .i64 ((rd_T140 l0 x10_1).f1.f0), .int .i64 ((rd_T140 l0 x10_1).f1.f1), .string (⟨#[]⟩ : ByteArray), .slice none 0 0]) ?_ 3 _ rfl; refine pe_ ?_; refine blk_put (cs := #[.string ((rd_T140 l0 x10_1).f0), .int .i64 ((rd_T140 l0 x10_1).f1.f0), .int .i64 0, .string (⟨#[]⟩ : ByteArray), .slice none 0 0]) ?_ 2 _ rfl; refine pe_ ?_; refine blk_put (cs := #[.string ((rd_T140 l0 x10_1).f0), .int .i64 0, .int .i64 0, .string (⟨#[]⟩ : ByteArray), .slice none 0 0]) ?_ 1 _ rfl; refine pe_ ?_; refine blk_put (cs := #[.string (⟨#[]⟩ : ByteArray), .int .i64 0, .int .i64 0, .string (⟨#[]⟩ : ByteArray), .slice none 0 0]) ?_ 0 _ rfl; refine pe_ ?_; exact BK102.out⟩
          have n1_ : Aside0 (Below w.heap.size w (((((w15.setCell ⟨gb102, 0, none⟩ (.string ((rd_T140 l0 x10_1).f0))).setCell ⟨gb102, 1, none⟩ (.int .i64 ((rd_T140 l0 x10_1).f1.f0))).setCell ⟨gb102, 2, none⟩ (.int .i64 ((rd_T140 l0 x10_1).f1.f1))).setCell ⟨gb102, 3, none⟩ (.string ((rd_T140 l0 x10_1).f1.f2))).setCell ⟨gb102, 4, none⟩ (.slice A101_4 ((rd_T140 l0 x10_1).f1.f3).length c101_4))) := ⟨bel_⟩
          (try clear BK102)
          (try clear HB)
          generalize (((((w15.setCell ⟨gb102, 0, none⟩ (.string ((rd_T140 l0 x10_1).f0))).setCell ⟨gb102, 1, none⟩ (.int .i64 ((rd_T140 l0 x10_1).f1.f0))).setCell ⟨gb102, 2, none⟩ (.int .i64 ((rd_T140 l0 x10_1).f1.f1))).setCell ⟨gb102, 3, none⟩ (.string ((rd_T140 l0 x10_1).f1.f2))).setCell ⟨gb102, 4, none⟩ (.slice A101_4 ((rd_T140 l0 x10_1).f1.f3).length c101_4)) = w17 at n0_ n1_ ⊢
          have BK102 := n0_
          have HB := n1_
          clear n0_ n1_
          replace BK102 := Aside0.mk (blk_drew BK102.out)
          replace HB := Aside0.mk (below_drew1 HB.out)
          have p105 : 0 ≤ ((ji11) : Int) := od_
          have q105 : (ji11) < (l0.length : Int) := od_
          obtain ⟨ad105, A105_4, c105_4, e105, hx105_0, hx105_1, hx105_2, hx105_3, hx105_4, hl105_4, hi105_4⟩ := at_T140 HR0.out (ji11) p105 q105
          have hw105_4 := hx105_4
          have hw105_3 := hx105_3
          have hw105_2 := hx105_2
          have hw105_1 := hx105_1
          have hw105_0 := hx105_0
          obtain rfl : ad101 = ad105 := (by injection e105)
          replace hx105_0 := mv_ HB hx105_0
          replace hx105_1 := mv_ HB hx105_1
          replace hx105_2 := mv_ HB hx105_2
          replace hx105_3 := mv_ HB hx105_3
          replace hx105_4 := mv_ HB hx105_4
          have HR105_4 := Aside0.mk hi105_4
          have HC105_4 := Aside0.mk hl105_4
          clear hi105_4 hl105_4
          replace p105 := eq_true p105
          replace q105 := eq_true q105
          refine start_ (n := 25) (S := fun w' => w'.cell? ⟨gb102, 0, none⟩ = some (.string ((rd_T140 l0 x10_1).f0)) ∧ w'.cell? ⟨gb102, 1, none⟩ = some (.int .i64 ((rd_T140 l0 x10_1).f1.f0)) ∧ w'.cell? ⟨gb102, 2, none⟩ = some (.int .i64 ((rd_T140 l0 x10_1).f1.f1)) ∧ w'.cell? ⟨gb102, 3, none⟩ = some (.string ((rd_T140 l0 x10_1).f1.f2)) ∧ w'.cell? ⟨gb102, 4, none⟩ = some (.slice A101_4 ((rd_T140 l0 x10_1).f1.f3).length c101_4) ∧ w'.cell? (ad101.add (((ji11)).toNat * 5)) = some (.string ((rd_T140 l0 (ji11)).f0)) ∧ w'.cell? ⟨(ad101.add (((ji11)).toNat * 5)).block, (ad101.add (((ji11)).toNat * 5)).off + 1, none⟩ = some (.int .i64 ((rd_T140 l0 (ji11)).f1.f0)) ∧ w'.cell? ⟨(ad101.add (((ji11)).toNat * 5)).block, (ad101.add (((ji11)).toNat * 5)).off + 2, none⟩ = some (.int .i64 ((rd_T140 l0 (ji11)).f1.f1)) ∧ w'.cell? ⟨(ad101.add (((ji11)).toNat * 5)).block, (ad101.add (((ji11)).toNat * 5)).off + 3, none⟩ = some (.string ((rd_T140 l0 (ji11)).f1.f2)) ∧ w'.cell? ⟨(ad101.add (((ji11)).toNat * 5)).block, (ad101.add (((ji11)).toNat * 5)).off + 4, none⟩ = some (.slice A105_4 ((rd_T140 l0 (ji11)).f1.f3).length c105_4)) (ds := []) #[false, false, false, false, false, false, false, false, false, false, false, false, false, false, false, false, false, false, false, false, false, false, false, false, false] (by kernel_rfl) rfl rfl ⟨(blkc BK102 0), (blkc BK102 1), (blkc BK102 2), (blkc BK102 3), (blkc BK102 4), (mv_ HB hw105_0 :), (mv_ HB hw105_1 :), (mv_ HB hw105_2 :), (mv_ HB hw105_3 :), (mv_ HB hw105_4 :)⟩ (fun hHeld => ?_); refine with_tabW impl_propsOk.tab6 impl_propsOk.bits6 (fun HT_ HW_ => ?_)
          generalize w17.drew = w18 at BK102 HB HR105_4 hx105_0 hx105_1 hx105_2 hx105_3 hx105_4 hHeld ⊢
          refine puA 0 (some 15) ?_
          refine taA 1 (some 16) ?_
          refine one_ (i := 2) (N := some 17) #[true, true, true, false, false, false, false, false, false, false, false, false, false, false, false, false, false, false, false, false, false, false, false, false, false] rfl rfl (one_of HT_.out (by kernel_rfl)) (by decide) (fun K hK => ?_)
          refine goes_ Try.func82 (by kernel_rfl) rfl #[.string ((rd_T140 l0 x10_1).f0)] (by rfl) rfl rfl ar_ ?_
          with_reducible refine (impl_NameOk.calls k1 ((rd_T140 l0 x10_1).f0) true _ A6.out).mono ?_
          rintro e w' ⟨rfl, ⟨nd, rfl⟩⟩
          refine ⟨_, rfl, ?_⟩
          refine hK.out _ _ ⟨(blkc BK102 0), (blkc BK102 1), (blkc BK102 2), (blkc BK102 3), (blkc BK102 4), (mv_ HB hw105_0 :), (mv_ HB hw105_1 :), (mv_ HB hw105_2 :), (mv_ HB hw105_3 :), (mv_ HB hw105_4 :)⟩ (fun hHeld => ?_)
          clear hK K
          refine norm_ (a' := ?_) ?_ ?_
          rotate_left
          · show Act.put _ (some 17) _ = _
            simp only [Act.put, List.setIfInBounds_toArray, List.set_cons_zero, List.set_cons_succ, i64_w, i32_w]
            rfl
          refine puA 3 (some 18) ?_
          refine puA 4 (some 19) ?_
          refine puA 5 (some 20) ?_
          refine taA 6 (some 21) ?_
          refine one_ (i := 7) (N := some 22) #[true, true, true, true, true, true, true, true, false, false, false, false, false, false, false, false, false, false, false, false, false, false, false, false, false] rfl rfl (one_of HT_.out (by kernel_rfl)) (by decide) (fun K hK => ?_)
          refine goes_ Try.func130 (by kernel_rfl) rfl #[.agg #[.int .i64 ((rd_T140 l0 x10_1).f1.f0), .int .i64 ((rd_T140 l0 x10_1).f1.f1), .string ((rd_T140 l0 x10_1).f1.f2), .slice A101_4 ((rd_T140 l0 x10_1).f1.f3).length c101_4]] (by rfl) rfl rfl ar_ ?_
          with_reducible refine (impl_storable.calls k1 ((rd_T140 l0 x10_1).f1.f0) ((rd_T140 l0 x10_1).f1.f1) ((rd_T140 l0 x10_1).f1.f2) _ _ ((rd_T140 l0 x10_1).f1.f3) true _ ?side1 ?side2 A8.out).mono ?_
          (case side1 => repeat (first | exact (Kd.C_below HR101_4.out (bel_)) | (with_reducible refine Kd.C_alloc ?_ _) | (with_reducible refine Kd.C_drewN ?_ _) | (with_reducible refine Kd.C_drew ?_)))
          (case side2 => exact HC101_4.out)
          rintro e w19 ⟨rfl, hb⟩
          refine ⟨_, rfl, ?_⟩
          replace BK102 := bb_ BK102 hb
          replace HB := bs_ hb
          (try clear hb)
          (try clear hb2)
          (try clear hk)
          (try clear hi)
          refine hK.out _ _ ⟨(blkc BK102 0), (blkc BK102 1), (blkc BK102 2), (blkc BK102 3), (blkc BK102 4), (mv_ HB hw105_0 :), (mv_ HB hw105_1 :), (mv_ HB hw105_2 :), (mv_ HB hw105_3 :), (mv_ HB hw105_4 :)⟩ (fun hHeld => ?_)
          clear hK K
          refine norm_ (a' := ?_) ?_ ?_
          rotate_left
          · show Act.put _ (some 22) _ = _
            simp only [Act.put, List.setIfInBounds_toArray, List.set_cons_zero, List.set_cons_succ, i64_w, i32_w]
            rfl
          refine puA 8 (some 23) ?_
          refine puA 9 (some 24) ?_
          refine puA 10 (some 25) ?_
          refine puA 11 (some 26) ?_
          refine puA 12 (some 27) ?_
          refine puA 13 (some 28) ?_
          refine puA 14 (some 29) ?_
          refine puA 15 (some 30) ?_
          refine puA 16 (some 31) ?_
          refine puA 17 (some 32) ?_
          refine puA 18 (some 33) ?_
          refine puA 20 (some 35) ?_
          refine taA 19 (some 34) ?_
          refine taA 21 (some 36) ?_
          refine puA 22 (some 37) ?_
          refine puA 23 (some 38) ?_
          refine puA 24 (some 39) ?_
          refine done_ (done_of HT_.out (by kernel_rfl)) ?_
          try go_wp2
        rotate_left
        · go_ret
          exact ⟨by first | rfl | (simp [errW_none, errW_some] <;> rfl) | (simp only [← hji11]; first | rfl | (simp [errW_none, errW_some] <;> rfl)) | (simp [*, errW_none, errW_some] <;> rfl), bel_⟩
        go_roundg k1
        case measure => have := HK1.out; omega
        case rel => exact ⟨(wrap64 (x10_1 + 1)), sm_, H', ⟨by have := HK1.out; omega⟩, ⟨bel_⟩⟩
      rw [if_neg c10] at H
      have c10b0 : decide (0 < x10_1) = false := decide_eq_false c10
      clear c10
      have H' := Aside0.mk H
      clear H
      rotate_left 3
      · go_wp2
        go_ret
        exact re_
      all_goals
        have p101 : 0 ≤ (x10_1 : Int) := od_
        have q101 : x10_1 < (l0.length : Int) := od_
        obtain ⟨ad101, A101_4, c101_4, e101, hx101_0, hx101_1, hx101_2, hx101_3, hx101_4, hl101_4, hi101_4⟩ := at_T140 HR0.out x10_1 p101 q101
        cases e101
        replace hx101_0 := mv_ HB hx101_0
        replace hx101_1 := mv_ HB hx101_1
        replace hx101_2 := mv_ HB hx101_2
        replace hx101_3 := mv_ HB hx101_3
        replace hx101_4 := mv_ HB hx101_4
        have HR101_4 := Aside0.mk hi101_4
        have HC101_4 := Aside0.mk hl101_4
        clear hi101_4 hl101_4
        replace p101 := eq_true p101
        replace q101 := eq_true q101
        try go_wp2_with (first | ((with_reducible refine gate_dst (N := 4) rfl ?_); refine bx_ 4 #[.string (⟨#[]⟩ : ByteArray), .int .i64 0, .int .i64 0, .string (⟨#[]⟩ : ByteArray), .slice none 0 0] 140 ?_; intro gb102 hg w25 hbox hb; have BK102 := Aside0.mk (hbox); have GW102 := gw_ hg; have GE102 := gw_ hg; replace HB := bs_ hb; clear hb hbox hg; obtain ⟨hcz26_0, hcz26_1, hcz26_2, hcz26_3, hcz26_4, hfz26_0, hfz26_1, hfz26_2, hfz26_3, hfz26_4⟩ := blk5 BK102))
        have n0_ : Aside0 ((((((w25.setCell ⟨gb102, 0, none⟩ (.string ((rd_T140 l0 x10_1).f0))).setCell ⟨gb102, 1, none⟩ (.int .i64 ((rd_T140 l0 x10_1).f1.f0))).setCell ⟨gb102, 2, none⟩ (.int .i64 ((rd_T140 l0 x10_1).f1.f1))).setCell ⟨gb102, 3, none⟩ (.string ((rd_T140 l0 x10_1).f1.f2))).setCell ⟨gb102, 4, none⟩ (.slice A101_4 ((rd_T140 l0 x10_1).f1.f3).length c101_4)).heap[gb102]? = some (.cells #[.string ((rd_T140 l0 x10_1).f0), .int .i64 ((rd_T140 l0 x10_1).f1.f0), .int .i64 ((rd_T140 l0 x10_1).f1.f1), .string ((rd_T140 l0 x10_1).f1.f2), .slice A101_4 ((rd_T140 l0 x10_1).f1.f3).length c101_4] 140 (0, 0))) := ⟨by refine pe_ ?_; refine blk_put (cs := #[.string ((rd_T140 l0 x10_1).f0), .int .i64 ((rd_T140 l0 x10_1).f1.f0), .int .i64 ((rd_T140 l0 x10_1).f1.f1), .string ((rd_T140 l0 x10_1).f1.f2), .slice none 0 0]) ?_ 4 _ rfl; refine pe_ ?_; refine blk_put (cs := #[.string ((rd_T140 l0 x10_1).f0), .int .i64 ((rd_T140 l0 x10_1).f1.f0), .int .i64 ((rd_T140 l0 x10_1).f1.f1), .string (⟨#[]⟩ : ByteArray), .slice none 0 0]) ?_ 3 _ rfl; refine pe_ ?_; refine blk_put (cs := #[.string ((rd_T140 l0 x10_1).f0), .int .i64 ((rd_T140 l0 x10_1).f1.f0), .int .i64 0, .string (⟨#[]⟩ : ByteArray), .slice none 0 0]) ?_ 2 _ rfl; refine pe_ ?_; refine blk_put (cs := #[.string ((rd_T140 l0 x10_1).f0), .int .i64 0, .int .i64 0, .string (⟨#[]⟩ : ByteArray), .slice none 0 0]) ?_ 1 _ rfl; refine pe_ ?_; refine blk_put (cs := #[.string (⟨#[]⟩ : ByteArray), .int .i64 0, .int .i64 0, .string (⟨#[]⟩ : ByteArray), .slice none 0 0]) ?_ 0 _ rfl; refine pe_ ?_; exact BK102.out⟩
        have n1_ : Aside0 (Below w.heap.size w (((((w25.setCell ⟨gb102, 0, none⟩ (.string ((rd_T140 l0 x10_1).f0))).setCell ⟨gb102, 1, none⟩ (.int .i64 ((rd_T140 l0 x10_1).f1.f0))).setCell ⟨gb102, 2, none⟩ (.int .i64 ((rd_T140 l0 x10_1).f1.f1))).setCell ⟨gb102, 3, none⟩ (.string ((rd_T140 l0 x10_1).f1.f2))).setCell ⟨gb102, 4, none⟩ (.slice A101_4 ((rd_T140 l0 x10_1).f1.f3).length c101_4))) := ⟨bel_⟩
        (try clear BK102)
        (try clear HB)
        generalize (((((w25.setCell ⟨gb102, 0, none⟩ (.string ((rd_T140 l0 x10_1).f0))).setCell ⟨gb102, 1, none⟩ (.int .i64 ((rd_T140 l0 x10_1).f1.f0))).setCell ⟨gb102, 2, none⟩ (.int .i64 ((rd_T140 l0 x10_1).f1.f1))).setCell ⟨gb102, 3, none⟩ (.string ((rd_T140 l0 x10_1).f1.f2))).setCell ⟨gb102, 4, none⟩ (.slice A101_4 ((rd_T140 l0 x10_1).f1.f3).length c101_4)) = w27 at n0_ n1_ ⊢
        have BK102 := n0_
        have HB := n1_
        clear n0_ n1_
        replace BK102 := Aside0.mk (blk_drew BK102.out)
        replace HB := Aside0.mk (below_drew1 HB.out)
        refine start_ (n := 25) (S := fun w' => w'.cell? ⟨gb102, 0, none⟩ = some (.string ((rd_T140 l0 x10_1).f0)) ∧ w'.cell? ⟨gb102, 1, none⟩ = some (.int .i64 ((rd_T140 l0 x10_1).f1.f0)) ∧ w'.cell? ⟨gb102, 2, none⟩ = some (.int .i64 ((rd_T140 l0 x10_1).f1.f1)) ∧ w'.cell? ⟨gb102, 3, none⟩ = some (.string ((rd_T140 l0 x10_1).f1.f2)) ∧ w'.cell? ⟨gb102, 4, none⟩ = some (.slice A101_4 ((rd_T140 l0 x10_1).f1.f3).length c101_4)) (ds := []) #[false, false, false, false, false, false, false, false, false, false, false, false, false, false, false, false, false, false, false, false, false, false, false, false, false] (by kernel_rfl) rfl rfl ⟨(blkc BK102 0), (blkc BK102 1), (blkc BK102 2), (blkc BK102 3), (blkc BK102 4)⟩ (fun hHeld => ?_); refine with_tabW impl_propsOk.tab6 impl_propsOk.bits6 (fun HT_ HW_ => ?_)
        generalize w27.drew = w28 at BK102 HB hHeld ⊢
        refine puA 0 (some 15) ?_
        refine taA 1 (some 16) ?_
        refine one_ (i := 2) (N := some 17) #[true, true, true, false, false, false, false, false, false, false, false, false, false, false, false, false, false, false, false, false, false, false, false, false, false] rfl rfl (one_of HT_.out (by kernel_rfl)) (by decide) (fun K hK => ?_)
        refine goes_ Try.func82 (by kernel_rfl) rfl #[.string ((rd_T140 l0 x10_1).f0)] (by rfl) rfl rfl ar_ ?_
        with_reducible refine (impl_NameOk.calls k1 ((rd_T140 l0 x10_1).f0) _ _ A6.out).mono ?_
        rintro e w' ⟨rfl, ⟨nd, rfl⟩⟩
        refine ⟨_, rfl, ?_⟩
        refine hK.out _ _ ⟨(blkc BK102 0), (blkc BK102 1), (blkc BK102 2), (blkc BK102 3), (blkc BK102 4)⟩ (fun hHeld => ?_)
        clear hK K
        refine norm_ (a' := ?_) ?_ ?_
        rotate_left
        · show Act.put _ (some 17) _ = _
          simp only [Act.put, List.setIfInBounds_toArray, List.set_cons_zero, List.set_cons_succ, i64_w, i32_w]
          rfl
        refine puA 3 (some 18) ?_
        refine puA 4 (some 19) ?_
      rotate_left 2
      · refine puX 5 (some 20) ?_
        refine puX 6 (some 21) ?_
        refine puX 7 (some 22) ?_
        refine puX 8 (some 23) ?_
        refine puA 9 (some 24) ?_
        refine puA 10 (some 25) ?_
        refine puX 11 (some 26) ?_
        refine puX 12 (some 27) ?_
        refine puX 13 (some 28) ?_
        refine puX 14 (some 29) ?_
        refine puX 15 (some 30) ?_
        refine puX 16 (some 31) ?_
        refine puX 17 (some 32) ?_
        refine puX 18 (some 33) ?_
        refine puX 19 (some 34) ?_
        refine puX 20 (some 35) ?_
        refine puX 21 (some 36) ?_
        refine puX 22 (some 37) ?_
        refine puX 23 (some 38) ?_
        refine puA 24 (some 39) ?_
        refine done_ (done_of HT_.out (by kernel_rfl)) ?_
        try go_wp2
        go_ret
        exact re_
      all_goals
        refine puA 5 (some 20) ?_
        refine taA 6 (some 21) ?_
        refine one_ (i := 7) (N := some 22) #[true, true, true, true, true, true, true, true, false, false, false, false, false, false, false, false, false, false, false, false, false, false, false, false, false] rfl rfl (one_of HT_.out (by kernel_rfl)) (by decide) (fun K hK => ?_)
        refine goes_ Try.func130 (by kernel_rfl) rfl #[.agg #[.int .i64 ((rd_T140 l0 x10_1).f1.f0), .int .i64 ((rd_T140 l0 x10_1).f1.f1), .string ((rd_T140 l0 x10_1).f1.f2), .slice A101_4 ((rd_T140 l0 x10_1).f1.f3).length c101_4]] (by rfl) rfl rfl ar_ ?_
        with_reducible refine (impl_storable.calls k1 ((rd_T140 l0 x10_1).f1.f0) ((rd_T140 l0 x10_1).f1.f1) ((rd_T140 l0 x10_1).f1.f2) _ _ ((rd_T140 l0 x10_1).f1.f3) _ _ ?side1 ?side2 A8.out).mono ?_
        (case side1 => repeat (first | exact (Kd.C_below HR101_4.out (bel_)) | (with_reducible refine Kd.C_alloc ?_ _) | (with_reducible refine Kd.C_drewN ?_ _) | (with_reducible refine Kd.C_drew ?_)))
        (case side2 => exact HC101_4.out)
        rintro e w29 ⟨rfl, hb⟩
        refine ⟨_, rfl, ?_⟩
        replace BK102 := bb_ BK102 hb
        replace HB := bs_ hb
        (try clear hb)
        (try clear hb2)
        (try clear hk)
        (try clear hi)
        refine hK.out _ _ ⟨(blkc BK102 0), (blkc BK102 1), (blkc BK102 2), (blkc BK102 3), (blkc BK102 4)⟩ (fun hHeld => ?_)
        clear hK K
        refine norm_ (a' := ?_) ?_ ?_
        rotate_left
        · show Act.put _ (some 22) _ = _
          simp only [Act.put, List.setIfInBounds_toArray, List.set_cons_zero, List.set_cons_succ, i64_w, i32_w]
          rfl
        refine puA 8 (some 23) ?_
        refine puA 9 (some 24) ?_
        refine puA 10 (some 25) ?_
      rotate_left
      · refine puX 11 (some 26) ?_
        refine puX 12 (some 27) ?_
        refine puX 13 (some 28) ?_
        refine puX 14 (some 29) ?_
        refine puX 15 (some 30) ?_
        refine puX 16 (some 31) ?_
        refine puX 17 (some 32) ?_
        refine puX 18 (some 33) ?_
        refine puX 19 (some 34) ?_
        refine puX 20 (some 35) ?_
        refine puX 21 (some 36) ?_
        refine puX 22 (some 37) ?_
        refine puX 23 (some 38) ?_
        refine puA 24 (some 39) ?_
        refine done_ (done_of HT_.out (by kernel_rfl)) ?_
        try go_wp2
        go_ret
        exact re_
      refine puA 11 (some 26) ?_
      refine puA 12 (some 27) ?_
      refine puA 13 (some 28) ?_
      refine puX 14 (some 29) ?_
      refine puX 15 (some 30) ?_
      refine puX 16 (some 31) ?_
      refine puX 17 (some 32) ?_
      refine puX 18 (some 33) ?_
      refine puX 19 (some 34) ?_
      refine puX 20 (some 35) ?_
      refine puX 21 (some 36) ?_
      refine puX 22 (some 37) ?_
      refine puA 23 (some 38) ?_
      refine puA 24 (some 39) ?_
      refine done_ (done_of HT_.out (by kernel_rfl)) ?_
      try go_wp2
      go_roundg k1
      case measure => have := HK1.out; omega
      case rel => exact ⟨(wrap64 (x10_1 + 1)), sm_, H', ⟨by have := HK1.out; omega⟩, ⟨bel_⟩⟩

end Go.Proofs.Ytcchmhmbjhgfdaa.G
