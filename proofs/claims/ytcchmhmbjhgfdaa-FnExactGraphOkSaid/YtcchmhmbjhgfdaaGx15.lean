-- Printed by a program of this claim's writer (wip/gen), out of the translation. Lean checks it.
import Derived.Test.YtcchmhmbjhgfdaaGx0
import Derived.Test.YtcchmhmbjhgfdaaGx14
namespace Go.Proofs.Ytcchmhmbjhgfdaa.G
open Go.RowKit Go.Proofs.YtcchmhmbjhgfdaaW.PrintWords Go.Proofs.YtcchmhmbjhgfdaaW.PrintLast Go.Proofs.YtcchmhmbjhgfdaaW.PrintMore
attribute [local go_sem] max2_int min2_int max_two min_two max_three min_three max_four min_four Own.str_gtr Own.str_leq Own.str_geq Own.sto_fn   -- for this text's walks alone
open Own
set_option linter.unusedVariables false
set_option linter.unusedSimpArgs false

/-! ### impl_ValueOk: function 97 -/
def impl_ValueOk.f (k : Nat) (a0_0 : Int) (a0_1 : Int) (a0_2 : ByteArray) (l0_3 : List (S49)) : Option (Bool) := (impl_valueFits.f k a0_0 a0_1 a0_2 l0_3 3).bind fun t290 => (some t290)
set_option maxHeartbeats 8000000 in
set_option maxRecDepth 100000 in
theorem impl_ValueOk.calls (k : Nat) (a0_0 : Int) (a0_1 : Int) (a0_2 : ByteArray) (A0_3 : Option Addr) (c0_3 : Nat) (l0_3 : List (S49)) (r : Bool) (w : World) (hr0_3 : Kd.C k49 w A0_3 l0_3.length l0_3) (hc0_3 : l0_3.length ≤ c0_3) (h : impl_ValueOk.f k a0_0 a0_1 a0_2 l0_3 = some r) :
    Calls Try.prog 97 #[.agg #[.int .i64 a0_0, .int .i64 a0_1, .string a0_2, .slice A0_3 l0_3.length c0_3]] w fun e w' => e = .returned (.bool r) ∧ Below w.heap.size w w' := by
  have hu49 := Try.underlying49
  have HR0_3 := Aside0.mk hr0_3
  have HC0_3 := Aside0.mk hc0_3
  clear hr0_3 hc0_3
  have HB := Aside0.mk (Below.refl w.heap.size w)
  have H : ((impl_valueFits.f k a0_0 a0_1 a0_2 l0_3 3).bind fun t290 => (some t290)) = some r := h
  clear h
  replace H := Option.bind_eq_some_iff.mp H
  obtain ⟨t290, A20, H⟩ := H
  replace H : (some t290) = some r := H
  have A2 := Aside0.mk A20
  clear A20
  obtain rfl := Option.some.inj H
  go_enter Try.func97, Try.ntmps97
  go_wp2_with (first | ((with_reducible refine gate_dst (N := 1) rfl ?_); refine bx_ 1 #[.int .i64 a0_0, .int .i64 a0_1, .string a0_2, .slice A0_3 l0_3.length c0_3] 49 ?_; intro gb289 hg w3 hbox hb; have BK289 := Aside0.mk (hbox); have GW289 := gw_ hg; have GE289 := gw_ hg; replace HB := bs_ hb; clear hb hbox hg; obtain ⟨hcz4_0, hcz4_1, hcz4_2, hcz4_3, hfz4_0, hfz4_1, hfz4_2, hfz4_3⟩ := blk4 BK289) | ((with_reducible refine gate_callee (f := 165) rfl ?_); refine goesL_ (some 4) rfl rfl Try.func165 (by kernel_rfl) rfl #[.agg #[.int .i64 a0_0, .int .i64 a0_1, .string a0_2, .slice A0_3 l0_3.length c0_3], .int .i64 3] rfl ar_ ?_; (with_reducible refine (impl_valueFits.calls k a0_0 a0_1 a0_2 _ _ l0_3 3 t290 _ ?side1 ?side2 A2.out).mono ?_); (case side1 => exact rdb_ HR0_3); (case side2 => exact HC0_3.out); rintro e w5 ⟨rfl, hb⟩; refine ⟨_, rfl, ?_⟩; replace BK289 := bb_ BK289 hb; replace HB := bs_ hb; (try clear hb); (try clear hb2); (try clear hk); (try clear hi)))
  go_ret
  exact re_

/-! ### impl_valueHas: function 175 -/
mutual
def impl_valueHas.l0 : Nat → Int → List (S49) → Int → Int → Option (Bool)
  | 0, _, _, _, _ => none
  | k + 1, x1, x12, x13, x14 => if x14 < x13 then (if 0 ≤ x14 then (if x14 < (x12.length : Int) then ((impl_valueHas.f k ((rd_T49 x12 x14).f0) ((rd_T49 x12 x14).f1) ((rd_T49 x12 x14).f2) ((rd_T49 x12 x14).f3) x1).bind fun t294 => (if t294 = true then (some true) else (impl_valueHas.l0 k x1 x12 x13 (wrap64 (x14 + 1))))) else (none)) else (none)) else (some false)
def impl_valueHas.f : Nat → Int → Int → ByteArray → List (S49) → Int → Option (Bool)
  | 0, _, _, _, _, _ => none
  | k + 1, a0_0, a0_1, a0_2, l0_3, a1 => if a0_0 = a1 then (some true) else (impl_valueHas.l0 k a1 l0_3 (l0_3.length : Int) 0)
end
set_option maxHeartbeats 8000000 in
set_option maxRecDepth 100000 in
theorem impl_valueHas.calls (k : Nat) : ∀ (a0_0 : Int) (a0_1 : Int) (a0_2 : ByteArray) (A0_3 : Option Addr) (c0_3 : Nat) (l0_3 : List (S49)) (a1 : Int) (r : Bool) (w : World) (hr0_3 : Kd.C k49 w A0_3 l0_3.length l0_3) (hc0_3 : l0_3.length ≤ c0_3) (h : impl_valueHas.f k a0_0 a0_1 a0_2 l0_3 a1 = some r),
    Calls Try.prog 175 #[.agg #[.int .i64 a0_0, .int .i64 a0_1, .string a0_2, .slice A0_3 l0_3.length c0_3], .int .i64 a1] w fun e w' => e = .returned (.bool r) ∧ Below w.heap.size w w' := by
  induction k using Nat.strongRecOn with
  | _ k ih =>
  intro a0_0 a0_1 a0_2 A0_3 c0_3 l0_3 a1 r w hr0_3 hc0_3 h
  cases k with
  | zero => exact absurd h (by simp [impl_valueHas.f])
  | succ k =>
  simp only [impl_valueHas.f] at h
  have hu49 := Try.underlying49
  have HR0_3 := Aside0.mk hr0_3
  have HC0_3 := Aside0.mk hc0_3
  clear hr0_3 hc0_3
  have HB := Aside0.mk (Below.refl w.heap.size w)
  have H : (if a0_0 = a1 then (some true) else (impl_valueHas.l0 k a1 l0_3 (l0_3.length : Int) 0)) = some r := h
  clear h
  by_cases c3 : a0_0 = a1
  · rw [if_pos c3] at H
    have c3b0 : (a0_0 == a1) = true := beq_iff_eq.mpr c3
    have c3b1 : (a0_0 != a1) = false := bne_eq_false_iff_eq.mpr c3
    clear c3
    obtain rfl := Option.some.inj H
    go_enter Try.func175, Try.ntmps175
    go_wp2_with (first | ((with_reducible refine gate_dst (N := 2) rfl ?_); refine bx_ 2 #[.int .i64 a0_0, .int .i64 a0_1, .string a0_2, .slice A0_3 l0_3.length c0_3] 49 ?_; intro gb291 hg w4 hbox hb; have BK291 := Aside0.mk (hbox); have GW291 := gw_ hg; have GE291 := gw_ hg; replace HB := bs_ hb; clear hb hbox hg; obtain ⟨hcz5_0, hcz5_1, hcz5_2, hcz5_3, hfz5_0, hfz5_1, hfz5_2, hfz5_3⟩ := blk4 BK291))
    go_ret
    exact re_
  rw [if_neg c3] at H
  have c3b0 : (a0_0 == a1) = false := beq_eq_false_iff_ne.mpr c3
  have c3b1 : (a0_0 != a1) = true := bne_iff_ne.mpr c3
  have H' := Aside0.mk H
  clear H
  go_enter Try.func175, Try.ntmps175
  go_wp2_with (first | ((with_reducible refine gate_dst (N := 2) rfl ?_); refine bx_ 2 #[.int .i64 a0_0, .int .i64 a0_1, .string a0_2, .slice A0_3 l0_3.length c0_3] 49 ?_; intro gb291 hg w6 hbox hb; have BK291 := Aside0.mk (hbox); have GW291 := gw_ hg; have GE291 := gw_ hg; replace HB := bs_ hb; clear hb hbox hg; obtain ⟨hcz7_0, hcz7_1, hcz7_2, hcz7_3, hfz7_0, hfz7_1, hfz7_2, hfz7_3⟩ := blk4 BK291))
  go_loopg [14] k (fun kq v14 w' => ∃ (x14_1 : Int), v14 = .int .i64 x14_1 ∧ Aside0 (impl_valueHas.l0 kq a1 l0_3 (l0_3.length : Int) x14_1 = some r) ∧ Aside0 (kq ≤ k) ∧ Aside0 (w'.heap[gb291]? = some (.cells #[.int .i64 a0_0, .int .i64 a0_1, .string a0_2, (.slice A0_3 l0_3.length c0_3)] 49 (0, 0))) ∧ Aside0 (Below w.heap.size w w'))
  case atStart => exact ⟨(0), sm_, H', ⟨Nat.le_refl _⟩, ⟨by refine pe_ ?_; exact BK291.out⟩, ⟨bel_⟩⟩
  case round =>
    clear H'
    try clear c1
    try clear p2
    try clear c3
    try clear c3b0
    try clear c3b1
    try clear hcz5_0 hcz5_1 hcz5_2 hcz5_3
    try clear hcz7_0 hcz7_1 hcz7_2 hcz7_3
    try clear hfz5_0 hfz5_1 hfz5_2 hfz5_3
    try clear hfz7_0 hfz7_1 hfz7_2 hfz7_3
    obtain ⟨x14_1, rfl, HA, HK1, BK291, HB⟩ := hrel
    cases gk with
    | zero => exact absurd HA.out (by simp [impl_valueHas.l0])
    | succ k1 =>
      have H := HA.out
      clear HA
      simp only [impl_valueHas.l0] at H
      by_cases c8 : x14_1 < (l0_3.length : Int)
      rotate_left
      · rw [if_neg c8] at H
        have c8b0 : decide (x14_1 < (l0_3.length : Int)) = false := decide_eq_false c8
        clear c8
        obtain rfl := Option.some.inj H
        go_wp2
        go_ret
        exact re_
      rw [if_pos c8] at H
      have c8b0 : decide (x14_1 < (l0_3.length : Int)) = true := decide_eq_true c8
      clear c8
      by_cases c9 : 0 ≤ x14_1
      rotate_left
      · rw [if_neg c9] at H
        exact absurd H (by simp)
      rw [if_pos c9] at H
      have c9b0 : decide (0 ≤ x14_1) = true := decide_eq_true c9
      clear c9
      by_cases c10 : x14_1 < (l0_3.length : Int)
      rotate_left
      · rw [if_neg c10] at H
        exact absurd H (by simp)
      rw [if_pos c10] at H
      have c10b0 : decide (x14_1 < (l0_3.length : Int)) = true := decide_eq_true c10
      clear c10
      replace H := Option.bind_eq_some_iff.mp H
      obtain ⟨t294, A110, H⟩ := H
      replace H : (if t294 = true then (some true) else (impl_valueHas.l0 k1 a1 l0_3 (l0_3.length : Int) (wrap64 (x14_1 + 1)))) = some r := H
      have A11 := Aside0.mk A110
      clear A110
      by_cases c12 : t294 = true
      · subst c12
        have H1 : (some true) = some r := by rw [if_pos rfl] at H; exact H
        clear H
        have H := H1
        clear H1
        obtain rfl := Option.some.inj H
        have p292 : 0 ≤ (x14_1 : Int) := od_
        have q292 : x14_1 < (l0_3.length : Int) := od_
        obtain ⟨ad292, A292_3, c292_3, e292, hx292_0, hx292_1, hx292_2, hx292_3, hl292_3, hi292_3⟩ := at_T49 HR0_3.out x14_1 p292 q292
        cases e292
        replace hx292_0 := mv_ HB hx292_0
        replace hx292_1 := mv_ HB hx292_1
        replace hx292_2 := mv_ HB hx292_2
        replace hx292_3 := mv_ HB hx292_3
        have HR292_3 := Aside0.mk hi292_3
        have HC292_3 := Aside0.mk hl292_3
        clear hi292_3 hl292_3
        replace p292 := eq_true p292
        replace q292 := eq_true q292
        go_wp2_with (first | ((with_reducible refine gate_dst (N := 6) rfl ?_); refine bx_ 6 #[.int .i64 0, .int .i64 0, .string (⟨#[]⟩ : ByteArray), .slice none 0 0] 49 ?_; intro gb293 hg w13 hbox hb; have BK293 := Aside0.mk (hbox); have GW293 := gw_ hg; have GE293 := gw_ hg; have NB291_293 := nlt_ hg BK291; have NB293_291 := ngt_ hg BK291; replace BK291 := bb_ BK291 hb; replace HB := bs_ hb; clear hb hbox hg; have hnb14 := NB293_291.out; have hnc14 := NB291_293.out; obtain ⟨hcz15_0, hcz15_1, hcz15_2, hcz15_3, hfz15_0, hfz15_1, hfz15_2, hfz15_3⟩ := blk4 BK293) | ((with_reducible refine gate_callee (f := 175) rfl ?_); refine goesL_ (some 20) rfl rfl Try.func175 (by kernel_rfl) rfl #[.agg #[.int .i64 ((rd_T49 l0_3 x14_1).f0), .int .i64 ((rd_T49 l0_3 x14_1).f1), .string ((rd_T49 l0_3 x14_1).f2), .slice A292_3 ((rd_T49 l0_3 x14_1).f3).length c292_3], .int .i64 a1] rfl ar_ ?_; (with_reducible refine (ih k1 (by have := HK1.out; omega) ((rd_T49 l0_3 x14_1).f0) ((rd_T49 l0_3 x14_1).f1) ((rd_T49 l0_3 x14_1).f2) _ _ ((rd_T49 l0_3 x14_1).f3) a1 true _ ?side1 ?side2 A11.out).mono ?_); (case side1 => exact Kd.C_below HR292_3.out (bel_)); (case side2 => exact HC292_3.out); rintro e w16 ⟨rfl, hb⟩; refine ⟨_, rfl, ?_⟩; replace BK291 := Aside0.mk (blk_below (g := gb291) (o := .cells #[.int .i64 a0_0, .int .i64 a0_1, .string a0_2, .slice (some ad292) l0_3.length c0_3] 49 (0, 0)) (by refine pe_ ?_; refine blk_far ?_ NB291_293.out _; refine pe_ ?_; refine blk_far ?_ NB291_293.out _; refine pe_ ?_; refine blk_far ?_ NB291_293.out _; refine pe_ ?_; refine blk_far ?_ NB291_293.out _; refine pe_ ?_; exact BK291.out) hb); replace BK293 := Aside0.mk (blk_below (g := gb293) (o := .cells #[.int .i64 ((rd_T49 l0_3 x14_1).f0), .int .i64 ((rd_T49 l0_3 x14_1).f1), .string ((rd_T49 l0_3 x14_1).f2), .slice A292_3 ((rd_T49 l0_3 x14_1).f3).length c292_3] 49 (0, 0)) (by refine pe_ ?_; refine blk_put (cs := #[.int .i64 ((rd_T49 l0_3 x14_1).f0), .int .i64 ((rd_T49 l0_3 x14_1).f1), .string ((rd_T49 l0_3 x14_1).f2), .slice none 0 0]) ?_ 3 _ rfl; refine pe_ ?_; refine blk_put (cs := #[.int .i64 ((rd_T49 l0_3 x14_1).f0), .int .i64 ((rd_T49 l0_3 x14_1).f1), .string (⟨#[]⟩ : ByteArray), .slice none 0 0]) ?_ 2 _ rfl; refine pe_ ?_; refine blk_put (cs := #[.int .i64 ((rd_T49 l0_3 x14_1).f0), .int .i64 0, .string (⟨#[]⟩ : ByteArray), .slice none 0 0]) ?_ 1 _ rfl; refine pe_ ?_; refine blk_put (cs := #[.int .i64 0, .int .i64 0, .string (⟨#[]⟩ : ByteArray), .slice none 0 0]) ?_ 0 _ rfl; refine pe_ ?_; exact BK293.out) hb); replace HB := bs_ hb; (try clear hb); (try clear hb2); (try clear hk); (try clear hi)))
        go_ret
        exact re_
      replace c12 := Bool.eq_false_iff.mpr c12
      subst c12
      have H1 : (impl_valueHas.l0 k1 a1 l0_3 (l0_3.length : Int) (wrap64 (x14_1 + 1))) = some r := by rw [if_neg (show ¬ (false = true) by decide)] at H; exact H
      clear H
      have H := H1
      clear H1
      have H' := Aside0.mk H
      clear H
      have p292 : 0 ≤ (x14_1 : Int) := od_
      have q292 : x14_1 < (l0_3.length : Int) := od_
      obtain ⟨ad292, A292_3, c292_3, e292, hx292_0, hx292_1, hx292_2, hx292_3, hl292_3, hi292_3⟩ := at_T49 HR0_3.out x14_1 p292 q292
      cases e292
      replace hx292_0 := mv_ HB hx292_0
      replace hx292_1 := mv_ HB hx292_1
      replace hx292_2 := mv_ HB hx292_2
      replace hx292_3 := mv_ HB hx292_3
      have HR292_3 := Aside0.mk hi292_3
      have HC292_3 := Aside0.mk hl292_3
      clear hi292_3 hl292_3
      replace p292 := eq_true p292
      replace q292 := eq_true q292
      go_wp2_with (first | ((with_reducible refine gate_dst (N := 6) rfl ?_); refine bx_ 6 #[.int .i64 0, .int .i64 0, .string (⟨#[]⟩ : ByteArray), .slice none 0 0] 49 ?_; intro gb293 hg w17 hbox hb; have BK293 := Aside0.mk (hbox); have GW293 := gw_ hg; have GE293 := gw_ hg; have NB291_293 := nlt_ hg BK291; have NB293_291 := ngt_ hg BK291; replace BK291 := bb_ BK291 hb; replace HB := bs_ hb; clear hb hbox hg; have hnb18 := NB293_291.out; have hnc18 := NB291_293.out; obtain ⟨hcz19_0, hcz19_1, hcz19_2, hcz19_3, hfz19_0, hfz19_1, hfz19_2, hfz19_3⟩ := blk4 BK293) | ((with_reducible refine gate_callee (f := 175) rfl ?_); refine goesL_ (some 20) rfl rfl Try.func175 (by kernel_rfl) rfl #[.agg #[.int .i64 ((rd_T49 l0_3 x14_1).f0), .int .i64 ((rd_T49 l0_3 x14_1).f1), .string ((rd_T49 l0_3 x14_1).f2), .slice A292_3 ((rd_T49 l0_3 x14_1).f3).length c292_3], .int .i64 a1] rfl ar_ ?_; (with_reducible refine (ih k1 (by have := HK1.out; omega) ((rd_T49 l0_3 x14_1).f0) ((rd_T49 l0_3 x14_1).f1) ((rd_T49 l0_3 x14_1).f2) _ _ ((rd_T49 l0_3 x14_1).f3) a1 false _ ?side1 ?side2 A11.out).mono ?_); (case side1 => exact Kd.C_below HR292_3.out (bel_)); (case side2 => exact HC292_3.out); rintro e w20 ⟨rfl, hb⟩; refine ⟨_, rfl, ?_⟩; replace BK291 := Aside0.mk (blk_below (g := gb291) (o := .cells #[.int .i64 a0_0, .int .i64 a0_1, .string a0_2, .slice (some ad292) l0_3.length c0_3] 49 (0, 0)) (by refine pe_ ?_; refine blk_far ?_ NB291_293.out _; refine pe_ ?_; refine blk_far ?_ NB291_293.out _; refine pe_ ?_; refine blk_far ?_ NB291_293.out _; refine pe_ ?_; refine blk_far ?_ NB291_293.out _; refine pe_ ?_; exact BK291.out) hb); replace BK293 := Aside0.mk (blk_below (g := gb293) (o := .cells #[.int .i64 ((rd_T49 l0_3 x14_1).f0), .int .i64 ((rd_T49 l0_3 x14_1).f1), .string ((rd_T49 l0_3 x14_1).f2), .slice A292_3 ((rd_T49 l0_3 x14_1).f3).length c292_3] 49 (0, 0)) (by refine pe_ ?_; refine blk_put (cs := #[.int .i64 ((rd_T49 l0_3 x14_1).f0), .int .i64 ((rd_T49 l0_3 x14_1).f1), .string ((rd_T49 l0_3 x14_1).f2), .slice none 0 0]) ?_ 3 _ rfl; refine pe_ ?_; refine blk_put (cs := #[.int .i64 ((rd_T49 l0_3 x14_1).f0), .int .i64 ((rd_T49 l0_3 x14_1).f1), .string (⟨#[]⟩ : ByteArray), .slice none 0 0]) ?_ 2 _ rfl; refine pe_ ?_; refine blk_put (cs := #[.int .i64 ((rd_T49 l0_3 x14_1).f0), .int .i64 0, .string (⟨#[]⟩ : ByteArray), .slice none 0 0]) ?_ 1 _ rfl; refine pe_ ?_; refine blk_put (cs := #[.int .i64 0, .int .i64 0, .string (⟨#[]⟩ : ByteArray), .slice none 0 0]) ?_ 0 _ rfl; refine pe_ ?_; exact BK293.out) hb); replace HB := bs_ hb; (try clear hb); (try clear hb2); (try clear hk); (try clear hi)))
      go_roundg k1
      case measure => have := HK1.out; omega
      case rel => exact ⟨(wrap64 (x14_1 + 1)), sm_, H', ⟨by have := HK1.out; omega⟩, ⟨by refine pe_ ?_; exact BK291.out⟩, ⟨bel_⟩⟩

/-! ### impl_storable: function 130 -/
def impl_storable.f (k : Nat) (a0_0 : Int) (a0_1 : Int) (a0_2 : ByteArray) (l0_3 : List (S49)) : Option (Bool) := (impl_ValueOk.f k a0_0 a0_1 a0_2 l0_3).bind fun t296 => (if t296 = true then ((impl_valueHas.f k a0_0 a0_1 a0_2 l0_3 0).bind fun t297 => (if t297 = true then (some false) else ((impl_valueHas.f k a0_0 a0_1 a0_2 l0_3 5).bind fun t298 => (if t298 = true then (some false) else ((impl_valueHas.f k a0_0 a0_1 a0_2 l0_3 6).bind fun t299 => (some (!t299))))))) else (some false))
set_option maxHeartbeats 8000000 in
set_option maxRecDepth 100000 in
theorem impl_storable.calls (k : Nat) (a0_0 : Int) (a0_1 : Int) (a0_2 : ByteArray) (A0_3 : Option Addr) (c0_3 : Nat) (l0_3 : List (S49)) (r : Bool) (w : World) (hr0_3 : Kd.C k49 w A0_3 l0_3.length l0_3) (hc0_3 : l0_3.length ≤ c0_3) (h : impl_storable.f k a0_0 a0_1 a0_2 l0_3 = some r) :
    Calls Try.prog 130 #[.agg #[.int .i64 a0_0, .int .i64 a0_1, .string a0_2, .slice A0_3 l0_3.length c0_3]] w fun e w' => e = .returned (.bool r) ∧ Below w.heap.size w w' := by
  have hu49 := Try.underlying49
  have HR0_3 := Aside0.mk hr0_3
  have HC0_3 := Aside0.mk hc0_3
  clear hr0_3 hc0_3
  have HB := Aside0.mk (Below.refl w.heap.size w)
  have H : ((impl_ValueOk.f k a0_0 a0_1 a0_2 l0_3).bind fun t296 => (if t296 = true then ((impl_valueHas.f k a0_0 a0_1 a0_2 l0_3 0).bind fun t297 => (if t297 = true then (some false) else ((impl_valueHas.f k a0_0 a0_1 a0_2 l0_3 5).bind fun t298 => (if t298 = true then (some false) else ((impl_valueHas.f k a0_0 a0_1 a0_2 l0_3 6).bind fun t299 => (some (!t299))))))) else (some false))) = some r := h
  clear h
  replace H := Option.bind_eq_some_iff.mp H
  obtain ⟨t296, A20, H⟩ := H
  replace H : (if t296 = true then ((impl_valueHas.f k a0_0 a0_1 a0_2 l0_3 0).bind fun t297 => (if t297 = true then (some false) else ((impl_valueHas.f k a0_0 a0_1 a0_2 l0_3 5).bind fun t298 => (if t298 = true then (some false) else ((impl_valueHas.f k a0_0 a0_1 a0_2 l0_3 6).bind fun t299 => (some (!t299))))))) else (some false)) = some r := H
  have A2 := Aside0.mk A20
  clear A20
  by_cases c3 : t296 = true
  rotate_left
  · replace c3 := Bool.eq_false_iff.mpr c3
    subst c3
    have H1 : (some false) = some r := by rw [if_neg (show ¬ (false = true) by decide)] at H; exact H
    clear H
    have H := H1
    clear H1
    obtain rfl := Option.some.inj H
    go_enter Try.func130, Try.ntmps130
    go_wp2_with (first | ((with_reducible refine gate_dst (N := 1) rfl ?_); refine bx_ 1 #[.int .i64 a0_0, .int .i64 a0_1, .string a0_2, .slice A0_3 l0_3.length c0_3] 49 ?_; intro gb295 hg w30 hbox hb; have BK295 := Aside0.mk (hbox); have GW295 := gw_ hg; have GE295 := gw_ hg; replace HB := bs_ hb; clear hb hbox hg; obtain ⟨hcz31_0, hcz31_1, hcz31_2, hcz31_3, hfz31_0, hfz31_1, hfz31_2, hfz31_3⟩ := blk4 BK295) | ((with_reducible refine gate_callee (f := 97) rfl ?_); refine goesL_ (some 4) rfl rfl Try.func97 (by kernel_rfl) rfl #[.agg #[.int .i64 a0_0, .int .i64 a0_1, .string a0_2, .slice A0_3 l0_3.length c0_3]] rfl ar_ ?_; (with_reducible refine (impl_ValueOk.calls k a0_0 a0_1 a0_2 _ _ l0_3 false _ ?side1 ?side2 A2.out).mono ?_); (case side1 => exact rdb_ HR0_3); (case side2 => exact HC0_3.out); rintro e w32 ⟨rfl, hb⟩; refine ⟨_, rfl, ?_⟩; replace BK295 := bb_ BK295 hb; replace HB := bs_ hb; (try clear hb); (try clear hb2); (try clear hk); (try clear hi)))
    go_ret
    exact re_
  subst c3
  have H1 : ((impl_valueHas.f k a0_0 a0_1 a0_2 l0_3 0).bind fun t297 => (if t297 = true then (some false) else ((impl_valueHas.f k a0_0 a0_1 a0_2 l0_3 5).bind fun t298 => (if t298 = true then (some false) else ((impl_valueHas.f k a0_0 a0_1 a0_2 l0_3 6).bind fun t299 => (some (!t299))))))) = some r := by rw [if_pos rfl] at H; exact H
  clear H
  have H := H1
  clear H1
  replace H := Option.bind_eq_some_iff.mp H
  obtain ⟨t297, A40, H⟩ := H
  replace H : (if t297 = true then (some false) else ((impl_valueHas.f k a0_0 a0_1 a0_2 l0_3 5).bind fun t298 => (if t298 = true then (some false) else ((impl_valueHas.f k a0_0 a0_1 a0_2 l0_3 6).bind fun t299 => (some (!t299)))))) = some r := H
  have A4 := Aside0.mk A40
  clear A40
  by_cases c5 : t297 = true
  · subst c5
    have H1 : (some false) = some r := by rw [if_pos rfl] at H; exact H
    clear H
    have H := H1
    clear H1
    obtain rfl := Option.some.inj H
    go_enter Try.func130, Try.ntmps130
    go_wp2_with (first | ((with_reducible refine gate_dst (N := 1) rfl ?_); refine bx_ 1 #[.int .i64 a0_0, .int .i64 a0_1, .string a0_2, .slice A0_3 l0_3.length c0_3] 49 ?_; intro gb295 hg w6 hbox hb; have BK295 := Aside0.mk (hbox); have GW295 := gw_ hg; have GE295 := gw_ hg; replace HB := bs_ hb; clear hb hbox hg; obtain ⟨hcz7_0, hcz7_1, hcz7_2, hcz7_3, hfz7_0, hfz7_1, hfz7_2, hfz7_3⟩ := blk4 BK295) | ((with_reducible refine gate_callee (f := 97) rfl ?_); refine goesL_ (some 4) rfl rfl Try.func97 (by kernel_rfl) rfl #[.agg #[.int .i64 a0_0, .int .i64 a0_1, .string a0_2, .slice A0_3 l0_3.length c0_3]] rfl ar_ ?_; (with_reducible refine (impl_ValueOk.calls k a0_0 a0_1 a0_2 _ _ l0_3 true _ ?side1 ?side2 A2.out).mono ?_); (case side1 => exact rdb_ HR0_3); (case side2 => exact HC0_3.out); rintro e w8 ⟨rfl, hb⟩; refine ⟨_, rfl, ?_⟩; replace BK295 := bb_ BK295 hb; replace HB := bs_ hb; (try clear hb); (try clear hb2); (try clear hk); (try clear hi); obtain ⟨hcz9_0, hcz9_1, hcz9_2, hcz9_3, hfz9_0, hfz9_1, hfz9_2, hfz9_3⟩ := blk4 BK295) | (go_at_call 175; (with_reducible refine (impl_valueHas.calls k a0_0 a0_1 a0_2 _ _ l0_3 0 true _ ?side1 ?side2 A4.out).mono ?_); (case side1 => exact rdb_ HR0_3); (case side2 => exact HC0_3.out); rintro e w10 ⟨rfl, hb⟩; replace BK295 := bb_ BK295 hb; replace HB := bs_ hb; (try clear hb); (try clear hb2); (try clear hk); (try clear hi)))
    go_ret
    exact re_
  replace c5 := Bool.eq_false_iff.mpr c5
  subst c5
  have H1 : ((impl_valueHas.f k a0_0 a0_1 a0_2 l0_3 5).bind fun t298 => (if t298 = true then (some false) else ((impl_valueHas.f k a0_0 a0_1 a0_2 l0_3 6).bind fun t299 => (some (!t299))))) = some r := by rw [if_neg (show ¬ (false = true) by decide)] at H; exact H
  clear H
  have H := H1
  clear H1
  replace H := Option.bind_eq_some_iff.mp H
  obtain ⟨t298, A110, H⟩ := H
  replace H : (if t298 = true then (some false) else ((impl_valueHas.f k a0_0 a0_1 a0_2 l0_3 6).bind fun t299 => (some (!t299)))) = some r := H
  have A11 := Aside0.mk A110
  clear A110
  by_cases c12 : t298 = true
  · subst c12
    have H1 : (some false) = some r := by rw [if_pos rfl] at H; exact H
    clear H
    have H := H1
    clear H1
    obtain rfl := Option.some.inj H
    go_enter Try.func130, Try.ntmps130
    go_wp2_with (first | ((with_reducible refine gate_dst (N := 1) rfl ?_); refine bx_ 1 #[.int .i64 a0_0, .int .i64 a0_1, .string a0_2, .slice A0_3 l0_3.length c0_3] 49 ?_; intro gb295 hg w13 hbox hb; have BK295 := Aside0.mk (hbox); have GW295 := gw_ hg; have GE295 := gw_ hg; replace HB := bs_ hb; clear hb hbox hg; obtain ⟨hcz14_0, hcz14_1, hcz14_2, hcz14_3, hfz14_0, hfz14_1, hfz14_2, hfz14_3⟩ := blk4 BK295) | ((with_reducible refine gate_callee (f := 97) rfl ?_); refine goesL_ (some 4) rfl rfl Try.func97 (by kernel_rfl) rfl #[.agg #[.int .i64 a0_0, .int .i64 a0_1, .string a0_2, .slice A0_3 l0_3.length c0_3]] rfl ar_ ?_; (with_reducible refine (impl_ValueOk.calls k a0_0 a0_1 a0_2 _ _ l0_3 true _ ?side1 ?side2 A2.out).mono ?_); (case side1 => exact rdb_ HR0_3); (case side2 => exact HC0_3.out); rintro e w15 ⟨rfl, hb⟩; refine ⟨_, rfl, ?_⟩; replace BK295 := bb_ BK295 hb; replace HB := bs_ hb; (try clear hb); (try clear hb2); (try clear hk); (try clear hi); obtain ⟨hcz16_0, hcz16_1, hcz16_2, hcz16_3, hfz16_0, hfz16_1, hfz16_2, hfz16_3⟩ := blk4 BK295) | (go_at_call 175; (with_reducible refine (impl_valueHas.calls k a0_0 a0_1 a0_2 _ _ l0_3 0 false _ ?side1 ?side2 A4.out).mono ?_); (case side1 => exact rdb_ HR0_3); (case side2 => exact HC0_3.out); rintro e w17 ⟨rfl, hb⟩; replace BK295 := bb_ BK295 hb; replace HB := bs_ hb; (try clear hb); (try clear hb2); (try clear hk); (try clear hi); obtain ⟨hcz18_0, hcz18_1, hcz18_2, hcz18_3, hfz18_0, hfz18_1, hfz18_2, hfz18_3⟩ := blk4 BK295) | (go_at_call 175; (with_reducible refine (impl_valueHas.calls k a0_0 a0_1 a0_2 _ _ l0_3 5 true _ ?side1 ?side2 A11.out).mono ?_); (case side1 => exact rdb_ HR0_3); (case side2 => exact HC0_3.out); rintro e w19 ⟨rfl, hb⟩; replace BK295 := bb_ BK295 hb; replace HB := bs_ hb; (try clear hb); (try clear hb2); (try clear hk); (try clear hi)))
    go_ret
    exact re_
  replace c12 := Bool.eq_false_iff.mpr c12
  subst c12
  have H1 : ((impl_valueHas.f k a0_0 a0_1 a0_2 l0_3 6).bind fun t299 => (some (!t299))) = some r := by rw [if_neg (show ¬ (false = true) by decide)] at H; exact H
  clear H
  have H := H1
  clear H1
  replace H := Option.bind_eq_some_iff.mp H
  obtain ⟨t299, A200, H⟩ := H
  replace H : (some (!t299)) = some r := H
  have A20 := Aside0.mk A200
  clear A200
  obtain rfl := Option.some.inj H
  go_enter Try.func130, Try.ntmps130
  go_wp2_with (first | ((with_reducible refine gate_dst (N := 1) rfl ?_); refine bx_ 1 #[.int .i64 a0_0, .int .i64 a0_1, .string a0_2, .slice A0_3 l0_3.length c0_3] 49 ?_; intro gb295 hg w21 hbox hb; have BK295 := Aside0.mk (hbox); have GW295 := gw_ hg; have GE295 := gw_ hg; replace HB := bs_ hb; clear hb hbox hg; obtain ⟨hcz22_0, hcz22_1, hcz22_2, hcz22_3, hfz22_0, hfz22_1, hfz22_2, hfz22_3⟩ := blk4 BK295) | ((with_reducible refine gate_callee (f := 97) rfl ?_); refine goesL_ (some 4) rfl rfl Try.func97 (by kernel_rfl) rfl #[.agg #[.int .i64 a0_0, .int .i64 a0_1, .string a0_2, .slice A0_3 l0_3.length c0_3]] rfl ar_ ?_; (with_reducible refine (impl_ValueOk.calls k a0_0 a0_1 a0_2 _ _ l0_3 true _ ?side1 ?side2 A2.out).mono ?_); (case side1 => exact rdb_ HR0_3); (case side2 => exact HC0_3.out); rintro e w23 ⟨rfl, hb⟩; refine ⟨_, rfl, ?_⟩; replace BK295 := bb_ BK295 hb; replace HB := bs_ hb; (try clear hb); (try clear hb2); (try clear hk); (try clear hi); obtain ⟨hcz24_0, hcz24_1, hcz24_2, hcz24_3, hfz24_0, hfz24_1, hfz24_2, hfz24_3⟩ := blk4 BK295) | (go_at_call 175; (with_reducible refine (impl_valueHas.calls k a0_0 a0_1 a0_2 _ _ l0_3 0 false _ ?side1 ?side2 A4.out).mono ?_); (case side1 => exact rdb_ HR0_3); (case side2 => exact HC0_3.out); rintro e w25 ⟨rfl, hb⟩; replace BK295 := bb_ BK295 hb; replace HB := bs_ hb; (try clear hb); (try clear hb2); (try clear hk); (try clear hi); obtain ⟨hcz26_0, hcz26_1, hcz26_2, hcz26_3, hfz26_0, hfz26_1, hfz26_2, hfz26_3⟩ := blk4 BK295) | (go_at_call 175; (with_reducible refine (impl_valueHas.calls k a0_0 a0_1 a0_2 _ _ l0_3 5 false _ ?side1 ?side2 A11.out).mono ?_); (case side1 => exact rdb_ HR0_3); (case side2 => exact HC0_3.out); rintro e w27 ⟨rfl, hb⟩; replace BK295 := bb_ BK295 hb; replace HB := bs_ hb; (try clear hb); (try clear hb2); (try clear hk); (try clear hi); obtain ⟨hcz28_0, hcz28_1, hcz28_2, hcz28_3, hfz28_0, hfz28_1, hfz28_2, hfz28_3⟩ := blk4 BK295) | (go_at_call 175; (with_reducible refine (impl_valueHas.calls k a0_0 a0_1 a0_2 _ _ l0_3 6 t299 _ ?side1 ?side2 A20.out).mono ?_); (case side1 => exact rdb_ HR0_3); (case side2 => exact HC0_3.out); rintro e w29 ⟨rfl, hb⟩; replace BK295 := bb_ BK295 hb; replace HB := bs_ hb; (try clear hb); (try clear hb2); (try clear hk); (try clear hi)))
  go_ret
  exact re_

end Go.Proofs.Ytcchmhmbjhgfdaa.G
