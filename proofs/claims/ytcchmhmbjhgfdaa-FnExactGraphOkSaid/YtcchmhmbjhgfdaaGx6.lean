-- Printed by a program of this claim's writer (wip/gen), out of the translation. Lean checks it.
import Derived.Test.YtcchmhmbjhgfdaaGx0
import Derived.Test.YtcchmhmbjhgfdaaGx2
import Derived.Test.YtcchmhmbjhgfdaaGx5
namespace Go.Proofs.Ytcchmhmbjhgfdaa.G
open Go.RowKit Go.Proofs.YtcchmhmbjhgfdaaW.PrintWords Go.Proofs.YtcchmhmbjhgfdaaW.PrintLast Go.Proofs.YtcchmhmbjhgfdaaW.PrintMore
attribute [local go_sem] max2_int min2_int max_two min_two max_three min_three max_four min_four Own.str_gtr Own.str_leq Own.str_geq Own.sto_fn   -- for this text's walks alone
open Own
set_option linter.unusedVariables false
set_option linter.unusedSimpArgs false

/-! ### spec_l1Ok: function 162 -/
mutual
def spec_l1Ok.j0 : Nat → Int → Bool → Int → Int → ByteArray → List (S49) → Option (Bool)
  | 0, _, _, _, _, _, _ => none
  | k + 1, x1, x5, x134000, x134001, x134002, x134003 => if x134000 = 0 then (if x5 = true then (some (x134001 == 0)) else (some false)) else (if x134000 = 1 then (if x5 = true then ((spec_l1In.f x134001 0 1).bind fun t134 => (some t134)) else (some false)) else (if x134000 = 2 then (if x5 = true then ((spec_l1In.f x134001 (-1000000000) 1000000000).bind fun t135 => (some t135)) else (some false)) else (if x134000 = 3 then (if x134001 = 0 then (if (x134003.length : Int) = 0 then ((spec_l1Text.f k x134002).bind fun t136 => (some t136)) else (some false)) else (some false)) else (if x134000 = 5 then (spec_l1Ok.j1 k x1 x5 x134000 (x134000 == 5) x134000 x134001 x134002 x134003) else (spec_l1Ok.j1 k x1 x5 x134000 (x134000 == 6) x134000 x134001 x134002 x134003)))))
def spec_l1Ok.j1 : Nat → Int → Bool → Int → Bool → Int → Int → ByteArray → List (S49) → Option (Bool)
  | 0, _, _, _, _, _, _, _, _ => none
  | k + 1, x1, x5, x17, x58, x134000, x134001, x134002, x134003 => if x58 = true then (if x5 = true then ((spec_l1In.f x134001 0 1000000000).bind fun t137 => (some t137)) else (some false)) else (if x17 = 4 then (spec_l1Ok.l0 k x1 0 x134000 x134001 x134002 x134003) else (some false))
def spec_l1Ok.l0 : Nat → Int → Int → Int → Int → ByteArray → List (S49) → Option (Bool)
  | 0, _, _, _, _, _, _ => none
  | k + 1, x1, x6, x134000, x134001, x134002, x134003 => if x6 < (x134003.length : Int) then (if x1 < 2 then (some false) else (if 0 ≤ x6 then ((spec_l1Ok.f k ((rd_T49 x134003 x6).f0) ((rd_T49 x134003 x6).f1) ((rd_T49 x134003 x6).f2) ((rd_T49 x134003 x6).f3) (wrap64 (x1 - 1))).bind fun t139 => (if t139 = true then (spec_l1Ok.l0 k x1 (wrap64 (x6 + 1)) x134000 x134001 x134002 x134003) else (some false))) else (none))) else (if x134001 = 0 then (if x134002.toList = ([] : List UInt8) then (some (decide ((x134003.length : Int) ≤ 6))) else (some false)) else (some false))
def spec_l1Ok.f : Nat → Int → Int → ByteArray → List (S49) → Int → Option (Bool)
  | 0, _, _, _, _, _ => none
  | k + 1, a0_0, a0_1, a0_2, l0_3, a1 => if a0_2.toList = ([] : List UInt8) then (spec_l1Ok.j0 k a1 ((l0_3.length : Int) == 0) a0_0 a0_1 a0_2 l0_3) else (spec_l1Ok.j0 k a1 false a0_0 a0_1 a0_2 l0_3)
end
set_option maxHeartbeats 8000000 in
set_option maxRecDepth 100000 in
theorem spec_l1Ok.calls (k : Nat) : ∀ (a0_0 : Int) (a0_1 : Int) (a0_2 : ByteArray) (A0_3 : Option Addr) (c0_3 : Nat) (l0_3 : List (S49)) (a1 : Int) (r : Bool) (w : World) (hr0_3 : Kd.C k49 w A0_3 l0_3.length l0_3) (hc0_3 : l0_3.length ≤ c0_3) (h : spec_l1Ok.f k a0_0 a0_1 a0_2 l0_3 a1 = some r),
    Calls Try.prog 162 #[.agg #[.int .i64 a0_0, .int .i64 a0_1, .string a0_2, .slice A0_3 l0_3.length c0_3], .int .i64 a1] w fun e w' => e = .returned (.bool r) ∧ Below w.heap.size w w' := by
  induction k using Nat.strongRecOn with
  | _ k ih =>
  intro a0_0 a0_1 a0_2 A0_3 c0_3 l0_3 a1 r w hr0_3 hc0_3 h
  cases k with
  | zero => exact absurd h (by simp [spec_l1Ok.f])
  | succ k =>
  simp only [spec_l1Ok.f] at h
  have hu49 := Try.underlying49
  have HR0_3 := Aside0.mk hr0_3
  have HC0_3 := Aside0.mk hc0_3
  clear hr0_3 hc0_3
  have HB := Aside0.mk (Below.refl w.heap.size w)
  have H : (if a0_2.toList = ([] : List UInt8) then (spec_l1Ok.j0 k a1 ((l0_3.length : Int) == 0) a0_0 a0_1 a0_2 l0_3) else (spec_l1Ok.j0 k a1 false a0_0 a0_1 a0_2 l0_3)) = some r := h
  clear h
  have HC3 := Aside0.mk H
  clear H
  go_enter Try.func162, Try.ntmps162
  go_upto_region 1 with (first | ((with_reducible refine gate_dst (N := 2) rfl ?_); (try (refine gate_guard (by rfl) ?_; dsimp only)); refine box_event ?hg (N := 2) ?hd (cs := #[.int .i64 a0_0, .int .i64 a0_1, .string a0_2, .slice A0_3 l0_3.length c0_3]) (t := 49) ?hr ?_; (case hd => rfl); (case hg => rfl); (case hr => first | (go_simp; done) | (go_simp; rfl)); intro gb133 hg w4 hbox hb; have BK133 := Aside0.mk (hbox); have GW133 := gw_ hg; have GE133 := gw_ hg; replace HB := bs_ hb; clear hb hbox hg))
  (try simp only [Act.put, List.setIfInBounds_toArray, List.set_cons_zero, List.set_cons_succ])
  go_cut [5] (fun v5 wc => ∃ (kq : Nat) (x5_2 : Bool), v5 = .bool x5_2 ∧ Aside0 (spec_l1Ok.j0 kq a1 x5_2 a0_0 a0_1 a0_2 l0_3 = some r) ∧ Aside0 (kq ≤ k) ∧ Aside0 (wc.heap[gb133]? = some (.cells #[.int .i64 a0_0, .int .i64 a0_1, .string a0_2, (.slice A0_3 l0_3.length c0_3)] 49 (0, 0))) ∧ Aside0 (Below w.heap.size w wc))
  case first =>
    have H := HC3.out
    clear HC3
    by_cases c5 : a0_2.toList = ([] : List UInt8)
    · rw [if_pos c5] at H
      have c5b0 : (a0_2.toList == ([] : List UInt8)) = true := beq_iff_eq.mpr c5
      have c5b1 : (a0_2.toList != ([] : List UInt8)) = false := bne_eq_false_iff_eq.mpr c5
      clear c5
      (first | rw [c5b0] | (simp only [i64_w, i32_w]; rw [c5b0]) | skip)
      have H' := Aside0.mk H
      clear H
      obtain ⟨hcz6_0, hcz6_1, hcz6_2, hcz6_3, hfz6_0, hfz6_1, hfz6_2, hfz6_3⟩ := blk4 BK133
      go_wp2
      go_meet
      case rel => exact ⟨_, (((l0_3.length : Int) == 0)), sm_, H', ⟨by first | omega | exact Nat.le_refl _⟩, ⟨by refine pe_ ?_; exact BK133.out⟩, ⟨bel_⟩⟩
    rw [if_neg c5] at H
    have c5b0 : (a0_2.toList == ([] : List UInt8)) = false := beq_eq_false_iff_ne.mpr c5
    have c5b1 : (a0_2.toList != ([] : List UInt8)) = true := bne_iff_ne.mpr c5
    (first | rw [c5b0] | (simp only [i64_w, i32_w]; rw [c5b0]) | skip)
    have H' := Aside0.mk H
    clear H
    obtain ⟨hcz7_0, hcz7_1, hcz7_2, hcz7_3, hfz7_0, hfz7_1, hfz7_2, hfz7_3⟩ := blk4 BK133
    go_wp2
    go_meet
    case rel => exact ⟨_, (false), sm_, H', ⟨by first | omega | exact Nat.le_refl _⟩, ⟨by refine pe_ ?_; exact BK133.out⟩, ⟨bel_⟩⟩
  case rest =>
    clear HC3
    try clear c1
    try clear p2
    try clear c5
    try clear c5b0
    try clear c5b1
    try clear hcz6_0 hcz6_1 hcz6_2 hcz6_3
    try clear hcz7_0 hcz7_1 hcz7_2 hcz7_3
    try clear hfz6_0 hfz6_1 hfz6_2 hfz6_3
    try clear hfz7_0 hfz7_1 hfz7_2 hfz7_3
    obtain ⟨kq, x5_2, rfl, HA, HJ2, BK133, HB⟩ := hcut
    cases kq with
    | zero => exact absurd HA.out (by simp [spec_l1Ok.j0])
    | succ kj2 =>
      have H := HA.out
      clear HA
      simp only [spec_l1Ok.j0] at H
      by_cases c8 : a0_0 = 0
      · rw [if_pos c8] at H
        have c8b0 : (a0_0 == 0) = true := beq_iff_eq.mpr c8
        have c8b1 : (a0_0 != 0) = false := bne_eq_false_iff_eq.mpr c8
        clear c8
        by_cases c9 : x5_2 = true
        · subst c9
          have H1 : (some (a0_1 == 0)) = some r := by rw [if_pos rfl] at H; exact H
          clear H
          have H := H1
          clear H1
          obtain rfl := Option.some.inj H
          obtain ⟨hcz10_0, hcz10_1, hcz10_2, hcz10_3, hfz10_0, hfz10_1, hfz10_2, hfz10_3⟩ := blk4 BK133
          go_wp2
          go_ret
          exact re_
        replace c9 := Bool.eq_false_iff.mpr c9
        subst c9
        have H1 : (some false) = some r := by rw [if_neg (show ¬ (false = true) by decide)] at H; exact H
        clear H
        have H := H1
        clear H1
        obtain rfl := Option.some.inj H
        obtain ⟨hcz11_0, hcz11_1, hcz11_2, hcz11_3, hfz11_0, hfz11_1, hfz11_2, hfz11_3⟩ := blk4 BK133
        go_wp2
        go_ret
        exact re_
      rw [if_neg c8] at H
      have c8b0 : (a0_0 == 0) = false := beq_eq_false_iff_ne.mpr c8
      have c8b1 : (a0_0 != 0) = true := bne_iff_ne.mpr c8
      by_cases c12 : a0_0 = 1
      · rw [if_pos c12] at H
        have c12b0 : (a0_0 == 1) = true := beq_iff_eq.mpr c12
        have c12b1 : (a0_0 != 1) = false := bne_eq_false_iff_eq.mpr c12
        clear c12
        by_cases c13 : x5_2 = true
        · subst c13
          have H1 : ((spec_l1In.f a0_1 0 1).bind fun t134 => (some t134)) = some r := by rw [if_pos rfl] at H; exact H
          clear H
          have H := H1
          clear H1
          replace H := Option.bind_eq_some_iff.mp H
          obtain ⟨t134, A140, H⟩ := H
          replace H : (some t134) = some r := H
          have A14 := Aside0.mk A140
          clear A140
          obtain rfl := Option.some.inj H
          obtain ⟨hcz15_0, hcz15_1, hcz15_2, hcz15_3, hfz15_0, hfz15_1, hfz15_2, hfz15_3⟩ := blk4 BK133
          go_wp2_with (first | (go_at_call 69; (with_reducible refine (spec_l1In.calls a0_1 0 1 t134 _ A14.out).mono ?_); rintro e w' ⟨rfl, ⟨nd, rfl⟩⟩))
          go_ret
          exact re_
        replace c13 := Bool.eq_false_iff.mpr c13
        subst c13
        have H1 : (some false) = some r := by rw [if_neg (show ¬ (false = true) by decide)] at H; exact H
        clear H
        have H := H1
        clear H1
        obtain rfl := Option.some.inj H
        obtain ⟨hcz16_0, hcz16_1, hcz16_2, hcz16_3, hfz16_0, hfz16_1, hfz16_2, hfz16_3⟩ := blk4 BK133
        go_wp2
        go_ret
        exact re_
      rw [if_neg c12] at H
      have c12b0 : (a0_0 == 1) = false := beq_eq_false_iff_ne.mpr c12
      have c12b1 : (a0_0 != 1) = true := bne_iff_ne.mpr c12
      by_cases c17 : a0_0 = 2
      · rw [if_pos c17] at H
        have c17b0 : (a0_0 == 2) = true := beq_iff_eq.mpr c17
        have c17b1 : (a0_0 != 2) = false := bne_eq_false_iff_eq.mpr c17
        clear c17
        by_cases c18 : x5_2 = true
        · subst c18
          have H1 : ((spec_l1In.f a0_1 (-1000000000) 1000000000).bind fun t135 => (some t135)) = some r := by rw [if_pos rfl] at H; exact H
          clear H
          have H := H1
          clear H1
          replace H := Option.bind_eq_some_iff.mp H
          obtain ⟨t135, A190, H⟩ := H
          replace H : (some t135) = some r := H
          have A19 := Aside0.mk A190
          clear A190
          obtain rfl := Option.some.inj H
          obtain ⟨hcz20_0, hcz20_1, hcz20_2, hcz20_3, hfz20_0, hfz20_1, hfz20_2, hfz20_3⟩ := blk4 BK133
          go_wp2_with (first | (go_at_call 69; (with_reducible refine (spec_l1In.calls a0_1 (-1000000000) 1000000000 t135 _ A19.out).mono ?_); rintro e w' ⟨rfl, ⟨nd, rfl⟩⟩))
          go_ret
          exact re_
        replace c18 := Bool.eq_false_iff.mpr c18
        subst c18
        have H1 : (some false) = some r := by rw [if_neg (show ¬ (false = true) by decide)] at H; exact H
        clear H
        have H := H1
        clear H1
        obtain rfl := Option.some.inj H
        obtain ⟨hcz21_0, hcz21_1, hcz21_2, hcz21_3, hfz21_0, hfz21_1, hfz21_2, hfz21_3⟩ := blk4 BK133
        go_wp2
        go_ret
        exact re_
      rw [if_neg c17] at H
      have c17b0 : (a0_0 == 2) = false := beq_eq_false_iff_ne.mpr c17
      have c17b1 : (a0_0 != 2) = true := bne_iff_ne.mpr c17
      by_cases c22 : a0_0 = 3
      · rw [if_pos c22] at H
        have c22b0 : (a0_0 == 3) = true := beq_iff_eq.mpr c22
        have c22b1 : (a0_0 != 3) = false := bne_eq_false_iff_eq.mpr c22
        clear c22
        by_cases c23 : a0_1 = 0
        rotate_left
        · rw [if_neg c23] at H
          have c23b0 : (a0_1 == 0) = false := beq_eq_false_iff_ne.mpr c23
          have c23b1 : (a0_1 != 0) = true := bne_iff_ne.mpr c23
          obtain rfl := Option.some.inj H
          obtain ⟨hcz28_0, hcz28_1, hcz28_2, hcz28_3, hfz28_0, hfz28_1, hfz28_2, hfz28_3⟩ := blk4 BK133
          go_wp2
          go_ret
          exact re_
        rw [if_pos c23] at H
        have c23b0 : (a0_1 == 0) = true := beq_iff_eq.mpr c23
        have c23b1 : (a0_1 != 0) = false := bne_eq_false_iff_eq.mpr c23
        clear c23
        by_cases c24 : (l0_3.length : Int) = 0
        · rw [if_pos c24] at H
          have c24b0 : ((l0_3.length : Int) == 0) = true := beq_iff_eq.mpr c24
          have c24b1 : ((l0_3.length : Int) != 0) = false := bne_eq_false_iff_eq.mpr c24
          clear c24
          replace H := Option.bind_eq_some_iff.mp H
          obtain ⟨t136, A250, H⟩ := H
          replace H : (some t136) = some r := H
          have A25 := Aside0.mk A250
          clear A250
          obtain rfl := Option.some.inj H
          obtain ⟨hcz26_0, hcz26_1, hcz26_2, hcz26_3, hfz26_0, hfz26_1, hfz26_2, hfz26_3⟩ := blk4 BK133
          go_wp2_with (first | (go_at_call 185; (with_reducible refine (spec_l1Text.calls kj2 a0_2 t136 _ A25.out).mono ?_); rintro e w' ⟨rfl, ⟨nd, rfl⟩⟩))
          go_ret
          exact re_
        rw [if_neg c24] at H
        have c24b0 : ((l0_3.length : Int) == 0) = false := beq_eq_false_iff_ne.mpr c24
        have c24b1 : ((l0_3.length : Int) != 0) = true := bne_iff_ne.mpr c24
        have c24b2 : ¬ (l0_3 = []) := fun h_ => c24 (by rw [h_]; rfl)
        obtain rfl := Option.some.inj H
        obtain ⟨hcz27_0, hcz27_1, hcz27_2, hcz27_3, hfz27_0, hfz27_1, hfz27_2, hfz27_3⟩ := blk4 BK133
        go_wp2
        go_ret
        exact re_
      rw [if_neg c22] at H
      have c22b0 : (a0_0 == 3) = false := beq_eq_false_iff_ne.mpr c22
      have c22b1 : (a0_0 != 3) = true := bne_iff_ne.mpr c22
      have HC29 := Aside0.mk H
      clear H
      obtain ⟨hcz30_0, hcz30_1, hcz30_2, hcz30_3, hfz30_0, hfz30_1, hfz30_2, hfz30_3⟩ := blk4 BK133
      go_upto_if 58 with (fail)
      go_cut [58] (fun v58 wc => ∃ (kq : Nat) (x58_28 : Bool), v58 = .bool x58_28 ∧ Aside0 (spec_l1Ok.j1 kq a1 x5_2 a0_0 x58_28 a0_0 a0_1 a0_2 l0_3 = some r) ∧ Aside0 (kq ≤ kj2) ∧ Aside0 (wc.heap[gb133]? = some (.cells #[.int .i64 a0_0, .int .i64 a0_1, .string a0_2, (.slice A0_3 l0_3.length c0_3)] 49 (0, 0))) ∧ Aside0 (Below w.heap.size w wc))
      case first =>
        have H := HC29.out
        clear HC29
        by_cases c31 : a0_0 = 5
        · rw [if_pos c31] at H
          have c31b0 : (a0_0 == 5) = true := beq_iff_eq.mpr c31
          have c31b1 : (a0_0 != 5) = false := bne_eq_false_iff_eq.mpr c31
          clear c31
          (first | rw [c31b0] | (simp only [i64_w, i32_w]; rw [c31b0]) | skip)
          have H' := Aside0.mk H
          clear H
          go_wp2
          go_meet
          case rel => exact ⟨_, ((a0_0 == 5)), sm_, H', ⟨by have := HJ2.out; first | omega | exact Nat.le_refl _⟩, ⟨by refine pe_ ?_; exact BK133.out⟩, ⟨bel_⟩⟩
        rw [if_neg c31] at H
        have c31b0 : (a0_0 == 5) = false := beq_eq_false_iff_ne.mpr c31
        have c31b1 : (a0_0 != 5) = true := bne_iff_ne.mpr c31
        (first | rw [c31b0] | (simp only [i64_w, i32_w]; rw [c31b0]) | skip)
        have H' := Aside0.mk H
        clear H
        go_wp2
        go_meet
        case rel => exact ⟨_, ((a0_0 == 6)), sm_, H', ⟨by have := HJ2.out; first | omega | exact Nat.le_refl _⟩, ⟨by refine pe_ ?_; exact BK133.out⟩, ⟨bel_⟩⟩
      case rest =>
        clear HC29
        try clear c1
        try clear c2
        try clear p2
        try clear c3
        try clear c5
        try clear c5b0
        try clear c5b1
        try clear c8
        try clear c8b0
        try clear c8b1
        try clear c9
        try clear c12
        try clear c12b0
        try clear c12b1
        try clear c13
        try clear c16
        try clear c17
        try clear c17b0
        try clear c17b1
        try clear c18
        try clear c22
        try clear c22b0
        try clear c22b1
        try clear c23
        try clear c23b0
        try clear c23b1
        try clear c24
        try clear c24b0
        try clear c24b1
        try clear c24b2
        try clear c31
        try clear c31b0
        try clear c31b1
        try clear hcz10_0 hcz10_1 hcz10_2 hcz10_3
        try clear hcz11_0 hcz11_1 hcz11_2 hcz11_3
        try clear hcz15_0 hcz15_1 hcz15_2 hcz15_3
        try clear hcz16_0 hcz16_1 hcz16_2 hcz16_3
        try clear hcz20_0 hcz20_1 hcz20_2 hcz20_3
        try clear hcz21_0 hcz21_1 hcz21_2 hcz21_3
        try clear hcz26_0 hcz26_1 hcz26_2 hcz26_3
        try clear hcz27_0 hcz27_1 hcz27_2 hcz27_3
        try clear hcz28_0 hcz28_1 hcz28_2 hcz28_3
        try clear hcz30_0 hcz30_1 hcz30_2 hcz30_3
        try clear hcz6_0 hcz6_1 hcz6_2 hcz6_3
        try clear hcz7_0 hcz7_1 hcz7_2 hcz7_3
        try clear hfz10_0 hfz10_1 hfz10_2 hfz10_3
        try clear hfz11_0 hfz11_1 hfz11_2 hfz11_3
        try clear hfz15_0 hfz15_1 hfz15_2 hfz15_3
        try clear hfz16_0 hfz16_1 hfz16_2 hfz16_3
        try clear hfz20_0 hfz20_1 hfz20_2 hfz20_3
        try clear hfz21_0 hfz21_1 hfz21_2 hfz21_3
        try clear hfz26_0 hfz26_1 hfz26_2 hfz26_3
        try clear hfz27_0 hfz27_1 hfz27_2 hfz27_3
        try clear hfz28_0 hfz28_1 hfz28_2 hfz28_3
        try clear hfz30_0 hfz30_1 hfz30_2 hfz30_3
        try clear hfz6_0 hfz6_1 hfz6_2 hfz6_3
        try clear hfz7_0 hfz7_1 hfz7_2 hfz7_3
        try clear p2
        obtain ⟨kq, x58_28, rfl, HA, HJ28, BK133, HB⟩ := hcut
        cases kq with
        | zero => exact absurd HA.out (by simp [spec_l1Ok.j1])
        | succ kj28 =>
          have H := HA.out
          clear HA
          simp only [spec_l1Ok.j1] at H
          by_cases c32 : x58_28 = true
          · subst c32
            have H1 : (if x5_2 = true then ((spec_l1In.f a0_1 0 1000000000).bind fun t137 => (some t137)) else (some false)) = some r := by rw [if_pos rfl] at H; exact H
            clear H
            have H := H1
            clear H1
            by_cases c33 : x5_2 = true
            · subst c33
              have H1 : ((spec_l1In.f a0_1 0 1000000000).bind fun t137 => (some t137)) = some r := by rw [if_pos rfl] at H; exact H
              clear H
              have H := H1
              clear H1
              replace H := Option.bind_eq_some_iff.mp H
              obtain ⟨t137, A340, H⟩ := H
              replace H : (some t137) = some r := H
              have A34 := Aside0.mk A340
              clear A340
              obtain rfl := Option.some.inj H
              obtain ⟨hcz35_0, hcz35_1, hcz35_2, hcz35_3, hfz35_0, hfz35_1, hfz35_2, hfz35_3⟩ := blk4 BK133
              go_wp2_with (first | (go_at_call 69; (with_reducible refine (spec_l1In.calls a0_1 0 1000000000 t137 _ A34.out).mono ?_); rintro e w' ⟨rfl, ⟨nd, rfl⟩⟩))
              go_ret
              exact re_
            replace c33 := Bool.eq_false_iff.mpr c33
            subst c33
            have H1 : (some false) = some r := by rw [if_neg (show ¬ (false = true) by decide)] at H; exact H
            clear H
            have H := H1
            clear H1
            obtain rfl := Option.some.inj H
            go_wp2
            go_ret
            exact re_
          replace c32 := Bool.eq_false_iff.mpr c32
          subst c32
          have H1 : (if a0_0 = 4 then (spec_l1Ok.l0 kj28 a1 0 a0_0 a0_1 a0_2 l0_3) else (some false)) = some r := by rw [if_neg (show ¬ (false = true) by decide)] at H; exact H
          clear H
          have H := H1
          clear H1
          by_cases c36 : a0_0 = 4
          rotate_left
          · rw [if_neg c36] at H
            have c36b0 : (a0_0 == 4) = false := beq_eq_false_iff_ne.mpr c36
            have c36b1 : (a0_0 != 4) = true := bne_iff_ne.mpr c36
            obtain rfl := Option.some.inj H
            go_wp2
            go_ret
            exact re_
          rw [if_pos c36] at H
          have c36b0 : (a0_0 == 4) = true := beq_iff_eq.mpr c36
          have c36b1 : (a0_0 != 4) = false := bne_eq_false_iff_eq.mpr c36
          clear c36
          have H' := Aside0.mk H
          clear H
          go_wp2
          go_loopg [6] kj28 (fun kq v6 w' => ∃ (x6_3 : Int), v6 = .int .i64 x6_3 ∧ Aside0 (spec_l1Ok.l0 kq a1 x6_3 a0_0 a0_1 a0_2 l0_3 = some r) ∧ Aside0 (kq ≤ kj28) ∧ Aside0 (w'.heap[gb133]? = some (.cells #[.int .i64 a0_0, .int .i64 a0_1, .string a0_2, (.slice A0_3 l0_3.length c0_3)] 49 (0, 0))) ∧ Aside0 (Below w.heap.size w w'))
          case atStart => exact ⟨(0), sm_, H', ⟨Nat.le_refl _⟩, ⟨by refine pe_ ?_; exact BK133.out⟩, ⟨bel_⟩⟩
          case round =>
            clear H'
            try clear c1
            try clear c2
            try clear p2
            try clear c3
            try clear c5
            try clear c5b0
            try clear c5b1
            try clear c8
            try clear c8b0
            try clear c8b1
            try clear c9
            try clear c12
            try clear c12b0
            try clear c12b1
            try clear c13
            try clear c16
            try clear c17
            try clear c17b0
            try clear c17b1
            try clear c18
            try clear c22
            try clear c22b0
            try clear c22b1
            try clear c23
            try clear c23b0
            try clear c23b1
            try clear c24
            try clear c24b0
            try clear c24b1
            try clear c24b2
            try clear c31
            try clear c31b0
            try clear c31b1
            try clear c32
            try clear c33
            try clear c36
            try clear c36b0
            try clear c36b1
            try clear hcz10_0 hcz10_1 hcz10_2 hcz10_3
            try clear hcz11_0 hcz11_1 hcz11_2 hcz11_3
            try clear hcz15_0 hcz15_1 hcz15_2 hcz15_3
            try clear hcz16_0 hcz16_1 hcz16_2 hcz16_3
            try clear hcz20_0 hcz20_1 hcz20_2 hcz20_3
            try clear hcz21_0 hcz21_1 hcz21_2 hcz21_3
            try clear hcz26_0 hcz26_1 hcz26_2 hcz26_3
            try clear hcz27_0 hcz27_1 hcz27_2 hcz27_3
            try clear hcz28_0 hcz28_1 hcz28_2 hcz28_3
            try clear hcz30_0 hcz30_1 hcz30_2 hcz30_3
            try clear hcz35_0 hcz35_1 hcz35_2 hcz35_3
            try clear hcz6_0 hcz6_1 hcz6_2 hcz6_3
            try clear hcz7_0 hcz7_1 hcz7_2 hcz7_3
            try clear hfz10_0 hfz10_1 hfz10_2 hfz10_3
            try clear hfz11_0 hfz11_1 hfz11_2 hfz11_3
            try clear hfz15_0 hfz15_1 hfz15_2 hfz15_3
            try clear hfz16_0 hfz16_1 hfz16_2 hfz16_3
            try clear hfz20_0 hfz20_1 hfz20_2 hfz20_3
            try clear hfz21_0 hfz21_1 hfz21_2 hfz21_3
            try clear hfz26_0 hfz26_1 hfz26_2 hfz26_3
            try clear hfz27_0 hfz27_1 hfz27_2 hfz27_3
            try clear hfz28_0 hfz28_1 hfz28_2 hfz28_3
            try clear hfz30_0 hfz30_1 hfz30_2 hfz30_3
            try clear hfz35_0 hfz35_1 hfz35_2 hfz35_3
            try clear hfz6_0 hfz6_1 hfz6_2 hfz6_3
            try clear hfz7_0 hfz7_1 hfz7_2 hfz7_3
            try clear p2
            obtain ⟨x6_3, rfl, HA, HK3, BK133, HB⟩ := hrel
            cases gk with
            | zero => exact absurd HA.out (by simp [spec_l1Ok.l0])
            | succ k3 =>
              have H := HA.out
              clear HA
              simp only [spec_l1Ok.l0] at H
              by_cases c37 : x6_3 < (l0_3.length : Int)
              rotate_left
              · rw [if_neg c37] at H
                have c37b0 : decide (x6_3 < (l0_3.length : Int)) = false := decide_eq_false c37
                clear c37
                by_cases c47 : a0_1 = 0
                rotate_left
                · rw [if_neg c47] at H
                  have c47b0 : (a0_1 == 0) = false := beq_eq_false_iff_ne.mpr c47
                  have c47b1 : (a0_1 != 0) = true := bne_iff_ne.mpr c47
                  obtain rfl := Option.some.inj H
                  obtain ⟨hcz51_0, hcz51_1, hcz51_2, hcz51_3, hfz51_0, hfz51_1, hfz51_2, hfz51_3⟩ := blk4 BK133
                  go_wp2
                  go_ret
                  exact re_
                rw [if_pos c47] at H
                have c47b0 : (a0_1 == 0) = true := beq_iff_eq.mpr c47
                have c47b1 : (a0_1 != 0) = false := bne_eq_false_iff_eq.mpr c47
                clear c47
                by_cases c48 : a0_2.toList = ([] : List UInt8)
                · rw [if_pos c48] at H
                  have c48b0 : (a0_2.toList == ([] : List UInt8)) = true := beq_iff_eq.mpr c48
                  have c48b1 : (a0_2.toList != ([] : List UInt8)) = false := bne_eq_false_iff_eq.mpr c48
                  clear c48
                  obtain rfl := Option.some.inj H
                  obtain ⟨hcz49_0, hcz49_1, hcz49_2, hcz49_3, hfz49_0, hfz49_1, hfz49_2, hfz49_3⟩ := blk4 BK133
                  go_wp2
                  go_ret
                  exact re_
                rw [if_neg c48] at H
                have c48b0 : (a0_2.toList == ([] : List UInt8)) = false := beq_eq_false_iff_ne.mpr c48
                have c48b1 : (a0_2.toList != ([] : List UInt8)) = true := bne_iff_ne.mpr c48
                obtain rfl := Option.some.inj H
                obtain ⟨hcz50_0, hcz50_1, hcz50_2, hcz50_3, hfz50_0, hfz50_1, hfz50_2, hfz50_3⟩ := blk4 BK133
                go_wp2
                go_ret
                exact re_
              rw [if_pos c37] at H
              have c37b0 : decide (x6_3 < (l0_3.length : Int)) = true := decide_eq_true c37
              clear c37
              by_cases c38 : a1 < 2
              · rw [if_pos c38] at H
                have c38b0 : decide (a1 < 2) = true := decide_eq_true c38
                clear c38
                obtain rfl := Option.some.inj H
                obtain ⟨hcz39_0, hcz39_1, hcz39_2, hcz39_3, hfz39_0, hfz39_1, hfz39_2, hfz39_3⟩ := blk4 BK133
                go_wp2
                go_ret
                exact re_
              rw [if_neg c38] at H
              have c38b0 : decide (a1 < 2) = false := decide_eq_false c38
              clear c38
              by_cases c40 : 0 ≤ x6_3
              rotate_left
              · rw [if_neg c40] at H
                exact absurd H (by simp)
              rw [if_pos c40] at H
              have c40b0 : decide (0 ≤ x6_3) = true := decide_eq_true c40
              clear c40
              replace H := Option.bind_eq_some_iff.mp H
              obtain ⟨t139, A410, H⟩ := H
              replace H : (if t139 = true then (spec_l1Ok.l0 k3 a1 (wrap64 (x6_3 + 1)) a0_0 a0_1 a0_2 l0_3) else (some false)) = some r := H
              have A41 := Aside0.mk A410
              clear A410
              by_cases c42 : t139 = true
              · subst c42
                have H1 : (spec_l1Ok.l0 k3 a1 (wrap64 (x6_3 + 1)) a0_0 a0_1 a0_2 l0_3) = some r := by rw [if_pos rfl] at H; exact H
                clear H
                have H := H1
                clear H1
                have H' := Aside0.mk H
                clear H
                obtain ⟨hcz43_0, hcz43_1, hcz43_2, hcz43_3, hfz43_0, hfz43_1, hfz43_2, hfz43_3⟩ := blk4 BK133
                have p138 : 0 ≤ (x6_3 : Int) := od_
                have q138 : x6_3 < (l0_3.length : Int) := od_
                obtain ⟨ad138, A138_3, c138_3, e138, hx138_0, hx138_1, hx138_2, hx138_3, hl138_3, hi138_3⟩ := at_T49 HR0_3.out x6_3 p138 q138
                cases e138
                replace hx138_0 := mv_ HB hx138_0
                replace hx138_1 := mv_ HB hx138_1
                replace hx138_2 := mv_ HB hx138_2
                replace hx138_3 := mv_ HB hx138_3
                have HR138_3 := Aside0.mk hi138_3
                have HC138_3 := Aside0.mk hl138_3
                clear hi138_3 hl138_3
                replace p138 := eq_true p138
                replace q138 := eq_true q138
                go_wp2_with (first | (go_at_call 162; (with_reducible refine (ih k3 (by have := HJ2.out; have := HJ28.out; have := HK3.out; omega) ((rd_T49 l0_3 x6_3).f0) ((rd_T49 l0_3 x6_3).f1) ((rd_T49 l0_3 x6_3).f2) _ _ ((rd_T49 l0_3 x6_3).f3) (wrap64 (a1 - 1)) true _ ?side1 ?side2 A41.out).mono ?_); (case side1 => exact rdb_ HR138_3); (case side2 => exact HC138_3.out); rintro e w44 ⟨rfl, hb⟩; replace BK133 := bb_ BK133 hb; replace HB := bs_ hb; (try clear hb); (try clear hb2); (try clear hk); (try clear hi)))
                go_roundg k3
                case measure => have := HJ2.out; have := HJ28.out; have := HK3.out; omega
                case rel => exact ⟨(wrap64 (x6_3 + 1)), sm_, H', ⟨by have := HJ2.out; have := HJ28.out; have := HK3.out; omega⟩, ⟨by refine pe_ ?_; exact BK133.out⟩, ⟨bel_⟩⟩
              replace c42 := Bool.eq_false_iff.mpr c42
              subst c42
              have H1 : (some false) = some r := by rw [if_neg (show ¬ (false = true) by decide)] at H; exact H
              clear H
              have H := H1
              clear H1
              obtain rfl := Option.some.inj H
              obtain ⟨hcz45_0, hcz45_1, hcz45_2, hcz45_3, hfz45_0, hfz45_1, hfz45_2, hfz45_3⟩ := blk4 BK133
              have p138 : 0 ≤ (x6_3 : Int) := od_
              have q138 : x6_3 < (l0_3.length : Int) := od_
              obtain ⟨ad138, A138_3, c138_3, e138, hx138_0, hx138_1, hx138_2, hx138_3, hl138_3, hi138_3⟩ := at_T49 HR0_3.out x6_3 p138 q138
              cases e138
              replace hx138_0 := mv_ HB hx138_0
              replace hx138_1 := mv_ HB hx138_1
              replace hx138_2 := mv_ HB hx138_2
              replace hx138_3 := mv_ HB hx138_3
              have HR138_3 := Aside0.mk hi138_3
              have HC138_3 := Aside0.mk hl138_3
              clear hi138_3 hl138_3
              replace p138 := eq_true p138
              replace q138 := eq_true q138
              go_wp2_with (first | (go_at_call 162; (with_reducible refine (ih k3 (by have := HJ2.out; have := HJ28.out; have := HK3.out; omega) ((rd_T49 l0_3 x6_3).f0) ((rd_T49 l0_3 x6_3).f1) ((rd_T49 l0_3 x6_3).f2) _ _ ((rd_T49 l0_3 x6_3).f3) (wrap64 (a1 - 1)) false _ ?side1 ?side2 A41.out).mono ?_); (case side1 => exact rdb_ HR138_3); (case side2 => exact HC138_3.out); rintro e w46 ⟨rfl, hb⟩; replace BK133 := bb_ BK133 hb; replace HB := bs_ hb; (try clear hb); (try clear hb2); (try clear hk); (try clear hi)))
              go_ret
              exact re_

/-! ### spec_ValueOk: function 94 -/
def spec_ValueOk.f (k : Nat) (a0_0 : Int) (a0_1 : Int) (a0_2 : ByteArray) (l0_3 : List (S49)) : Option (Bool) := (spec_l1Ok.f k a0_0 a0_1 a0_2 l0_3 3).bind fun t141 => (some t141)
set_option maxHeartbeats 8000000 in
set_option maxRecDepth 100000 in
theorem spec_ValueOk.calls (k : Nat) (a0_0 : Int) (a0_1 : Int) (a0_2 : ByteArray) (A0_3 : Option Addr) (c0_3 : Nat) (l0_3 : List (S49)) (r : Bool) (w : World) (hr0_3 : Kd.C k49 w A0_3 l0_3.length l0_3) (hc0_3 : l0_3.length ≤ c0_3) (h : spec_ValueOk.f k a0_0 a0_1 a0_2 l0_3 = some r) :
    Calls Try.prog 94 #[.agg #[.int .i64 a0_0, .int .i64 a0_1, .string a0_2, .slice A0_3 l0_3.length c0_3]] w fun e w' => e = .returned (.bool r) ∧ Below w.heap.size w w' := by
  have hu49 := Try.underlying49
  have HR0_3 := Aside0.mk hr0_3
  have HC0_3 := Aside0.mk hc0_3
  clear hr0_3 hc0_3
  have HB := Aside0.mk (Below.refl w.heap.size w)
  have H : ((spec_l1Ok.f k a0_0 a0_1 a0_2 l0_3 3).bind fun t141 => (some t141)) = some r := h
  clear h
  replace H := Option.bind_eq_some_iff.mp H
  obtain ⟨t141, A20, H⟩ := H
  replace H : (some t141) = some r := H
  have A2 := Aside0.mk A20
  clear A20
  obtain rfl := Option.some.inj H
  go_enter Try.func94, Try.ntmps94
  go_wp2_with (first | ((with_reducible refine gate_dst (N := 1) rfl ?_); refine bx_ 1 #[.int .i64 a0_0, .int .i64 a0_1, .string a0_2, .slice A0_3 l0_3.length c0_3] 49 ?_; intro gb140 hg w3 hbox hb; have BK140 := Aside0.mk (hbox); have GW140 := gw_ hg; have GE140 := gw_ hg; replace HB := bs_ hb; clear hb hbox hg; obtain ⟨hcz4_0, hcz4_1, hcz4_2, hcz4_3, hfz4_0, hfz4_1, hfz4_2, hfz4_3⟩ := blk4 BK140) | ((with_reducible refine gate_callee (f := 162) rfl ?_); refine goesL_ (some 4) rfl rfl Try.func162 (by kernel_rfl) rfl #[.agg #[.int .i64 a0_0, .int .i64 a0_1, .string a0_2, .slice A0_3 l0_3.length c0_3], .int .i64 3] rfl ar_ ?_; (with_reducible refine (spec_l1Ok.calls k a0_0 a0_1 a0_2 _ _ l0_3 3 t141 _ ?side1 ?side2 A2.out).mono ?_); (case side1 => exact rdb_ HR0_3); (case side2 => exact HC0_3.out); rintro e w5 ⟨rfl, hb⟩; refine ⟨_, rfl, ?_⟩; replace BK140 := bb_ BK140 hb; replace HB := bs_ hb; (try clear hb); (try clear hb2); (try clear hk); (try clear hi)))
  go_ret
  exact re_

end Go.Proofs.Ytcchmhmbjhgfdaa.G
