import Derived.Test.YtcchmhmbjhgfdaaY3
import Derived.Test.YtcchmhmbjhgfdaaY10
namespace Go.Proofs.Ytcchmhmbjhgfdaa.G
open Go.RowKit Go.Proofs.YtcchmhmbjhgfdaaW.PrintWords Go.Proofs.YtcchmhmbjhgfdaaW.PrintLast Go.Proofs.YtcchmhmbjhgfdaaW.PrintMore
attribute [local go_sem] max2_int min2_int max_two min_two max_three min_three max_four min_four Own.str_gtr Own.str_leq Own.str_geq Own.sto_fn   -- for this text's walks alone
open Own
set_option linter.unusedVariables false
set_option linter.unusedSimpArgs false
mutual
def spec_l1Ok.j0 : Nat → Int → Bool → Int → Int → ByteArray → List (S49) → Option (Bool)
  | 0, _, _, _, _, _, _ => none
  | k + 1, x1, x5, x102000, x102001, x102002, x102003 => if x102000 = 0 then (if x5 = true then (some (x102001 == 0)) else (some false)) else (if x102000 = 1 then (if x5 = true then ((spec_l1In.f x102001 0 1).bind fun t102 => (some t102)) else (some false)) else (if x102000 = 2 then (if x5 = true then ((spec_l1In.f x102001 (-1000000000) 1000000000).bind fun t103 => (some t103)) else (some false)) else (if x102000 = 3 then (if x102001 = 0 then (if (x102003.length : Int) = 0 then ((spec_l1Text.f k x102002).bind fun t104 => (some t104)) else (some false)) else (some false)) else (if x102000 = 5 then (spec_l1Ok.j1 k x1 x5 x102000 (x102000 == 5) x102000 x102001 x102002 x102003) else (spec_l1Ok.j1 k x1 x5 x102000 (x102000 == 6) x102000 x102001 x102002 x102003)))))
def spec_l1Ok.j1 : Nat → Int → Bool → Int → Bool → Int → Int → ByteArray → List (S49) → Option (Bool)
  | 0, _, _, _, _, _, _, _, _ => none
  | k + 1, x1, x5, x17, x58, x102000, x102001, x102002, x102003 => if x58 = true then (if x5 = true then ((spec_l1In.f x102001 0 1000000000).bind fun t105 => (some t105)) else (some false)) else (if x17 = 4 then (spec_l1Ok.l0 k x1 0 x102000 x102001 x102002 x102003) else (some false))
def spec_l1Ok.l0 : Nat → Int → Int → Int → Int → ByteArray → List (S49) → Option (Bool)
  | 0, _, _, _, _, _, _ => none
  | k + 1, x1, x6, x102000, x102001, x102002, x102003 => if x6 < (x102003.length : Int) then (if x1 < 2 then (some false) else (if 0 ≤ x6 then ((spec_l1Ok.f k ((rd_T49 x102003 x6).f0) ((rd_T49 x102003 x6).f1) ((rd_T49 x102003 x6).f2) ((rd_T49 x102003 x6).f3) (wrap64 (x1 - 1))).bind fun t107 => (if t107 = true then (spec_l1Ok.l0 k x1 (wrap64 (x6 + 1)) x102000 x102001 x102002 x102003) else (some false))) else (none))) else (if x102001 = 0 then (if x102002.toList = ([] : List UInt8) then (some (decide ((x102003.length : Int) ≤ 6))) else (some false)) else (some false))
def spec_l1Ok.f : Nat → Int → Int → ByteArray → List (S49) → Int → Option (Bool)
  | 0, _, _, _, _, _ => none
  | k + 1, a0_0, a0_1, a0_2, l0_3, a1 => if a0_2.toList = ([] : List UInt8) then (spec_l1Ok.j0 k a1 ((l0_3.length : Int) == 0) a0_0 a0_1 a0_2 l0_3) else (spec_l1Ok.j0 k a1 false a0_0 a0_1 a0_2 l0_3)
end
set_option maxHeartbeats 8000000 in
set_option maxRecDepth 100000 in
theorem spec_l1Ok.calls (k : Nat) : ∀ (a0_0 : Int) (a0_1 : Int) (a0_2 : ByteArray) (A0_3 : Option Addr) (c0_3 : Nat) (l0_3 : List (S49)) (a1 : Int) (r : Bool) (w : World) (hr0_3 : Kd.C k49 w A0_3 l0_3.length l0_3) (hc0_3 : l0_3.length ≤ c0_3) (h : spec_l1Ok.f k a0_0 a0_1 a0_2 l0_3 a1 = some r),
    Calls Try.prog 162 #[.agg #[.int .i64 a0_0, .int .i64 a0_1, .string a0_2, .slice A0_3 l0_3.length c0_3], .int .i64 a1] w fun e w' => e = .returned (.bool r) ∧ Below w.heap.size w w' := by
  induction k using Nat.strongRecOn with
  | _ k ih =>
  intro a0_0 a0_1 a0_2 A0_3 c0_3 l0_3 a1 r w hr0_3 hc0_3 h
  cases k with
  | zero => exact absurd h (by simp [spec_l1Ok.f])
  | succ k =>
  simp only [spec_l1Ok.f] at h; have hu49 := Try.underlying49; have HR0_3 := Aside0.mk hr0_3; have HC0_3 := Aside0.mk hc0_3; clear hr0_3 hc0_3; have HB := Aside0.mk (Below.refl w.heap.size w); have H : (if a0_2.toList = ([] : List UInt8) then (spec_l1Ok.j0 k a1 ((l0_3.length : Int) == 0) a0_0 a0_1 a0_2 l0_3) else (spec_l1Ok.j0 k a1 false a0_0 a0_1 a0_2 l0_3)) = some r := h; clear h; have HC3 := Aside0.mk H; clear H
  go_enter Try.func162, Try.ntmps162
  go_upto_region 1 with (first | ((with_reducible refine gate_dst (N := 2) rfl ?_); (try (refine gate_guard (by rfl) ?_; dsimp only)); refine box_event ?hg (N := 2) ?hd (cs := #[.int .i64 a0_0, .int .i64 a0_1, .string a0_2, .slice A0_3 l0_3.length c0_3]) (t := 49) ?hr ?_; (case hd => rfl); (case hg => rfl); (case hr => first | (go_simp; done) | (go_simp; rfl)); intro gb101 hg w4 hbox hb; have BK101 := Aside0.mk (hbox); have GW101 := gw_ hg; have GE101 := gw_ hg; replace HB := bs_ hb; clear hb hbox hg))
  (try simp only [Act.put, List.setIfInBounds_toArray, List.set_cons_zero, List.set_cons_succ])
  go_cut [5] (fun v5 wc => ∃ (kq : Nat) (x5_2 : Bool), v5 = .bool x5_2 ∧ Aside0 (spec_l1Ok.j0 kq a1 x5_2 a0_0 a0_1 a0_2 l0_3 = some r) ∧ Aside0 (kq ≤ k) ∧ Aside0 (wc.heap[gb101]? = some (.cells #[.int .i64 a0_0, .int .i64 a0_1, .string a0_2, (.slice A0_3 l0_3.length c0_3)] 49 (0, 0))) ∧ Aside0 (Below w.heap.size w wc))
  case first =>
    have H := HC3.out; clear HC3; by_cases c5 : a0_2.toList = ([] : List UInt8); rotate_left; rw [if_neg c5] at H; have c5b0 := bf_ c5; have c5b1 := nt_ c5; rotate_right; rw [if_pos c5] at H; have c5b0 := bt__ c5; have c5b1 := nf__ c5; clear c5
    all_goals
      (first | rw [c5b0] | (simp only [i64_w, i32_w]; rw [c5b0]) | skip)
      have H' := Aside0.mk H; clear H; obtain ⟨hcz7_0, hcz7_1, hcz7_2, hcz7_3, hfz7_0, hfz7_1, hfz7_2, hfz7_3⟩ := blk4 BK101
      go_wp2
      go_meet
    · case rel => exact ⟨_, (((l0_3.length : Int) == 0)), sm_, H', ⟨by first | omega | exact Nat.le_refl _⟩, ⟨by refine pe_ ?_; exact BK101.out⟩, ⟨bel_⟩⟩
    case rel => exact ⟨_, (false), sm_, H', ⟨by first | omega | exact Nat.le_refl _⟩, ⟨by refine pe_ ?_; exact BK101.out⟩, ⟨bel_⟩⟩
  case rest =>
    clear HC3
    try clear c1
    try clear p2
    try clear c5
    try clear c5b0
    try clear c5b1
    try clear hcz6_0 hcz6_1 hcz6_2 hcz6_3
    try clear hcz7_0 hcz7_1 hcz7_2 hcz7_3
    try clear hfz6_0 hfz6_1 hfz6_2 hfz6_3
    try clear hfz7_0 hfz7_1 hfz7_2 hfz7_3
    obtain ⟨kq, x5_2, rfl, HA, HJ2, BK101, HB⟩ := hcut
    cases kq with
    | zero => exact absurd HA.out (by simp [spec_l1Ok.j0])
    | succ kj2 =>
      have H := HA.out; clear HA; simp only [spec_l1Ok.j0] at H; by_cases c8 : a0_0 = 0; rotate_left; rw [if_neg c8] at H; have c8b0 := bf_ c8; have c8b1 := nt_ c8; by_cases c12 : a0_0 = 1; rotate_left; rw [if_neg c12] at H; have c12b0 := bf_ c12; have c12b1 := nt_ c12; by_cases c17 : a0_0 = 2; rotate_left; rw [if_neg c17] at H; have c17b0 := bf_ c17; have c17b1 := nt_ c17; by_cases c22 : a0_0 = 3; rotate_left; rw [if_neg c22] at H; have c22b0 := bf_ c22; have c22b1 := nt_ c22; have HC29 := Aside0.mk H; clear H; rotate_right; rw [if_pos c22] at H; have c22b0 := bt__ c22; have c22b1 := nf__ c22; clear c22; by_cases c23 : a0_1 = 0; rotate_left; rw [if_neg c23] at H; have c23b0 := bf_ c23; have c23b1 := nt_ c23; obtain rfl := Option.some.inj H; rotate_right; rw [if_pos c23] at H; have c23b0 := bt__ c23; have c23b1 := nf__ c23; clear c23; by_cases c24 : (l0_3.length : Int) = 0; rotate_left; rw [if_neg c24] at H; have c24b0 := bf_ c24; have c24b1 := nt_ c24
      have c24b2 : ¬ (l0_3 = []) := fun h_ => c24 (by rw [h_]; rfl)
      obtain rfl := Option.some.inj H; rotate_right; rw [if_pos c24] at H; have c24b0 := bt__ c24; have c24b1 := nf__ c24; clear c24; replace H := ob_ H; obtain ⟨t104, A25, H⟩ := H; obtain rfl := Option.some.inj H; rotate_right; rw [if_pos c17] at H; have c17b0 := bt__ c17; have c17b1 := nf__ c17; clear c17; by_cases c18 : x5_2 = true; rotate_left; replace c18 := Bool.eq_false_iff.mpr c18; subst c18; rw [fe_] at H; obtain rfl := Option.some.inj H; rotate_right; subst c18; rw [if_pos rfl] at H; replace H := ob_ H; obtain ⟨t103, A19, H⟩ := H; obtain rfl := Option.some.inj H; rotate_right; rw [if_pos c12] at H; have c12b0 := bt__ c12; have c12b1 := nf__ c12; clear c12; by_cases c13 : x5_2 = true; rotate_left; replace c13 := Bool.eq_false_iff.mpr c13; subst c13; rw [fe_] at H; obtain rfl := Option.some.inj H; rotate_right; subst c13; rw [if_pos rfl] at H; replace H := ob_ H; obtain ⟨t102, A14, H⟩ := H; obtain rfl := Option.some.inj H; rotate_right; rw [if_pos c8] at H; have c8b0 := bt__ c8; have c8b1 := nf__ c8; clear c8; by_cases c9 : x5_2 = true; rotate_left; replace c9 := Bool.eq_false_iff.mpr c9; subst c9; rw [fe_] at H; obtain rfl := Option.some.inj H; rotate_right; subst c9; rw [if_pos rfl] at H; obtain rfl := Option.some.inj H
      all_goals
        obtain ⟨hcz30_0, hcz30_1, hcz30_2, hcz30_3, hfz30_0, hfz30_1, hfz30_2, hfz30_3⟩ := blk4 BK101
      rotate_left 8
      · go_wp2
        go_ret; exact re_
      rotate_right 8; rotate_left 7
      · go_wp2
        go_ret; exact re_
      rotate_right 7; rotate_left 6
      · go_wp2_with (first | (go_at_call 185; (with_reducible refine (spec_l1Text.calls kj2 a0_2 t104 _ A25.out).mono ?_); rintro e w' ⟨rfl, ⟨nd, rfl⟩⟩))
        go_ret; exact re_
      rotate_right 6; rotate_left 5
      · go_wp2
        go_ret; exact re_
      rotate_right 5; rotate_left 4
      · go_wp2_with (first | (go_at_call 69; (with_reducible refine (spec_l1In.calls a0_1 (-1000000000) 1000000000 t103 _ A19.out).mono ?_); rintro e w' ⟨rfl, ⟨nd, rfl⟩⟩))
        go_ret; exact re_
      rotate_right 4; rotate_left 3
      · go_wp2
        go_ret; exact re_
      rotate_right 3; rotate_left 2
      · go_wp2_with (first | (go_at_call 69; (with_reducible refine (spec_l1In.calls a0_1 0 1 t102 _ A14.out).mono ?_); rintro e w' ⟨rfl, ⟨nd, rfl⟩⟩))
        go_ret; exact re_
      rotate_right 2; rotate_left
      · go_wp2
        go_ret; exact re_
      rotate_right
      · go_wp2
        go_ret; exact re_
      go_upto_if 58 with (fail)
      go_cut [58] (fun v58 wc => ∃ (kq : Nat) (x58_28 : Bool), v58 = .bool x58_28 ∧ Aside0 (spec_l1Ok.j1 kq a1 x5_2 a0_0 x58_28 a0_0 a0_1 a0_2 l0_3 = some r) ∧ Aside0 (kq ≤ kj2) ∧ Aside0 (wc.heap[gb101]? = some (.cells #[.int .i64 a0_0, .int .i64 a0_1, .string a0_2, (.slice A0_3 l0_3.length c0_3)] 49 (0, 0))) ∧ Aside0 (Below w.heap.size w wc))
      case first =>
        have H := HC29.out; clear HC29; by_cases c31 : a0_0 = 5; rotate_left; rw [if_neg c31] at H; have c31b0 := bf_ c31; have c31b1 := nt_ c31; rotate_right; rw [if_pos c31] at H; have c31b0 := bt__ c31; have c31b1 := nf__ c31; clear c31
        all_goals
          (first | rw [c31b0] | (simp only [i64_w, i32_w]; rw [c31b0]) | skip)
          have H' := Aside0.mk H; clear H
          go_wp2
          go_meet
        · case rel => exact ⟨_, ((a0_0 == 5)), sm_, H', ⟨by have := HJ2.out; first | omega | exact Nat.le_refl _⟩, ⟨by refine pe_ ?_; exact BK101.out⟩, ⟨bel_⟩⟩
        case rel => exact ⟨_, ((a0_0 == 6)), sm_, H', ⟨by have := HJ2.out; first | omega | exact Nat.le_refl _⟩, ⟨by refine pe_ ?_; exact BK101.out⟩, ⟨bel_⟩⟩
      case rest =>
        clear HC29
        try clear c1
        try clear c2
        try clear p2
        try clear c3
        try clear c5
        try clear c5b0
        try clear c5b1
        try clear c8
        try clear c8b0
        try clear c8b1
        try clear c9
        try clear c12
        try clear c12b0
        try clear c12b1
        try clear c13
        try clear c16
        try clear c17
        try clear c17b0
        try clear c17b1
        try clear c18
        try clear c22
        try clear c22b0
        try clear c22b1
        try clear c23
        try clear c23b0
        try clear c23b1
        try clear c24
        try clear c24b0
        try clear c24b1
        try clear c24b2
        try clear c31
        try clear c31b0
        try clear c31b1
        try clear hcz10_0 hcz10_1 hcz10_2 hcz10_3
        try clear hcz11_0 hcz11_1 hcz11_2 hcz11_3
        try clear hcz15_0 hcz15_1 hcz15_2 hcz15_3
        try clear hcz16_0 hcz16_1 hcz16_2 hcz16_3
        try clear hcz20_0 hcz20_1 hcz20_2 hcz20_3
        try clear hcz21_0 hcz21_1 hcz21_2 hcz21_3
        try clear hcz26_0 hcz26_1 hcz26_2 hcz26_3
        try clear hcz27_0 hcz27_1 hcz27_2 hcz27_3
        try clear hcz28_0 hcz28_1 hcz28_2 hcz28_3
        try clear hcz30_0 hcz30_1 hcz30_2 hcz30_3
        try clear hcz6_0 hcz6_1 hcz6_2 hcz6_3
        try clear hcz7_0 hcz7_1 hcz7_2 hcz7_3
        try clear hfz10_0 hfz10_1 hfz10_2 hfz10_3
        try clear hfz11_0 hfz11_1 hfz11_2 hfz11_3
        try clear hfz15_0 hfz15_1 hfz15_2 hfz15_3
        try clear hfz16_0 hfz16_1 hfz16_2 hfz16_3
        try clear hfz20_0 hfz20_1 hfz20_2 hfz20_3
        try clear hfz21_0 hfz21_1 hfz21_2 hfz21_3
        try clear hfz26_0 hfz26_1 hfz26_2 hfz26_3
        try clear hfz27_0 hfz27_1 hfz27_2 hfz27_3
        try clear hfz28_0 hfz28_1 hfz28_2 hfz28_3
        try clear hfz30_0 hfz30_1 hfz30_2 hfz30_3
        try clear hfz6_0 hfz6_1 hfz6_2 hfz6_3
        try clear hfz7_0 hfz7_1 hfz7_2 hfz7_3
        try clear p2
        obtain ⟨kq, x58_28, rfl, HA, HJ28, BK101, HB⟩ := hcut
        cases kq with
        | zero => exact absurd HA.out (by simp [spec_l1Ok.j1])
        | succ kj28 =>
          have H := HA.out; clear HA; simp only [spec_l1Ok.j1] at H; by_cases c32 : x58_28 = true; rotate_left; replace c32 := Bool.eq_false_iff.mpr c32; subst c32; rw [fe_] at H; by_cases c36 : a0_0 = 4; rotate_left; rw [if_neg c36] at H; have c36b0 := bf_ c36; have c36b1 := nt_ c36; obtain rfl := Option.some.inj H; rotate_right; rw [if_pos c36] at H; have c36b0 := bt__ c36; have c36b1 := nf__ c36; clear c36; have H' := Aside0.mk H; clear H; rotate_right; subst c32; rw [if_pos rfl] at H; by_cases c33 : x5_2 = true; rotate_left; replace c33 := Bool.eq_false_iff.mpr c33; subst c33; rw [fe_] at H; obtain rfl := Option.some.inj H; rotate_right; subst c33; rw [if_pos rfl] at H; replace H := ob_ H; obtain ⟨t105, A34, H⟩ := H; obtain rfl := Option.some.inj H
          · obtain ⟨hcz735_0, hcz735_1, hcz735_2, hcz735_3, hfz735_0, hfz735_1, hfz735_2, hfz735_3⟩ := blk4 BK101
            go_wp2_with (first | (go_at_call 69; (with_reducible refine (spec_l1In.calls a0_1 0 1000000000 t105 _ A34.out).mono ?_); rintro e w' ⟨rfl, ⟨nd, rfl⟩⟩))
            go_ret; exact re_
          all_goals
            go_wp2
          rotate_left 2
          · go_ret; exact re_
          · go_ret; exact re_
          go_loopg [6] kj28 (fun kq v6 w' => ∃ (x6_3 : Int), v6 = .int .i64 x6_3 ∧ Aside0 (spec_l1Ok.l0 kq a1 x6_3 a0_0 a0_1 a0_2 l0_3 = some r) ∧ Aside0 (kq ≤ kj28) ∧ Aside0 (w'.heap[gb101]? = some (.cells #[.int .i64 a0_0, .int .i64 a0_1, .string a0_2, (.slice A0_3 l0_3.length c0_3)] 49 (0, 0))) ∧ Aside0 (Below w.heap.size w w'))
          case atStart => exact ⟨(0), sm_, H', ⟨Nat.le_refl _⟩, ⟨by refine pe_ ?_; exact BK101.out⟩, ⟨bel_⟩⟩
          case round =>
            clear H'
            try clear c1
            try clear c2
            try clear p2
            try clear c3
            try clear c5
            try clear c5b0
            try clear c5b1
            try clear c8
            try clear c8b0
            try clear c8b1
            try clear c9
            try clear c12
            try clear c12b0
            try clear c12b1
            try clear c13
            try clear c16
            try clear c17
            try clear c17b0
            try clear c17b1
            try clear c18
            try clear c22
            try clear c22b0
            try clear c22b1
            try clear c23
            try clear c23b0
            try clear c23b1
            try clear c24
            try clear c24b0
            try clear c24b1
            try clear c24b2
            try clear c31
            try clear c31b0
            try clear c31b1
            try clear c32
            try clear c33
            try clear c36
            try clear c36b0
            try clear c36b1
            try clear hcz10_0 hcz10_1 hcz10_2 hcz10_3
            try clear hcz11_0 hcz11_1 hcz11_2 hcz11_3
            try clear hcz15_0 hcz15_1 hcz15_2 hcz15_3
            try clear hcz16_0 hcz16_1 hcz16_2 hcz16_3
            try clear hcz20_0 hcz20_1 hcz20_2 hcz20_3
            try clear hcz21_0 hcz21_1 hcz21_2 hcz21_3
            try clear hcz26_0 hcz26_1 hcz26_2 hcz26_3
            try clear hcz27_0 hcz27_1 hcz27_2 hcz27_3
            try clear hcz28_0 hcz28_1 hcz28_2 hcz28_3
            try clear hcz30_0 hcz30_1 hcz30_2 hcz30_3
            try clear hcz35_0 hcz35_1 hcz35_2 hcz35_3
            try clear hcz6_0 hcz6_1 hcz6_2 hcz6_3
            try clear hcz7_0 hcz7_1 hcz7_2 hcz7_3
            try clear hfz10_0 hfz10_1 hfz10_2 hfz10_3
            try clear hfz11_0 hfz11_1 hfz11_2 hfz11_3
            try clear hfz15_0 hfz15_1 hfz15_2 hfz15_3
            try clear hfz16_0 hfz16_1 hfz16_2 hfz16_3
            try clear hfz20_0 hfz20_1 hfz20_2 hfz20_3
            try clear hfz21_0 hfz21_1 hfz21_2 hfz21_3
            try clear hfz26_0 hfz26_1 hfz26_2 hfz26_3
            try clear hfz27_0 hfz27_1 hfz27_2 hfz27_3
            try clear hfz28_0 hfz28_1 hfz28_2 hfz28_3
            try clear hfz30_0 hfz30_1 hfz30_2 hfz30_3
            try clear hfz35_0 hfz35_1 hfz35_2 hfz35_3
            try clear hfz6_0 hfz6_1 hfz6_2 hfz6_3
            try clear hfz7_0 hfz7_1 hfz7_2 hfz7_3
            try clear p2
            obtain ⟨x6_3, rfl, HA, HK3, BK101, HB⟩ := hrel
            cases gk with
            | zero => exact absurd HA.out (by simp [spec_l1Ok.l0])
            | succ k3 =>
              have H := HA.out; clear HA; simp only [spec_l1Ok.l0] at H; by_cases c37 : x6_3 < (l0_3.length : Int); rotate_left; rw [if_neg c37] at H; have c37b0 := df_ c37; clear c37; by_cases c47 : a0_1 = 0; rotate_left; rw [if_neg c47] at H; have c47b0 := bf_ c47; have c47b1 := nt_ c47; obtain rfl := Option.some.inj H; rotate_right; rw [if_pos c47] at H; have c47b0 := bt__ c47; have c47b1 := nf__ c47; clear c47; by_cases c48 : a0_2.toList = ([] : List UInt8); rotate_left; rw [if_neg c48] at H; have c48b0 := bf_ c48; have c48b1 := nt_ c48; obtain rfl := Option.some.inj H; rotate_right; rw [if_pos c48] at H; have c48b0 := bt__ c48; have c48b1 := nf__ c48; clear c48; obtain rfl := Option.some.inj H; rotate_right; rw [if_pos c37] at H; have c37b0 := dt_ c37; clear c37; by_cases c38 : a1 < 2; rotate_left
              · rw [if_neg c38] at H; have c38b0 := df_ c38; clear c38; by_cases c40 : 0 ≤ x6_3; rotate_left
                · rw [if_neg c40] at H; exact absurd H (by simp)
                rotate_right; rw [if_pos c40] at H; have c40b0 := dt_ c40; clear c40; replace H := ob_ H; obtain ⟨t107, A41, H⟩ := H; by_cases c42 : t107 = true; rotate_left; replace c42 := Bool.eq_false_iff.mpr c42; subst c42; rw [fe_] at H; obtain rfl := Option.some.inj H; rotate_right; subst c42; rw [if_pos rfl] at H; have H' := Aside0.mk H; clear H
                all_goals
                  obtain ⟨hcz43_0, hcz43_1, hcz43_2, hcz43_3, hfz43_0, hfz43_1, hfz43_2, hfz43_3⟩ := blk4 BK101; have p106 : 0 ≤ (x6_3 : Int) := od_; have q106 : x6_3 < (l0_3.length : Int) := od_; obtain ⟨ad106, A106_3, c106_3, e106, hx106_0, hx106_1, hx106_2, hx106_3, hl106_3, hi106_3⟩ := at_T49 HR0_3.out x6_3 p106 q106
                  cases e106
                  replace hx106_0 := mv_ HB hx106_0; replace hx106_1 := mv_ HB hx106_1; replace hx106_2 := mv_ HB hx106_2; replace hx106_3 := mv_ HB hx106_3; have HR106_3 := Aside0.mk hi106_3; have HC106_3 := Aside0.mk hl106_3; clear hi106_3 hl106_3; replace p106 := eq_true p106; replace q106 := eq_true q106
                rotate_left
                · go_wp2_with (first | (go_at_call 162; (with_reducible refine (ih k3 (by have := HJ2.out; have := HJ28.out; have := HK3.out; omega) ((rd_T49 l0_3 x6_3).f0) ((rd_T49 l0_3 x6_3).f1) ((rd_T49 l0_3 x6_3).f2) _ _ ((rd_T49 l0_3 x6_3).f3) (wrap64 (a1 - 1)) false _ ?side1 ?side2 A41.out).mono ?_); (case side1 => exact rdb_ HR106_3); (case side2 => exact HC106_3.out); rintro e w46 ⟨rfl, hb⟩; replace BK101 := bb_ BK101 hb; replace HB := bs_ hb; (try clear hb); (try clear hb2); (try clear hk); (try clear hi)))
                  go_ret; exact re_
                go_wp2_with (first | (go_at_call 162; (with_reducible refine (ih k3 (by have := HJ2.out; have := HJ28.out; have := HK3.out; omega) ((rd_T49 l0_3 x6_3).f0) ((rd_T49 l0_3 x6_3).f1) ((rd_T49 l0_3 x6_3).f2) _ _ ((rd_T49 l0_3 x6_3).f3) (wrap64 (a1 - 1)) true _ ?side1 ?side2 A41.out).mono ?_); (case side1 => exact rdb_ HR106_3); (case side2 => exact HC106_3.out); rintro e w44 ⟨rfl, hb⟩; replace BK101 := bb_ BK101 hb; replace HB := bs_ hb; (try clear hb); (try clear hb2); (try clear hk); (try clear hi)))
                go_roundg k3
                case measure => have := HJ2.out; have := HJ28.out; have := HK3.out; omega
                case rel => exact ⟨(wrap64 (x6_3 + 1)), sm_, H', ⟨by have := HJ2.out; have := HJ28.out; have := HK3.out; omega⟩, ⟨by refine pe_ ?_; exact BK101.out⟩, ⟨bel_⟩⟩
              rotate_right; rw [if_pos c38] at H; have c38b0 := dt_ c38; clear c38; obtain rfl := Option.some.inj H
              all_goals
                obtain ⟨hcz51_0, hcz51_1, hcz51_2, hcz51_3, hfz51_0, hfz51_1, hfz51_2, hfz51_3⟩ := blk4 BK101
                go_wp2
                go_ret; exact re_
def spec_ValueOk.f (k : Nat) (a0_0 : Int) (a0_1 : Int) (a0_2 : ByteArray) (l0_3 : List (S49)) : Option (Bool) := (spec_l1Ok.f k a0_0 a0_1 a0_2 l0_3 3).bind fun t102 => (some t102)
set_option maxHeartbeats 8000000 in
set_option maxRecDepth 100000 in
theorem spec_ValueOk.calls (k : Nat) (a0_0 : Int) (a0_1 : Int) (a0_2 : ByteArray) (A0_3 : Option Addr) (c0_3 : Nat) (l0_3 : List (S49)) (r : Bool) (w : World) (hr0_3 : Kd.C k49 w A0_3 l0_3.length l0_3) (hc0_3 : l0_3.length ≤ c0_3) (h : spec_ValueOk.f k a0_0 a0_1 a0_2 l0_3 = some r) :
    Calls Try.prog 94 #[.agg #[.int .i64 a0_0, .int .i64 a0_1, .string a0_2, .slice A0_3 l0_3.length c0_3]] w fun e w' => e = .returned (.bool r) ∧ Below w.heap.size w w' := by
  have hu49 := Try.underlying49; have HR0_3 := Aside0.mk hr0_3; have HC0_3 := Aside0.mk hc0_3; clear hr0_3 hc0_3; have HB := Aside0.mk (Below.refl w.heap.size w); have H : ((spec_l1Ok.f k a0_0 a0_1 a0_2 l0_3 3).bind fun t102 => (some t102)) = some r := h; clear h; replace H := ob_ H; obtain ⟨t102, A2, H⟩ := H; obtain rfl := Option.some.inj H
  go_enter Try.func94, Try.ntmps94
  go_wp2_with (first | ((with_reducible refine gate_dst (N := 1) rfl ?_); refine bx_ 1 #[.int .i64 a0_0, .int .i64 a0_1, .string a0_2, .slice A0_3 l0_3.length c0_3] 49 ?_; intro gb101 hg w3 hbox hb; have BK101 := Aside0.mk (hbox); have GW101 := gw_ hg; have GE101 := gw_ hg; replace HB := bs_ hb; clear hb hbox hg; obtain ⟨hcz4_0, hcz4_1, hcz4_2, hcz4_3, hfz4_0, hfz4_1, hfz4_2, hfz4_3⟩ := blk4 BK101) | ((with_reducible refine gate_callee (f := 162) rfl ?_); refine goesL_ (some 4) rfl rfl Try.func162 (by kernel_rfl) rfl #[.agg #[.int .i64 a0_0, .int .i64 a0_1, .string a0_2, .slice A0_3 l0_3.length c0_3], .int .i64 3] rfl ar_ ?_; (with_reducible refine (spec_l1Ok.calls k a0_0 a0_1 a0_2 _ _ l0_3 3 t102 _ ?side1 ?side2 A2.out).mono ?_); (case side1 => exact rdb_ HR0_3); (case side2 => exact HC0_3.out); rintro e w5 ⟨rfl, hb⟩; refine ⟨_, rfl, ?_⟩; replace BK101 := bb_ BK101 hb; replace HB := bs_ hb; (try clear hb); (try clear hb2); (try clear hk); (try clear hi)))
  go_ret; exact re_
mutual
def spec_l2Plain.l0 : Nat → Int → Int → Int → ByteArray → List (S49) → Option (Bool)
  | 0, _, _, _, _, _ => none
  | k + 1, x3, x102000, x102001, x102002, x102003 => if x3 < (x102003.length : Int) then (if 0 ≤ x3 then ((spec_l2Plain.f k ((rd_T49 x102003 x3).f0) ((rd_T49 x102003 x3).f1) ((rd_T49 x102003 x3).f2) ((rd_T49 x102003 x3).f3)).bind fun t103 => (if t103 = true then (spec_l2Plain.l0 k (wrap64 (x3 + 1)) x102000 x102001 x102002 x102003) else (some false))) else (none)) else ((spec_l1In.f x102000 1 4).bind fun t104 => (some t104))
def spec_l2Plain.f : Nat → Int → Int → ByteArray → List (S49) → Option (Bool)
  | 0, _, _, _, _ => none
  | k + 1, a0_0, a0_1, a0_2, l0_3 => spec_l2Plain.l0 k 0 a0_0 a0_1 a0_2 l0_3
end
set_option maxHeartbeats 8000000 in
set_option maxRecDepth 100000 in
theorem spec_l2Plain.calls (k : Nat) : ∀ (a0_0 : Int) (a0_1 : Int) (a0_2 : ByteArray) (A0_3 : Option Addr) (c0_3 : Nat) (l0_3 : List (S49)) (r : Bool) (w : World) (hr0_3 : Kd.C k49 w A0_3 l0_3.length l0_3) (hc0_3 : l0_3.length ≤ c0_3) (h : spec_l2Plain.f k a0_0 a0_1 a0_2 l0_3 = some r),
    Calls Try.prog 149 #[.agg #[.int .i64 a0_0, .int .i64 a0_1, .string a0_2, .slice A0_3 l0_3.length c0_3]] w fun e w' => e = .returned (.bool r) ∧ Below w.heap.size w w' := by
  induction k using Nat.strongRecOn with
  | _ k ih =>
  intro a0_0 a0_1 a0_2 A0_3 c0_3 l0_3 r w hr0_3 hc0_3 h
  cases k with
  | zero => exact absurd h (by simp [spec_l2Plain.f])
  | succ k =>
  simp only [spec_l2Plain.f] at h; have hu49 := Try.underlying49; have HR0_3 := Aside0.mk hr0_3; have HC0_3 := Aside0.mk hc0_3; clear hr0_3 hc0_3; have HB := Aside0.mk (Below.refl w.heap.size w); have H : (spec_l2Plain.l0 k 0 a0_0 a0_1 a0_2 l0_3) = some r := h; clear h; have H' := Aside0.mk H; clear H
  go_enter Try.func149, Try.ntmps149
  go_wp2_with (first | ((with_reducible refine gate_dst (N := 1) rfl ?_); refine bx_ 1 #[.int .i64 a0_0, .int .i64 a0_1, .string a0_2, .slice A0_3 l0_3.length c0_3] 49 ?_; intro gb101 hg w2 hbox hb; have BK101 := Aside0.mk (hbox); have GW101 := gw_ hg; have GE101 := gw_ hg; replace HB := bs_ hb; clear hb hbox hg))
  go_loopg [3] k (fun kq v3 w' => ∃ (x3_1 : Int), v3 = .int .i64 x3_1 ∧ Aside0 (spec_l2Plain.l0 kq x3_1 a0_0 a0_1 a0_2 l0_3 = some r) ∧ Aside0 (kq ≤ k) ∧ Aside0 (w'.heap[gb101]? = some (.cells #[.int .i64 a0_0, .int .i64 a0_1, .string a0_2, (.slice A0_3 l0_3.length c0_3)] 49 (0, 0))) ∧ Aside0 (Below w.heap.size w w'))
  case atStart => exact ⟨(0), sm_, H', ⟨Nat.le_refl _⟩, ⟨by refine pe_ ?_; exact BK101.out⟩, ⟨bel_⟩⟩
  case round =>
    clear H'
    try clear c1
    try clear p2
    obtain ⟨x3_1, rfl, HA, HK1, BK101, HB⟩ := hrel
    cases gk with
    | zero => exact absurd HA.out (by simp [spec_l2Plain.l0])
    | succ k1 =>
      have H := HA.out; clear HA; simp only [spec_l2Plain.l0] at H; by_cases c3 : x3_1 < (l0_3.length : Int); rotate_left; rw [if_neg c3] at H; have c3b0 := df_ c3; clear c3; replace H := ob_ H; obtain ⟨t104, A11, H⟩ := H; obtain rfl := Option.some.inj H; rotate_right; rw [if_pos c3] at H; have c3b0 := dt_ c3; clear c3; by_cases c4 : 0 ≤ x3_1; rotate_left
      · rw [if_neg c4] at H; exact absurd H (by simp)
      rotate_right; rw [if_pos c4] at H; have c4b0 := dt_ c4; clear c4; replace H := ob_ H; obtain ⟨t103, A5, H⟩ := H; by_cases c6 : t103 = true; rotate_left; replace c6 := Bool.eq_false_iff.mpr c6; subst c6; rw [fe_] at H; obtain rfl := Option.some.inj H; rotate_right; subst c6; rw [if_pos rfl] at H; have H' := Aside0.mk H; clear H
      all_goals
        obtain ⟨hcz7_0, hcz7_1, hcz7_2, hcz7_3, hfz7_0, hfz7_1, hfz7_2, hfz7_3⟩ := blk4 BK101
      rotate_left 2
      · go_wp2_with (first | ((with_reducible refine gate_callee (f := 69) rfl ?_); refine goesL_ (some 20) rfl rfl Try.func69 (by kernel_rfl) rfl #[.int .i64 a0_0, .int .i64 1, .int .i64 4] rfl ar_ ?_; (with_reducible refine (spec_l1In.calls a0_0 1 4 t104 _ A11.out).mono ?_); rintro e w' ⟨rfl, ⟨nd, rfl⟩⟩; refine ⟨_, rfl, ?_⟩))
        go_ret; exact re_
      all_goals
        have p102 : 0 ≤ (x3_1 : Int) := od_; have q102 : x3_1 < (l0_3.length : Int) := od_; obtain ⟨ad102, A102_3, c102_3, e102, hx102_0, hx102_1, hx102_2, hx102_3, hl102_3, hi102_3⟩ := at_T49 HR0_3.out x3_1 p102 q102
        cases e102
        replace hx102_0 := mv_ HB hx102_0; replace hx102_1 := mv_ HB hx102_1; replace hx102_2 := mv_ HB hx102_2; replace hx102_3 := mv_ HB hx102_3; have HR102_3 := Aside0.mk hi102_3; have HC102_3 := Aside0.mk hl102_3; clear hi102_3 hl102_3; replace p102 := eq_true p102; replace q102 := eq_true q102
      rotate_left
      · go_wp2_with (first | ((with_reducible refine gate_callee (f := 149) rfl ?_); refine goesL_ (some 16) rfl rfl Try.func149 (by kernel_rfl) rfl #[.agg #[.int .i64 ((rd_T49 l0_3 x3_1).f0), .int .i64 ((rd_T49 l0_3 x3_1).f1), .string ((rd_T49 l0_3 x3_1).f2), .slice A102_3 ((rd_T49 l0_3 x3_1).f3).length c102_3]] rfl ar_ ?_; (with_reducible refine (ih k1 (by have := HK1.out; omega) ((rd_T49 l0_3 x3_1).f0) ((rd_T49 l0_3 x3_1).f1) ((rd_T49 l0_3 x3_1).f2) _ _ ((rd_T49 l0_3 x3_1).f3) false _ ?side1 ?side2 A5.out).mono ?_); (case side1 => exact rdb_ HR102_3); (case side2 => exact HC102_3.out); rintro e w10 ⟨rfl, hb⟩; refine ⟨_, rfl, ?_⟩; replace BK101 := bb_ BK101 hb; replace HB := bs_ hb; (try clear hb); (try clear hb2); (try clear hk); (try clear hi)))
        go_ret; exact re_
      go_wp2_with (first | ((with_reducible refine gate_callee (f := 149) rfl ?_); refine goesL_ (some 16) rfl rfl Try.func149 (by kernel_rfl) rfl #[.agg #[.int .i64 ((rd_T49 l0_3 x3_1).f0), .int .i64 ((rd_T49 l0_3 x3_1).f1), .string ((rd_T49 l0_3 x3_1).f2), .slice A102_3 ((rd_T49 l0_3 x3_1).f3).length c102_3]] rfl ar_ ?_; (with_reducible refine (ih k1 (by have := HK1.out; omega) ((rd_T49 l0_3 x3_1).f0) ((rd_T49 l0_3 x3_1).f1) ((rd_T49 l0_3 x3_1).f2) _ _ ((rd_T49 l0_3 x3_1).f3) true _ ?side1 ?side2 A5.out).mono ?_); (case side1 => exact rdb_ HR102_3); (case side2 => exact HC102_3.out); rintro e w8 ⟨rfl, hb⟩; refine ⟨_, rfl, ?_⟩; replace BK101 := bb_ BK101 hb; replace HB := bs_ hb; (try clear hb); (try clear hb2); (try clear hk); (try clear hi)))
      go_roundg k1
      case measure => have := HK1.out; omega
      case rel => exact ⟨(wrap64 (x3_1 + 1)), sm_, H', ⟨by have := HK1.out; omega⟩, ⟨by refine pe_ ?_; exact BK101.out⟩, ⟨bel_⟩⟩
end Go.Proofs.Ytcchmhmbjhgfdaa.G
