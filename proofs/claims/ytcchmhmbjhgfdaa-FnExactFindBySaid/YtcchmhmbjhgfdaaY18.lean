import Derived.Test.YtcchmhmbjhgfdaaY3
import Derived.Test.YtcchmhmbjhgfdaaY17
namespace Go.Proofs.Ytcchmhmbjhgfdaa.G
open Go.RowKit Go.Proofs.YtcchmhmbjhgfdaaW.PrintWords Go.Proofs.YtcchmhmbjhgfdaaW.PrintLast Go.Proofs.YtcchmhmbjhgfdaaW.PrintMore
attribute [local go_sem] max2_int min2_int max_two min_two max_three min_three max_four min_four Own.str_gtr Own.str_leq Own.str_geq Own.sto_fn   -- for this text's walks alone
open Own
set_option linter.unusedVariables false
set_option linter.unusedSimpArgs false
mutual
def impl_valueFits.j0 : Nat → Int → Int → Bool → Int → Int → ByteArray → List (S49) → Option (Bool)
  | 0, _, _, _, _, _, _, _ => none
  | k + 1, x1, x10, x85, x102000, x102001, x102002, x102003 => if x85 = true then (if x102001 ≥ 0 then (if x102001 ≤ 1000000000 then (if x102002.toList = ([] : List UInt8) then (some ((x102003.length : Int) == 0)) else (some false)) else (some false)) else (some false)) else (if x10 = 4 then (if x102001 = 0 then (if x102002.toList = ([] : List UInt8) then (impl_valueFits.j1 k x1 (decide ((x102003.length : Int) > 6)) x102000 x102001 x102002 x102003) else (impl_valueFits.j1 k x1 true x102000 x102001 x102002 x102003)) else (impl_valueFits.j1 k x1 true x102000 x102001 x102002 x102003)) else (some false))
def impl_valueFits.j1 : Nat → Int → Bool → Int → Int → ByteArray → List (S49) → Option (Bool)
  | 0, _, _, _, _, _, _ => none
  | k + 1, x1, x122, x102000, x102001, x102002, x102003 => if x122 = true then (some false) else (impl_valueFits.l0 k x1 x102003 (x102003.length : Int) 0)
def impl_valueFits.l0 : Nat → Int → List (S49) → Int → Int → Option (Bool)
  | 0, _, _, _, _ => none
  | k + 1, x1, x124, x125, x126 => if x126 < x125 then (if 0 ≤ x126 then (if x126 < (x124.length : Int) then ((impl_valueFits.f k ((rd_T49 x124 x126).f0) ((rd_T49 x124 x126).f1) ((rd_T49 x124 x126).f2) ((rd_T49 x124 x126).f3) (wrap64 (x1 - 1))).bind fun t105 => (if t105 = true then (impl_valueFits.l0 k x1 x124 x125 (wrap64 (x126 + 1))) else (some false))) else (none)) else (none)) else (some true)
def impl_valueFits.f : Nat → Int → Int → ByteArray → List (S49) → Int → Option (Bool)
  | 0, _, _, _, _, _ => none
  | k + 1, a0_0, a0_1, a0_2, l0_3, a1 => if a1 < 1 then (some false) else (if a0_0 = 0 then (if a0_1 = 0 then (if a0_2.toList = ([] : List UInt8) then (some ((l0_3.length : Int) == 0)) else (some false)) else (some false)) else (if a0_0 = 1 then (if a0_1 = 0 then (if a0_2.toList = ([] : List UInt8) then (some ((l0_3.length : Int) == 0)) else (some false)) else (if a0_1 = 1 then (if a0_2.toList = ([] : List UInt8) then (some ((l0_3.length : Int) == 0)) else (some false)) else (some false))) else (if a0_0 = 2 then (if a0_1 ≥ (-1000000000) then (if a0_1 ≤ 1000000000 then (if a0_2.toList = ([] : List UInt8) then (some ((l0_3.length : Int) == 0)) else (some false)) else (some false)) else (some false)) else (if a0_0 = 3 then (if a0_1 = 0 then ((impl_textFits.f k a0_2).bind fun t102 => (if t102 = true then (some ((l0_3.length : Int) == 0)) else (some false))) else (some false)) else (if a0_0 = 5 then (impl_valueFits.j0 k a1 a0_0 (a0_0 == 5) a0_0 a0_1 a0_2 l0_3) else (impl_valueFits.j0 k a1 a0_0 (a0_0 == 6) a0_0 a0_1 a0_2 l0_3))))))
end
set_option maxHeartbeats 8000000 in
set_option maxRecDepth 100000 in
theorem impl_valueFits.calls (k : Nat) : ∀ (a0_0 : Int) (a0_1 : Int) (a0_2 : ByteArray) (A0_3 : Option Addr) (c0_3 : Nat) (l0_3 : List (S49)) (a1 : Int) (r : Bool) (w : World) (hr0_3 : Kd.C k49 w A0_3 l0_3.length l0_3) (hc0_3 : l0_3.length ≤ c0_3) (h : impl_valueFits.f k a0_0 a0_1 a0_2 l0_3 a1 = some r),
    Calls Try.prog 165 #[.agg #[.int .i64 a0_0, .int .i64 a0_1, .string a0_2, .slice A0_3 l0_3.length c0_3], .int .i64 a1] w fun e w' => e = .returned (.bool r) ∧ Below w.heap.size w w' := by
  induction k using Nat.strongRecOn with
  | _ k ih =>
  intro a0_0 a0_1 a0_2 A0_3 c0_3 l0_3 a1 r w hr0_3 hc0_3 h
  cases k with
  | zero => exact absurd h (by simp [impl_valueFits.f])
  | succ k =>
  simp only [impl_valueFits.f] at h; have hu49 := Try.underlying49; have HR0_3 := Aside0.mk hr0_3; have HC0_3 := Aside0.mk hc0_3; clear hr0_3 hc0_3; have HB := Aside0.mk (Below.refl w.heap.size w); have H : (if a1 < 1 then (some false) else (if a0_0 = 0 then (if a0_1 = 0 then (if a0_2.toList = ([] : List UInt8) then (some ((l0_3.length : Int) == 0)) else (some false)) else (some false)) else (if a0_0 = 1 then (if a0_1 = 0 then (if a0_2.toList = ([] : List UInt8) then (some ((l0_3.length : Int) == 0)) else (some false)) else (if a0_1 = 1 then (if a0_2.toList = ([] : List UInt8) then (some ((l0_3.length : Int) == 0)) else (some false)) else (some false))) else (if a0_0 = 2 then (if a0_1 ≥ (-1000000000) then (if a0_1 ≤ 1000000000 then (if a0_2.toList = ([] : List UInt8) then (some ((l0_3.length : Int) == 0)) else (some false)) else (some false)) else (some false)) else (if a0_0 = 3 then (if a0_1 = 0 then ((impl_textFits.f k a0_2).bind fun t102 => (if t102 = true then (some ((l0_3.length : Int) == 0)) else (some false))) else (some false)) else (if a0_0 = 5 then (impl_valueFits.j0 k a1 a0_0 (a0_0 == 5) a0_0 a0_1 a0_2 l0_3) else (impl_valueFits.j0 k a1 a0_0 (a0_0 == 6) a0_0 a0_1 a0_2 l0_3))))))) = some r := h; clear h; by_cases c3 : a1 < 1; rotate_left; rw [if_neg c3] at H; have c3b0 := df_ c3; clear c3; by_cases c5 : a0_0 = 0; rotate_left; rw [if_neg c5] at H; have c5b0 := bf_ c5; have c5b1 := nt_ c5; by_cases c14 : a0_0 = 1; rotate_left
  · rw [if_neg c14] at H; have c14b0 := bf_ c14; have c14b1 := nt_ c14; by_cases c29 : a0_0 = 2
    · rw [if_pos c29] at H; have c29b0 := bt__ c29; have c29b1 := nf__ c29; clear c29; by_cases c30 : a0_1 ≥ (-1000000000); rotate_left; rw [if_neg c30] at H; have c30b0 : decide ((-1000000000) ≤ a0_1) = false := decide_eq_false c30; clear c30; obtain rfl := Option.some.inj H; rotate_right; rw [if_pos c30] at H; have c30b0 : decide ((-1000000000) ≤ a0_1) = true := decide_eq_true c30; clear c30; by_cases c31 : a0_1 ≤ 1000000000; rotate_left; rw [if_neg c31] at H; have c31b0 := df_ c31; clear c31; obtain rfl := Option.some.inj H; rotate_right; rw [if_pos c31] at H; have c31b0 := dt_ c31; clear c31; by_cases c32 : a0_2.toList = ([] : List UInt8); rotate_left; rw [if_neg c32] at H; have c32b0 := bf_ c32; have c32b1 := nt_ c32; obtain rfl := Option.some.inj H; rotate_right; rw [if_pos c32] at H; have c32b0 := bt__ c32; have c32b1 := nf__ c32; clear c32; obtain rfl := Option.some.inj H
      all_goals
        go_enter Try.func165, Try.ntmps165
        go_wp2_with (first | ((with_reducible refine gate_dst (N := 2) rfl ?_); (try (refine gate_guard (by rfl) ?_; dsimp only)); refine box_event ?hg (N := 2) ?hd (cs := #[.int .i64 a0_0, .int .i64 a0_1, .string a0_2, .slice A0_3 l0_3.length c0_3]) (t := 49) ?hr ?_; (case hd => rfl); (case hg => rfl); (case hr => first | (go_simp; done) | (go_simp; rfl)); intro gb101 hg w39 hbox hb; have BK101 := Aside0.mk (hbox); have GW101 := gw_ hg; have GE101 := gw_ hg; replace HB := bs_ hb; clear hb hbox hg; obtain ⟨hcz40_0, hcz40_1, hcz40_2, hcz40_3, hfz40_0, hfz40_1, hfz40_2, hfz40_3⟩ := blk4 BK101))
        go_ret; exact re_
    rw [if_neg c29] at H; have c29b0 := bf_ c29; have c29b1 := nt_ c29; by_cases c41 : a0_0 = 3; rotate_left; rw [if_neg c41] at H; have c41b0 := bf_ c41; have c41b1 := nt_ c41; have HC51 := Aside0.mk H; clear H; rotate_right; rw [if_pos c41] at H; have c41b0 := bt__ c41; have c41b1 := nf__ c41; clear c41; by_cases c42 : a0_1 = 0; rotate_left; rw [if_neg c42] at H; have c42b0 := bf_ c42; have c42b1 := nt_ c42; obtain rfl := Option.some.inj H; rotate_right; rw [if_pos c42] at H; have c42b0 := bt__ c42; have c42b1 := nf__ c42; clear c42; replace H := ob_ H; obtain ⟨t102, A43, H⟩ := H; by_cases c44 : t102 = true; rotate_left; replace c44 := Bool.eq_false_iff.mpr c44; subst c44; rw [fe_] at H; obtain rfl := Option.some.inj H; rotate_right; subst c44; rw [if_pos rfl] at H; obtain rfl := Option.some.inj H
    all_goals
      go_enter Try.func165, Try.ntmps165
    rotate_left 2
    · go_wp2_with (first | ((with_reducible refine gate_dst (N := 2) rfl ?_); (try (refine gate_guard (by rfl) ?_; dsimp only)); refine box_event ?hg (N := 2) ?hd (cs := #[.int .i64 a0_0, .int .i64 a0_1, .string a0_2, .slice A0_3 l0_3.length c0_3]) (t := 49) ?hr ?_; (case hd => rfl); (case hg => rfl); (case hr => first | (go_simp; done) | (go_simp; rfl)); intro gb7101 hg w49 hbox hb; have BK7101 := Aside0.mk (hbox); have GW7101 := gw_ hg; have GE7101 := gw_ hg; replace HB := bs_ hb; clear hb hbox hg; obtain ⟨hcz750_0, hcz750_1, hcz750_2, hcz750_3, hfz750_0, hfz750_1, hfz750_2, hfz750_3⟩ := blk4 BK7101))
      go_ret; exact re_
    rotate_right 2; rotate_left
    · go_wp2_with (first | ((with_reducible refine gate_dst (N := 2) rfl ?_); (try (refine gate_guard (by rfl) ?_; dsimp only)); refine box_event ?hg (N := 2) ?hd (cs := #[.int .i64 a0_0, .int .i64 a0_1, .string a0_2, .slice A0_3 l0_3.length c0_3]) (t := 49) ?hr ?_; (case hd => rfl); (case hg => rfl); (case hr => first | (go_simp; done) | (go_simp; rfl)); intro gb7101 hg w47 hbox hb; have BK7101 := Aside0.mk (hbox); have GW7101 := gw_ hg; have GE7101 := gw_ hg; replace HB := bs_ hb; clear hb hbox hg; obtain ⟨hcz748_0, hcz748_1, hcz748_2, hcz748_3, hfz748_0, hfz748_1, hfz748_2, hfz748_3⟩ := blk4 BK7101) | (go_at_call 186; (with_reducible refine (impl_textFits.calls k a0_2 false _ A43.out).mono ?_); rintro e w' ⟨rfl, ⟨nd, rfl⟩⟩))
      go_ret; exact re_
    rotate_right
    · go_wp2_with (first | ((with_reducible refine gate_dst (N := 2) rfl ?_); (try (refine gate_guard (by rfl) ?_; dsimp only)); refine box_event ?hg (N := 2) ?hd (cs := #[.int .i64 a0_0, .int .i64 a0_1, .string a0_2, .slice A0_3 l0_3.length c0_3]) (t := 49) ?hr ?_; (case hd => rfl); (case hg => rfl); (case hr => first | (go_simp; done) | (go_simp; rfl)); intro gb7101 hg w45 hbox hb; have BK7101 := Aside0.mk (hbox); have GW7101 := gw_ hg; have GE7101 := gw_ hg; replace HB := bs_ hb; clear hb hbox hg; obtain ⟨hcz746_0, hcz746_1, hcz746_2, hcz746_3, hfz746_0, hfz746_1, hfz746_2, hfz746_3⟩ := blk4 BK7101) | (go_at_call 186; (with_reducible refine (impl_textFits.calls k a0_2 true _ A43.out).mono ?_); rintro e w' ⟨rfl, ⟨nd, rfl⟩⟩))
      go_ret; exact re_
    go_upto_if 85 with (first | ((with_reducible refine gate_dst (N := 2) rfl ?_); (try (refine gate_guard (by rfl) ?_; dsimp only)); refine box_event ?hg (N := 2) ?hd (cs := #[.int .i64 a0_0, .int .i64 a0_1, .string a0_2, .slice A0_3 l0_3.length c0_3]) (t := 49) ?hr ?_; (case hd => rfl); (case hg => rfl); (case hr => first | (go_simp; done) | (go_simp; rfl)); intro gb101 hg w52 hbox hb; have BK101 := Aside0.mk (hbox); have GW101 := gw_ hg; have GE101 := gw_ hg; replace HB := bs_ hb; clear hb hbox hg; obtain ⟨hcz53_0, hcz53_1, hcz53_2, hcz53_3, hfz53_0, hfz53_1, hfz53_2, hfz53_3⟩ := blk4 BK101))
    (try simp only [Act.put, List.setIfInBounds_toArray, List.set_cons_zero, List.set_cons_succ])
    go_cut [85] (fun v85 wc => ∃ (kq : Nat) (x85_50 : Bool), v85 = .bool x85_50 ∧ Aside0 (impl_valueFits.j0 kq a1 a0_0 x85_50 a0_0 a0_1 a0_2 l0_3 = some r) ∧ Aside0 (kq ≤ k) ∧ Aside0 (wc.heap[gb101]? = some (.cells #[.int .i64 a0_0, .int .i64 a0_1, .string a0_2, (.slice A0_3 l0_3.length c0_3)] 49 (0, 0))) ∧ Aside0 (Below w.heap.size w wc))
    case first =>
      have H := HC51.out; clear HC51; by_cases c54 : a0_0 = 5; rotate_left; rw [if_neg c54] at H; have c54b0 := bf_ c54; have c54b1 := nt_ c54; rotate_right; rw [if_pos c54] at H; have c54b0 := bt__ c54; have c54b1 := nf__ c54; clear c54
      all_goals
        (first | rw [c54b0] | (simp only [i64_w, i32_w]; rw [c54b0]) | skip)
        have H' := Aside0.mk H; clear H
        go_wp2
        go_meet
      · case rel => exact ⟨_, ((a0_0 == 5)), sm_, H', ⟨by first | omega | exact Nat.le_refl _⟩, ⟨by refine pe_ ?_; exact BK101.out⟩, ⟨bel_⟩⟩
      case rel => exact ⟨_, ((a0_0 == 6)), sm_, H', ⟨by first | omega | exact Nat.le_refl _⟩, ⟨by refine pe_ ?_; exact BK101.out⟩, ⟨bel_⟩⟩
    case rest =>
      clear HC51
      try clear c1
      try clear c2
      try clear p2
      try clear c3
      try clear c3b0
      try clear c4
      try clear c5
      try clear c5b0
      try clear c5b1
      try clear c6
      try clear c6b0
      try clear c6b1
      try clear c7
      try clear c7b0
      try clear c7b1
      try clear c14
      try clear c14b0
      try clear c14b1
      try clear c15
      try clear c15b0
      try clear c15b1
      try clear c16
      try clear c16b0
      try clear c16b1
      try clear c21
      try clear c21b0
      try clear c21b1
      try clear c22
      try clear c22b0
      try clear c22b1
      try clear c29
      try clear c29b0
      try clear c29b1
      try clear c30
      try clear c30b0
      try clear c31
      try clear c31b0
      try clear c32
      try clear c32b0
      try clear c32b1
      try clear c41
      try clear c41b0
      try clear c41b1
      try clear c42
      try clear c42b0
      try clear c42b1
      try clear c44
      try clear c54
      try clear c54b0
      try clear c54b1
      try clear hcz11_0 hcz11_1 hcz11_2 hcz11_3
      try clear hcz13_0 hcz13_1 hcz13_2 hcz13_3
      try clear hcz18_0 hcz18_1 hcz18_2 hcz18_3
      try clear hcz20_0 hcz20_1 hcz20_2 hcz20_3
      try clear hcz24_0 hcz24_1 hcz24_2 hcz24_3
      try clear hcz26_0 hcz26_1 hcz26_2 hcz26_3
      try clear hcz28_0 hcz28_1 hcz28_2 hcz28_3
      try clear hcz34_0 hcz34_1 hcz34_2 hcz34_3
      try clear hcz36_0 hcz36_1 hcz36_2 hcz36_3
      try clear hcz38_0 hcz38_1 hcz38_2 hcz38_3
      try clear hcz40_0 hcz40_1 hcz40_2 hcz40_3
      try clear hcz46_0 hcz46_1 hcz46_2 hcz46_3
      try clear hcz48_0 hcz48_1 hcz48_2 hcz48_3
      try clear hcz50_0 hcz50_1 hcz50_2 hcz50_3
      try clear hcz53_0 hcz53_1 hcz53_2 hcz53_3
      try clear hcz9_0 hcz9_1 hcz9_2 hcz9_3
      try clear hfz11_0 hfz11_1 hfz11_2 hfz11_3
      try clear hfz13_0 hfz13_1 hfz13_2 hfz13_3
      try clear hfz18_0 hfz18_1 hfz18_2 hfz18_3
      try clear hfz20_0 hfz20_1 hfz20_2 hfz20_3
      try clear hfz24_0 hfz24_1 hfz24_2 hfz24_3
      try clear hfz26_0 hfz26_1 hfz26_2 hfz26_3
      try clear hfz28_0 hfz28_1 hfz28_2 hfz28_3
      try clear hfz34_0 hfz34_1 hfz34_2 hfz34_3
      try clear hfz36_0 hfz36_1 hfz36_2 hfz36_3
      try clear hfz38_0 hfz38_1 hfz38_2 hfz38_3
      try clear hfz40_0 hfz40_1 hfz40_2 hfz40_3
      try clear hfz46_0 hfz46_1 hfz46_2 hfz46_3
      try clear hfz48_0 hfz48_1 hfz48_2 hfz48_3
      try clear hfz50_0 hfz50_1 hfz50_2 hfz50_3
      try clear hfz53_0 hfz53_1 hfz53_2 hfz53_3
      try clear hfz9_0 hfz9_1 hfz9_2 hfz9_3
      obtain ⟨kq, x85_50, rfl, HA, HJ50, BK101, HB⟩ := hcut
      cases kq with
      | zero => exact absurd HA.out (by simp [impl_valueFits.j0])
      | succ kj50 =>
        have H := HA.out; clear HA; simp only [impl_valueFits.j0] at H; by_cases c55 : x85_50 = true
        · subst c55; rw [if_pos rfl] at H; by_cases c56 : a0_1 ≥ 0; rotate_left; rw [if_neg c56] at H; have c56b0 : decide (0 ≤ a0_1) = false := decide_eq_false c56; clear c56; obtain rfl := Option.some.inj H; rotate_right; rw [if_pos c56] at H; have c56b0 : decide (0 ≤ a0_1) = true := decide_eq_true c56; clear c56; by_cases c57 : a0_1 ≤ 1000000000; rotate_left; rw [if_neg c57] at H; have c57b0 := df_ c57; clear c57; obtain rfl := Option.some.inj H; rotate_right; rw [if_pos c57] at H; have c57b0 := dt_ c57; clear c57; by_cases c58 : a0_2.toList = ([] : List UInt8); rotate_left; rw [if_neg c58] at H; have c58b0 := bf_ c58; have c58b1 := nt_ c58; obtain rfl := Option.some.inj H; rotate_right; rw [if_pos c58] at H; have c58b0 := bt__ c58; have c58b1 := nf__ c58; clear c58; obtain rfl := Option.some.inj H
          all_goals
            obtain ⟨hcz62_0, hcz62_1, hcz62_2, hcz62_3, hfz62_0, hfz62_1, hfz62_2, hfz62_3⟩ := blk4 BK101
            go_wp2
            go_ret; exact re_
        replace c55 := Bool.eq_false_iff.mpr c55; subst c55; rw [fe_] at H; by_cases c63 : a0_0 = 4; rotate_left; rw [if_neg c63] at H; have c63b0 := bf_ c63; have c63b1 := nt_ c63; obtain rfl := Option.some.inj H; rotate_right; rw [if_pos c63] at H; have c63b0 := bt__ c63; have c63b1 := nf__ c63; clear c63; have HC64 := Aside0.mk H; clear H; rotate_left
        · go_wp2
          go_ret; exact re_
        go_upto_region 16 with (fail)
        go_cut [122] (fun v122 wc => ∃ (kq : Nat) (x122_63 : Bool), v122 = .bool x122_63 ∧ Aside0 (impl_valueFits.j1 kq a1 x122_63 a0_0 a0_1 a0_2 l0_3 = some r) ∧ Aside0 (kq ≤ kj50) ∧ Aside0 (wc.heap[gb101]? = some (.cells #[.int .i64 a0_0, .int .i64 a0_1, .string a0_2, (.slice A0_3 l0_3.length c0_3)] 49 (0, 0))) ∧ Aside0 (Below w.heap.size w wc))
        case first =>
          have H := HC64.out; clear HC64; by_cases c65 : a0_1 = 0; rotate_left
          · rw [if_neg c65] at H; have c65b0 := bf_ c65; have c65b1 := nt_ c65
            (first | rw [c65b0] | (simp only [i64_w, i32_w]; rw [c65b0]) | skip)
            have H' := Aside0.mk H; clear H; obtain ⟨hcz69_0, hcz69_1, hcz69_2, hcz69_3, hfz69_0, hfz69_1, hfz69_2, hfz69_3⟩ := blk4 BK101
            go_wp2
            go_meet
            case rel => exact ⟨_, (true), sm_, H', ⟨by have := HJ50.out; first | omega | exact Nat.le_refl _⟩, ⟨by refine pe_ ?_; exact BK101.out⟩, ⟨bel_⟩⟩
          rw [if_pos c65] at H; have c65b0 := bt__ c65; have c65b1 := nf__ c65; clear c65
          (first | rw [c65b0] | (simp only [i64_w, i32_w]; rw [c65b0]) | skip)
          by_cases c66 : a0_2.toList = ([] : List UInt8); rotate_left; rw [if_neg c66] at H; have c66b0 := bf_ c66; have c66b1 := nt_ c66; have H' := Aside0.mk H; clear H; rotate_right; rw [if_pos c66] at H; have c66b0 := bt__ c66; have c66b1 := nf__ c66; clear c66; have H' := Aside0.mk H; clear H
          all_goals
            obtain ⟨hcz68_0, hcz68_1, hcz68_2, hcz68_3, hfz68_0, hfz68_1, hfz68_2, hfz68_3⟩ := blk4 BK101
            go_wp2
            go_meet
          · case rel => exact ⟨_, (decide ((l0_3.length : Int) > 6)), sm_, H', ⟨by have := HJ50.out; first | omega | exact Nat.le_refl _⟩, ⟨by refine pe_ ?_; exact BK101.out⟩, ⟨bel_⟩⟩
          case rel => exact ⟨_, (true), sm_, H', ⟨by have := HJ50.out; first | omega | exact Nat.le_refl _⟩, ⟨by refine pe_ ?_; exact BK101.out⟩, ⟨bel_⟩⟩
        case rest =>
          clear HC64
          try clear c1
          try clear c2
          try clear p2
          try clear c3
          try clear c3b0
          try clear c4
          try clear c5
          try clear c5b0
          try clear c5b1
          try clear c6
          try clear c6b0
          try clear c6b1
          try clear c7
          try clear c7b0
          try clear c7b1
          try clear c14
          try clear c14b0
          try clear c14b1
          try clear c15
          try clear c15b0
          try clear c15b1
          try clear c16
          try clear c16b0
          try clear c16b1
          try clear c21
          try clear c21b0
          try clear c21b1
          try clear c22
          try clear c22b0
          try clear c22b1
          try clear c29
          try clear c29b0
          try clear c29b1
          try clear c30
          try clear c30b0
          try clear c31
          try clear c31b0
          try clear c32
          try clear c32b0
          try clear c32b1
          try clear c41
          try clear c41b0
          try clear c41b1
          try clear c42
          try clear c42b0
          try clear c42b1
          try clear c44
          try clear c54
          try clear c54b0
          try clear c54b1
          try clear c55
          try clear c56
          try clear c56b0
          try clear c57
          try clear c57b0
          try clear c58
          try clear c58b0
          try clear c58b1
          try clear c63
          try clear c63b0
          try clear c63b1
          try clear c65
          try clear c65b0
          try clear c65b1
          try clear c66
          try clear c66b0
          try clear c66b1
          try clear hcz11_0 hcz11_1 hcz11_2 hcz11_3
          try clear hcz13_0 hcz13_1 hcz13_2 hcz13_3
          try clear hcz18_0 hcz18_1 hcz18_2 hcz18_3
          try clear hcz20_0 hcz20_1 hcz20_2 hcz20_3
          try clear hcz24_0 hcz24_1 hcz24_2 hcz24_3
          try clear hcz26_0 hcz26_1 hcz26_2 hcz26_3
          try clear hcz28_0 hcz28_1 hcz28_2 hcz28_3
          try clear hcz34_0 hcz34_1 hcz34_2 hcz34_3
          try clear hcz36_0 hcz36_1 hcz36_2 hcz36_3
          try clear hcz38_0 hcz38_1 hcz38_2 hcz38_3
          try clear hcz40_0 hcz40_1 hcz40_2 hcz40_3
          try clear hcz46_0 hcz46_1 hcz46_2 hcz46_3
          try clear hcz48_0 hcz48_1 hcz48_2 hcz48_3
          try clear hcz50_0 hcz50_1 hcz50_2 hcz50_3
          try clear hcz53_0 hcz53_1 hcz53_2 hcz53_3
          try clear hcz59_0 hcz59_1 hcz59_2 hcz59_3
          try clear hcz60_0 hcz60_1 hcz60_2 hcz60_3
          try clear hcz61_0 hcz61_1 hcz61_2 hcz61_3
          try clear hcz62_0 hcz62_1 hcz62_2 hcz62_3
          try clear hcz67_0 hcz67_1 hcz67_2 hcz67_3
          try clear hcz68_0 hcz68_1 hcz68_2 hcz68_3
          try clear hcz69_0 hcz69_1 hcz69_2 hcz69_3
          try clear hcz9_0 hcz9_1 hcz9_2 hcz9_3
          try clear hfz11_0 hfz11_1 hfz11_2 hfz11_3
          try clear hfz13_0 hfz13_1 hfz13_2 hfz13_3
          try clear hfz18_0 hfz18_1 hfz18_2 hfz18_3
          try clear hfz20_0 hfz20_1 hfz20_2 hfz20_3
          try clear hfz24_0 hfz24_1 hfz24_2 hfz24_3
          try clear hfz26_0 hfz26_1 hfz26_2 hfz26_3
          try clear hfz28_0 hfz28_1 hfz28_2 hfz28_3
          try clear hfz34_0 hfz34_1 hfz34_2 hfz34_3
          try clear hfz36_0 hfz36_1 hfz36_2 hfz36_3
          try clear hfz38_0 hfz38_1 hfz38_2 hfz38_3
          try clear hfz40_0 hfz40_1 hfz40_2 hfz40_3
          try clear hfz46_0 hfz46_1 hfz46_2 hfz46_3
          try clear hfz48_0 hfz48_1 hfz48_2 hfz48_3
          try clear hfz50_0 hfz50_1 hfz50_2 hfz50_3
          try clear hfz53_0 hfz53_1 hfz53_2 hfz53_3
          try clear hfz59_0 hfz59_1 hfz59_2 hfz59_3
          try clear hfz60_0 hfz60_1 hfz60_2 hfz60_3
          try clear hfz61_0 hfz61_1 hfz61_2 hfz61_3
          try clear hfz62_0 hfz62_1 hfz62_2 hfz62_3
          try clear hfz67_0 hfz67_1 hfz67_2 hfz67_3
          try clear hfz68_0 hfz68_1 hfz68_2 hfz68_3
          try clear hfz69_0 hfz69_1 hfz69_2 hfz69_3
          try clear hfz9_0 hfz9_1 hfz9_2 hfz9_3
          try clear p2
          obtain ⟨kq, x122_63, rfl, HA, HJ63, BK101, HB⟩ := hcut
          cases kq with
          | zero => exact absurd HA.out (by simp [impl_valueFits.j1])
          | succ kj63 =>
            have H := HA.out; clear HA; simp only [impl_valueFits.j1] at H; by_cases c70 : x122_63 = true; rotate_left; replace c70 := Bool.eq_false_iff.mpr c70; subst c70; rw [fe_] at H; have H' := Aside0.mk H; clear H; rotate_right; subst c70; rw [if_pos rfl] at H; obtain rfl := Option.some.inj H
            · go_wp2
              go_ret; exact re_
            obtain ⟨hcz71_0, hcz71_1, hcz71_2, hcz71_3, hfz71_0, hfz71_1, hfz71_2, hfz71_3⟩ := blk4 BK101
            go_wp2
            go_loopg [126] kj63 (fun kq v126 w' => ∃ (x126_3 : Int), v126 = .int .i64 x126_3 ∧ Aside0 (impl_valueFits.l0 kq a1 l0_3 (l0_3.length : Int) x126_3 = some r) ∧ Aside0 (kq ≤ kj63) ∧ Aside0 (w'.heap[gb101]? = some (.cells #[.int .i64 a0_0, .int .i64 a0_1, .string a0_2, (.slice A0_3 l0_3.length c0_3)] 49 (0, 0))) ∧ Aside0 (Below w.heap.size w w'))
            case atStart => exact ⟨(0), sm_, H', ⟨Nat.le_refl _⟩, ⟨by refine pe_ ?_; exact BK101.out⟩, ⟨bel_⟩⟩
            case round =>
              clear H'
              try clear c1
              try clear c2
              try clear p2
              try clear c3
              try clear c3b0
              try clear c4
              try clear c5
              try clear c5b0
              try clear c5b1
              try clear c6
              try clear c6b0
              try clear c6b1
              try clear c7
              try clear c7b0
              try clear c7b1
              try clear c14
              try clear c14b0
              try clear c14b1
              try clear c15
              try clear c15b0
              try clear c15b1
              try clear c16
              try clear c16b0
              try clear c16b1
              try clear c21
              try clear c21b0
              try clear c21b1
              try clear c22
              try clear c22b0
              try clear c22b1
              try clear c29
              try clear c29b0
              try clear c29b1
              try clear c30
              try clear c30b0
              try clear c31
              try clear c31b0
              try clear c32
              try clear c32b0
              try clear c32b1
              try clear c41
              try clear c41b0
              try clear c41b1
              try clear c42
              try clear c42b0
              try clear c42b1
              try clear c44
              try clear c54
              try clear c54b0
              try clear c54b1
              try clear c55
              try clear c56
              try clear c56b0
              try clear c57
              try clear c57b0
              try clear c58
              try clear c58b0
              try clear c58b1
              try clear c63
              try clear c63b0
              try clear c63b1
              try clear c65
              try clear c65b0
              try clear c65b1
              try clear c66
              try clear c66b0
              try clear c66b1
              try clear c70
              try clear hcz11_0 hcz11_1 hcz11_2 hcz11_3
              try clear hcz13_0 hcz13_1 hcz13_2 hcz13_3
              try clear hcz18_0 hcz18_1 hcz18_2 hcz18_3
              try clear hcz20_0 hcz20_1 hcz20_2 hcz20_3
              try clear hcz24_0 hcz24_1 hcz24_2 hcz24_3
              try clear hcz26_0 hcz26_1 hcz26_2 hcz26_3
              try clear hcz28_0 hcz28_1 hcz28_2 hcz28_3
              try clear hcz34_0 hcz34_1 hcz34_2 hcz34_3
              try clear hcz36_0 hcz36_1 hcz36_2 hcz36_3
              try clear hcz38_0 hcz38_1 hcz38_2 hcz38_3
              try clear hcz40_0 hcz40_1 hcz40_2 hcz40_3
              try clear hcz46_0 hcz46_1 hcz46_2 hcz46_3
              try clear hcz48_0 hcz48_1 hcz48_2 hcz48_3
              try clear hcz50_0 hcz50_1 hcz50_2 hcz50_3
              try clear hcz53_0 hcz53_1 hcz53_2 hcz53_3
              try clear hcz59_0 hcz59_1 hcz59_2 hcz59_3
              try clear hcz60_0 hcz60_1 hcz60_2 hcz60_3
              try clear hcz61_0 hcz61_1 hcz61_2 hcz61_3
              try clear hcz62_0 hcz62_1 hcz62_2 hcz62_3
              try clear hcz67_0 hcz67_1 hcz67_2 hcz67_3
              try clear hcz68_0 hcz68_1 hcz68_2 hcz68_3
              try clear hcz69_0 hcz69_1 hcz69_2 hcz69_3
              try clear hcz71_0 hcz71_1 hcz71_2 hcz71_3
              try clear hcz9_0 hcz9_1 hcz9_2 hcz9_3
              try clear hfz11_0 hfz11_1 hfz11_2 hfz11_3
              try clear hfz13_0 hfz13_1 hfz13_2 hfz13_3
              try clear hfz18_0 hfz18_1 hfz18_2 hfz18_3
              try clear hfz20_0 hfz20_1 hfz20_2 hfz20_3
              try clear hfz24_0 hfz24_1 hfz24_2 hfz24_3
              try clear hfz26_0 hfz26_1 hfz26_2 hfz26_3
              try clear hfz28_0 hfz28_1 hfz28_2 hfz28_3
              try clear hfz34_0 hfz34_1 hfz34_2 hfz34_3
              try clear hfz36_0 hfz36_1 hfz36_2 hfz36_3
              try clear hfz38_0 hfz38_1 hfz38_2 hfz38_3
              try clear hfz40_0 hfz40_1 hfz40_2 hfz40_3
              try clear hfz46_0 hfz46_1 hfz46_2 hfz46_3
              try clear hfz48_0 hfz48_1 hfz48_2 hfz48_3
              try clear hfz50_0 hfz50_1 hfz50_2 hfz50_3
              try clear hfz53_0 hfz53_1 hfz53_2 hfz53_3
              try clear hfz59_0 hfz59_1 hfz59_2 hfz59_3
              try clear hfz60_0 hfz60_1 hfz60_2 hfz60_3
              try clear hfz61_0 hfz61_1 hfz61_2 hfz61_3
              try clear hfz62_0 hfz62_1 hfz62_2 hfz62_3
              try clear hfz67_0 hfz67_1 hfz67_2 hfz67_3
              try clear hfz68_0 hfz68_1 hfz68_2 hfz68_3
              try clear hfz69_0 hfz69_1 hfz69_2 hfz69_3
              try clear hfz71_0 hfz71_1 hfz71_2 hfz71_3
              try clear hfz9_0 hfz9_1 hfz9_2 hfz9_3
              try clear p2
              obtain ⟨x126_3, rfl, HA, HK3, BK101, HB⟩ := hrel
              cases gk with
              | zero => exact absurd HA.out (by simp [impl_valueFits.l0])
              | succ k3 =>
                have H := HA.out; clear HA; simp only [impl_valueFits.l0] at H; by_cases c72 : x126_3 < (l0_3.length : Int); rotate_left; rw [if_neg c72] at H; have c72b0 := df_ c72; clear c72; obtain rfl := Option.some.inj H; rotate_right; rw [if_pos c72] at H; have c72b0 := dt_ c72; clear c72; by_cases c73 : 0 ≤ x126_3; rotate_left
                · rw [if_neg c73] at H; exact absurd H (by simp)
                rotate_right; rw [if_pos c73] at H; have c73b0 := dt_ c73; clear c73; by_cases c74 : x126_3 < (l0_3.length : Int); rotate_left
                · rw [if_neg c74] at H; exact absurd H (by simp)
                rotate_right; rw [if_pos c74] at H; have c74b0 := dt_ c74; clear c74; replace H := ob_ H; obtain ⟨t105, A75, H⟩ := H; by_cases c76 : t105 = true; rotate_left; replace c76 := Bool.eq_false_iff.mpr c76; subst c76; rw [fe_] at H; obtain rfl := Option.some.inj H; rotate_right; subst c76; rw [if_pos rfl] at H; have H' := Aside0.mk H; clear H; rotate_left 2
                · go_wp2
                  go_ret; exact re_
                all_goals
                  have p103 : 0 ≤ (x126_3 : Int) := od_; have q103 : x126_3 < (l0_3.length : Int) := od_; obtain ⟨ad103, A103_3, c103_3, e103, hx103_0, hx103_1, hx103_2, hx103_3, hl103_3, hi103_3⟩ := at_T49 HR0_3.out x126_3 p103 q103
                  cases e103
                  replace hx103_0 := mv_ HB hx103_0; replace hx103_1 := mv_ HB hx103_1; replace hx103_2 := mv_ HB hx103_2; replace hx103_3 := mv_ HB hx103_3; have HR103_3 := Aside0.mk hi103_3; have HC103_3 := Aside0.mk hl103_3; clear hi103_3 hl103_3; replace p103 := eq_true p103; replace q103 := eq_true q103
                rotate_left
                · go_wp2_with (first | ((with_reducible refine gate_dst (N := 6) rfl ?_); (try (refine gate_guard (by rfl) ?_; dsimp only)); refine box_event ?hg (N := 6) ?hd (cs := #[.int .i64 0, .int .i64 0, .string (⟨#[]⟩ : ByteArray), .slice none 0 0]) (t := 49) ?hr ?_; (case hd => rfl); (case hg => rfl); (case hr => first | (go_simp; done) | (go_simp; rfl)); intro gb7104 hg w81 hbox hb; have BK7104 := Aside0.mk (hbox); have GW7104 := gw_ hg; have GE7104 := gw_ hg; have NB7101_104 := nlt_ hg BK101; have NB7104_101 := ngt_ hg BK101; replace BK101 := bb_ BK101 hb; replace HB := bs_ hb; clear hb hbox hg; have hnb82 := NB7104_101.out; have hnc82 := NB7101_104.out; obtain ⟨hcz83_0, hcz83_1, hcz83_2, hcz83_3, hfz83_0, hfz83_1, hfz83_2, hfz83_3⟩ := blk4 BK7104) | ((with_reducible refine gate_callee (f := 165) rfl ?_); refine goesL_ (some 133) rfl rfl Try.func165 (by kernel_rfl) rfl #[.agg #[.int .i64 ((rd_T49 l0_3 x126_3).f0), .int .i64 ((rd_T49 l0_3 x126_3).f1), .string ((rd_T49 l0_3 x126_3).f2), .slice A103_3 ((rd_T49 l0_3 x126_3).f3).length c103_3], .int .i64 (wrap64 (a1 - 1))] rfl ar_ ?_; (with_reducible refine (ih k3 (by have := HJ50.out; have := HJ63.out; have := HK3.out; omega) ((rd_T49 l0_3 x126_3).f0) ((rd_T49 l0_3 x126_3).f1) ((rd_T49 l0_3 x126_3).f2) _ _ ((rd_T49 l0_3 x126_3).f3) (wrap64 (a1 - 1)) false _ ?side1 ?side2 A75.out).mono ?_); (case side1 => exact Kd.C_below HR103_3.out (bel_)); (case side2 => exact HC103_3.out); rintro e w84 ⟨rfl, hb⟩; refine ⟨_, rfl, ?_⟩; replace BK101 := Aside0.mk (blk_below (g := gb101) (o := .cells #[.int .i64 a0_0, .int .i64 a0_1, .string a0_2, .slice (some ad103) l0_3.length c0_3] 49 (0, 0)) (by refine pe_ ?_; refine blk_far ?_ NB7101_104.out _; refine pe_ ?_; refine blk_far ?_ NB7101_104.out _; refine pe_ ?_; refine blk_far ?_ NB7101_104.out _; refine pe_ ?_; refine blk_far ?_ NB7101_104.out _; refine pe_ ?_; exact BK101.out) hb); replace BK7104 := Aside0.mk (blk_below (g := gb7104) (o := .cells #[.int .i64 ((rd_T49 l0_3 x126_3).f0), .int .i64 ((rd_T49 l0_3 x126_3).f1), .string ((rd_T49 l0_3 x126_3).f2), .slice A103_3 ((rd_T49 l0_3 x126_3).f3).length c103_3] 49 (0, 0)) (by refine pe_ ?_; refine blk_put (cs := #[.int .i64 ((rd_T49 l0_3 x126_3).f0), .int .i64 ((rd_T49 l0_3 x126_3).f1), .string ((rd_T49 l0_3 x126_3).f2), .slice none 0 0]) ?_ 3 _ rfl; refine pe_ ?_; refine blk_put (cs := #[.int .i64 ((rd_T49 l0_3 x126_3).f0), .int .i64 ((rd_T49 l0_3 x126_3).f1), .string (⟨#[]⟩ : ByteArray), .slice none 0 0]) ?_ 2 _ rfl; refine pe_ ?_; refine blk_put (cs := #[.int .i64 ((rd_T49 l0_3 x126_3).f0), .int .i64 0, .string (⟨#[]⟩ : ByteArray), .slice none 0 0]) ?_ 1 _ rfl; refine pe_ ?_; refine blk_put (cs := #[.int .i64 0, .int .i64 0, .string (⟨#[]⟩ : ByteArray), .slice none 0 0]) ?_ 0 _ rfl; refine pe_ ?_; exact BK7104.out) hb); replace HB := bs_ hb; (try clear hb); (try clear hb2); (try clear hk); (try clear hi)))
                  go_ret; exact re_
                go_wp2_with (first | ((with_reducible refine gate_dst (N := 6) rfl ?_); (try (refine gate_guard (by rfl) ?_; dsimp only)); refine box_event ?hg (N := 6) ?hd (cs := #[.int .i64 0, .int .i64 0, .string (⟨#[]⟩ : ByteArray), .slice none 0 0]) (t := 49) ?hr ?_; (case hd => rfl); (case hg => rfl); (case hr => first | (go_simp; done) | (go_simp; rfl)); intro gb104 hg w77 hbox hb; have BK104 := Aside0.mk (hbox); have GW104 := gw_ hg; have GE104 := gw_ hg; have NB101_104 := nlt_ hg BK101; have NB104_101 := ngt_ hg BK101; replace BK101 := bb_ BK101 hb; replace HB := bs_ hb; clear hb hbox hg; have hnb78 := NB104_101.out; have hnc78 := NB101_104.out; obtain ⟨hcz79_0, hcz79_1, hcz79_2, hcz79_3, hfz79_0, hfz79_1, hfz79_2, hfz79_3⟩ := blk4 BK104) | ((with_reducible refine gate_callee (f := 165) rfl ?_); refine goesL_ (some 133) rfl rfl Try.func165 (by kernel_rfl) rfl #[.agg #[.int .i64 ((rd_T49 l0_3 x126_3).f0), .int .i64 ((rd_T49 l0_3 x126_3).f1), .string ((rd_T49 l0_3 x126_3).f2), .slice A103_3 ((rd_T49 l0_3 x126_3).f3).length c103_3], .int .i64 (wrap64 (a1 - 1))] rfl ar_ ?_; (with_reducible refine (ih k3 (by have := HJ50.out; have := HJ63.out; have := HK3.out; omega) ((rd_T49 l0_3 x126_3).f0) ((rd_T49 l0_3 x126_3).f1) ((rd_T49 l0_3 x126_3).f2) _ _ ((rd_T49 l0_3 x126_3).f3) (wrap64 (a1 - 1)) true _ ?side1 ?side2 A75.out).mono ?_); (case side1 => exact Kd.C_below HR103_3.out (bel_)); (case side2 => exact HC103_3.out); rintro e w80 ⟨rfl, hb⟩; refine ⟨_, rfl, ?_⟩; replace BK101 := Aside0.mk (blk_below (g := gb101) (o := .cells #[.int .i64 a0_0, .int .i64 a0_1, .string a0_2, .slice (some ad103) l0_3.length c0_3] 49 (0, 0)) (by refine pe_ ?_; refine blk_far ?_ NB101_104.out _; refine pe_ ?_; refine blk_far ?_ NB101_104.out _; refine pe_ ?_; refine blk_far ?_ NB101_104.out _; refine pe_ ?_; refine blk_far ?_ NB101_104.out _; refine pe_ ?_; exact BK101.out) hb); replace BK104 := Aside0.mk (blk_below (g := gb104) (o := .cells #[.int .i64 ((rd_T49 l0_3 x126_3).f0), .int .i64 ((rd_T49 l0_3 x126_3).f1), .string ((rd_T49 l0_3 x126_3).f2), .slice A103_3 ((rd_T49 l0_3 x126_3).f3).length c103_3] 49 (0, 0)) (by refine pe_ ?_; refine blk_put (cs := #[.int .i64 ((rd_T49 l0_3 x126_3).f0), .int .i64 ((rd_T49 l0_3 x126_3).f1), .string ((rd_T49 l0_3 x126_3).f2), .slice none 0 0]) ?_ 3 _ rfl; refine pe_ ?_; refine blk_put (cs := #[.int .i64 ((rd_T49 l0_3 x126_3).f0), .int .i64 ((rd_T49 l0_3 x126_3).f1), .string (⟨#[]⟩ : ByteArray), .slice none 0 0]) ?_ 2 _ rfl; refine pe_ ?_; refine blk_put (cs := #[.int .i64 ((rd_T49 l0_3 x126_3).f0), .int .i64 0, .string (⟨#[]⟩ : ByteArray), .slice none 0 0]) ?_ 1 _ rfl; refine pe_ ?_; refine blk_put (cs := #[.int .i64 0, .int .i64 0, .string (⟨#[]⟩ : ByteArray), .slice none 0 0]) ?_ 0 _ rfl; refine pe_ ?_; exact BK104.out) hb); replace HB := bs_ hb; (try clear hb); (try clear hb2); (try clear hk); (try clear hi)))
                go_roundg k3
                case measure => have := HJ50.out; have := HJ63.out; have := HK3.out; omega
                case rel => exact ⟨(wrap64 (x126_3 + 1)), sm_, H', ⟨by have := HJ50.out; have := HJ63.out; have := HK3.out; omega⟩, ⟨by refine pe_ ?_; exact BK101.out⟩, ⟨bel_⟩⟩
  rotate_right; rw [if_pos c14] at H; have c14b0 := bt__ c14; have c14b1 := nf__ c14; clear c14; by_cases c15 : a0_1 = 0; rotate_left; rw [if_neg c15] at H; have c15b0 := bf_ c15; have c15b1 := nt_ c15; by_cases c21 : a0_1 = 1; rotate_left; rw [if_neg c21] at H; have c21b0 := bf_ c21; have c21b1 := nt_ c21; obtain rfl := Option.some.inj H; rotate_right; rw [if_pos c21] at H; have c21b0 := bt__ c21; have c21b1 := nf__ c21; clear c21; by_cases c22 : a0_2.toList = ([] : List UInt8); rotate_left; rw [if_neg c22] at H; have c22b0 := bf_ c22; have c22b1 := nt_ c22; obtain rfl := Option.some.inj H; rotate_right; rw [if_pos c22] at H; have c22b0 := bt__ c22; have c22b1 := nf__ c22; clear c22; obtain rfl := Option.some.inj H; rotate_right; rw [if_pos c15] at H; have c15b0 := bt__ c15; have c15b1 := nf__ c15; clear c15; by_cases c16 : a0_2.toList = ([] : List UInt8); rotate_left; rw [if_neg c16] at H; have c16b0 := bf_ c16; have c16b1 := nt_ c16; obtain rfl := Option.some.inj H; rotate_right; rw [if_pos c16] at H; have c16b0 := bt__ c16; have c16b1 := nf__ c16; clear c16; obtain rfl := Option.some.inj H; rotate_right; rw [if_pos c5] at H; have c5b0 := bt__ c5; have c5b1 := nf__ c5; clear c5; by_cases c6 : a0_1 = 0; rotate_left; rw [if_neg c6] at H; have c6b0 := bf_ c6; have c6b1 := nt_ c6; obtain rfl := Option.some.inj H; rotate_right; rw [if_pos c6] at H; have c6b0 := bt__ c6; have c6b1 := nf__ c6; clear c6; by_cases c7 : a0_2.toList = ([] : List UInt8); rotate_left
  rw [if_neg c7] at H; have c7b0 := bf_ c7; have c7b1 := nt_ c7; obtain rfl := Option.some.inj H; rotate_right; rw [if_pos c7] at H; have c7b0 := bt__ c7; have c7b1 := nf__ c7; clear c7; obtain rfl := Option.some.inj H; rotate_right; rw [if_pos c3] at H; have c3b0 := dt_ c3; clear c3; obtain rfl := Option.some.inj H
  all_goals
    go_enter Try.func165, Try.ntmps165
  · go_wp2_with (first | ((with_reducible refine gate_dst (N := 2) rfl ?_); (try (refine gate_guard (by rfl) ?_; dsimp only)); refine box_event ?hg (N := 2) ?hd (cs := #[.int .i64 a0_0, .int .i64 a0_1, .string a0_2, .slice A0_3 l0_3.length c0_3]) (t := 49) ?hr ?_; (case hd => rfl); (case hg => rfl); (case hr => first | (go_simp; done) | (go_simp; rfl)); intro gb7101 hg w4 hbox hb; have BK7101 := Aside0.mk (hbox); have GW7101 := gw_ hg; have GE7101 := gw_ hg; replace HB := bs_ hb; clear hb hbox hg))
    go_ret; exact re_
  all_goals
    go_wp2_with (first | ((with_reducible refine gate_dst (N := 2) rfl ?_); (try (refine gate_guard (by rfl) ?_; dsimp only)); refine box_event ?hg (N := 2) ?hd (cs := #[.int .i64 a0_0, .int .i64 a0_1, .string a0_2, .slice A0_3 l0_3.length c0_3]) (t := 49) ?hr ?_; (case hd => rfl); (case hg => rfl); (case hr => first | (go_simp; done) | (go_simp; rfl)); intro gb101 hg w27 hbox hb; have BK101 := Aside0.mk (hbox); have GW101 := gw_ hg; have GE101 := gw_ hg; replace HB := bs_ hb; clear hb hbox hg; obtain ⟨hcz28_0, hcz28_1, hcz28_2, hcz28_3, hfz28_0, hfz28_1, hfz28_2, hfz28_3⟩ := blk4 BK101))
    go_ret; exact re_
def impl_ValueOk.f (k : Nat) (a0_0 : Int) (a0_1 : Int) (a0_2 : ByteArray) (l0_3 : List (S49)) : Option (Bool) := (impl_valueFits.f k a0_0 a0_1 a0_2 l0_3 3).bind fun t102 => (some t102)
set_option maxHeartbeats 8000000 in
set_option maxRecDepth 100000 in
theorem impl_ValueOk.calls (k : Nat) (a0_0 : Int) (a0_1 : Int) (a0_2 : ByteArray) (A0_3 : Option Addr) (c0_3 : Nat) (l0_3 : List (S49)) (r : Bool) (w : World) (hr0_3 : Kd.C k49 w A0_3 l0_3.length l0_3) (hc0_3 : l0_3.length ≤ c0_3) (h : impl_ValueOk.f k a0_0 a0_1 a0_2 l0_3 = some r) :
    Calls Try.prog 97 #[.agg #[.int .i64 a0_0, .int .i64 a0_1, .string a0_2, .slice A0_3 l0_3.length c0_3]] w fun e w' => e = .returned (.bool r) ∧ Below w.heap.size w w' := by
  have hu49 := Try.underlying49; have HR0_3 := Aside0.mk hr0_3; have HC0_3 := Aside0.mk hc0_3; clear hr0_3 hc0_3; have HB := Aside0.mk (Below.refl w.heap.size w); have H : ((impl_valueFits.f k a0_0 a0_1 a0_2 l0_3 3).bind fun t102 => (some t102)) = some r := h; clear h; replace H := ob_ H; obtain ⟨t102, A2, H⟩ := H; obtain rfl := Option.some.inj H
  go_enter Try.func97, Try.ntmps97
  go_wp2_with (first | ((with_reducible refine gate_dst (N := 1) rfl ?_); refine bx_ 1 #[.int .i64 a0_0, .int .i64 a0_1, .string a0_2, .slice A0_3 l0_3.length c0_3] 49 ?_; intro gb101 hg w3 hbox hb; have BK101 := Aside0.mk (hbox); have GW101 := gw_ hg; have GE101 := gw_ hg; replace HB := bs_ hb; clear hb hbox hg; obtain ⟨hcz4_0, hcz4_1, hcz4_2, hcz4_3, hfz4_0, hfz4_1, hfz4_2, hfz4_3⟩ := blk4 BK101) | ((with_reducible refine gate_callee (f := 165) rfl ?_); refine goesL_ (some 4) rfl rfl Try.func165 (by kernel_rfl) rfl #[.agg #[.int .i64 a0_0, .int .i64 a0_1, .string a0_2, .slice A0_3 l0_3.length c0_3], .int .i64 3] rfl ar_ ?_; (with_reducible refine (impl_valueFits.calls k a0_0 a0_1 a0_2 _ _ l0_3 3 t102 _ ?side1 ?side2 A2.out).mono ?_); (case side1 => exact rdb_ HR0_3); (case side2 => exact HC0_3.out); rintro e w5 ⟨rfl, hb⟩; refine ⟨_, rfl, ?_⟩; replace BK101 := bb_ BK101 hb; replace HB := bs_ hb; (try clear hb); (try clear hb2); (try clear hk); (try clear hi)))
  go_ret; exact re_
mutual
def impl_valueHas.l0 : Nat → Int → List (S49) → Int → Int → Option (Bool)
  | 0, _, _, _, _ => none
  | k + 1, x1, x12, x13, x14 => if x14 < x13 then (if 0 ≤ x14 then (if x14 < (x12.length : Int) then ((impl_valueHas.f k ((rd_T49 x12 x14).f0) ((rd_T49 x12 x14).f1) ((rd_T49 x12 x14).f2) ((rd_T49 x12 x14).f3) x1).bind fun t104 => (if t104 = true then (some true) else (impl_valueHas.l0 k x1 x12 x13 (wrap64 (x14 + 1))))) else (none)) else (none)) else (some false)
def impl_valueHas.f : Nat → Int → Int → ByteArray → List (S49) → Int → Option (Bool)
  | 0, _, _, _, _, _ => none
  | k + 1, a0_0, a0_1, a0_2, l0_3, a1 => if a0_0 = a1 then (some true) else (impl_valueHas.l0 k a1 l0_3 (l0_3.length : Int) 0)
end
set_option maxHeartbeats 8000000 in
set_option maxRecDepth 100000 in
theorem impl_valueHas.calls (k : Nat) : ∀ (a0_0 : Int) (a0_1 : Int) (a0_2 : ByteArray) (A0_3 : Option Addr) (c0_3 : Nat) (l0_3 : List (S49)) (a1 : Int) (r : Bool) (w : World) (hr0_3 : Kd.C k49 w A0_3 l0_3.length l0_3) (hc0_3 : l0_3.length ≤ c0_3) (h : impl_valueHas.f k a0_0 a0_1 a0_2 l0_3 a1 = some r),
    Calls Try.prog 175 #[.agg #[.int .i64 a0_0, .int .i64 a0_1, .string a0_2, .slice A0_3 l0_3.length c0_3], .int .i64 a1] w fun e w' => e = .returned (.bool r) ∧ Below w.heap.size w w' := by
  induction k using Nat.strongRecOn with
  | _ k ih =>
  intro a0_0 a0_1 a0_2 A0_3 c0_3 l0_3 a1 r w hr0_3 hc0_3 h
  cases k with
  | zero => exact absurd h (by simp [impl_valueHas.f])
  | succ k =>
  simp only [impl_valueHas.f] at h; have hu49 := Try.underlying49; have HR0_3 := Aside0.mk hr0_3; have HC0_3 := Aside0.mk hc0_3; clear hr0_3 hc0_3; have HB := Aside0.mk (Below.refl w.heap.size w); have H : (if a0_0 = a1 then (some true) else (impl_valueHas.l0 k a1 l0_3 (l0_3.length : Int) 0)) = some r := h; clear h; by_cases c3 : a0_0 = a1; rotate_left; rw [if_neg c3] at H; have c3b0 := bf_ c3; have c3b1 := nt_ c3; have H' := Aside0.mk H; clear H; rotate_right; rw [if_pos c3] at H; have c3b0 := bt__ c3; have c3b1 := nf__ c3; clear c3; obtain rfl := Option.some.inj H
  all_goals
    go_enter Try.func175, Try.ntmps175
    go_wp2_with (first | ((with_reducible refine gate_dst (N := 2) rfl ?_); refine bx_ 2 #[.int .i64 a0_0, .int .i64 a0_1, .string a0_2, .slice A0_3 l0_3.length c0_3] 49 ?_; intro gb101 hg w6 hbox hb; have BK101 := Aside0.mk (hbox); have GW101 := gw_ hg; have GE101 := gw_ hg; replace HB := bs_ hb; clear hb hbox hg; obtain ⟨hcz7_0, hcz7_1, hcz7_2, hcz7_3, hfz7_0, hfz7_1, hfz7_2, hfz7_3⟩ := blk4 BK101))
  · go_ret; exact re_
  go_loopg [14] k (fun kq v14 w' => ∃ (x14_1 : Int), v14 = .int .i64 x14_1 ∧ Aside0 (impl_valueHas.l0 kq a1 l0_3 (l0_3.length : Int) x14_1 = some r) ∧ Aside0 (kq ≤ k) ∧ Aside0 (w'.heap[gb101]? = some (.cells #[.int .i64 a0_0, .int .i64 a0_1, .string a0_2, (.slice A0_3 l0_3.length c0_3)] 49 (0, 0))) ∧ Aside0 (Below w.heap.size w w'))
  case atStart => exact ⟨(0), sm_, H', ⟨Nat.le_refl _⟩, ⟨by refine pe_ ?_; exact BK101.out⟩, ⟨bel_⟩⟩
  case round =>
    clear H'
    try clear c1
    try clear p2
    try clear c3
    try clear c3b0
    try clear c3b1
    try clear hcz5_0 hcz5_1 hcz5_2 hcz5_3
    try clear hcz7_0 hcz7_1 hcz7_2 hcz7_3
    try clear hfz5_0 hfz5_1 hfz5_2 hfz5_3
    try clear hfz7_0 hfz7_1 hfz7_2 hfz7_3
    obtain ⟨x14_1, rfl, HA, HK1, BK101, HB⟩ := hrel
    cases gk with
    | zero => exact absurd HA.out (by simp [impl_valueHas.l0])
    | succ k1 =>
      have H := HA.out; clear HA; simp only [impl_valueHas.l0] at H; by_cases c8 : x14_1 < (l0_3.length : Int); rotate_left; rw [if_neg c8] at H; have c8b0 := df_ c8; clear c8; obtain rfl := Option.some.inj H; rotate_right; rw [if_pos c8] at H; have c8b0 := dt_ c8; clear c8; by_cases c9 : 0 ≤ x14_1; rotate_left
      · rw [if_neg c9] at H; exact absurd H (by simp)
      rotate_right; rw [if_pos c9] at H; have c9b0 := dt_ c9; clear c9; by_cases c10 : x14_1 < (l0_3.length : Int); rotate_left
      · rw [if_neg c10] at H; exact absurd H (by simp)
      rotate_right; rw [if_pos c10] at H; have c10b0 := dt_ c10; clear c10; replace H := ob_ H; obtain ⟨t104, A11, H⟩ := H; by_cases c12 : t104 = true; rotate_left; replace c12 := Bool.eq_false_iff.mpr c12; subst c12; rw [fe_] at H; have H' := Aside0.mk H; clear H; rotate_right; subst c12; rw [if_pos rfl] at H; obtain rfl := Option.some.inj H; rotate_left 2
      · go_wp2
        go_ret; exact re_
      all_goals
        have p102 : 0 ≤ (x14_1 : Int) := od_; have q102 : x14_1 < (l0_3.length : Int) := od_; obtain ⟨ad102, A102_3, c102_3, e102, hx102_0, hx102_1, hx102_2, hx102_3, hl102_3, hi102_3⟩ := at_T49 HR0_3.out x14_1 p102 q102
        cases e102
        replace hx102_0 := mv_ HB hx102_0; replace hx102_1 := mv_ HB hx102_1; replace hx102_2 := mv_ HB hx102_2; replace hx102_3 := mv_ HB hx102_3; have HR102_3 := Aside0.mk hi102_3; have HC102_3 := Aside0.mk hl102_3; clear hi102_3 hl102_3; replace p102 := eq_true p102; replace q102 := eq_true q102
      · go_wp2_with (first | ((with_reducible refine gate_dst (N := 6) rfl ?_); refine bx_ 6 #[.int .i64 0, .int .i64 0, .string (⟨#[]⟩ : ByteArray), .slice none 0 0] 49 ?_; intro gb7103 hg w13 hbox hb; have BK7103 := Aside0.mk (hbox); have GW7103 := gw_ hg; have GE7103 := gw_ hg; have NB7101_103 := nlt_ hg BK101; have NB7103_101 := ngt_ hg BK101; replace BK101 := bb_ BK101 hb; replace HB := bs_ hb; clear hb hbox hg; have hnb14 := NB7103_101.out; have hnc14 := NB7101_103.out; obtain ⟨hcz15_0, hcz15_1, hcz15_2, hcz15_3, hfz15_0, hfz15_1, hfz15_2, hfz15_3⟩ := blk4 BK7103) | ((with_reducible refine gate_callee (f := 175) rfl ?_); refine goesL_ (some 20) rfl rfl Try.func175 (by kernel_rfl) rfl #[.agg #[.int .i64 ((rd_T49 l0_3 x14_1).f0), .int .i64 ((rd_T49 l0_3 x14_1).f1), .string ((rd_T49 l0_3 x14_1).f2), .slice A102_3 ((rd_T49 l0_3 x14_1).f3).length c102_3], .int .i64 a1] rfl ar_ ?_; (with_reducible refine (ih k1 (by have := HK1.out; omega) ((rd_T49 l0_3 x14_1).f0) ((rd_T49 l0_3 x14_1).f1) ((rd_T49 l0_3 x14_1).f2) _ _ ((rd_T49 l0_3 x14_1).f3) a1 true _ ?side1 ?side2 A11.out).mono ?_); (case side1 => exact Kd.C_below HR102_3.out (bel_)); (case side2 => exact HC102_3.out); rintro e w16 ⟨rfl, hb⟩; refine ⟨_, rfl, ?_⟩; replace BK101 := Aside0.mk (blk_below (g := gb101) (o := .cells #[.int .i64 a0_0, .int .i64 a0_1, .string a0_2, .slice (some ad102) l0_3.length c0_3] 49 (0, 0)) (by refine pe_ ?_; refine blk_far ?_ NB7101_103.out _; refine pe_ ?_; refine blk_far ?_ NB7101_103.out _; refine pe_ ?_; refine blk_far ?_ NB7101_103.out _; refine pe_ ?_; refine blk_far ?_ NB7101_103.out _; refine pe_ ?_; exact BK101.out) hb); replace BK7103 := Aside0.mk (blk_below (g := gb7103) (o := .cells #[.int .i64 ((rd_T49 l0_3 x14_1).f0), .int .i64 ((rd_T49 l0_3 x14_1).f1), .string ((rd_T49 l0_3 x14_1).f2), .slice A102_3 ((rd_T49 l0_3 x14_1).f3).length c102_3] 49 (0, 0)) (by refine pe_ ?_; refine blk_put (cs := #[.int .i64 ((rd_T49 l0_3 x14_1).f0), .int .i64 ((rd_T49 l0_3 x14_1).f1), .string ((rd_T49 l0_3 x14_1).f2), .slice none 0 0]) ?_ 3 _ rfl; refine pe_ ?_; refine blk_put (cs := #[.int .i64 ((rd_T49 l0_3 x14_1).f0), .int .i64 ((rd_T49 l0_3 x14_1).f1), .string (⟨#[]⟩ : ByteArray), .slice none 0 0]) ?_ 2 _ rfl; refine pe_ ?_; refine blk_put (cs := #[.int .i64 ((rd_T49 l0_3 x14_1).f0), .int .i64 0, .string (⟨#[]⟩ : ByteArray), .slice none 0 0]) ?_ 1 _ rfl; refine pe_ ?_; refine blk_put (cs := #[.int .i64 0, .int .i64 0, .string (⟨#[]⟩ : ByteArray), .slice none 0 0]) ?_ 0 _ rfl; refine pe_ ?_; exact BK7103.out) hb); replace HB := bs_ hb; (try clear hb); (try clear hb2); (try clear hk); (try clear hi)))
        go_ret; exact re_
      go_wp2_with (first | ((with_reducible refine gate_dst (N := 6) rfl ?_); refine bx_ 6 #[.int .i64 0, .int .i64 0, .string (⟨#[]⟩ : ByteArray), .slice none 0 0] 49 ?_; intro gb103 hg w17 hbox hb; have BK103 := Aside0.mk (hbox); have GW103 := gw_ hg; have GE103 := gw_ hg; have NB101_103 := nlt_ hg BK101; have NB103_101 := ngt_ hg BK101; replace BK101 := bb_ BK101 hb; replace HB := bs_ hb; clear hb hbox hg; have hnb18 := NB103_101.out; have hnc18 := NB101_103.out; obtain ⟨hcz19_0, hcz19_1, hcz19_2, hcz19_3, hfz19_0, hfz19_1, hfz19_2, hfz19_3⟩ := blk4 BK103) | ((with_reducible refine gate_callee (f := 175) rfl ?_); refine goesL_ (some 20) rfl rfl Try.func175 (by kernel_rfl) rfl #[.agg #[.int .i64 ((rd_T49 l0_3 x14_1).f0), .int .i64 ((rd_T49 l0_3 x14_1).f1), .string ((rd_T49 l0_3 x14_1).f2), .slice A102_3 ((rd_T49 l0_3 x14_1).f3).length c102_3], .int .i64 a1] rfl ar_ ?_; (with_reducible refine (ih k1 (by have := HK1.out; omega) ((rd_T49 l0_3 x14_1).f0) ((rd_T49 l0_3 x14_1).f1) ((rd_T49 l0_3 x14_1).f2) _ _ ((rd_T49 l0_3 x14_1).f3) a1 false _ ?side1 ?side2 A11.out).mono ?_); (case side1 => exact Kd.C_below HR102_3.out (bel_)); (case side2 => exact HC102_3.out); rintro e w20 ⟨rfl, hb⟩; refine ⟨_, rfl, ?_⟩; replace BK101 := Aside0.mk (blk_below (g := gb101) (o := .cells #[.int .i64 a0_0, .int .i64 a0_1, .string a0_2, .slice (some ad102) l0_3.length c0_3] 49 (0, 0)) (by refine pe_ ?_; refine blk_far ?_ NB101_103.out _; refine pe_ ?_; refine blk_far ?_ NB101_103.out _; refine pe_ ?_; refine blk_far ?_ NB101_103.out _; refine pe_ ?_; refine blk_far ?_ NB101_103.out _; refine pe_ ?_; exact BK101.out) hb); replace BK103 := Aside0.mk (blk_below (g := gb103) (o := .cells #[.int .i64 ((rd_T49 l0_3 x14_1).f0), .int .i64 ((rd_T49 l0_3 x14_1).f1), .string ((rd_T49 l0_3 x14_1).f2), .slice A102_3 ((rd_T49 l0_3 x14_1).f3).length c102_3] 49 (0, 0)) (by refine pe_ ?_; refine blk_put (cs := #[.int .i64 ((rd_T49 l0_3 x14_1).f0), .int .i64 ((rd_T49 l0_3 x14_1).f1), .string ((rd_T49 l0_3 x14_1).f2), .slice none 0 0]) ?_ 3 _ rfl; refine pe_ ?_; refine blk_put (cs := #[.int .i64 ((rd_T49 l0_3 x14_1).f0), .int .i64 ((rd_T49 l0_3 x14_1).f1), .string (⟨#[]⟩ : ByteArray), .slice none 0 0]) ?_ 2 _ rfl; refine pe_ ?_; refine blk_put (cs := #[.int .i64 ((rd_T49 l0_3 x14_1).f0), .int .i64 0, .string (⟨#[]⟩ : ByteArray), .slice none 0 0]) ?_ 1 _ rfl; refine pe_ ?_; refine blk_put (cs := #[.int .i64 0, .int .i64 0, .string (⟨#[]⟩ : ByteArray), .slice none 0 0]) ?_ 0 _ rfl; refine pe_ ?_; exact BK103.out) hb); replace HB := bs_ hb; (try clear hb); (try clear hb2); (try clear hk); (try clear hi)))
      go_roundg k1
      case measure => have := HK1.out; omega
      case rel => exact ⟨(wrap64 (x14_1 + 1)), sm_, H', ⟨by have := HK1.out; omega⟩, ⟨by refine pe_ ?_; exact BK101.out⟩, ⟨bel_⟩⟩
end Go.Proofs.Ytcchmhmbjhgfdaa.G
