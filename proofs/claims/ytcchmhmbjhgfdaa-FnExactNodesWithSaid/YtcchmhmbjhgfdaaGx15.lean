-- Printed by a program of this claim's writer (wip/gen), out of the translation. Lean checks it.
import Derived.Test.YtcchmhmbjhgfdaaGx0
import Derived.Test.YtcchmhmbjhgfdaaGx12
import Derived.Test.YtcchmhmbjhgfdaaGx14
namespace Go.Proofs.Ytcchmhmbjhgfdaa.G
open Go.RowKit Go.Proofs.YtcchmhmbjhgfdaaW.PrintWords Go.Proofs.YtcchmhmbjhgfdaaW.PrintLast Go.Proofs.YtcchmhmbjhgfdaaW.PrintMore
attribute [local go_sem] max2_int min2_int max_two min_two max_three min_three max_four min_four Own.str_gtr Own.str_leq Own.str_geq Own.sto_fn   -- for this text's walks alone
open Own
set_option linter.unusedVariables false
set_option linter.unusedSimpArgs false

/-! ### spec_GraphOk: function 16 -/
mutual
def spec_GraphOk.l0 : Nat → Int → List (S99) → List (S104) → Int → Int → Option (Bool)
  | 0, _, _, _, _, _ => none
  | k + 1, x3, x102000, x102001, x102002, x102003 => if x3 < (x102000.length : Int) then (if 0 ≤ x3 then ((spec_l1In.f ((rd_T99 x102000 x3).f0) 0 (wrap64 (x102002 - 1))).bind fun t104 => (if t104 = true then ((spec_l2Labels.f k ((rd_T99 x102000 x3).f1)).bind fun t105 => (if t105 = true then ((spec_l2Props.f k ((rd_T99 x102000 x3).f2)).bind fun t106 => (if t106 = true then (if x3 > 0 then (if 0 ≤ (wrap64 (x3 - 1)) then (if (wrap64 (x3 - 1)) < (x102000.length : Int) then (if ((rd_T99 x102000 (wrap64 (x3 - 1))).f0) ≥ ((rd_T99 x102000 x3).f0) then (some false) else (spec_GraphOk.l0 k (wrap64 (x3 + 1)) x102000 x102001 x102002 x102003)) else (none)) else (none)) else (spec_GraphOk.l0 k (wrap64 (x3 + 1)) x102000 x102001 x102002 x102003)) else (some false))) else (some false))) else (some false))) else (none)) else (spec_GraphOk.l1 k 0 x102000 x102001 x102002 x102003)
def spec_GraphOk.l1 : Nat → Int → List (S99) → List (S104) → Int → Int → Option (Bool)
  | 0, _, _, _, _, _ => none
  | k + 1, x5, x102000, x102001, x102002, x102003 => if x5 < (x102001.length : Int) then (if 0 ≤ x5 then ((spec_l1In.f ((rd_T104 x102001 x5).f0) 0 (wrap64 (x102003 - 1))).bind fun t112 => (if t112 = true then ((spec_l2Name.f k ((rd_T104 x102001 x5).f1)).bind fun t113 => (if t113 = true then ((spec_l2Props.f k ((rd_T104 x102001 x5).f4)).bind fun t114 => (if t114 = true then ((spec_l2Node.f k x102000 x102001 x102002 x102003 ((rd_T104 x102001 x5).f2)).bind fun t115 => (if t115 < 0 then (some false) else ((spec_l2Node.f k x102000 x102001 x102002 x102003 ((rd_T104 x102001 x5).f3)).bind fun t116 => (if t116 < 0 then (some false) else (if x5 > 0 then (if 0 ≤ (wrap64 (x5 - 1)) then (if (wrap64 (x5 - 1)) < (x102001.length : Int) then (if ((rd_T104 x102001 (wrap64 (x5 - 1))).f0) ≥ ((rd_T104 x102001 x5).f0) then (some false) else (spec_GraphOk.l1 k (wrap64 (x5 + 1)) x102000 x102001 x102002 x102003)) else (none)) else (none)) else (spec_GraphOk.l1 k (wrap64 (x5 + 1)) x102000 x102001 x102002 x102003)))))) else (some false))) else (some false))) else (some false))) else (none)) else (if (x102000.length : Int) ≤ 12 then (if (x102001.length : Int) ≤ 16 then ((spec_l1In.f x102002 0 1000000000).bind fun t108 => (if t108 = true then ((spec_l1In.f x102003 0 1000000000).bind fun t109 => (some t109)) else (some false))) else (some false)) else (some false))
end
def spec_GraphOk.f (k : Nat) (l0_0 : List (S99)) (l0_1 : List (S104)) (a0_2 : Int) (a0_3 : Int) : Option (Bool) := spec_GraphOk.l0 k 0 l0_0 l0_1 a0_2 a0_3
def spec_GraphOk.T5 : Bool × List (List Nat × List Nat) := (true, [([], []), ([0], [0]), ([], []), ([2], [2]), ([3], [3]), ([1, 4], [1, 4]), ([5], [5]), ([6, 5], [6]), ([7], [7]), ([8, 7], [7, 8]), ([9, 7, 7], [7, 9]), ([10, 7], [7, 10]), ([7, 11], [7, 11]), ([12, 10], [12]), ([13], [13]), ([14, 13], [13, 14]), ([15, 13, 13], [13, 15]), ([16, 13], [13, 16]), ([13, 17], [13, 17]), ([18, 16], [18]), ([19], [19]), ([20, 19], [19, 20]), ([21, 19, 19], [19, 21]), ([22], [22]), ([23, 22], [22, 23]), ([22], [22]), ([25, 22], [22, 25]), ([24, 26, 22], [22, 24, 26]), ([27, 22], [22, 27]), ([28, 22], [22, 28]), ([22], [22]), ([30, 22], [22, 30]), ([29, 31, 22], [22, 29, 31]), ([22, 32, 19], [19, 22, 32]), ([19, 33], [19, 33])])
def spec_GraphOk.B5 : List Nat := [0, 1, 0, 4, 12, 31, 63, 127, 255, 511, 1023, 2047, 4095, 8191, 16383, 32767, 65535, 131071, 262143, 524287, 1048575, 2097151, 4194303, 8388607, 16777215, 8388607, 41943039, 134217727, 268435455, 536870911, 8388607, 1082130431, 4294967295, 8589934591, 17179869183]
theorem spec_GraphOk.tab5 : rtab .any (opsOf Try.f16 5) = spec_GraphOk.T5 := by kernel_rfl
theorem spec_GraphOk.bits5 : waitsOk spec_GraphOk.T5.2 spec_GraphOk.B5 = true := by kernel_rfl
def spec_GraphOk.T11 : Bool × List (List Nat × List Nat) := (true, [([], []), ([0], [0]), ([], []), ([2], [2]), ([3], [3]), ([1, 4], [1, 4]), ([5], [5]), ([6, 5], [6]), ([7], [7]), ([8, 7], [7, 8]), ([9, 7, 7], [7, 9]), ([10, 7], [7, 10]), ([7, 11], [7, 11]), ([12, 10], [12]), ([13], [13]), ([14, 13], [13, 14]), ([15, 13, 13], [13, 15]), ([16, 13], [13, 16]), ([13, 17], [13, 17]), ([18, 16], [18]), ([19], [19]), ([19], [19]), ([21, 19], [19, 21]), ([20, 22, 19, 19], [19, 20, 22]), ([23, 19], [19, 23]), ([19, 24], [19, 24]), ([25, 23], [25]), ([26], [26]), ([26], [26]), ([28, 26], [26, 28]), ([27, 29, 26, 26], [26, 27, 29]), ([30, 26], [26, 30]), ([26, 31], [26, 31]), ([32, 30], [32]), ([33], [33]), ([34, 33], [33, 34]), ([35, 33, 33], [33, 35]), ([36], [36]), ([37, 36], [36, 37]), ([36], [36]), ([39, 36], [36, 39]), ([38, 40, 36], [36, 38, 40]), ([41, 36], [36, 41]), ([42, 36], [36, 42]), ([36], [36]), ([44, 36], [36, 44]), ([43, 45, 36], [36, 43, 45]), ([36, 46, 33], [33, 36, 46]), ([33, 47], [33, 47])])
def spec_GraphOk.B11 : List Nat := [0, 1, 0, 4, 12, 31, 63, 127, 255, 511, 1023, 2047, 4095, 8191, 16383, 32767, 65535, 131071, 262143, 524287, 1048575, 1048575, 3145727, 8388607, 16777215, 33554431, 67108863, 134217727, 134217727, 402653183, 1073741823, 2147483647, 4294967295, 8589934591, 17179869183, 34359738367, 68719476735, 137438953471, 274877906943, 137438953471, 687194767359, 2199023255551, 4398046511103, 8796093022207, 137438953471, 17729624997887, 70368744177663, 140737488355327, 281474976710655]
theorem spec_GraphOk.tab11 : rtab .any (opsOf Try.f16 11) = spec_GraphOk.T11 := by kernel_rfl
theorem spec_GraphOk.bits11 : waitsOk spec_GraphOk.T11.2 spec_GraphOk.B11 = true := by kernel_rfl
set_option maxHeartbeats 8000000 in
set_option maxRecDepth 100000 in
theorem spec_GraphOk.calls (k : Nat) (A0_0 : Option Addr) (c0_0 : Nat) (l0_0 : List (S99)) (A0_1 : Option Addr) (c0_1 : Nat) (l0_1 : List (S104)) (a0_2 : Int) (a0_3 : Int) (r : Bool) (w : World) (hr0_0 : Kd.C k99 w A0_0 l0_0.length l0_0) (hc0_0 : l0_0.length ≤ c0_0) (hr0_1 : Kd.C k104 w A0_1 l0_1.length l0_1) (hc0_1 : l0_1.length ≤ c0_1) (h : spec_GraphOk.f k l0_0 l0_1 a0_2 a0_3 = some r) :
    Calls Try.prog 16 #[.agg #[.slice A0_0 l0_0.length c0_0, .slice A0_1 l0_1.length c0_1, .int .i64 a0_2, .int .i64 a0_3]] w fun e w' => e = .returned (.bool r) ∧ Below w.heap.size w w' := by
  have hu31 := Try.underlying31
  have hu99 := Try.underlying99
  have hu104 := Try.underlying104
  have HR0_0 := Aside0.mk hr0_0
  have HC0_0 := Aside0.mk hc0_0
  clear hr0_0 hc0_0
  have HR0_1 := Aside0.mk hr0_1
  have HC0_1 := Aside0.mk hc0_1
  clear hr0_1 hc0_1
  have HB := Aside0.mk (Below.refl w.heap.size w)
  have H : (spec_GraphOk.l0 k 0 l0_0 l0_1 a0_2 a0_3) = some r := h
  clear h
  have H' := Aside0.mk H
  clear H
  go_enter Try.func16, Try.ntmps16
  go_wp2_with (first | ((with_reducible refine gate_dst (N := 1) rfl ?_); (try (refine gate_guard (by rfl) ?_; dsimp only)); refine box_event ?hg (N := 1) ?hd (cs := #[.slice A0_0 l0_0.length c0_0, .slice A0_1 l0_1.length c0_1, .int .i64 a0_2, .int .i64 a0_3]) (t := 31) ?hr ?_; (case hd => rfl); (case hg => rfl); (case hr => first | (go_simp; done) | (go_simp; rfl)); intro gb101 hg w2 hbox hb; have BK101 := Aside0.mk (hbox); have GW101 := gw_ hg; have GE101 := gw_ hg; replace HB := bs_ hb; clear hb hbox hg))
  go_loopg [3] k (fun kq v3 w' => ∃ (x3_1 : Int), v3 = .int .i64 x3_1 ∧ Aside0 (spec_GraphOk.l0 kq x3_1 l0_0 l0_1 a0_2 a0_3 = some r) ∧ Aside0 (kq ≤ k) ∧ Aside0 (w'.heap[gb101]? = some (.cells #[(.slice A0_0 l0_0.length c0_0), (.slice A0_1 l0_1.length c0_1), .int .i64 a0_2, .int .i64 a0_3] 31 (0, 0))) ∧ Aside0 (Below w.heap.size w w'))
  case atStart => exact ⟨(0), sm_, H', ⟨Nat.le_refl _⟩, ⟨by refine pe_ ?_; exact BK101.out⟩, ⟨bel_⟩⟩
  case round =>
    clear H'
    try clear c1
    try clear p2
    obtain ⟨x3_1, rfl, HA, HK1, BK101, HB⟩ := hrel
    cases gk with
    | zero => exact absurd HA.out (by simp [spec_GraphOk.l0])
    | succ k1 =>
      have H := HA.out
      clear HA
      simp only [spec_GraphOk.l0] at H
      by_cases c3 : x3_1 < (l0_0.length : Int)
      · rw [if_pos c3] at H
        have c3b0 : decide (x3_1 < (l0_0.length : Int)) = true := decide_eq_true c3
        clear c3
        by_cases c4 : 0 ≤ x3_1
        rotate_left
        · rw [if_neg c4] at H
          exact absurd H (by simp)
        rotate_right
        rw [if_pos c4] at H
        have c4b0 : decide (0 ≤ x3_1) = true := decide_eq_true c4
        clear c4
        replace H := Option.bind_eq_some_iff.mp H
        obtain ⟨t104, A50, H⟩ := H
        replace H : (if t104 = true then ((spec_l2Labels.f k1 ((rd_T99 l0_0 x3_1).f1)).bind fun t105 => (if t105 = true then ((spec_l2Props.f k1 ((rd_T99 l0_0 x3_1).f2)).bind fun t106 => (if t106 = true then (if x3_1 > 0 then (if 0 ≤ (wrap64 (x3_1 - 1)) then (if (wrap64 (x3_1 - 1)) < (l0_0.length : Int) then (if ((rd_T99 l0_0 (wrap64 (x3_1 - 1))).f0) ≥ ((rd_T99 l0_0 x3_1).f0) then (some false) else (spec_GraphOk.l0 k1 (wrap64 (x3_1 + 1)) l0_0 l0_1 a0_2 a0_3)) else (none)) else (none)) else (spec_GraphOk.l0 k1 (wrap64 (x3_1 + 1)) l0_0 l0_1 a0_2 a0_3)) else (some false))) else (some false))) else (some false)) = some r := H
        have A5 := Aside0.mk A50
        clear A50
        by_cases c6 : t104 = true
        rotate_left
        replace c6 := Bool.eq_false_iff.mpr c6
        subst c6
        have H1 : (some false) = some r := by rw [if_neg (show ¬ (false = true) by decide)] at H; exact H
        clear H
        have H := H1
        clear H1
        obtain rfl := Option.some.inj H
        rotate_right
        subst c6
        have H1 : ((spec_l2Labels.f k1 ((rd_T99 l0_0 x3_1).f1)).bind fun t105 => (if t105 = true then ((spec_l2Props.f k1 ((rd_T99 l0_0 x3_1).f2)).bind fun t106 => (if t106 = true then (if x3_1 > 0 then (if 0 ≤ (wrap64 (x3_1 - 1)) then (if (wrap64 (x3_1 - 1)) < (l0_0.length : Int) then (if ((rd_T99 l0_0 (wrap64 (x3_1 - 1))).f0) ≥ ((rd_T99 l0_0 x3_1).f0) then (some false) else (spec_GraphOk.l0 k1 (wrap64 (x3_1 + 1)) l0_0 l0_1 a0_2 a0_3)) else (none)) else (none)) else (spec_GraphOk.l0 k1 (wrap64 (x3_1 + 1)) l0_0 l0_1 a0_2 a0_3)) else (some false))) else (some false))) = some r := by rw [if_pos rfl] at H; exact H
        clear H
        have H := H1
        clear H1
        replace H := Option.bind_eq_some_iff.mp H
        obtain ⟨t105, A70, H⟩ := H
        replace H : (if t105 = true then ((spec_l2Props.f k1 ((rd_T99 l0_0 x3_1).f2)).bind fun t106 => (if t106 = true then (if x3_1 > 0 then (if 0 ≤ (wrap64 (x3_1 - 1)) then (if (wrap64 (x3_1 - 1)) < (l0_0.length : Int) then (if ((rd_T99 l0_0 (wrap64 (x3_1 - 1))).f0) ≥ ((rd_T99 l0_0 x3_1).f0) then (some false) else (spec_GraphOk.l0 k1 (wrap64 (x3_1 + 1)) l0_0 l0_1 a0_2 a0_3)) else (none)) else (none)) else (spec_GraphOk.l0 k1 (wrap64 (x3_1 + 1)) l0_0 l0_1 a0_2 a0_3)) else (some false))) else (some false)) = some r := H
        have A7 := Aside0.mk A70
        clear A70
        by_cases c8 : t105 = true
        rotate_left
        replace c8 := Bool.eq_false_iff.mpr c8
        subst c8
        have H1 : (some false) = some r := by rw [if_neg (show ¬ (false = true) by decide)] at H; exact H
        clear H
        have H := H1
        clear H1
        obtain rfl := Option.some.inj H
        rotate_right
        subst c8
        have H1 : ((spec_l2Props.f k1 ((rd_T99 l0_0 x3_1).f2)).bind fun t106 => (if t106 = true then (if x3_1 > 0 then (if 0 ≤ (wrap64 (x3_1 - 1)) then (if (wrap64 (x3_1 - 1)) < (l0_0.length : Int) then (if ((rd_T99 l0_0 (wrap64 (x3_1 - 1))).f0) ≥ ((rd_T99 l0_0 x3_1).f0) then (some false) else (spec_GraphOk.l0 k1 (wrap64 (x3_1 + 1)) l0_0 l0_1 a0_2 a0_3)) else (none)) else (none)) else (spec_GraphOk.l0 k1 (wrap64 (x3_1 + 1)) l0_0 l0_1 a0_2 a0_3)) else (some false))) = some r := by rw [if_pos rfl] at H; exact H
        clear H
        have H := H1
        clear H1
        replace H := Option.bind_eq_some_iff.mp H
        obtain ⟨t106, A90, H⟩ := H
        replace H : (if t106 = true then (if x3_1 > 0 then (if 0 ≤ (wrap64 (x3_1 - 1)) then (if (wrap64 (x3_1 - 1)) < (l0_0.length : Int) then (if ((rd_T99 l0_0 (wrap64 (x3_1 - 1))).f0) ≥ ((rd_T99 l0_0 x3_1).f0) then (some false) else (spec_GraphOk.l0 k1 (wrap64 (x3_1 + 1)) l0_0 l0_1 a0_2 a0_3)) else (none)) else (none)) else (spec_GraphOk.l0 k1 (wrap64 (x3_1 + 1)) l0_0 l0_1 a0_2 a0_3)) else (some false)) = some r := H
        have A9 := Aside0.mk A90
        clear A90
        by_cases c10 : t106 = true
        rotate_left
        replace c10 := Bool.eq_false_iff.mpr c10
        subst c10
        have H1 : (some false) = some r := by rw [if_neg (show ¬ (false = true) by decide)] at H; exact H
        clear H
        have H := H1
        clear H1
        obtain rfl := Option.some.inj H
        rotate_right
        subst c10
        have H1 : (if x3_1 > 0 then (if 0 ≤ (wrap64 (x3_1 - 1)) then (if (wrap64 (x3_1 - 1)) < (l0_0.length : Int) then (if ((rd_T99 l0_0 (wrap64 (x3_1 - 1))).f0) ≥ ((rd_T99 l0_0 x3_1).f0) then (some false) else (spec_GraphOk.l0 k1 (wrap64 (x3_1 + 1)) l0_0 l0_1 a0_2 a0_3)) else (none)) else (none)) else (spec_GraphOk.l0 k1 (wrap64 (x3_1 + 1)) l0_0 l0_1 a0_2 a0_3)) = some r := by rw [if_pos rfl] at H; exact H
        clear H
        have H := H1
        clear H1
        by_cases c11 : x3_1 > 0
        · rw [if_pos c11] at H
          have c11b0 : decide (0 < x3_1) = true := decide_eq_true c11
          clear c11
          obtain ⟨ji12, hji12⟩ : ∃ j_ : Int, (wrap64 (x3_1 - 1)) = j_ := ⟨_, rfl⟩
          replace H : (if 0 ≤ (ji12) then (if (ji12) < (l0_0.length : Int) then (if ((rd_T99 l0_0 (ji12)).f0) ≥ ((rd_T99 l0_0 x3_1).f0) then (some false) else (spec_GraphOk.l0 k1 (wrap64 (x3_1 + 1)) l0_0 l0_1 a0_2 a0_3)) else (none)) else (none)) = some r := by first | (rw [hji12] at H; exact H) | (simp only [hji12] at H ⊢; exact H)
          (try rw [hji12] at A5)
          (try rw [hji12] at A7)
          (try rw [hji12] at A9)
          have hji12w : (IntKind.i64.wrap (x3_1 - 1)) = ji12 := (i64_w _).trans hji12
          by_cases c13 : 0 ≤ (ji12)
          rotate_left
          · rw [if_neg c13] at H
            exact absurd H (by simp)
          rotate_right
          rw [if_pos c13] at H
          have c13b0 : decide (0 ≤ (ji12)) = true := decide_eq_true c13
          clear c13
          by_cases c14 : (ji12) < (l0_0.length : Int)
          rotate_left
          · rw [if_neg c14] at H
            exact absurd H (by simp)
          rotate_right
          rw [if_pos c14] at H
          have c14b0 : decide ((ji12) < (l0_0.length : Int)) = true := decide_eq_true c14
          clear c14
          by_cases c15 : ((rd_T99 l0_0 (ji12)).f0) ≥ ((rd_T99 l0_0 x3_1).f0)
          rotate_left
          rw [if_neg c15] at H
          have c15b0 : decide (((rd_T99 l0_0 x3_1).f0) ≤ ((rd_T99 l0_0 (ji12)).f0)) = false := decide_eq_false c15
          clear c15
          have H' := Aside0.mk H
          clear H
          rotate_right
          rw [if_pos c15] at H
          have c15b0 : decide (((rd_T99 l0_0 x3_1).f0) ≤ ((rd_T99 l0_0 (ji12)).f0)) = true := decide_eq_true c15
          clear c15
          obtain rfl := Option.some.inj H
          all_goals
            obtain ⟨hcz24_0, hcz24_1, hcz24_2, hcz24_3, hfz24_0, hfz24_1, hfz24_2, hfz24_3⟩ := blk4 BK101
            have p102 : 0 ≤ (x3_1 : Int) := od_
            have q102 : x3_1 < (l0_0.length : Int) := od_
            obtain ⟨ad102, A102_1, c102_1, A102_2, c102_2, e102, hx102_0, hx102_1, hx102_2, hl102_1, hi102_1, hl102_2, hi102_2⟩ := at_T99 HR0_0.out x3_1 p102 q102
            cases e102
            replace hx102_0 := mv_ HB hx102_0
            replace hx102_1 := mv_ HB hx102_1
            replace hx102_2 := mv_ HB hx102_2
            have HR102_1 := Aside0.mk hi102_1
            have HC102_1 := Aside0.mk hl102_1
            clear hi102_1 hl102_1
            have HR102_2 := Aside0.mk hi102_2
            have HC102_2 := Aside0.mk hl102_2
            clear hi102_2 hl102_2
            replace p102 := eq_true p102
            replace q102 := eq_true q102
            try go_wp2_with (first | ((with_reducible refine gate_dst (N := 4) rfl ?_); (try (refine gate_guard (by rfl) ?_; dsimp only)); refine box_event ?hg (N := 4) ?hd (cs := #[.int .i64 0, .slice none 0 0, .slice none 0 0]) (t := 99) ?hr ?_; (case hd => rfl); (case hg => rfl); (case hr => first | (go_simp; done) | (go_simp; rfl)); intro gb103 hg w25 hbox hb; have BK103 := Aside0.mk (hbox); have GW103 := gw_ hg; have GE103 := gw_ hg; have NB101_103 := nlt_ hg BK101; have NB103_101 := ngt_ hg BK101; replace BK101 := bb_ BK101 hb; replace HB := bs_ hb; clear hb hbox hg; have hnb26 := NB103_101.out; have hnc26 := NB101_103.out; obtain ⟨hcz27_0, hcz27_1, hcz27_2, hfz27_0, hfz27_1, hfz27_2⟩ := blk3 BK103))
            have n0_ : Aside0 ((((w25.setCell ⟨gb103, 0, none⟩ (.int .i64 ((rd_T99 l0_0 x3_1).f0))).setCell ⟨gb103, 1, none⟩ (.slice A102_1 ((rd_T99 l0_0 x3_1).f1).length c102_1)).setCell ⟨gb103, 2, none⟩ (.slice A102_2 ((rd_T99 l0_0 x3_1).f2).length c102_2)).heap[gb101]? = some (.cells #[.slice (some ad102) l0_0.length c0_0, .slice A0_1 l0_1.length c0_1, .int .i64 a0_2, .int .i64 a0_3] 31 (0, 0))) := ⟨by refine pe_ ?_; refine blk_far ?_ NB101_103.out _; refine pe_ ?_; refine blk_far ?_ NB101_103.out _; refine pe_ ?_; refine blk_far ?_ NB101_103.out _; refine pe_ ?_; exact BK101.out⟩
            have n1_ : Aside0 ((((w25.setCell ⟨gb103, 0, none⟩ (.int .i64 ((rd_T99 l0_0 x3_1).f0))).setCell ⟨gb103, 1, none⟩ (.slice A102_1 ((rd_T99 l0_0 x3_1).f1).length c102_1)).setCell ⟨gb103, 2, none⟩ (.slice A102_2 ((rd_T99 l0_0 x3_1).f2).length c102_2)).heap[gb103]? = some (.cells #[.int .i64 ((rd_T99 l0_0 x3_1).f0), .slice A102_1 ((rd_T99 l0_0 x3_1).f1).length c102_1, .slice A102_2 ((rd_T99 l0_0 x3_1).f2).length c102_2] 99 (0, 0))) := ⟨by refine pe_ ?_; refine blk_put (cs := #[.int .i64 ((rd_T99 l0_0 x3_1).f0), .slice A102_1 ((rd_T99 l0_0 x3_1).f1).length c102_1, .slice none 0 0]) ?_ 2 _ rfl; refine pe_ ?_; refine blk_put (cs := #[.int .i64 ((rd_T99 l0_0 x3_1).f0), .slice none 0 0, .slice none 0 0]) ?_ 1 _ rfl; refine pe_ ?_; refine blk_put (cs := #[.int .i64 0, .slice none 0 0, .slice none 0 0]) ?_ 0 _ rfl; refine pe_ ?_; exact BK103.out⟩
            have n2_ : Aside0 (Below w.heap.size w (((w25.setCell ⟨gb103, 0, none⟩ (.int .i64 ((rd_T99 l0_0 x3_1).f0))).setCell ⟨gb103, 1, none⟩ (.slice A102_1 ((rd_T99 l0_0 x3_1).f1).length c102_1)).setCell ⟨gb103, 2, none⟩ (.slice A102_2 ((rd_T99 l0_0 x3_1).f2).length c102_2))) := ⟨bel_⟩
            (try clear BK101)
            (try clear BK103)
            (try clear HB)
            generalize (((w25.setCell ⟨gb103, 0, none⟩ (.int .i64 ((rd_T99 l0_0 x3_1).f0))).setCell ⟨gb103, 1, none⟩ (.slice A102_1 ((rd_T99 l0_0 x3_1).f1).length c102_1)).setCell ⟨gb103, 2, none⟩ (.slice A102_2 ((rd_T99 l0_0 x3_1).f2).length c102_2)) = w28 at n0_ n1_ n2_ ⊢
            have BK101 := n0_
            have BK103 := n1_
            have HB := n2_
            clear n0_ n1_ n2_
            replace BK101 := Aside0.mk (blk_drew BK101.out)
            replace BK103 := Aside0.mk (blk_drew BK103.out)
            replace HB := Aside0.mk (below_drew1 HB.out)
            have p107 : 0 ≤ ((ji12) : Int) := od_
            have q107 : (ji12) < (l0_0.length : Int) := od_
            obtain ⟨ad107, A107_1, c107_1, A107_2, c107_2, e107, hx107_0, hx107_1, hx107_2, hl107_1, hi107_1, hl107_2, hi107_2⟩ := at_T99 HR0_0.out (ji12) p107 q107
            have hw107_2 := hx107_2
            have hw107_1 := hx107_1
            have hw107_0 := hx107_0
            obtain rfl : ad102 = ad107 := (by injection e107)
            replace hx107_0 := mv_ HB hx107_0
            replace hx107_1 := mv_ HB hx107_1
            replace hx107_2 := mv_ HB hx107_2
            have HR107_1 := Aside0.mk hi107_1
            have HC107_1 := Aside0.mk hl107_1
            clear hi107_1 hl107_1
            have HR107_2 := Aside0.mk hi107_2
            have HC107_2 := Aside0.mk hl107_2
            clear hi107_2 hl107_2
            replace p107 := eq_true p107
            replace q107 := eq_true q107
            refine start_ (n := 35) (S := fun w' => w'.cell? ⟨gb103, 0, none⟩ = some (.int .i64 ((rd_T99 l0_0 x3_1).f0)) ∧ w'.cell? ⟨gb103, 1, none⟩ = some (.slice A102_1 ((rd_T99 l0_0 x3_1).f1).length c102_1) ∧ w'.cell? ⟨gb103, 2, none⟩ = some (.slice A102_2 ((rd_T99 l0_0 x3_1).f2).length c102_2) ∧ w'.cell? ⟨gb101, 0, none⟩ = some (.slice (some ad102) l0_0.length c0_0) ∧ w'.cell? ⟨gb101, 1, none⟩ = some (.slice A0_1 l0_1.length c0_1) ∧ w'.cell? ⟨gb101, 2, none⟩ = some (.int .i64 a0_2) ∧ w'.cell? ⟨gb101, 3, none⟩ = some (.int .i64 a0_3) ∧ w'.cell? (ad102.add (((ji12)).toNat * 3)) = some (.int .i64 ((rd_T99 l0_0 (ji12)).f0)) ∧ w'.cell? ⟨(ad102.add (((ji12)).toNat * 3)).block, (ad102.add (((ji12)).toNat * 3)).off + 1, none⟩ = some (.slice A107_1 ((rd_T99 l0_0 (ji12)).f1).length c107_1) ∧ w'.cell? ⟨(ad102.add (((ji12)).toNat * 3)).block, (ad102.add (((ji12)).toNat * 3)).off + 2, none⟩ = some (.slice A107_2 ((rd_T99 l0_0 (ji12)).f2).length c107_2)) (ds := []) #[false, false, false, false, false, false, false, false, false, false, false, false, false, false, false, false, false, false, false, false, false, false, false, false, false, false, false, false, false, false, false, false, false, false, false] (by kernel_rfl) rfl rfl ⟨(blkc BK103 0), (blkc BK103 1), (blkc BK103 2), (blkc BK101 0), (blkc BK101 1), (blkc BK101 2), (blkc BK101 3), (mv_ HB hw107_0 :), (mv_ HB hw107_1 :), (mv_ HB hw107_2 :)⟩ (fun hHeld => ?_); refine with_tabW spec_GraphOk.tab5 spec_GraphOk.bits5 (fun HT_ HW_ => ?_)
            generalize w28.drew = w29 at BK101 BK103 HB HR107_1 HR107_2 hx107_0 hx107_1 hx107_2 hHeld ⊢
            refine puA 0 (some 19) ?_
            refine puA 2 (some 21) ?_
            refine taA 1 (some 20) ?_
            refine taA 3 (some 22) ?_
            refine puA 4 (some 23) ?_
            refine one_ (i := 5) (N := some 24) #[true, true, true, true, true, true, false, false, false, false, false, false, false, false, false, false, false, false, false, false, false, false, false, false, false, false, false, false, false, false, false, false, false, false, false] rfl rfl (one_of HT_.out (by kernel_rfl)) (by decide) (fun K hK => ?_)
            refine goes_ Try.func69 (by kernel_rfl) rfl #[.int .i64 ((rd_T99 l0_0 x3_1).f0), .int .i64 0, .int .i64 (wrap64 (a0_2 - 1))] (by rfl) rfl rfl ar_ ?_
            with_reducible refine (spec_l1In.calls ((rd_T99 l0_0 x3_1).f0) 0 (wrap64 (a0_2 - 1)) true _ A5.out).mono ?_
            rintro e w' ⟨rfl, ⟨nd, rfl⟩⟩
            refine ⟨_, rfl, ?_⟩
            refine hK.out _ _ ⟨(blkc BK103 0), (blkc BK103 1), (blkc BK103 2), (blkc BK101 0), (blkc BK101 1), (blkc BK101 2), (blkc BK101 3), (mv_ HB hw107_0 :), (mv_ HB hw107_1 :), (mv_ HB hw107_2 :)⟩ (fun hHeld => ?_)
            clear hK K
            refine norm_ (a' := ?_) ?_ ?_
            rotate_left
            · show Act.put _ (some 24) _ = _
              simp only [Act.put, List.setIfInBounds_toArray, List.set_cons_zero, List.set_cons_succ, i64_w, i32_w]
              rfl
            refine puA 6 (some 25) ?_
            refine puA 7 (some 26) ?_
            refine puA 8 (some 27) ?_
            refine taA 9 (some 28) ?_
            refine one_ (i := 10) (N := some 29) #[true, true, true, true, true, true, true, true, true, true, true, false, false, false, false, false, false, false, false, false, false, false, false, false, false, false, false, false, false, false, false, false, false, false, false] rfl rfl (one_of HT_.out (by kernel_rfl)) (by decide) (fun K hK => ?_)
            refine goes_ Try.func70 (by kernel_rfl) rfl #[.slice A102_1 ((rd_T99 l0_0 x3_1).f1).length c102_1] (by rfl) rfl rfl ar_ ?_
            with_reducible refine (spec_l2Labels.calls k1 _ _ ((rd_T99 l0_0 x3_1).f1) true _ ?side1 ?side2 A7.out).mono ?_
            (case side1 => repeat (first | exact (Kd.C_below HR102_1.out (bel_)) | (with_reducible refine Kd.C_alloc ?_ _) | (with_reducible refine Kd.C_drewN ?_ _) | (with_reducible refine Kd.C_drew ?_)))
            (case side2 => exact HC102_1.out)
            rintro e w30 ⟨rfl, hb⟩
            refine ⟨_, rfl, ?_⟩
            replace BK101 := bb_ BK101 hb
            replace BK103 := bb_ BK103 hb
            replace HB := bs_ hb
            (try clear hb)
            (try clear hb2)
            (try clear hk)
            (try clear hi)
            refine hK.out _ _ ⟨(blkc BK103 0), (blkc BK103 1), (blkc BK103 2), (blkc BK101 0), (blkc BK101 1), (blkc BK101 2), (blkc BK101 3), (mv_ HB hw107_0 :), (mv_ HB hw107_1 :), (mv_ HB hw107_2 :)⟩ (fun hHeld => ?_)
            clear hK K
            refine norm_ (a' := ?_) ?_ ?_
            rotate_left
            · show Act.put _ (some 29) _ = _
              simp only [Act.put, List.setIfInBounds_toArray, List.set_cons_zero, List.set_cons_succ, i64_w, i32_w]
              rfl
            refine puA 11 (some 30) ?_
            refine puA 12 (some 31) ?_
            refine puA 13 (some 32) ?_
            refine puA 14 (some 33) ?_
            refine taA 15 (some 34) ?_
            refine one_ (i := 16) (N := some 35) #[true, true, true, true, true, true, true, true, true, true, true, true, true, true, true, true, true, false, false, false, false, false, false, false, false, false, false, false, false, false, false, false, false, false, false] rfl rfl (one_of HT_.out (by kernel_rfl)) (by decide) (fun K hK => ?_)
            refine goes_ Try.func71 (by kernel_rfl) rfl #[.slice A102_2 ((rd_T99 l0_0 x3_1).f2).length c102_2] (by rfl) rfl rfl ar_ ?_
            with_reducible refine (spec_l2Props.calls k1 _ _ ((rd_T99 l0_0 x3_1).f2) true _ ?side1 ?side2 A9.out).mono ?_
            (case side1 => exact rdb_ HR102_2)
            (case side2 => exact HC102_2.out)
            rintro e w31 ⟨rfl, hb⟩
            refine ⟨_, rfl, ?_⟩
            replace BK101 := bb_ BK101 hb
            replace BK103 := bb_ BK103 hb
            replace HB := bs_ hb
            (try clear hb)
            (try clear hb2)
            (try clear hk)
            (try clear hi)
            refine hK.out _ _ ⟨(blkc BK103 0), (blkc BK103 1), (blkc BK103 2), (blkc BK101 0), (blkc BK101 1), (blkc BK101 2), (blkc BK101 3), (mv_ HB hw107_0 :), (mv_ HB hw107_1 :), (mv_ HB hw107_2 :)⟩ (fun hHeld => ?_)
            clear hK K
            refine norm_ (a' := ?_) ?_ ?_
            rotate_left
            · show Act.put _ (some 35) _ = _
              simp only [Act.put, List.setIfInBounds_toArray, List.set_cons_zero, List.set_cons_succ, i64_w, i32_w]
              rfl
            refine puA 17 (some 36) ?_
            refine puA 18 (some 37) ?_
            refine puA 19 (some 38) ?_
            refine puA 20 (some 39) ?_
            refine puA 21 (some 40) ?_
            refine puA 22 (some 41) ?_
            refine puA 23 (some 42) ?_
            refine puA 25 (some 44) ?_
            refine puA 26 (some 45) ?_
            refine puA 30 (some 49) ?_
            refine taA 24 (some 43) ?_
            refine puA 27 (some 46) ?_
            refine puA 28 (some 47) ?_
            refine taA 29 (some 48) ?_
            refine taA 31 (some 50) ?_
            refine puA 32 (some 51) ?_
            refine puA 33 (some 52) ?_
            refine puA 34 (some 53) ?_
            refine done_ (done_of HT_.out (by kernel_rfl)) ?_
            try go_wp2
          · go_ret
            exact ⟨by first | rfl | (simp [errW_none, errW_some] <;> rfl) | (simp only [← hji12]; first | rfl | (simp [errW_none, errW_some] <;> rfl)) | (simp [*, errW_none, errW_some] <;> rfl), bel_⟩
          go_roundg k1
          case measure => have := HK1.out; omega
          case rel => exact ⟨(wrap64 (x3_1 + 1)), sm_, H', ⟨by have := HK1.out; omega⟩, ⟨by refine pe_ ?_; exact BK101.out⟩, ⟨bel_⟩⟩
        rw [if_neg c11] at H
        have c11b0 : decide (0 < x3_1) = false := decide_eq_false c11
        clear c11
        have H' := Aside0.mk H
        clear H
        all_goals
          obtain ⟨hcz32_0, hcz32_1, hcz32_2, hcz32_3, hfz32_0, hfz32_1, hfz32_2, hfz32_3⟩ := blk4 BK101
          have p102 : 0 ≤ (x3_1 : Int) := od_
          have q102 : x3_1 < (l0_0.length : Int) := od_
          obtain ⟨ad102, A102_1, c102_1, A102_2, c102_2, e102, hx102_0, hx102_1, hx102_2, hl102_1, hi102_1, hl102_2, hi102_2⟩ := at_T99 HR0_0.out x3_1 p102 q102
          cases e102
          replace hx102_0 := mv_ HB hx102_0
          replace hx102_1 := mv_ HB hx102_1
          replace hx102_2 := mv_ HB hx102_2
          have HR102_1 := Aside0.mk hi102_1
          have HC102_1 := Aside0.mk hl102_1
          clear hi102_1 hl102_1
          have HR102_2 := Aside0.mk hi102_2
          have HC102_2 := Aside0.mk hl102_2
          clear hi102_2 hl102_2
          replace p102 := eq_true p102
          replace q102 := eq_true q102
          try go_wp2_with (first | ((with_reducible refine gate_dst (N := 4) rfl ?_); (try (refine gate_guard (by rfl) ?_; dsimp only)); refine box_event ?hg (N := 4) ?hd (cs := #[.int .i64 0, .slice none 0 0, .slice none 0 0]) (t := 99) ?hr ?_; (case hd => rfl); (case hg => rfl); (case hr => first | (go_simp; done) | (go_simp; rfl)); intro gb103 hg w33 hbox hb; have BK103 := Aside0.mk (hbox); have GW103 := gw_ hg; have GE103 := gw_ hg; have NB101_103 := nlt_ hg BK101; have NB103_101 := ngt_ hg BK101; replace BK101 := bb_ BK101 hb; replace HB := bs_ hb; clear hb hbox hg; have hnb34 := NB103_101.out; have hnc34 := NB101_103.out; obtain ⟨hcz35_0, hcz35_1, hcz35_2, hfz35_0, hfz35_1, hfz35_2⟩ := blk3 BK103))
          have n0_ : Aside0 ((((w33.setCell ⟨gb103, 0, none⟩ (.int .i64 ((rd_T99 l0_0 x3_1).f0))).setCell ⟨gb103, 1, none⟩ (.slice A102_1 ((rd_T99 l0_0 x3_1).f1).length c102_1)).setCell ⟨gb103, 2, none⟩ (.slice A102_2 ((rd_T99 l0_0 x3_1).f2).length c102_2)).heap[gb101]? = some (.cells #[.slice (some ad102) l0_0.length c0_0, .slice A0_1 l0_1.length c0_1, .int .i64 a0_2, .int .i64 a0_3] 31 (0, 0))) := ⟨by refine pe_ ?_; refine blk_far ?_ NB101_103.out _; refine pe_ ?_; refine blk_far ?_ NB101_103.out _; refine pe_ ?_; refine blk_far ?_ NB101_103.out _; refine pe_ ?_; exact BK101.out⟩
          have n1_ : Aside0 ((((w33.setCell ⟨gb103, 0, none⟩ (.int .i64 ((rd_T99 l0_0 x3_1).f0))).setCell ⟨gb103, 1, none⟩ (.slice A102_1 ((rd_T99 l0_0 x3_1).f1).length c102_1)).setCell ⟨gb103, 2, none⟩ (.slice A102_2 ((rd_T99 l0_0 x3_1).f2).length c102_2)).heap[gb103]? = some (.cells #[.int .i64 ((rd_T99 l0_0 x3_1).f0), .slice A102_1 ((rd_T99 l0_0 x3_1).f1).length c102_1, .slice A102_2 ((rd_T99 l0_0 x3_1).f2).length c102_2] 99 (0, 0))) := ⟨by refine pe_ ?_; refine blk_put (cs := #[.int .i64 ((rd_T99 l0_0 x3_1).f0), .slice A102_1 ((rd_T99 l0_0 x3_1).f1).length c102_1, .slice none 0 0]) ?_ 2 _ rfl; refine pe_ ?_; refine blk_put (cs := #[.int .i64 ((rd_T99 l0_0 x3_1).f0), .slice none 0 0, .slice none 0 0]) ?_ 1 _ rfl; refine pe_ ?_; refine blk_put (cs := #[.int .i64 0, .slice none 0 0, .slice none 0 0]) ?_ 0 _ rfl; refine pe_ ?_; exact BK103.out⟩
          have n2_ : Aside0 (Below w.heap.size w (((w33.setCell ⟨gb103, 0, none⟩ (.int .i64 ((rd_T99 l0_0 x3_1).f0))).setCell ⟨gb103, 1, none⟩ (.slice A102_1 ((rd_T99 l0_0 x3_1).f1).length c102_1)).setCell ⟨gb103, 2, none⟩ (.slice A102_2 ((rd_T99 l0_0 x3_1).f2).length c102_2))) := ⟨bel_⟩
          (try clear BK101)
          (try clear BK103)
          (try clear HB)
          generalize (((w33.setCell ⟨gb103, 0, none⟩ (.int .i64 ((rd_T99 l0_0 x3_1).f0))).setCell ⟨gb103, 1, none⟩ (.slice A102_1 ((rd_T99 l0_0 x3_1).f1).length c102_1)).setCell ⟨gb103, 2, none⟩ (.slice A102_2 ((rd_T99 l0_0 x3_1).f2).length c102_2)) = w36 at n0_ n1_ n2_ ⊢
          have BK101 := n0_
          have BK103 := n1_
          have HB := n2_
          clear n0_ n1_ n2_
          replace BK101 := Aside0.mk (blk_drew BK101.out)
          replace BK103 := Aside0.mk (blk_drew BK103.out)
          replace HB := Aside0.mk (below_drew1 HB.out)
          refine start_ (n := 35) (S := fun w' => w'.cell? ⟨gb103, 0, none⟩ = some (.int .i64 ((rd_T99 l0_0 x3_1).f0)) ∧ w'.cell? ⟨gb103, 1, none⟩ = some (.slice A102_1 ((rd_T99 l0_0 x3_1).f1).length c102_1) ∧ w'.cell? ⟨gb103, 2, none⟩ = some (.slice A102_2 ((rd_T99 l0_0 x3_1).f2).length c102_2) ∧ w'.cell? ⟨gb101, 0, none⟩ = some (.slice (some ad102) l0_0.length c0_0) ∧ w'.cell? ⟨gb101, 1, none⟩ = some (.slice A0_1 l0_1.length c0_1) ∧ w'.cell? ⟨gb101, 2, none⟩ = some (.int .i64 a0_2) ∧ w'.cell? ⟨gb101, 3, none⟩ = some (.int .i64 a0_3)) (ds := []) #[false, false, false, false, false, false, false, false, false, false, false, false, false, false, false, false, false, false, false, false, false, false, false, false, false, false, false, false, false, false, false, false, false, false, false] (by kernel_rfl) rfl rfl ⟨(blkc BK103 0), (blkc BK103 1), (blkc BK103 2), (blkc BK101 0), (blkc BK101 1), (blkc BK101 2), (blkc BK101 3)⟩ (fun hHeld => ?_); refine with_tabW spec_GraphOk.tab5 spec_GraphOk.bits5 (fun HT_ HW_ => ?_)
          generalize w36.drew = w37 at BK101 BK103 HB hHeld ⊢
          refine puA 0 (some 19) ?_
          refine puA 2 (some 21) ?_
          refine taA 1 (some 20) ?_
          refine taA 3 (some 22) ?_
          refine puA 4 (some 23) ?_
          refine one_ (i := 5) (N := some 24) #[true, true, true, true, true, true, false, false, false, false, false, false, false, false, false, false, false, false, false, false, false, false, false, false, false, false, false, false, false, false, false, false, false, false, false] rfl rfl (one_of HT_.out (by kernel_rfl)) (by decide) (fun K hK => ?_)
          refine goes_ Try.func69 (by kernel_rfl) rfl #[.int .i64 ((rd_T99 l0_0 x3_1).f0), .int .i64 0, .int .i64 (wrap64 (a0_2 - 1))] (by rfl) rfl rfl ar_ ?_
          with_reducible refine (spec_l1In.calls ((rd_T99 l0_0 x3_1).f0) 0 (wrap64 (a0_2 - 1)) _ _ A5.out).mono ?_
          rintro e w' ⟨rfl, ⟨nd, rfl⟩⟩
          refine ⟨_, rfl, ?_⟩
          refine hK.out _ _ ⟨(blkc BK103 0), (blkc BK103 1), (blkc BK103 2), (blkc BK101 0), (blkc BK101 1), (blkc BK101 2), (blkc BK101 3)⟩ (fun hHeld => ?_)
          clear hK K
          refine norm_ (a' := ?_) ?_ ?_
          rotate_left
          · show Act.put _ (some 24) _ = _
            simp only [Act.put, List.setIfInBounds_toArray, List.set_cons_zero, List.set_cons_succ, i64_w, i32_w]
            rfl
          refine puA 6 (some 25) ?_
          refine puA 7 (some 26) ?_
        rotate_left 3
        · refine puX 8 (some 27) ?_
          refine puX 9 (some 28) ?_
          refine puX 10 (some 29) ?_
          refine puX 11 (some 30) ?_
          refine puA 12 (some 31) ?_
          refine puA 13 (some 32) ?_
          refine puX 14 (some 33) ?_
          refine puX 15 (some 34) ?_
          refine puX 16 (some 35) ?_
          refine puX 17 (some 36) ?_
          refine puA 18 (some 37) ?_
          refine puA 19 (some 38) ?_
          refine puX 20 (some 39) ?_
          refine puX 21 (some 40) ?_
          refine puX 22 (some 41) ?_
          refine puX 23 (some 42) ?_
          refine puX 24 (some 43) ?_
          refine puX 25 (some 44) ?_
          refine puX 26 (some 45) ?_
          refine puX 27 (some 46) ?_
          refine puX 28 (some 47) ?_
          refine puX 29 (some 48) ?_
          refine puX 30 (some 49) ?_
          refine puX 31 (some 50) ?_
          refine puX 32 (some 51) ?_
          refine puX 33 (some 52) ?_
          refine puA 34 (some 53) ?_
          refine done_ (done_of HT_.out (by kernel_rfl)) ?_
          try go_wp2
          go_ret
          exact re_
        all_goals
          refine puA 8 (some 27) ?_
          refine taA 9 (some 28) ?_
          refine one_ (i := 10) (N := some 29) #[true, true, true, true, true, true, true, true, true, true, true, false, false, false, false, false, false, false, false, false, false, false, false, false, false, false, false, false, false, false, false, false, false, false, false] rfl rfl (one_of HT_.out (by kernel_rfl)) (by decide) (fun K hK => ?_)
          refine goes_ Try.func70 (by kernel_rfl) rfl #[.slice A102_1 ((rd_T99 l0_0 x3_1).f1).length c102_1] (by rfl) rfl rfl ar_ ?_
          with_reducible refine (spec_l2Labels.calls k1 _ _ ((rd_T99 l0_0 x3_1).f1) _ _ ?side1 ?side2 A7.out).mono ?_
          (case side1 => repeat (first | exact (Kd.C_below HR102_1.out (bel_)) | (with_reducible refine Kd.C_alloc ?_ _) | (with_reducible refine Kd.C_drewN ?_ _) | (with_reducible refine Kd.C_drew ?_)))
          (case side2 => exact HC102_1.out)
          rintro e w38 ⟨rfl, hb⟩
          refine ⟨_, rfl, ?_⟩
          replace BK101 := bb_ BK101 hb
          replace BK103 := bb_ BK103 hb
          replace HB := bs_ hb
          (try clear hb)
          (try clear hb2)
          (try clear hk)
          (try clear hi)
          refine hK.out _ _ ⟨(blkc BK103 0), (blkc BK103 1), (blkc BK103 2), (blkc BK101 0), (blkc BK101 1), (blkc BK101 2), (blkc BK101 3)⟩ (fun hHeld => ?_)
          clear hK K
          refine norm_ (a' := ?_) ?_ ?_
          rotate_left
          · show Act.put _ (some 29) _ = _
            simp only [Act.put, List.setIfInBounds_toArray, List.set_cons_zero, List.set_cons_succ, i64_w, i32_w]
            rfl
          refine puA 11 (some 30) ?_
          refine puA 12 (some 31) ?_
          refine puA 13 (some 32) ?_
        rotate_left 2
        · refine puX 14 (some 33) ?_
          refine puX 15 (some 34) ?_
          refine puX 16 (some 35) ?_
          refine puX 17 (some 36) ?_
          refine puA 18 (some 37) ?_
          refine puA 19 (some 38) ?_
          refine puX 20 (some 39) ?_
          refine puX 21 (some 40) ?_
          refine puX 22 (some 41) ?_
          refine puX 23 (some 42) ?_
          refine puX 24 (some 43) ?_
          refine puX 25 (some 44) ?_
          refine puX 26 (some 45) ?_
          refine puX 27 (some 46) ?_
          refine puX 28 (some 47) ?_
          refine puX 29 (some 48) ?_
          refine puX 30 (some 49) ?_
          refine puX 31 (some 50) ?_
          refine puX 32 (some 51) ?_
          refine puX 33 (some 52) ?_
          refine puA 34 (some 53) ?_
          refine done_ (done_of HT_.out (by kernel_rfl)) ?_
          try go_wp2
          go_ret
          exact re_
        all_goals
          refine puA 14 (some 33) ?_
          refine taA 15 (some 34) ?_
          refine one_ (i := 16) (N := some 35) #[true, true, true, true, true, true, true, true, true, true, true, true, true, true, true, true, true, false, false, false, false, false, false, false, false, false, false, false, false, false, false, false, false, false, false] rfl rfl (one_of HT_.out (by kernel_rfl)) (by decide) (fun K hK => ?_)
          refine goes_ Try.func71 (by kernel_rfl) rfl #[.slice A102_2 ((rd_T99 l0_0 x3_1).f2).length c102_2] (by rfl) rfl rfl ar_ ?_
          with_reducible refine (spec_l2Props.calls k1 _ _ ((rd_T99 l0_0 x3_1).f2) _ _ ?side1 ?side2 A9.out).mono ?_
          (case side1 => exact rdb_ HR102_2)
          (case side2 => exact HC102_2.out)
          rintro e w39 ⟨rfl, hb⟩
          refine ⟨_, rfl, ?_⟩
          replace BK101 := bb_ BK101 hb
          replace BK103 := bb_ BK103 hb
          replace HB := bs_ hb
          (try clear hb)
          (try clear hb2)
          (try clear hk)
          (try clear hi)
          refine hK.out _ _ ⟨(blkc BK103 0), (blkc BK103 1), (blkc BK103 2), (blkc BK101 0), (blkc BK101 1), (blkc BK101 2), (blkc BK101 3)⟩ (fun hHeld => ?_)
          clear hK K
          refine norm_ (a' := ?_) ?_ ?_
          rotate_left
          · show Act.put _ (some 35) _ = _
            simp only [Act.put, List.setIfInBounds_toArray, List.set_cons_zero, List.set_cons_succ, i64_w, i32_w]
            rfl
          refine puA 17 (some 36) ?_
          refine puA 18 (some 37) ?_
          refine puA 19 (some 38) ?_
        rotate_left
        · refine puX 20 (some 39) ?_
          refine puX 21 (some 40) ?_
          refine puX 22 (some 41) ?_
          refine puX 23 (some 42) ?_
          refine puX 24 (some 43) ?_
          refine puX 25 (some 44) ?_
          refine puX 26 (some 45) ?_
          refine puX 27 (some 46) ?_
          refine puX 28 (some 47) ?_
          refine puX 29 (some 48) ?_
          refine puX 30 (some 49) ?_
          refine puX 31 (some 50) ?_
          refine puX 32 (some 51) ?_
          refine puX 33 (some 52) ?_
          refine puA 34 (some 53) ?_
          refine done_ (done_of HT_.out (by kernel_rfl)) ?_
          try go_wp2
          go_ret
          exact re_
        refine puA 20 (some 39) ?_
        refine puA 21 (some 40) ?_
        refine puA 22 (some 41) ?_
        refine puX 23 (some 42) ?_
        refine puX 24 (some 43) ?_
        refine puX 25 (some 44) ?_
        refine puX 26 (some 45) ?_
        refine puX 27 (some 46) ?_
        refine puX 28 (some 47) ?_
        refine puX 29 (some 48) ?_
        refine puX 30 (some 49) ?_
        refine puX 31 (some 50) ?_
        refine puX 32 (some 51) ?_
        refine puA 33 (some 52) ?_
        refine puA 34 (some 53) ?_
        refine done_ (done_of HT_.out (by kernel_rfl)) ?_
        try go_wp2
        go_roundg k1
        case measure => have := HK1.out; omega
        case rel => exact ⟨(wrap64 (x3_1 + 1)), sm_, H', ⟨by have := HK1.out; omega⟩, ⟨by refine pe_ ?_; exact BK101.out⟩, ⟨bel_⟩⟩
      rw [if_neg c3] at H
      have c3b0 : decide (x3_1 < (l0_0.length : Int)) = false := decide_eq_false c3
      clear c3
      have H' := Aside0.mk H
      clear H
      obtain ⟨hcz61_0, hcz61_1, hcz61_2, hcz61_3, hfz61_0, hfz61_1, hfz61_2, hfz61_3⟩ := blk4 BK101
      go_wp2
      go_loopg [5] k1 (fun kq v5 w' => ∃ (x5_2 : Int), v5 = .int .i64 x5_2 ∧ Aside0 (spec_GraphOk.l1 kq x5_2 l0_0 l0_1 a0_2 a0_3 = some r) ∧ Aside0 (kq ≤ k1) ∧ Aside0 (w'.heap[gb101]? = some (.cells #[(.slice A0_0 l0_0.length c0_0), (.slice A0_1 l0_1.length c0_1), .int .i64 a0_2, .int .i64 a0_3] 31 (0, 0))) ∧ Aside0 (Below w.heap.size w w'))
      case atStart => exact ⟨(0), sm_, H', ⟨Nat.le_refl _⟩, ⟨by refine pe_ ?_; exact BK101.out⟩, ⟨bel_⟩⟩
      case round =>
        clear H'
        try clear c1
        try clear p1
        try clear q1
        try clear hx1
        try clear p2
        try clear c3
        try clear c3b0
        try clear c4
        try clear c5
        try clear c6
        try clear p6
        try clear c7
        try clear c8
        try clear c10
        try clear p10
        try clear q10
        try clear hx10
        try clear c50
        try clear c57
        try clear hcz48_0 hcz48_1 hcz48_2 hcz48_3
        try clear hcz51_0 hcz51_1 hcz51_2
        try clear hcz55_0 hcz55_1 hcz55_2 hcz55_3
        try clear hcz58_0 hcz58_1 hcz58_2
        try clear hcz61_0 hcz61_1 hcz61_2 hcz61_3
        try clear hfz48_0 hfz48_1 hfz48_2 hfz48_3
        try clear hfz51_0 hfz51_1 hfz51_2
        try clear hfz55_0 hfz55_1 hfz55_2 hfz55_3
        try clear hfz58_0 hfz58_1 hfz58_2
        try clear hfz61_0 hfz61_1 hfz61_2 hfz61_3
        try clear hx102_0
        try clear hx102_1
        try clear hx102_2
        try clear p102
        try clear q102
        obtain ⟨x5_2, rfl, HA, HK2, BK101, HB⟩ := hrel
        cases gk with
        | zero => exact absurd HA.out (by simp [spec_GraphOk.l1])
        | succ k2 =>
          have H := HA.out
          clear HA
          simp only [spec_GraphOk.l1] at H
          by_cases c62 : x5_2 < (l0_1.length : Int)
          rotate_left
          rw [if_neg c62] at H
          have c62b0 : decide (x5_2 < (l0_1.length : Int)) = false := decide_eq_false c62
          clear c62
          by_cases c149 : (l0_0.length : Int) ≤ 12
          rotate_left
          rw [if_neg c149] at H
          have c149b0 : decide ((l0_0.length : Int) ≤ 12) = false := decide_eq_false c149
          have c149b1 : decide (l0_0.length ≤ 12) = false := decide_eq_false (by omega)
          clear c149
          obtain rfl := Option.some.inj H
          rotate_right
          rw [if_pos c149] at H
          have c149b0 : decide ((l0_0.length : Int) ≤ 12) = true := decide_eq_true c149
          have c149b1 : decide (l0_0.length ≤ 12) = true := decide_eq_true (by omega)
          clear c149
          by_cases c150 : (l0_1.length : Int) ≤ 16
          rotate_left
          rw [if_neg c150] at H
          have c150b0 : decide ((l0_1.length : Int) ≤ 16) = false := decide_eq_false c150
          have c150b1 : decide (l0_1.length ≤ 16) = false := decide_eq_false (by omega)
          clear c150
          obtain rfl := Option.some.inj H
          rotate_right
          rw [if_pos c150] at H
          have c150b0 : decide ((l0_1.length : Int) ≤ 16) = true := decide_eq_true c150
          have c150b1 : decide (l0_1.length ≤ 16) = true := decide_eq_true (by omega)
          clear c150
          replace H := Option.bind_eq_some_iff.mp H
          obtain ⟨t108, A1510, H⟩ := H
          replace H : (if t108 = true then ((spec_l1In.f a0_3 0 1000000000).bind fun t109 => (some t109)) else (some false)) = some r := H
          have A151 := Aside0.mk A1510
          clear A1510
          by_cases c152 : t108 = true
          rotate_left
          replace c152 := Bool.eq_false_iff.mpr c152
          subst c152
          have H1 : (some false) = some r := by rw [if_neg (show ¬ (false = true) by decide)] at H; exact H
          clear H
          have H := H1
          clear H1
          obtain rfl := Option.some.inj H
          rotate_right
          subst c152
          have H1 : ((spec_l1In.f a0_3 0 1000000000).bind fun t109 => (some t109)) = some r := by rw [if_pos rfl] at H; exact H
          clear H
          have H := H1
          clear H1
          replace H := Option.bind_eq_some_iff.mp H
          obtain ⟨t109, A1530, H⟩ := H
          replace H : (some t109) = some r := H
          have A153 := Aside0.mk A1530
          clear A1530
          obtain rfl := Option.some.inj H
          rotate_right
          rw [if_pos c62] at H
          have c62b0 : decide (x5_2 < (l0_1.length : Int)) = true := decide_eq_true c62
          clear c62
          by_cases c63 : 0 ≤ x5_2
          rotate_left
          · rw [if_neg c63] at H
            exact absurd H (by simp)
          rotate_right
          rw [if_pos c63] at H
          have c63b0 : decide (0 ≤ x5_2) = true := decide_eq_true c63
          clear c63
          replace H := Option.bind_eq_some_iff.mp H
          obtain ⟨t112, A640, H⟩ := H
          replace H : (if t112 = true then ((spec_l2Name.f k2 ((rd_T104 l0_1 x5_2).f1)).bind fun t113 => (if t113 = true then ((spec_l2Props.f k2 ((rd_T104 l0_1 x5_2).f4)).bind fun t114 => (if t114 = true then ((spec_l2Node.f k2 l0_0 l0_1 a0_2 a0_3 ((rd_T104 l0_1 x5_2).f2)).bind fun t115 => (if t115 < 0 then (some false) else ((spec_l2Node.f k2 l0_0 l0_1 a0_2 a0_3 ((rd_T104 l0_1 x5_2).f3)).bind fun t116 => (if t116 < 0 then (some false) else (if x5_2 > 0 then (if 0 ≤ (wrap64 (x5_2 - 1)) then (if (wrap64 (x5_2 - 1)) < (l0_1.length : Int) then (if ((rd_T104 l0_1 (wrap64 (x5_2 - 1))).f0) ≥ ((rd_T104 l0_1 x5_2).f0) then (some false) else (spec_GraphOk.l1 k2 (wrap64 (x5_2 + 1)) l0_0 l0_1 a0_2 a0_3)) else (none)) else (none)) else (spec_GraphOk.l1 k2 (wrap64 (x5_2 + 1)) l0_0 l0_1 a0_2 a0_3)))))) else (some false))) else (some false))) else (some false)) = some r := H
          have A64 := Aside0.mk A640
          clear A640
          by_cases c65 : t112 = true
          rotate_left
          replace c65 := Bool.eq_false_iff.mpr c65
          subst c65
          have H1 : (some false) = some r := by rw [if_neg (show ¬ (false = true) by decide)] at H; exact H
          clear H
          have H := H1
          clear H1
          obtain rfl := Option.some.inj H
          rotate_right
          subst c65
          have H1 : ((spec_l2Name.f k2 ((rd_T104 l0_1 x5_2).f1)).bind fun t113 => (if t113 = true then ((spec_l2Props.f k2 ((rd_T104 l0_1 x5_2).f4)).bind fun t114 => (if t114 = true then ((spec_l2Node.f k2 l0_0 l0_1 a0_2 a0_3 ((rd_T104 l0_1 x5_2).f2)).bind fun t115 => (if t115 < 0 then (some false) else ((spec_l2Node.f k2 l0_0 l0_1 a0_2 a0_3 ((rd_T104 l0_1 x5_2).f3)).bind fun t116 => (if t116 < 0 then (some false) else (if x5_2 > 0 then (if 0 ≤ (wrap64 (x5_2 - 1)) then (if (wrap64 (x5_2 - 1)) < (l0_1.length : Int) then (if ((rd_T104 l0_1 (wrap64 (x5_2 - 1))).f0) ≥ ((rd_T104 l0_1 x5_2).f0) then (some false) else (spec_GraphOk.l1 k2 (wrap64 (x5_2 + 1)) l0_0 l0_1 a0_2 a0_3)) else (none)) else (none)) else (spec_GraphOk.l1 k2 (wrap64 (x5_2 + 1)) l0_0 l0_1 a0_2 a0_3)))))) else (some false))) else (some false))) = some r := by rw [if_pos rfl] at H; exact H
          clear H
          have H := H1
          clear H1
          replace H := Option.bind_eq_some_iff.mp H
          obtain ⟨t113, A660, H⟩ := H
          replace H : (if t113 = true then ((spec_l2Props.f k2 ((rd_T104 l0_1 x5_2).f4)).bind fun t114 => (if t114 = true then ((spec_l2Node.f k2 l0_0 l0_1 a0_2 a0_3 ((rd_T104 l0_1 x5_2).f2)).bind fun t115 => (if t115 < 0 then (some false) else ((spec_l2Node.f k2 l0_0 l0_1 a0_2 a0_3 ((rd_T104 l0_1 x5_2).f3)).bind fun t116 => (if t116 < 0 then (some false) else (if x5_2 > 0 then (if 0 ≤ (wrap64 (x5_2 - 1)) then (if (wrap64 (x5_2 - 1)) < (l0_1.length : Int) then (if ((rd_T104 l0_1 (wrap64 (x5_2 - 1))).f0) ≥ ((rd_T104 l0_1 x5_2).f0) then (some false) else (spec_GraphOk.l1 k2 (wrap64 (x5_2 + 1)) l0_0 l0_1 a0_2 a0_3)) else (none)) else (none)) else (spec_GraphOk.l1 k2 (wrap64 (x5_2 + 1)) l0_0 l0_1 a0_2 a0_3)))))) else (some false))) else (some false)) = some r := H
          have A66 := Aside0.mk A660
          clear A660
          by_cases c67 : t113 = true
          rotate_left
          replace c67 := Bool.eq_false_iff.mpr c67
          subst c67
          have H1 : (some false) = some r := by rw [if_neg (show ¬ (false = true) by decide)] at H; exact H
          clear H
          have H := H1
          clear H1
          obtain rfl := Option.some.inj H
          rotate_right
          subst c67
          have H1 : ((spec_l2Props.f k2 ((rd_T104 l0_1 x5_2).f4)).bind fun t114 => (if t114 = true then ((spec_l2Node.f k2 l0_0 l0_1 a0_2 a0_3 ((rd_T104 l0_1 x5_2).f2)).bind fun t115 => (if t115 < 0 then (some false) else ((spec_l2Node.f k2 l0_0 l0_1 a0_2 a0_3 ((rd_T104 l0_1 x5_2).f3)).bind fun t116 => (if t116 < 0 then (some false) else (if x5_2 > 0 then (if 0 ≤ (wrap64 (x5_2 - 1)) then (if (wrap64 (x5_2 - 1)) < (l0_1.length : Int) then (if ((rd_T104 l0_1 (wrap64 (x5_2 - 1))).f0) ≥ ((rd_T104 l0_1 x5_2).f0) then (some false) else (spec_GraphOk.l1 k2 (wrap64 (x5_2 + 1)) l0_0 l0_1 a0_2 a0_3)) else (none)) else (none)) else (spec_GraphOk.l1 k2 (wrap64 (x5_2 + 1)) l0_0 l0_1 a0_2 a0_3)))))) else (some false))) = some r := by rw [if_pos rfl] at H; exact H
          clear H
          have H := H1
          clear H1
          replace H := Option.bind_eq_some_iff.mp H
          obtain ⟨t114, A680, H⟩ := H
          replace H : (if t114 = true then ((spec_l2Node.f k2 l0_0 l0_1 a0_2 a0_3 ((rd_T104 l0_1 x5_2).f2)).bind fun t115 => (if t115 < 0 then (some false) else ((spec_l2Node.f k2 l0_0 l0_1 a0_2 a0_3 ((rd_T104 l0_1 x5_2).f3)).bind fun t116 => (if t116 < 0 then (some false) else (if x5_2 > 0 then (if 0 ≤ (wrap64 (x5_2 - 1)) then (if (wrap64 (x5_2 - 1)) < (l0_1.length : Int) then (if ((rd_T104 l0_1 (wrap64 (x5_2 - 1))).f0) ≥ ((rd_T104 l0_1 x5_2).f0) then (some false) else (spec_GraphOk.l1 k2 (wrap64 (x5_2 + 1)) l0_0 l0_1 a0_2 a0_3)) else (none)) else (none)) else (spec_GraphOk.l1 k2 (wrap64 (x5_2 + 1)) l0_0 l0_1 a0_2 a0_3)))))) else (some false)) = some r := H
          have A68 := Aside0.mk A680
          clear A680
          by_cases c69 : t114 = true
          rotate_left
          replace c69 := Bool.eq_false_iff.mpr c69
          subst c69
          have H1 : (some false) = some r := by rw [if_neg (show ¬ (false = true) by decide)] at H; exact H
          clear H
          have H := H1
          clear H1
          obtain rfl := Option.some.inj H
          rotate_right
          subst c69
          have H1 : ((spec_l2Node.f k2 l0_0 l0_1 a0_2 a0_3 ((rd_T104 l0_1 x5_2).f2)).bind fun t115 => (if t115 < 0 then (some false) else ((spec_l2Node.f k2 l0_0 l0_1 a0_2 a0_3 ((rd_T104 l0_1 x5_2).f3)).bind fun t116 => (if t116 < 0 then (some false) else (if x5_2 > 0 then (if 0 ≤ (wrap64 (x5_2 - 1)) then (if (wrap64 (x5_2 - 1)) < (l0_1.length : Int) then (if ((rd_T104 l0_1 (wrap64 (x5_2 - 1))).f0) ≥ ((rd_T104 l0_1 x5_2).f0) then (some false) else (spec_GraphOk.l1 k2 (wrap64 (x5_2 + 1)) l0_0 l0_1 a0_2 a0_3)) else (none)) else (none)) else (spec_GraphOk.l1 k2 (wrap64 (x5_2 + 1)) l0_0 l0_1 a0_2 a0_3)))))) = some r := by rw [if_pos rfl] at H; exact H
          clear H
          have H := H1
          clear H1
          replace H := Option.bind_eq_some_iff.mp H
          obtain ⟨t115, A700, H⟩ := H
          replace H : (if t115 < 0 then (some false) else ((spec_l2Node.f k2 l0_0 l0_1 a0_2 a0_3 ((rd_T104 l0_1 x5_2).f3)).bind fun t116 => (if t116 < 0 then (some false) else (if x5_2 > 0 then (if 0 ≤ (wrap64 (x5_2 - 1)) then (if (wrap64 (x5_2 - 1)) < (l0_1.length : Int) then (if ((rd_T104 l0_1 (wrap64 (x5_2 - 1))).f0) ≥ ((rd_T104 l0_1 x5_2).f0) then (some false) else (spec_GraphOk.l1 k2 (wrap64 (x5_2 + 1)) l0_0 l0_1 a0_2 a0_3)) else (none)) else (none)) else (spec_GraphOk.l1 k2 (wrap64 (x5_2 + 1)) l0_0 l0_1 a0_2 a0_3))))) = some r := H
          have A70 := Aside0.mk A700
          clear A700
          by_cases c71 : t115 < 0
          rotate_left
          rw [if_neg c71] at H
          have c71b0 : decide (t115 < 0) = false := decide_eq_false c71
          clear c71
          replace H := Option.bind_eq_some_iff.mp H
          obtain ⟨t116, A810, H⟩ := H
          replace H : (if t116 < 0 then (some false) else (if x5_2 > 0 then (if 0 ≤ (wrap64 (x5_2 - 1)) then (if (wrap64 (x5_2 - 1)) < (l0_1.length : Int) then (if ((rd_T104 l0_1 (wrap64 (x5_2 - 1))).f0) ≥ ((rd_T104 l0_1 x5_2).f0) then (some false) else (spec_GraphOk.l1 k2 (wrap64 (x5_2 + 1)) l0_0 l0_1 a0_2 a0_3)) else (none)) else (none)) else (spec_GraphOk.l1 k2 (wrap64 (x5_2 + 1)) l0_0 l0_1 a0_2 a0_3))) = some r := H
          have A81 := Aside0.mk A810
          clear A810
          by_cases c82 : t116 < 0
          rotate_left
          rw [if_neg c82] at H
          have c82b0 : decide (t116 < 0) = false := decide_eq_false c82
          clear c82
          by_cases c93 : x5_2 > 0
          · rw [if_pos c93] at H
            have c93b0 : decide (0 < x5_2) = true := decide_eq_true c93
            clear c93
            obtain ⟨ji94, hji94⟩ : ∃ j_ : Int, (wrap64 (x5_2 - 1)) = j_ := ⟨_, rfl⟩
            replace H : (if 0 ≤ (ji94) then (if (ji94) < (l0_1.length : Int) then (if ((rd_T104 l0_1 (ji94)).f0) ≥ ((rd_T104 l0_1 x5_2).f0) then (some false) else (spec_GraphOk.l1 k2 (wrap64 (x5_2 + 1)) l0_0 l0_1 a0_2 a0_3)) else (none)) else (none)) = some r := by first | (rw [hji94] at H; exact H) | (simp only [hji94] at H ⊢; exact H)
            (try rw [hji94] at A64)
            (try rw [hji94] at A66)
            (try rw [hji94] at A68)
            (try rw [hji94] at A70)
            (try rw [hji94] at A81)
            have hji94w : (IntKind.i64.wrap (x5_2 - 1)) = ji94 := (i64_w _).trans hji94
            by_cases c95 : 0 ≤ (ji94)
            rotate_left
            · rw [if_neg c95] at H
              exact absurd H (by simp)
            rotate_right
            rw [if_pos c95] at H
            have c95b0 : decide (0 ≤ (ji94)) = true := decide_eq_true c95
            clear c95
            by_cases c96 : (ji94) < (l0_1.length : Int)
            rotate_left
            · rw [if_neg c96] at H
              exact absurd H (by simp)
            rotate_right
            rw [if_pos c96] at H
            have c96b0 : decide ((ji94) < (l0_1.length : Int)) = true := decide_eq_true c96
            clear c96
            by_cases c97 : ((rd_T104 l0_1 (ji94)).f0) ≥ ((rd_T104 l0_1 x5_2).f0)
            rotate_left
            rw [if_neg c97] at H
            have c97b0 : decide (((rd_T104 l0_1 x5_2).f0) ≤ ((rd_T104 l0_1 (ji94)).f0)) = false := decide_eq_false c97
            clear c97
            have H' := Aside0.mk H
            clear H
            rotate_right
            rw [if_pos c97] at H
            have c97b0 : decide (((rd_T104 l0_1 x5_2).f0) ≤ ((rd_T104 l0_1 (ji94)).f0)) = true := decide_eq_true c97
            clear c97
            obtain rfl := Option.some.inj H
            all_goals
              obtain ⟨hcz108_0, hcz108_1, hcz108_2, hcz108_3, hfz108_0, hfz108_1, hfz108_2, hfz108_3⟩ := blk4 BK101
              have p110 : 0 ≤ (x5_2 : Int) := od_
              have q110 : x5_2 < (l0_1.length : Int) := od_
              obtain ⟨ad110, A110_4, c110_4, e110, hx110_0, hx110_1, hx110_2, hx110_3, hx110_4, hl110_4, hi110_4⟩ := at_T104 HR0_1.out x5_2 p110 q110
              cases e110
              replace hx110_0 := mv_ HB hx110_0
              replace hx110_1 := mv_ HB hx110_1
              replace hx110_2 := mv_ HB hx110_2
              replace hx110_3 := mv_ HB hx110_3
              replace hx110_4 := mv_ HB hx110_4
              have HR110_4 := Aside0.mk hi110_4
              have HC110_4 := Aside0.mk hl110_4
              clear hi110_4 hl110_4
              replace p110 := eq_true p110
              replace q110 := eq_true q110
              try go_wp2_with (first | ((with_reducible refine gate_dst (N := 6) rfl ?_); (try (refine gate_guard (by rfl) ?_; dsimp only)); refine box_event ?hg (N := 6) ?hd (cs := #[.int .i64 0, .string (⟨#[]⟩ : ByteArray), .int .i64 0, .int .i64 0, .slice none 0 0]) (t := 104) ?hr ?_; (case hd => rfl); (case hg => rfl); (case hr => first | (go_simp; done) | (go_simp; rfl)); intro gb111 hg w109 hbox hb; have BK111 := Aside0.mk (hbox); have GW111 := gw_ hg; have GE111 := gw_ hg; have NB101_111 := nlt_ hg BK101; have NB111_101 := ngt_ hg BK101; replace BK101 := bb_ BK101 hb; replace HB := bs_ hb; clear hb hbox hg; have hnb110 := NB111_101.out; have hnc110 := NB101_111.out; obtain ⟨hcz111_0, hcz111_1, hcz111_2, hcz111_3, hcz111_4, hfz111_0, hfz111_1, hfz111_2, hfz111_3, hfz111_4⟩ := blk5 BK111))
              have n0_ : Aside0 ((((((w109.setCell ⟨gb111, 0, none⟩ (.int .i64 ((rd_T104 l0_1 x5_2).f0))).setCell ⟨gb111, 1, none⟩ (.string ((rd_T104 l0_1 x5_2).f1))).setCell ⟨gb111, 2, none⟩ (.int .i64 ((rd_T104 l0_1 x5_2).f2))).setCell ⟨gb111, 3, none⟩ (.int .i64 ((rd_T104 l0_1 x5_2).f3))).setCell ⟨gb111, 4, none⟩ (.slice A110_4 ((rd_T104 l0_1 x5_2).f4).length c110_4)).heap[gb101]? = some (.cells #[.slice A0_0 l0_0.length c0_0, .slice (some ad110) l0_1.length c0_1, .int .i64 a0_2, .int .i64 a0_3] 31 (0, 0))) := ⟨by refine pe_ ?_; refine blk_far ?_ NB101_111.out _; refine pe_ ?_; refine blk_far ?_ NB101_111.out _; refine pe_ ?_; refine blk_far ?_ NB101_111.out _; refine pe_ ?_; refine blk_far ?_ NB101_111.out _; refine pe_ ?_; refine blk_far ?_ NB101_111.out _; refine pe_ ?_; exact BK101.out⟩
              have n1_ : Aside0 ((((((w109.setCell ⟨gb111, 0, none⟩ (.int .i64 ((rd_T104 l0_1 x5_2).f0))).setCell ⟨gb111, 1, none⟩ (.string ((rd_T104 l0_1 x5_2).f1))).setCell ⟨gb111, 2, none⟩ (.int .i64 ((rd_T104 l0_1 x5_2).f2))).setCell ⟨gb111, 3, none⟩ (.int .i64 ((rd_T104 l0_1 x5_2).f3))).setCell ⟨gb111, 4, none⟩ (.slice A110_4 ((rd_T104 l0_1 x5_2).f4).length c110_4)).heap[gb111]? = some (.cells #[.int .i64 ((rd_T104 l0_1 x5_2).f0), .string ((rd_T104 l0_1 x5_2).f1), .int .i64 ((rd_T104 l0_1 x5_2).f2), .int .i64 ((rd_T104 l0_1 x5_2).f3), .slice A110_4 ((rd_T104 l0_1 x5_2).f4).length c110_4] 104 (0, 0))) := ⟨by refine pe_ ?_; refine blk_put (cs := #[.int .i64 ((rd_T104 l0_1 x5_2).f0), .string ((rd_T104 l0_1 x5_2).f1), .int .i64 ((rd_T104 l0_1 x5_2).f2), .int .i64 ((rd_T104 l0_1 x5_2).f3), .slice none 0 0]) ?_ 4 _ rfl; refine pe_ ?_; refine blk_put (cs := #[.int .i64 ((rd_T104 l0_1 x5_2).f0), .string ((rd_T104 l0_1 x5_2).f1), .int .i64 ((rd_T104 l0_1 x5_2).f2), .int .i64 0, .slice none 0 0]) ?_ 3 _ rfl; refine pe_ ?_; refine blk_put (cs := #[.int .i64 ((rd_T104 l0_1 x5_2).f0), .string ((rd_T104 l0_1 x5_2).f1), .int .i64 0, .int .i64 0, .slice none 0 0]) ?_ 2 _ rfl; refine pe_ ?_; refine blk_put (cs := #[.int .i64 ((rd_T104 l0_1 x5_2).f0), .string (⟨#[]⟩ : ByteArray), .int .i64 0, .int .i64 0, .slice none 0 0]) ?_ 1 _ rfl; refine pe_ ?_; refine blk_put (cs := #[.int .i64 0, .string (⟨#[]⟩ : ByteArray), .int .i64 0, .int .i64 0, .slice none 0 0]) ?_ 0 _ rfl; refine pe_ ?_; exact BK111.out⟩
              have n2_ : Aside0 (Below w.heap.size w (((((w109.setCell ⟨gb111, 0, none⟩ (.int .i64 ((rd_T104 l0_1 x5_2).f0))).setCell ⟨gb111, 1, none⟩ (.string ((rd_T104 l0_1 x5_2).f1))).setCell ⟨gb111, 2, none⟩ (.int .i64 ((rd_T104 l0_1 x5_2).f2))).setCell ⟨gb111, 3, none⟩ (.int .i64 ((rd_T104 l0_1 x5_2).f3))).setCell ⟨gb111, 4, none⟩ (.slice A110_4 ((rd_T104 l0_1 x5_2).f4).length c110_4))) := ⟨bel_⟩
              (try clear BK101)
              (try clear BK111)
              (try clear HB)
              generalize (((((w109.setCell ⟨gb111, 0, none⟩ (.int .i64 ((rd_T104 l0_1 x5_2).f0))).setCell ⟨gb111, 1, none⟩ (.string ((rd_T104 l0_1 x5_2).f1))).setCell ⟨gb111, 2, none⟩ (.int .i64 ((rd_T104 l0_1 x5_2).f2))).setCell ⟨gb111, 3, none⟩ (.int .i64 ((rd_T104 l0_1 x5_2).f3))).setCell ⟨gb111, 4, none⟩ (.slice A110_4 ((rd_T104 l0_1 x5_2).f4).length c110_4)) = w112 at n0_ n1_ n2_ ⊢
              have BK101 := n0_
              have BK111 := n1_
              have HB := n2_
              clear n0_ n1_ n2_
              replace BK101 := Aside0.mk (blk_drew BK101.out)
              replace BK111 := Aside0.mk (blk_drew BK111.out)
              replace HB := Aside0.mk (below_drew1 HB.out)
              have p117 : 0 ≤ ((ji94) : Int) := od_
              have q117 : (ji94) < (l0_1.length : Int) := od_
              obtain ⟨ad117, A117_4, c117_4, e117, hx117_0, hx117_1, hx117_2, hx117_3, hx117_4, hl117_4, hi117_4⟩ := at_T104 HR0_1.out (ji94) p117 q117
              have hw117_4 := hx117_4
              have hw117_3 := hx117_3
              have hw117_2 := hx117_2
              have hw117_1 := hx117_1
              have hw117_0 := hx117_0
              obtain rfl : ad110 = ad117 := (by injection e117)
              replace hx117_0 := mv_ HB hx117_0
              replace hx117_1 := mv_ HB hx117_1
              replace hx117_2 := mv_ HB hx117_2
              replace hx117_3 := mv_ HB hx117_3
              replace hx117_4 := mv_ HB hx117_4
              have HR117_4 := Aside0.mk hi117_4
              have HC117_4 := Aside0.mk hl117_4
              clear hi117_4 hl117_4
              replace p117 := eq_true p117
              replace q117 := eq_true q117
              refine start_ (n := 49) (S := fun w' => w'.cell? ⟨gb111, 0, none⟩ = some (.int .i64 ((rd_T104 l0_1 x5_2).f0)) ∧ w'.cell? ⟨gb111, 1, none⟩ = some (.string ((rd_T104 l0_1 x5_2).f1)) ∧ w'.cell? ⟨gb111, 2, none⟩ = some (.int .i64 ((rd_T104 l0_1 x5_2).f2)) ∧ w'.cell? ⟨gb111, 3, none⟩ = some (.int .i64 ((rd_T104 l0_1 x5_2).f3)) ∧ w'.cell? ⟨gb111, 4, none⟩ = some (.slice A110_4 ((rd_T104 l0_1 x5_2).f4).length c110_4) ∧ w'.cell? ⟨gb101, 0, none⟩ = some (.slice A0_0 l0_0.length c0_0) ∧ w'.cell? ⟨gb101, 1, none⟩ = some (.slice (some ad110) l0_1.length c0_1) ∧ w'.cell? ⟨gb101, 2, none⟩ = some (.int .i64 a0_2) ∧ w'.cell? ⟨gb101, 3, none⟩ = some (.int .i64 a0_3) ∧ w'.cell? (ad110.add (((ji94)).toNat * 5)) = some (.int .i64 ((rd_T104 l0_1 (ji94)).f0)) ∧ w'.cell? ⟨(ad110.add (((ji94)).toNat * 5)).block, (ad110.add (((ji94)).toNat * 5)).off + 1, none⟩ = some (.string ((rd_T104 l0_1 (ji94)).f1)) ∧ w'.cell? ⟨(ad110.add (((ji94)).toNat * 5)).block, (ad110.add (((ji94)).toNat * 5)).off + 2, none⟩ = some (.int .i64 ((rd_T104 l0_1 (ji94)).f2)) ∧ w'.cell? ⟨(ad110.add (((ji94)).toNat * 5)).block, (ad110.add (((ji94)).toNat * 5)).off + 3, none⟩ = some (.int .i64 ((rd_T104 l0_1 (ji94)).f3)) ∧ w'.cell? ⟨(ad110.add (((ji94)).toNat * 5)).block, (ad110.add (((ji94)).toNat * 5)).off + 4, none⟩ = some (.slice A117_4 ((rd_T104 l0_1 (ji94)).f4).length c117_4)) (ds := []) #[false, false, false, false, false, false, false, false, false, false, false, false, false, false, false, false, false, false, false, false, false, false, false, false, false, false, false, false, false, false, false, false, false, false, false, false, false, false, false, false, false, false, false, false, false, false, false, false, false] (by kernel_rfl) rfl rfl ⟨(blkc BK111 0), (blkc BK111 1), (blkc BK111 2), (blkc BK111 3), (blkc BK111 4), (blkc BK101 0), (blkc BK101 1), (blkc BK101 2), (blkc BK101 3), (mv_ HB hw117_0 :), (mv_ HB hw117_1 :), (mv_ HB hw117_2 :), (mv_ HB hw117_3 :), (mv_ HB hw117_4 :)⟩ (fun hHeld => ?_); refine with_tabW spec_GraphOk.tab11 spec_GraphOk.bits11 (fun HT_ HW_ => ?_)
              generalize w112.drew = w113 at BK101 BK111 HB HR117_4 hx117_0 hx117_1 hx117_2 hx117_3 hx117_4 hHeld ⊢
              refine puA 0 (some 66) ?_
              refine puA 2 (some 68) ?_
              refine taA 1 (some 67) ?_
              refine taA 3 (some 69) ?_
              refine puA 4 (some 70) ?_
              refine one_ (i := 5) (N := some 71) #[true, true, true, true, true, true, false, false, false, false, false, false, false, false, false, false, false, false, false, false, false, false, false, false, false, false, false, false, false, false, false, false, false, false, false, false, false, false, false, false, false, false, false, false, false, false, false, false, false] rfl rfl (one_of HT_.out (by kernel_rfl)) (by decide) (fun K hK => ?_)
              refine goes_ Try.func69 (by kernel_rfl) rfl #[.int .i64 ((rd_T104 l0_1 x5_2).f0), .int .i64 0, .int .i64 (wrap64 (a0_3 - 1))] (by rfl) rfl rfl ar_ ?_
              with_reducible refine (spec_l1In.calls ((rd_T104 l0_1 x5_2).f0) 0 (wrap64 (a0_3 - 1)) true _ A64.out).mono ?_
              rintro e w' ⟨rfl, ⟨nd, rfl⟩⟩
              refine ⟨_, rfl, ?_⟩
              refine hK.out _ _ ⟨(blkc BK111 0), (blkc BK111 1), (blkc BK111 2), (blkc BK111 3), (blkc BK111 4), (blkc BK101 0), (blkc BK101 1), (blkc BK101 2), (blkc BK101 3), (mv_ HB hw117_0 :), (mv_ HB hw117_1 :), (mv_ HB hw117_2 :), (mv_ HB hw117_3 :), (mv_ HB hw117_4 :)⟩ (fun hHeld => ?_)
              clear hK K
              refine norm_ (a' := ?_) ?_ ?_
              rotate_left
              · show Act.put _ (some 71) _ = _
                simp only [Act.put, List.setIfInBounds_toArray, List.set_cons_zero, List.set_cons_succ, i64_w, i32_w]
                rfl
              refine puA 6 (some 72) ?_
              refine puA 7 (some 73) ?_
              refine puA 8 (some 74) ?_
              refine taA 9 (some 75) ?_
              refine one_ (i := 10) (N := some 76) #[true, true, true, true, true, true, true, true, true, true, true, false, false, false, false, false, false, false, false, false, false, false, false, false, false, false, false, false, false, false, false, false, false, false, false, false, false, false, false, false, false, false, false, false, false, false, false, false, false] rfl rfl (one_of HT_.out (by kernel_rfl)) (by decide) (fun K hK => ?_)
              refine goes_ Try.func72 (by kernel_rfl) rfl #[.string ((rd_T104 l0_1 x5_2).f1)] (by rfl) rfl rfl ar_ ?_
              with_reducible refine (spec_l2Name.calls k2 ((rd_T104 l0_1 x5_2).f1) true _ A66.out).mono ?_
              rintro e w114 ⟨rfl, hb⟩
              refine ⟨_, rfl, ?_⟩
              replace BK101 := bb_ BK101 hb
              replace BK111 := bb_ BK111 hb
              replace HB := bs_ hb
              (try clear hb)
              (try clear hb2)
              (try clear hk)
              (try clear hi)
              refine hK.out _ _ ⟨(blkc BK111 0), (blkc BK111 1), (blkc BK111 2), (blkc BK111 3), (blkc BK111 4), (blkc BK101 0), (blkc BK101 1), (blkc BK101 2), (blkc BK101 3), (mv_ HB hw117_0 :), (mv_ HB hw117_1 :), (mv_ HB hw117_2 :), (mv_ HB hw117_3 :), (mv_ HB hw117_4 :)⟩ (fun hHeld => ?_)
              clear hK K
              refine norm_ (a' := ?_) ?_ ?_
              rotate_left
              · show Act.put _ (some 76) _ = _
                simp only [Act.put, List.setIfInBounds_toArray, List.set_cons_zero, List.set_cons_succ, i64_w, i32_w]
                rfl
              refine puA 11 (some 77) ?_
              refine puA 12 (some 78) ?_
              refine puA 13 (some 79) ?_
              refine puA 14 (some 80) ?_
              refine taA 15 (some 81) ?_
              refine one_ (i := 16) (N := some 82) #[true, true, true, true, true, true, true, true, true, true, true, true, true, true, true, true, true, false, false, false, false, false, false, false, false, false, false, false, false, false, false, false, false, false, false, false, false, false, false, false, false, false, false, false, false, false, false, false, false] rfl rfl (one_of HT_.out (by kernel_rfl)) (by decide) (fun K hK => ?_)
              refine goes_ Try.func71 (by kernel_rfl) rfl #[.slice A110_4 ((rd_T104 l0_1 x5_2).f4).length c110_4] (by rfl) rfl rfl ar_ ?_
              with_reducible refine (spec_l2Props.calls k2 _ _ ((rd_T104 l0_1 x5_2).f4) true _ ?side1 ?side2 A68.out).mono ?_
              (case side1 => exact rdb_ HR110_4)
              (case side2 => exact HC110_4.out)
              rintro e w115 ⟨rfl, hb⟩
              refine ⟨_, rfl, ?_⟩
              replace BK101 := bb_ BK101 hb
              replace BK111 := bb_ BK111 hb
              replace HB := bs_ hb
              (try clear hb)
              (try clear hb2)
              (try clear hk)
              (try clear hi)
              refine hK.out _ _ ⟨(blkc BK111 0), (blkc BK111 1), (blkc BK111 2), (blkc BK111 3), (blkc BK111 4), (blkc BK101 0), (blkc BK101 1), (blkc BK101 2), (blkc BK101 3), (mv_ HB hw117_0 :), (mv_ HB hw117_1 :), (mv_ HB hw117_2 :), (mv_ HB hw117_3 :), (mv_ HB hw117_4 :)⟩ (fun hHeld => ?_)
              clear hK K
              refine norm_ (a' := ?_) ?_ ?_
              rotate_left
              · show Act.put _ (some 82) _ = _
                simp only [Act.put, List.setIfInBounds_toArray, List.set_cons_zero, List.set_cons_succ, i64_w, i32_w]
                rfl
              refine puA 17 (some 83) ?_
              refine puA 18 (some 84) ?_
              refine puA 19 (some 85) ?_
              refine puA 21 (some 87) ?_
              refine taA 20 (some 86) ?_
              refine taA 22 (some 88) ?_
              refine one_ (i := 23) (N := some 89) #[true, true, true, true, true, true, true, true, true, true, true, true, true, true, true, true, true, true, true, true, true, true, true, true, false, false, false, false, false, false, false, false, false, false, false, false, false, false, false, false, false, false, false, false, false, false, false, false, false] rfl rfl (one_of HT_.out (by kernel_rfl)) (by decide) (fun K hK => ?_)
              refine goes_ Try.func73 (by kernel_rfl) rfl #[.agg #[.slice A0_0 l0_0.length c0_0, .slice (some ad110) l0_1.length c0_1, .int .i64 a0_2, .int .i64 a0_3], .int .i64 ((rd_T104 l0_1 x5_2).f2)] (by rfl) rfl rfl ar_ ?_
              with_reducible refine (spec_l2Node.calls k2 _ _ l0_0 _ _ l0_1 a0_2 a0_3 ((rd_T104 l0_1 x5_2).f2) t115 _ ?side1 ?side2 ?side3 ?side4 A70.out).mono ?_
              (case side1 => exact rdb_ HR0_0)
              (case side2 => exact HC0_0.out)
              (case side3 => exact rdb_ HR0_1)
              (case side4 => exact HC0_1.out)
              rintro e w116 ⟨rfl, hb⟩
              refine ⟨_, rfl, ?_⟩
              replace BK101 := bb_ BK101 hb
              replace BK111 := bb_ BK111 hb
              replace HB := bs_ hb
              (try clear hb)
              (try clear hb2)
              (try clear hk)
              (try clear hi)
              refine hK.out _ _ ⟨(blkc BK111 0), (blkc BK111 1), (blkc BK111 2), (blkc BK111 3), (blkc BK111 4), (blkc BK101 0), (blkc BK101 1), (blkc BK101 2), (blkc BK101 3), (mv_ HB hw117_0 :), (mv_ HB hw117_1 :), (mv_ HB hw117_2 :), (mv_ HB hw117_3 :), (mv_ HB hw117_4 :)⟩ (fun hHeld => ?_)
              clear hK K
              refine norm_ (a' := ?_) ?_ ?_
              rotate_left
              · show Act.put _ (some 89) _ = _
                simp only [Act.put, List.setIfInBounds_toArray, List.set_cons_zero, List.set_cons_succ, i64_w, i32_w]
                rfl
              refine puA 24 (some 90) ?_
              refine puA 25 (some 91) ?_
              refine puA 26 (some 92) ?_
              refine puA 28 (some 94) ?_
              refine taA 27 (some 93) ?_
              refine taA 29 (some 95) ?_
              refine one_ (i := 30) (N := some 96) #[true, true, true, true, true, true, true, true, true, true, true, true, true, true, true, true, true, true, true, true, true, true, true, true, true, true, true, true, true, true, true, false, false, false, false, false, false, false, false, false, false, false, false, false, false, false, false, false, false] rfl rfl (one_of HT_.out (by kernel_rfl)) (by decide) (fun K hK => ?_)
              refine goes_ Try.func73 (by kernel_rfl) rfl #[.agg #[.slice A0_0 l0_0.length c0_0, .slice (some ad110) l0_1.length c0_1, .int .i64 a0_2, .int .i64 a0_3], .int .i64 ((rd_T104 l0_1 x5_2).f3)] (by rfl) rfl rfl ar_ ?_
              with_reducible refine (spec_l2Node.calls k2 _ _ l0_0 _ _ l0_1 a0_2 a0_3 ((rd_T104 l0_1 x5_2).f3) t116 _ ?side1 ?side2 ?side3 ?side4 A81.out).mono ?_
              (case side1 => exact rdb_ HR0_0)
              (case side2 => exact HC0_0.out)
              (case side3 => exact rdb_ HR0_1)
              (case side4 => exact HC0_1.out)
              rintro e w117 ⟨rfl, hb⟩
              refine ⟨_, rfl, ?_⟩
              replace BK101 := bb_ BK101 hb
              replace BK111 := bb_ BK111 hb
              replace HB := bs_ hb
              (try clear hb)
              (try clear hb2)
              (try clear hk)
              (try clear hi)
              refine hK.out _ _ ⟨(blkc BK111 0), (blkc BK111 1), (blkc BK111 2), (blkc BK111 3), (blkc BK111 4), (blkc BK101 0), (blkc BK101 1), (blkc BK101 2), (blkc BK101 3), (mv_ HB hw117_0 :), (mv_ HB hw117_1 :), (mv_ HB hw117_2 :), (mv_ HB hw117_3 :), (mv_ HB hw117_4 :)⟩ (fun hHeld => ?_)
              clear hK K
              refine norm_ (a' := ?_) ?_ ?_
              rotate_left
              · show Act.put _ (some 96) _ = _
                simp only [Act.put, List.setIfInBounds_toArray, List.set_cons_zero, List.set_cons_succ, i64_w, i32_w]
                rfl
              refine puA 31 (some 97) ?_
              refine puA 32 (some 98) ?_
              refine puA 33 (some 99) ?_
              refine puA 34 (some 100) ?_
              refine puA 35 (some 101) ?_
              refine puA 36 (some 102) ?_
              refine puA 37 (some 103) ?_
              refine puA 39 (some 105) ?_
              refine puA 40 (some 106) ?_
              refine puA 44 (some 110) ?_
              refine taA 38 (some 104) ?_
              refine puA 41 (some 107) ?_
              refine puA 42 (some 108) ?_
              refine taA 43 (some 109) ?_
              refine taA 45 (some 111) ?_
              refine puA 46 (some 112) ?_
              refine puA 47 (some 113) ?_
              refine puA 48 (some 114) ?_
              refine done_ (done_of HT_.out (by kernel_rfl)) ?_
              try go_wp2
            · go_ret
              exact ⟨by first | rfl | (simp [errW_none, errW_some] <;> rfl) | (simp only [← hji94]; first | rfl | (simp [errW_none, errW_some] <;> rfl)) | (simp [*, errW_none, errW_some] <;> rfl), bel_⟩
            go_roundg k2
            case measure => have := HK1.out; have := HK2.out; omega
            case rel => exact ⟨(wrap64 (x5_2 + 1)), sm_, H', ⟨by have := HK1.out; have := HK2.out; omega⟩, ⟨by refine pe_ ?_; exact BK101.out⟩, ⟨bel_⟩⟩
          rw [if_neg c93] at H
          have c93b0 : decide (0 < x5_2) = false := decide_eq_false c93
          clear c93
          have H' := Aside0.mk H
          clear H
          rotate_right
          rw [if_pos c82] at H
          have c82b0 : decide (t116 < 0) = true := decide_eq_true c82
          clear c82
          obtain rfl := Option.some.inj H
          rotate_right
          rw [if_pos c71] at H
          have c71b0 : decide (t115 < 0) = true := decide_eq_true c71
          clear c71
          obtain rfl := Option.some.inj H
          all_goals
            obtain ⟨hcz118_0, hcz118_1, hcz118_2, hcz118_3, hfz118_0, hfz118_1, hfz118_2, hfz118_3⟩ := blk4 BK101
          rotate_left 9
          · go_wp2
            go_ret
            exact re_
          rotate_left 8
          · go_wp2
            go_ret
            exact re_
          rotate_left 7
          · go_wp2_with (first | (go_at_call 69; (with_reducible refine (spec_l1In.calls a0_2 0 1000000000 false _ A151.out).mono ?_); rintro e w' ⟨rfl, ⟨nd, rfl⟩⟩))
            go_ret
            exact re_
          rotate_left 6
          · go_wp2_with (first | (go_at_call 69; (with_reducible refine (spec_l1In.calls a0_2 0 1000000000 true _ A151.out).mono ?_); rintro e w' ⟨rfl, ⟨nd, rfl⟩⟩) | (go_at_call 69; (with_reducible refine (spec_l1In.calls a0_3 0 1000000000 t109 _ A153.out).mono ?_); rintro e w' ⟨rfl, ⟨nd, rfl⟩⟩))
            go_ret
            exact re_
          all_goals
            have p110 : 0 ≤ (x5_2 : Int) := od_
            have q110 : x5_2 < (l0_1.length : Int) := od_
            obtain ⟨ad110, A110_4, c110_4, e110, hx110_0, hx110_1, hx110_2, hx110_3, hx110_4, hl110_4, hi110_4⟩ := at_T104 HR0_1.out x5_2 p110 q110
            cases e110
            replace hx110_0 := mv_ HB hx110_0
            replace hx110_1 := mv_ HB hx110_1
            replace hx110_2 := mv_ HB hx110_2
            replace hx110_3 := mv_ HB hx110_3
            replace hx110_4 := mv_ HB hx110_4
            have HR110_4 := Aside0.mk hi110_4
            have HC110_4 := Aside0.mk hl110_4
            clear hi110_4 hl110_4
            replace p110 := eq_true p110
            replace q110 := eq_true q110
            try go_wp2_with (first | ((with_reducible refine gate_dst (N := 6) rfl ?_); (try (refine gate_guard (by rfl) ?_; dsimp only)); refine box_event ?hg (N := 6) ?hd (cs := #[.int .i64 0, .string (⟨#[]⟩ : ByteArray), .int .i64 0, .int .i64 0, .slice none 0 0]) (t := 104) ?hr ?_; (case hd => rfl); (case hg => rfl); (case hr => first | (go_simp; done) | (go_simp; rfl)); intro gb111 hg w119 hbox hb; have BK111 := Aside0.mk (hbox); have GW111 := gw_ hg; have GE111 := gw_ hg; have NB101_111 := nlt_ hg BK101; have NB111_101 := ngt_ hg BK101; replace BK101 := bb_ BK101 hb; replace HB := bs_ hb; clear hb hbox hg; have hnb120 := NB111_101.out; have hnc120 := NB101_111.out; obtain ⟨hcz121_0, hcz121_1, hcz121_2, hcz121_3, hcz121_4, hfz121_0, hfz121_1, hfz121_2, hfz121_3, hfz121_4⟩ := blk5 BK111))
            have n0_ : Aside0 ((((((w119.setCell ⟨gb111, 0, none⟩ (.int .i64 ((rd_T104 l0_1 x5_2).f0))).setCell ⟨gb111, 1, none⟩ (.string ((rd_T104 l0_1 x5_2).f1))).setCell ⟨gb111, 2, none⟩ (.int .i64 ((rd_T104 l0_1 x5_2).f2))).setCell ⟨gb111, 3, none⟩ (.int .i64 ((rd_T104 l0_1 x5_2).f3))).setCell ⟨gb111, 4, none⟩ (.slice A110_4 ((rd_T104 l0_1 x5_2).f4).length c110_4)).heap[gb101]? = some (.cells #[.slice A0_0 l0_0.length c0_0, .slice (some ad110) l0_1.length c0_1, .int .i64 a0_2, .int .i64 a0_3] 31 (0, 0))) := ⟨by refine pe_ ?_; refine blk_far ?_ NB101_111.out _; refine pe_ ?_; refine blk_far ?_ NB101_111.out _; refine pe_ ?_; refine blk_far ?_ NB101_111.out _; refine pe_ ?_; refine blk_far ?_ NB101_111.out _; refine pe_ ?_; refine blk_far ?_ NB101_111.out _; refine pe_ ?_; exact BK101.out⟩
            have n1_ : Aside0 ((((((w119.setCell ⟨gb111, 0, none⟩ (.int .i64 ((rd_T104 l0_1 x5_2).f0))).setCell ⟨gb111, 1, none⟩ (.string ((rd_T104 l0_1 x5_2).f1))).setCell ⟨gb111, 2, none⟩ (.int .i64 ((rd_T104 l0_1 x5_2).f2))).setCell ⟨gb111, 3, none⟩ (.int .i64 ((rd_T104 l0_1 x5_2).f3))).setCell ⟨gb111, 4, none⟩ (.slice A110_4 ((rd_T104 l0_1 x5_2).f4).length c110_4)).heap[gb111]? = some (.cells #[.int .i64 ((rd_T104 l0_1 x5_2).f0), .string ((rd_T104 l0_1 x5_2).f1), .int .i64 ((rd_T104 l0_1 x5_2).f2), .int .i64 ((rd_T104 l0_1 x5_2).f3), .slice A110_4 ((rd_T104 l0_1 x5_2).f4).length c110_4] 104 (0, 0))) := ⟨by refine pe_ ?_; refine blk_put (cs := #[.int .i64 ((rd_T104 l0_1 x5_2).f0), .string ((rd_T104 l0_1 x5_2).f1), .int .i64 ((rd_T104 l0_1 x5_2).f2), .int .i64 ((rd_T104 l0_1 x5_2).f3), .slice none 0 0]) ?_ 4 _ rfl; refine pe_ ?_; refine blk_put (cs := #[.int .i64 ((rd_T104 l0_1 x5_2).f0), .string ((rd_T104 l0_1 x5_2).f1), .int .i64 ((rd_T104 l0_1 x5_2).f2), .int .i64 0, .slice none 0 0]) ?_ 3 _ rfl; refine pe_ ?_; refine blk_put (cs := #[.int .i64 ((rd_T104 l0_1 x5_2).f0), .string ((rd_T104 l0_1 x5_2).f1), .int .i64 0, .int .i64 0, .slice none 0 0]) ?_ 2 _ rfl; refine pe_ ?_; refine blk_put (cs := #[.int .i64 ((rd_T104 l0_1 x5_2).f0), .string (⟨#[]⟩ : ByteArray), .int .i64 0, .int .i64 0, .slice none 0 0]) ?_ 1 _ rfl; refine pe_ ?_; refine blk_put (cs := #[.int .i64 0, .string (⟨#[]⟩ : ByteArray), .int .i64 0, .int .i64 0, .slice none 0 0]) ?_ 0 _ rfl; refine pe_ ?_; exact BK111.out⟩
            have n2_ : Aside0 (Below w.heap.size w (((((w119.setCell ⟨gb111, 0, none⟩ (.int .i64 ((rd_T104 l0_1 x5_2).f0))).setCell ⟨gb111, 1, none⟩ (.string ((rd_T104 l0_1 x5_2).f1))).setCell ⟨gb111, 2, none⟩ (.int .i64 ((rd_T104 l0_1 x5_2).f2))).setCell ⟨gb111, 3, none⟩ (.int .i64 ((rd_T104 l0_1 x5_2).f3))).setCell ⟨gb111, 4, none⟩ (.slice A110_4 ((rd_T104 l0_1 x5_2).f4).length c110_4))) := ⟨bel_⟩
            (try clear BK101)
            (try clear BK111)
            (try clear HB)
            generalize (((((w119.setCell ⟨gb111, 0, none⟩ (.int .i64 ((rd_T104 l0_1 x5_2).f0))).setCell ⟨gb111, 1, none⟩ (.string ((rd_T104 l0_1 x5_2).f1))).setCell ⟨gb111, 2, none⟩ (.int .i64 ((rd_T104 l0_1 x5_2).f2))).setCell ⟨gb111, 3, none⟩ (.int .i64 ((rd_T104 l0_1 x5_2).f3))).setCell ⟨gb111, 4, none⟩ (.slice A110_4 ((rd_T104 l0_1 x5_2).f4).length c110_4)) = w122 at n0_ n1_ n2_ ⊢
            have BK101 := n0_
            have BK111 := n1_
            have HB := n2_
            clear n0_ n1_ n2_
            replace BK101 := Aside0.mk (blk_drew BK101.out)
            replace BK111 := Aside0.mk (blk_drew BK111.out)
            replace HB := Aside0.mk (below_drew1 HB.out)
            refine start_ (n := 49) (S := fun w' => w'.cell? ⟨gb111, 0, none⟩ = some (.int .i64 ((rd_T104 l0_1 x5_2).f0)) ∧ w'.cell? ⟨gb111, 1, none⟩ = some (.string ((rd_T104 l0_1 x5_2).f1)) ∧ w'.cell? ⟨gb111, 2, none⟩ = some (.int .i64 ((rd_T104 l0_1 x5_2).f2)) ∧ w'.cell? ⟨gb111, 3, none⟩ = some (.int .i64 ((rd_T104 l0_1 x5_2).f3)) ∧ w'.cell? ⟨gb111, 4, none⟩ = some (.slice A110_4 ((rd_T104 l0_1 x5_2).f4).length c110_4) ∧ w'.cell? ⟨gb101, 0, none⟩ = some (.slice A0_0 l0_0.length c0_0) ∧ w'.cell? ⟨gb101, 1, none⟩ = some (.slice (some ad110) l0_1.length c0_1) ∧ w'.cell? ⟨gb101, 2, none⟩ = some (.int .i64 a0_2) ∧ w'.cell? ⟨gb101, 3, none⟩ = some (.int .i64 a0_3)) (ds := []) #[false, false, false, false, false, false, false, false, false, false, false, false, false, false, false, false, false, false, false, false, false, false, false, false, false, false, false, false, false, false, false, false, false, false, false, false, false, false, false, false, false, false, false, false, false, false, false, false, false] (by kernel_rfl) rfl rfl ⟨(blkc BK111 0), (blkc BK111 1), (blkc BK111 2), (blkc BK111 3), (blkc BK111 4), (blkc BK101 0), (blkc BK101 1), (blkc BK101 2), (blkc BK101 3)⟩ (fun hHeld => ?_); refine with_tabW spec_GraphOk.tab11 spec_GraphOk.bits11 (fun HT_ HW_ => ?_)
            generalize w122.drew = w123 at BK101 BK111 HB hHeld ⊢
            refine puA 0 (some 66) ?_
            refine puA 2 (some 68) ?_
            refine taA 1 (some 67) ?_
            refine taA 3 (some 69) ?_
            refine puA 4 (some 70) ?_
            refine one_ (i := 5) (N := some 71) #[true, true, true, true, true, true, false, false, false, false, false, false, false, false, false, false, false, false, false, false, false, false, false, false, false, false, false, false, false, false, false, false, false, false, false, false, false, false, false, false, false, false, false, false, false, false, false, false, false] rfl rfl (one_of HT_.out (by kernel_rfl)) (by decide) (fun K hK => ?_)
            refine goes_ Try.func69 (by kernel_rfl) rfl #[.int .i64 ((rd_T104 l0_1 x5_2).f0), .int .i64 0, .int .i64 (wrap64 (a0_3 - 1))] (by rfl) rfl rfl ar_ ?_
            with_reducible refine (spec_l1In.calls ((rd_T104 l0_1 x5_2).f0) 0 (wrap64 (a0_3 - 1)) _ _ A64.out).mono ?_
            rintro e w' ⟨rfl, ⟨nd, rfl⟩⟩
            refine ⟨_, rfl, ?_⟩
            refine hK.out _ _ ⟨(blkc BK111 0), (blkc BK111 1), (blkc BK111 2), (blkc BK111 3), (blkc BK111 4), (blkc BK101 0), (blkc BK101 1), (blkc BK101 2), (blkc BK101 3)⟩ (fun hHeld => ?_)
            clear hK K
            refine norm_ (a' := ?_) ?_ ?_
            rotate_left
            · show Act.put _ (some 71) _ = _
              simp only [Act.put, List.setIfInBounds_toArray, List.set_cons_zero, List.set_cons_succ, i64_w, i32_w]
              rfl
            refine puA 6 (some 72) ?_
            refine puA 7 (some 73) ?_
          rotate_left 5
          · refine puX 8 (some 74) ?_
            refine puX 9 (some 75) ?_
            refine puX 10 (some 76) ?_
            refine puX 11 (some 77) ?_
            refine puA 12 (some 78) ?_
            refine puA 13 (some 79) ?_
            refine puX 14 (some 80) ?_
            refine puX 15 (some 81) ?_
            refine puX 16 (some 82) ?_
            refine puX 17 (some 83) ?_
            refine puA 18 (some 84) ?_
            refine puA 19 (some 85) ?_
            refine puX 20 (some 86) ?_
            refine puX 21 (some 87) ?_
            refine puX 22 (some 88) ?_
            refine puX 23 (some 89) ?_
            refine puX 24 (some 90) ?_
            refine puA 25 (some 91) ?_
            refine puA 26 (some 92) ?_
            refine puX 27 (some 93) ?_
            refine puX 28 (some 94) ?_
            refine puX 29 (some 95) ?_
            refine puX 30 (some 96) ?_
            refine puX 31 (some 97) ?_
            refine puA 32 (some 98) ?_
            refine puA 33 (some 99) ?_
            refine puX 34 (some 100) ?_
            refine puX 35 (some 101) ?_
            refine puX 36 (some 102) ?_
            refine puX 37 (some 103) ?_
            refine puX 38 (some 104) ?_
            refine puX 39 (some 105) ?_
            refine puX 40 (some 106) ?_
            refine puX 41 (some 107) ?_
            refine puX 42 (some 108) ?_
            refine puX 43 (some 109) ?_
            refine puX 44 (some 110) ?_
            refine puX 45 (some 111) ?_
            refine puX 46 (some 112) ?_
            refine puX 47 (some 113) ?_
            refine puA 48 (some 114) ?_
            refine done_ (done_of HT_.out (by kernel_rfl)) ?_
            try go_wp2
            go_ret
            exact re_
          all_goals
            refine puA 8 (some 74) ?_
            refine taA 9 (some 75) ?_
            refine one_ (i := 10) (N := some 76) #[true, true, true, true, true, true, true, true, true, true, true, false, false, false, false, false, false, false, false, false, false, false, false, false, false, false, false, false, false, false, false, false, false, false, false, false, false, false, false, false, false, false, false, false, false, false, false, false, false] rfl rfl (one_of HT_.out (by kernel_rfl)) (by decide) (fun K hK => ?_)
            refine goes_ Try.func72 (by kernel_rfl) rfl #[.string ((rd_T104 l0_1 x5_2).f1)] (by rfl) rfl rfl ar_ ?_
            with_reducible refine (spec_l2Name.calls k2 ((rd_T104 l0_1 x5_2).f1) _ _ A66.out).mono ?_
            rintro e w124 ⟨rfl, hb⟩
            refine ⟨_, rfl, ?_⟩
            replace BK101 := bb_ BK101 hb
            replace BK111 := bb_ BK111 hb
            replace HB := bs_ hb
            (try clear hb)
            (try clear hb2)
            (try clear hk)
            (try clear hi)
            refine hK.out _ _ ⟨(blkc BK111 0), (blkc BK111 1), (blkc BK111 2), (blkc BK111 3), (blkc BK111 4), (blkc BK101 0), (blkc BK101 1), (blkc BK101 2), (blkc BK101 3)⟩ (fun hHeld => ?_)
            clear hK K
            refine norm_ (a' := ?_) ?_ ?_
            rotate_left
            · show Act.put _ (some 76) _ = _
              simp only [Act.put, List.setIfInBounds_toArray, List.set_cons_zero, List.set_cons_succ, i64_w, i32_w]
              rfl
            refine puA 11 (some 77) ?_
            refine puA 12 (some 78) ?_
            refine puA 13 (some 79) ?_
          rotate_left 4
          · refine puX 14 (some 80) ?_
            refine puX 15 (some 81) ?_
            refine puX 16 (some 82) ?_
            refine puX 17 (some 83) ?_
            refine puA 18 (some 84) ?_
            refine puA 19 (some 85) ?_
            refine puX 20 (some 86) ?_
            refine puX 21 (some 87) ?_
            refine puX 22 (some 88) ?_
            refine puX 23 (some 89) ?_
            refine puX 24 (some 90) ?_
            refine puA 25 (some 91) ?_
            refine puA 26 (some 92) ?_
            refine puX 27 (some 93) ?_
            refine puX 28 (some 94) ?_
            refine puX 29 (some 95) ?_
            refine puX 30 (some 96) ?_
            refine puX 31 (some 97) ?_
            refine puA 32 (some 98) ?_
            refine puA 33 (some 99) ?_
            refine puX 34 (some 100) ?_
            refine puX 35 (some 101) ?_
            refine puX 36 (some 102) ?_
            refine puX 37 (some 103) ?_
            refine puX 38 (some 104) ?_
            refine puX 39 (some 105) ?_
            refine puX 40 (some 106) ?_
            refine puX 41 (some 107) ?_
            refine puX 42 (some 108) ?_
            refine puX 43 (some 109) ?_
            refine puX 44 (some 110) ?_
            refine puX 45 (some 111) ?_
            refine puX 46 (some 112) ?_
            refine puX 47 (some 113) ?_
            refine puA 48 (some 114) ?_
            refine done_ (done_of HT_.out (by kernel_rfl)) ?_
            try go_wp2
            go_ret
            exact re_
          all_goals
            refine puA 14 (some 80) ?_
            refine taA 15 (some 81) ?_
            refine one_ (i := 16) (N := some 82) #[true, true, true, true, true, true, true, true, true, true, true, true, true, true, true, true, true, false, false, false, false, false, false, false, false, false, false, false, false, false, false, false, false, false, false, false, false, false, false, false, false, false, false, false, false, false, false, false, false] rfl rfl (one_of HT_.out (by kernel_rfl)) (by decide) (fun K hK => ?_)
            refine goes_ Try.func71 (by kernel_rfl) rfl #[.slice A110_4 ((rd_T104 l0_1 x5_2).f4).length c110_4] (by rfl) rfl rfl ar_ ?_
            with_reducible refine (spec_l2Props.calls k2 _ _ ((rd_T104 l0_1 x5_2).f4) _ _ ?side1 ?side2 A68.out).mono ?_
            (case side1 => exact rdb_ HR110_4)
            (case side2 => exact HC110_4.out)
            rintro e w125 ⟨rfl, hb⟩
            refine ⟨_, rfl, ?_⟩
            replace BK101 := bb_ BK101 hb
            replace BK111 := bb_ BK111 hb
            replace HB := bs_ hb
            (try clear hb)
            (try clear hb2)
            (try clear hk)
            (try clear hi)
            refine hK.out _ _ ⟨(blkc BK111 0), (blkc BK111 1), (blkc BK111 2), (blkc BK111 3), (blkc BK111 4), (blkc BK101 0), (blkc BK101 1), (blkc BK101 2), (blkc BK101 3)⟩ (fun hHeld => ?_)
            clear hK K
            refine norm_ (a' := ?_) ?_ ?_
            rotate_left
            · show Act.put _ (some 82) _ = _
              simp only [Act.put, List.setIfInBounds_toArray, List.set_cons_zero, List.set_cons_succ, i64_w, i32_w]
              rfl
            refine puA 17 (some 83) ?_
            refine puA 18 (some 84) ?_
            refine puA 19 (some 85) ?_
          rotate_left 3
          · refine puX 20 (some 86) ?_
            refine puX 21 (some 87) ?_
            refine puX 22 (some 88) ?_
            refine puX 23 (some 89) ?_
            refine puX 24 (some 90) ?_
            refine puA 25 (some 91) ?_
            refine puA 26 (some 92) ?_
            refine puX 27 (some 93) ?_
            refine puX 28 (some 94) ?_
            refine puX 29 (some 95) ?_
            refine puX 30 (some 96) ?_
            refine puX 31 (some 97) ?_
            refine puA 32 (some 98) ?_
            refine puA 33 (some 99) ?_
            refine puX 34 (some 100) ?_
            refine puX 35 (some 101) ?_
            refine puX 36 (some 102) ?_
            refine puX 37 (some 103) ?_
            refine puX 38 (some 104) ?_
            refine puX 39 (some 105) ?_
            refine puX 40 (some 106) ?_
            refine puX 41 (some 107) ?_
            refine puX 42 (some 108) ?_
            refine puX 43 (some 109) ?_
            refine puX 44 (some 110) ?_
            refine puX 45 (some 111) ?_
            refine puX 46 (some 112) ?_
            refine puX 47 (some 113) ?_
            refine puA 48 (some 114) ?_
            refine done_ (done_of HT_.out (by kernel_rfl)) ?_
            try go_wp2
            go_ret
            exact re_
          all_goals
            refine puA 21 (some 87) ?_
            refine taA 20 (some 86) ?_
            refine taA 22 (some 88) ?_
            refine one_ (i := 23) (N := some 89) #[true, true, true, true, true, true, true, true, true, true, true, true, true, true, true, true, true, true, true, true, true, true, true, true, false, false, false, false, false, false, false, false, false, false, false, false, false, false, false, false, false, false, false, false, false, false, false, false, false] rfl rfl (one_of HT_.out (by kernel_rfl)) (by decide) (fun K hK => ?_)
            refine goes_ Try.func73 (by kernel_rfl) rfl #[.agg #[.slice A0_0 l0_0.length c0_0, .slice (some ad110) l0_1.length c0_1, .int .i64 a0_2, .int .i64 a0_3], .int .i64 ((rd_T104 l0_1 x5_2).f2)] (by rfl) rfl rfl ar_ ?_
            with_reducible refine (spec_l2Node.calls k2 _ _ l0_0 _ _ l0_1 a0_2 a0_3 ((rd_T104 l0_1 x5_2).f2) t115 _ ?side1 ?side2 ?side3 ?side4 A70.out).mono ?_
            (case side1 => exact rdb_ HR0_0)
            (case side2 => exact HC0_0.out)
            (case side3 => exact rdb_ HR0_1)
            (case side4 => exact HC0_1.out)
            rintro e w126 ⟨rfl, hb⟩
            refine ⟨_, rfl, ?_⟩
            replace BK101 := bb_ BK101 hb
            replace BK111 := bb_ BK111 hb
            replace HB := bs_ hb
            (try clear hb)
            (try clear hb2)
            (try clear hk)
            (try clear hi)
            refine hK.out _ _ ⟨(blkc BK111 0), (blkc BK111 1), (blkc BK111 2), (blkc BK111 3), (blkc BK111 4), (blkc BK101 0), (blkc BK101 1), (blkc BK101 2), (blkc BK101 3)⟩ (fun hHeld => ?_)
            clear hK K
            refine norm_ (a' := ?_) ?_ ?_
            rotate_left
            · show Act.put _ (some 89) _ = _
              simp only [Act.put, List.setIfInBounds_toArray, List.set_cons_zero, List.set_cons_succ, i64_w, i32_w]
              rfl
            refine puA 24 (some 90) ?_
            refine puA 25 (some 91) ?_
            refine puA 26 (some 92) ?_
          · refine puX 27 (some 93) ?_
            refine puX 28 (some 94) ?_
            refine puX 29 (some 95) ?_
            refine puX 30 (some 96) ?_
            refine puX 31 (some 97) ?_
            refine puA 32 (some 98) ?_
            refine puA 33 (some 99) ?_
            refine puX 34 (some 100) ?_
            refine puX 35 (some 101) ?_
            refine puX 36 (some 102) ?_
            refine puX 37 (some 103) ?_
            refine puX 38 (some 104) ?_
            refine puX 39 (some 105) ?_
            refine puX 40 (some 106) ?_
            refine puX 41 (some 107) ?_
            refine puX 42 (some 108) ?_
            refine puX 43 (some 109) ?_
            refine puX 44 (some 110) ?_
            refine puX 45 (some 111) ?_
            refine puX 46 (some 112) ?_
            refine puX 47 (some 113) ?_
            refine puA 48 (some 114) ?_
            refine done_ (done_of HT_.out (by kernel_rfl)) ?_
            try go_wp2
            go_ret
            exact re_
          all_goals
            refine puA 28 (some 94) ?_
            refine taA 27 (some 93) ?_
            refine taA 29 (some 95) ?_
            refine one_ (i := 30) (N := some 96) #[true, true, true, true, true, true, true, true, true, true, true, true, true, true, true, true, true, true, true, true, true, true, true, true, true, true, true, true, true, true, true, false, false, false, false, false, false, false, false, false, false, false, false, false, false, false, false, false, false] rfl rfl (one_of HT_.out (by kernel_rfl)) (by decide) (fun K hK => ?_)
            refine goes_ Try.func73 (by kernel_rfl) rfl #[.agg #[.slice A0_0 l0_0.length c0_0, .slice (some ad110) l0_1.length c0_1, .int .i64 a0_2, .int .i64 a0_3], .int .i64 ((rd_T104 l0_1 x5_2).f3)] (by rfl) rfl rfl ar_ ?_
            with_reducible refine (spec_l2Node.calls k2 _ _ l0_0 _ _ l0_1 a0_2 a0_3 ((rd_T104 l0_1 x5_2).f3) t116 _ ?side1 ?side2 ?side3 ?side4 A81.out).mono ?_
            (case side1 => exact rdb_ HR0_0)
            (case side2 => exact HC0_0.out)
            (case side3 => exact rdb_ HR0_1)
            (case side4 => exact HC0_1.out)
            rintro e w127 ⟨rfl, hb⟩
            refine ⟨_, rfl, ?_⟩
            replace BK101 := bb_ BK101 hb
            replace BK111 := bb_ BK111 hb
            replace HB := bs_ hb
            (try clear hb)
            (try clear hb2)
            (try clear hk)
            (try clear hi)
            refine hK.out _ _ ⟨(blkc BK111 0), (blkc BK111 1), (blkc BK111 2), (blkc BK111 3), (blkc BK111 4), (blkc BK101 0), (blkc BK101 1), (blkc BK101 2), (blkc BK101 3)⟩ (fun hHeld => ?_)
            clear hK K
            refine norm_ (a' := ?_) ?_ ?_
            rotate_left
            · show Act.put _ (some 96) _ = _
              simp only [Act.put, List.setIfInBounds_toArray, List.set_cons_zero, List.set_cons_succ, i64_w, i32_w]
              rfl
            refine puA 31 (some 97) ?_
            refine puA 32 (some 98) ?_
            refine puA 33 (some 99) ?_
          · refine puX 34 (some 100) ?_
            refine puX 35 (some 101) ?_
            refine puX 36 (some 102) ?_
            refine puX 37 (some 103) ?_
            refine puX 38 (some 104) ?_
            refine puX 39 (some 105) ?_
            refine puX 40 (some 106) ?_
            refine puX 41 (some 107) ?_
            refine puX 42 (some 108) ?_
            refine puX 43 (some 109) ?_
            refine puX 44 (some 110) ?_
            refine puX 45 (some 111) ?_
            refine puX 46 (some 112) ?_
            refine puX 47 (some 113) ?_
            refine puA 48 (some 114) ?_
            refine done_ (done_of HT_.out (by kernel_rfl)) ?_
            try go_wp2
            go_ret
            exact re_
          refine puA 34 (some 100) ?_
          refine puA 35 (some 101) ?_
          refine puA 36 (some 102) ?_
          refine puX 37 (some 103) ?_
          refine puX 38 (some 104) ?_
          refine puX 39 (some 105) ?_
          refine puX 40 (some 106) ?_
          refine puX 41 (some 107) ?_
          refine puX 42 (some 108) ?_
          refine puX 43 (some 109) ?_
          refine puX 44 (some 110) ?_
          refine puX 45 (some 111) ?_
          refine puX 46 (some 112) ?_
          refine puA 47 (some 113) ?_
          refine puA 48 (some 114) ?_
          refine done_ (done_of HT_.out (by kernel_rfl)) ?_
          try go_wp2
          go_roundg k2
          case measure => have := HK1.out; have := HK2.out; omega
          case rel => exact ⟨(wrap64 (x5_2 + 1)), sm_, H', ⟨by have := HK1.out; have := HK2.out; omega⟩, ⟨by refine pe_ ?_; exact BK101.out⟩, ⟨bel_⟩⟩

end Go.Proofs.Ytcchmhmbjhgfdaa.G
