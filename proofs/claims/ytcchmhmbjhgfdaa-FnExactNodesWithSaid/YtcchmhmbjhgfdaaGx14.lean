-- Printed by a program of this claim's writer (wip/gen), out of the translation. Lean checks it.
import Derived.Test.YtcchmhmbjhgfdaaGx0
import Derived.Test.YtcchmhmbjhgfdaaGx12
import Derived.Test.YtcchmhmbjhgfdaaGx13
namespace Go.Proofs.Ytcchmhmbjhgfdaa.G
open Go.RowKit Go.Proofs.YtcchmhmbjhgfdaaW.PrintWords Go.Proofs.YtcchmhmbjhgfdaaW.PrintLast Go.Proofs.YtcchmhmbjhgfdaaW.PrintMore
attribute [local go_sem] max2_int min2_int max_two min_two max_three min_three max_four min_four Own.str_gtr Own.str_leq Own.str_geq Own.sto_fn   -- for this text's walks alone
open Own
set_option linter.unusedVariables false
set_option linter.unusedSimpArgs false

/-! ### spec_l2Props: function 71 -/
def spec_l2Props.l0 : Nat → List (S140) → Int → Option (Bool)
  | 0, _, _ => none
  | k + 1, x0, x3 => if x3 < (x0.length : Int) then (if 0 ≤ x3 then ((spec_l2Name.f k ((rd_T140 x0 x3).f0)).bind fun t102 => (if t102 = true then ((spec_ValueOk.f k ((rd_T140 x0 x3).f1.f0) ((rd_T140 x0 x3).f1.f1) ((rd_T140 x0 x3).f1.f2) ((rd_T140 x0 x3).f1.f3)).bind fun t104 => (if t104 = true then ((spec_l2Plain.f k ((rd_T140 x0 x3).f1.f0) ((rd_T140 x0 x3).f1.f1) ((rd_T140 x0 x3).f1.f2) ((rd_T140 x0 x3).f1.f3)).bind fun t106 => (if t106 = true then (if x3 > 0 then (if 0 ≤ (wrap64 (x3 - 1)) then (if (wrap64 (x3 - 1)) < (x0.length : Int) then (if ((Op.bytesLess (((rd_T140 x0 (wrap64 (x3 - 1))).f0).toList) (((rd_T140 x0 x3).f0).toList)) = true) then (spec_l2Props.l0 k x0 (wrap64 (x3 + 1))) else (some false)) else (none)) else (none)) else (spec_l2Props.l0 k x0 (wrap64 (x3 + 1)))) else (some false))) else (some false))) else (some false))) else (none)) else (some (decide ((x0.length : Int) ≤ 4)))
def spec_l2Props.f (k : Nat) (l0 : List (S140)) : Option (Bool) := spec_l2Props.l0 k l0 0
def spec_l2Props.T4 : Bool × List (List Nat × List Nat) := (true, [([], []), ([], []), ([0, 1], [0, 1]), ([2], [2]), ([3], [3]), ([4], [4]), ([5], [5]), ([6, 5], [6]), ([7], [7]), ([7], [7]), ([8, 9, 7], [7, 8, 9]), ([10, 7], [7, 10]), ([11, 7], [7, 11]), ([12, 7, 7], [7, 12]), ([13, 7], [7, 13]), ([7, 14], [7, 14]), ([15, 13], [15]), ([16], [16]), ([16], [16]), ([17, 18, 16], [16, 17, 18]), ([19, 16], [16, 19]), ([20, 16], [16, 20]), ([21, 16, 16], [16, 21]), ([22, 16], [16, 22]), ([16, 23], [16, 23]), ([24, 22], [24]), ([25], [25]), ([26, 25], [25, 26]), ([27, 25, 25], [25, 27]), ([28], [28]), ([28], [28]), ([30, 28], [28, 30]), ([29, 31, 28], [28, 29, 31]), ([32, 28], [28, 32]), ([33, 28], [28, 33]), ([28], [28]), ([28], [28]), ([35, 36, 28], [28, 35, 36]), ([37, 28], [28, 37]), ([38, 28], [28, 38]), ([34, 39, 28], [28, 34, 39]), ([28, 40, 25], [25, 28, 40]), ([25, 41], [25, 41])])
def spec_l2Props.B4 : List Nat := [0, 0, 3, 7, 15, 31, 63, 127, 255, 255, 1023, 2047, 4095, 8191, 16383, 32767, 65535, 131071, 131071, 524287, 1048575, 2097151, 4194303, 8388607, 16777215, 33554431, 67108863, 134217727, 268435455, 536870911, 536870911, 1610612735, 4294967295, 8589934591, 17179869183, 536870911, 536870911, 103616086015, 241055039487, 515932946431, 1099511627775, 2199023255551, 4398046511103]
theorem spec_l2Props.tab4 : rtab .any (opsOf Try.f71 4) = spec_l2Props.T4 := by kernel_rfl
theorem spec_l2Props.bits4 : waitsOk spec_l2Props.T4.2 spec_l2Props.B4 = true := by kernel_rfl
set_option maxHeartbeats 8000000 in
set_option maxRecDepth 100000 in
theorem spec_l2Props.calls (k : Nat) (A0 : Option Addr) (c0 : Nat) (l0 : List (S140)) (r : Bool) (w : World) (hr0 : Kd.C k140 w A0 l0.length l0) (hc0 : l0.length ≤ c0) (h : spec_l2Props.f k l0 = some r) :
    Calls Try.prog 71 #[.slice A0 l0.length c0] w fun e w' => e = .returned (.bool r) ∧ Below w.heap.size w w' := by
  have hu49 := Try.underlying49
  have HR0 := Aside0.mk hr0
  have HC0 := Aside0.mk hc0
  clear hr0 hc0
  have HB := Aside0.mk (Below.refl w.heap.size w)
  have H : (spec_l2Props.l0 k l0 0) = some r := h
  clear h
  have H' := Aside0.mk H
  clear H
  go_enter Try.func71, Try.ntmps71
  go_wp2
  go_loopg [3] k (fun kq v3 w' => ∃ (x3_1 : Int), v3 = .int .i64 x3_1 ∧ Aside0 (spec_l2Props.l0 kq l0 x3_1 = some r) ∧ Aside0 (kq ≤ k) ∧ Aside0 (Below w.heap.size w w'))
  case atStart => exact ⟨(0), sm_, H', ⟨Nat.le_refl _⟩, ⟨bel_⟩⟩
  case round =>
    clear H'
    obtain ⟨x3_1, rfl, HA, HK1, HB⟩ := hrel
    cases gk with
    | zero => exact absurd HA.out (by simp [spec_l2Props.l0])
    | succ k1 =>
      have H := HA.out
      clear HA
      simp only [spec_l2Props.l0] at H
      by_cases c2 : x3_1 < (l0.length : Int)
      rotate_left
      rw [if_neg c2] at H
      have c2b0 : decide (x3_1 < (l0.length : Int)) = false := decide_eq_false c2
      clear c2
      obtain rfl := Option.some.inj H
      rotate_right
      rw [if_pos c2] at H
      have c2b0 : decide (x3_1 < (l0.length : Int)) = true := decide_eq_true c2
      clear c2
      by_cases c3 : 0 ≤ x3_1
      rotate_left
      · rw [if_neg c3] at H
        exact absurd H (by simp)
      rotate_right
      rw [if_pos c3] at H
      have c3b0 : decide (0 ≤ x3_1) = true := decide_eq_true c3
      clear c3
      replace H := Option.bind_eq_some_iff.mp H
      obtain ⟨t102, A40, H⟩ := H
      replace H : (if t102 = true then ((spec_ValueOk.f k1 ((rd_T140 l0 x3_1).f1.f0) ((rd_T140 l0 x3_1).f1.f1) ((rd_T140 l0 x3_1).f1.f2) ((rd_T140 l0 x3_1).f1.f3)).bind fun t104 => (if t104 = true then ((spec_l2Plain.f k1 ((rd_T140 l0 x3_1).f1.f0) ((rd_T140 l0 x3_1).f1.f1) ((rd_T140 l0 x3_1).f1.f2) ((rd_T140 l0 x3_1).f1.f3)).bind fun t106 => (if t106 = true then (if x3_1 > 0 then (if 0 ≤ (wrap64 (x3_1 - 1)) then (if (wrap64 (x3_1 - 1)) < (l0.length : Int) then (if ((Op.bytesLess (((rd_T140 l0 (wrap64 (x3_1 - 1))).f0).toList) (((rd_T140 l0 x3_1).f0).toList)) = true) then (spec_l2Props.l0 k1 l0 (wrap64 (x3_1 + 1))) else (some false)) else (none)) else (none)) else (spec_l2Props.l0 k1 l0 (wrap64 (x3_1 + 1)))) else (some false))) else (some false))) else (some false)) = some r := H
      have A4 := Aside0.mk A40
      clear A40
      by_cases c5 : t102 = true
      rotate_left
      replace c5 := Bool.eq_false_iff.mpr c5
      subst c5
      have H1 : (some false) = some r := by rw [if_neg (show ¬ (false = true) by decide)] at H; exact H
      clear H
      have H := H1
      clear H1
      obtain rfl := Option.some.inj H
      rotate_right
      subst c5
      have H1 : ((spec_ValueOk.f k1 ((rd_T140 l0 x3_1).f1.f0) ((rd_T140 l0 x3_1).f1.f1) ((rd_T140 l0 x3_1).f1.f2) ((rd_T140 l0 x3_1).f1.f3)).bind fun t104 => (if t104 = true then ((spec_l2Plain.f k1 ((rd_T140 l0 x3_1).f1.f0) ((rd_T140 l0 x3_1).f1.f1) ((rd_T140 l0 x3_1).f1.f2) ((rd_T140 l0 x3_1).f1.f3)).bind fun t106 => (if t106 = true then (if x3_1 > 0 then (if 0 ≤ (wrap64 (x3_1 - 1)) then (if (wrap64 (x3_1 - 1)) < (l0.length : Int) then (if ((Op.bytesLess (((rd_T140 l0 (wrap64 (x3_1 - 1))).f0).toList) (((rd_T140 l0 x3_1).f0).toList)) = true) then (spec_l2Props.l0 k1 l0 (wrap64 (x3_1 + 1))) else (some false)) else (none)) else (none)) else (spec_l2Props.l0 k1 l0 (wrap64 (x3_1 + 1)))) else (some false))) else (some false))) = some r := by rw [if_pos rfl] at H; exact H
      clear H
      have H := H1
      clear H1
      replace H := Option.bind_eq_some_iff.mp H
      obtain ⟨t104, A60, H⟩ := H
      replace H : (if t104 = true then ((spec_l2Plain.f k1 ((rd_T140 l0 x3_1).f1.f0) ((rd_T140 l0 x3_1).f1.f1) ((rd_T140 l0 x3_1).f1.f2) ((rd_T140 l0 x3_1).f1.f3)).bind fun t106 => (if t106 = true then (if x3_1 > 0 then (if 0 ≤ (wrap64 (x3_1 - 1)) then (if (wrap64 (x3_1 - 1)) < (l0.length : Int) then (if ((Op.bytesLess (((rd_T140 l0 (wrap64 (x3_1 - 1))).f0).toList) (((rd_T140 l0 x3_1).f0).toList)) = true) then (spec_l2Props.l0 k1 l0 (wrap64 (x3_1 + 1))) else (some false)) else (none)) else (none)) else (spec_l2Props.l0 k1 l0 (wrap64 (x3_1 + 1)))) else (some false))) else (some false)) = some r := H
      have A6 := Aside0.mk A60
      clear A60
      by_cases c7 : t104 = true
      rotate_left
      replace c7 := Bool.eq_false_iff.mpr c7
      subst c7
      have H1 : (some false) = some r := by rw [if_neg (show ¬ (false = true) by decide)] at H; exact H
      clear H
      have H := H1
      clear H1
      obtain rfl := Option.some.inj H
      rotate_right
      subst c7
      have H1 : ((spec_l2Plain.f k1 ((rd_T140 l0 x3_1).f1.f0) ((rd_T140 l0 x3_1).f1.f1) ((rd_T140 l0 x3_1).f1.f2) ((rd_T140 l0 x3_1).f1.f3)).bind fun t106 => (if t106 = true then (if x3_1 > 0 then (if 0 ≤ (wrap64 (x3_1 - 1)) then (if (wrap64 (x3_1 - 1)) < (l0.length : Int) then (if ((Op.bytesLess (((rd_T140 l0 (wrap64 (x3_1 - 1))).f0).toList) (((rd_T140 l0 x3_1).f0).toList)) = true) then (spec_l2Props.l0 k1 l0 (wrap64 (x3_1 + 1))) else (some false)) else (none)) else (none)) else (spec_l2Props.l0 k1 l0 (wrap64 (x3_1 + 1)))) else (some false))) = some r := by rw [if_pos rfl] at H; exact H
      clear H
      have H := H1
      clear H1
      replace H := Option.bind_eq_some_iff.mp H
      obtain ⟨t106, A80, H⟩ := H
      replace H : (if t106 = true then (if x3_1 > 0 then (if 0 ≤ (wrap64 (x3_1 - 1)) then (if (wrap64 (x3_1 - 1)) < (l0.length : Int) then (if ((Op.bytesLess (((rd_T140 l0 (wrap64 (x3_1 - 1))).f0).toList) (((rd_T140 l0 x3_1).f0).toList)) = true) then (spec_l2Props.l0 k1 l0 (wrap64 (x3_1 + 1))) else (some false)) else (none)) else (none)) else (spec_l2Props.l0 k1 l0 (wrap64 (x3_1 + 1)))) else (some false)) = some r := H
      have A8 := Aside0.mk A80
      clear A80
      by_cases c9 : t106 = true
      rotate_left
      replace c9 := Bool.eq_false_iff.mpr c9
      subst c9
      have H1 : (some false) = some r := by rw [if_neg (show ¬ (false = true) by decide)] at H; exact H
      clear H
      have H := H1
      clear H1
      obtain rfl := Option.some.inj H
      rotate_right
      subst c9
      have H1 : (if x3_1 > 0 then (if 0 ≤ (wrap64 (x3_1 - 1)) then (if (wrap64 (x3_1 - 1)) < (l0.length : Int) then (if ((Op.bytesLess (((rd_T140 l0 (wrap64 (x3_1 - 1))).f0).toList) (((rd_T140 l0 x3_1).f0).toList)) = true) then (spec_l2Props.l0 k1 l0 (wrap64 (x3_1 + 1))) else (some false)) else (none)) else (none)) else (spec_l2Props.l0 k1 l0 (wrap64 (x3_1 + 1)))) = some r := by rw [if_pos rfl] at H; exact H
      clear H
      have H := H1
      clear H1
      by_cases c10 : x3_1 > 0
      · rw [if_pos c10] at H
        have c10b0 : decide (0 < x3_1) = true := decide_eq_true c10
        clear c10
        obtain ⟨ji11, hji11⟩ : ∃ j_ : Int, (wrap64 (x3_1 - 1)) = j_ := ⟨_, rfl⟩
        replace H : (if 0 ≤ (ji11) then (if (ji11) < (l0.length : Int) then (if ((Op.bytesLess (((rd_T140 l0 (ji11)).f0).toList) (((rd_T140 l0 x3_1).f0).toList)) = true) then (spec_l2Props.l0 k1 l0 (wrap64 (x3_1 + 1))) else (some false)) else (none)) else (none)) = some r := by first | (rw [hji11] at H; exact H) | (simp only [hji11] at H ⊢; exact H)
        (try rw [hji11] at A4)
        (try rw [hji11] at A6)
        (try rw [hji11] at A8)
        have hji11w : (IntKind.i64.wrap (x3_1 - 1)) = ji11 := (i64_w _).trans hji11
        by_cases c12 : 0 ≤ (ji11)
        rotate_left
        · rw [if_neg c12] at H
          exact absurd H (by simp)
        rotate_right
        rw [if_pos c12] at H
        have c12b0 : decide (0 ≤ (ji11)) = true := decide_eq_true c12
        clear c12
        by_cases c13 : (ji11) < (l0.length : Int)
        rotate_left
        · rw [if_neg c13] at H
          exact absurd H (by simp)
        rotate_right
        rw [if_pos c13] at H
        have c13b0 : decide ((ji11) < (l0.length : Int)) = true := decide_eq_true c13
        clear c13
        by_cases c14 : ((Op.bytesLess (((rd_T140 l0 (ji11)).f0).toList) (((rd_T140 l0 x3_1).f0).toList)) = true)
        rotate_left
        rw [if_neg c14] at H
        have c14b0 : (Op.bytesLess (((rd_T140 l0 (ji11)).f0).toList) (((rd_T140 l0 x3_1).f0).toList)) = false := by simpa using c14
        clear c14
        obtain rfl := Option.some.inj H
        rotate_right
        rw [if_pos c14] at H
        have c14b0 : (Op.bytesLess (((rd_T140 l0 (ji11)).f0).toList) (((rd_T140 l0 x3_1).f0).toList)) = true := c14
        clear c14
        have H' := Aside0.mk H
        clear H
        all_goals
          try go_wp2
          replace HB := Aside0.mk (below_drew1 HB.out)
          have p101 : 0 ≤ (x3_1 : Int) := od_
          have q101 : x3_1 < (l0.length : Int) := od_
          obtain ⟨ad101, A101_4, c101_4, e101, hx101_0, hx101_1, hx101_2, hx101_3, hx101_4, hl101_4, hi101_4⟩ := at_T140 HR0.out x3_1 p101 q101
          have hw101_4 := hx101_4
          have hw101_3 := hx101_3
          have hw101_2 := hx101_2
          have hw101_1 := hx101_1
          have hw101_0 := hx101_0
          cases e101
          replace hx101_0 := mv_ HB hx101_0
          replace hx101_1 := mv_ HB hx101_1
          replace hx101_2 := mv_ HB hx101_2
          replace hx101_3 := mv_ HB hx101_3
          replace hx101_4 := mv_ HB hx101_4
          have HR101_4 := Aside0.mk hi101_4
          have HC101_4 := Aside0.mk hl101_4
          clear hi101_4 hl101_4
          replace p101 := eq_true p101
          replace q101 := eq_true q101
          have p103 : 0 ≤ (x3_1 : Int) := od_
          have q103 : x3_1 < (l0.length : Int) := od_
          obtain ⟨ad103, A103_4, c103_4, e103, hx103_0, hx103_1, hx103_2, hx103_3, hx103_4, hl103_4, hi103_4⟩ := at_T140 HR0.out x3_1 p103 q103
          have hw103_4 := hx103_4
          have hw103_3 := hx103_3
          have hw103_2 := hx103_2
          have hw103_1 := hx103_1
          have hw103_0 := hx103_0
          obtain rfl : ad101 = ad103 := (by injection e103)
          obtain ⟨rfl, rfl⟩ := sls_ hw101_4 hw103_4
          replace hx103_0 := mv_ HB hx103_0
          replace hx103_1 := mv_ HB hx103_1
          replace hx103_2 := mv_ HB hx103_2
          replace hx103_3 := mv_ HB hx103_3
          replace hx103_4 := mv_ HB hx103_4
          have HR103_4 := Aside0.mk hi103_4
          have HC103_4 := Aside0.mk hl103_4
          clear hi103_4 hl103_4
          replace p103 := eq_true p103
          replace q103 := eq_true q103
          have p105 : 0 ≤ (x3_1 : Int) := od_
          have q105 : x3_1 < (l0.length : Int) := od_
          obtain ⟨ad105, A105_4, c105_4, e105, hx105_0, hx105_1, hx105_2, hx105_3, hx105_4, hl105_4, hi105_4⟩ := at_T140 HR0.out x3_1 p105 q105
          have hw105_4 := hx105_4
          have hw105_3 := hx105_3
          have hw105_2 := hx105_2
          have hw105_1 := hx105_1
          have hw105_0 := hx105_0
          obtain rfl : ad101 = ad105 := (by injection e105)
          obtain ⟨rfl, rfl⟩ := sls_ hw101_4 hw105_4
          replace hx105_0 := mv_ HB hx105_0
          replace hx105_1 := mv_ HB hx105_1
          replace hx105_2 := mv_ HB hx105_2
          replace hx105_3 := mv_ HB hx105_3
          replace hx105_4 := mv_ HB hx105_4
          have HR105_4 := Aside0.mk hi105_4
          have HC105_4 := Aside0.mk hl105_4
          clear hi105_4 hl105_4
          replace p105 := eq_true p105
          replace q105 := eq_true q105
          have p107 : 0 ≤ ((ji11) : Int) := od_
          have q107 : (ji11) < (l0.length : Int) := od_
          obtain ⟨ad107, A107_4, c107_4, e107, hx107_0, hx107_1, hx107_2, hx107_3, hx107_4, hl107_4, hi107_4⟩ := at_T140 HR0.out (ji11) p107 q107
          have hw107_4 := hx107_4
          have hw107_3 := hx107_3
          have hw107_2 := hx107_2
          have hw107_1 := hx107_1
          have hw107_0 := hx107_0
          obtain rfl : ad101 = ad107 := (by injection e107)
          replace hx107_0 := mv_ HB hx107_0
          replace hx107_1 := mv_ HB hx107_1
          replace hx107_2 := mv_ HB hx107_2
          replace hx107_3 := mv_ HB hx107_3
          replace hx107_4 := mv_ HB hx107_4
          have HR107_4 := Aside0.mk hi107_4
          have HC107_4 := Aside0.mk hl107_4
          clear hi107_4 hl107_4
          replace p107 := eq_true p107
          replace q107 := eq_true q107
          have p108 : 0 ≤ (x3_1 : Int) := od_
          have q108 : x3_1 < (l0.length : Int) := od_
          obtain ⟨ad108, A108_4, c108_4, e108, hx108_0, hx108_1, hx108_2, hx108_3, hx108_4, hl108_4, hi108_4⟩ := at_T140 HR0.out x3_1 p108 q108
          have hw108_4 := hx108_4
          have hw108_3 := hx108_3
          have hw108_2 := hx108_2
          have hw108_1 := hx108_1
          have hw108_0 := hx108_0
          obtain rfl : ad101 = ad108 := (by injection e108)
          obtain ⟨rfl, rfl⟩ := sls_ hw101_4 hw108_4
          replace hx108_0 := mv_ HB hx108_0
          replace hx108_1 := mv_ HB hx108_1
          replace hx108_2 := mv_ HB hx108_2
          replace hx108_3 := mv_ HB hx108_3
          replace hx108_4 := mv_ HB hx108_4
          have HR108_4 := Aside0.mk hi108_4
          have HC108_4 := Aside0.mk hl108_4
          clear hi108_4 hl108_4
          replace p108 := eq_true p108
          replace q108 := eq_true q108
          refine start_ (n := 43) (S := fun w' => w'.cell? (ad101.add ((x3_1).toNat * 5)) = some (.string ((rd_T140 l0 x3_1).f0)) ∧ w'.cell? ⟨(ad101.add ((x3_1).toNat * 5)).block, (ad101.add ((x3_1).toNat * 5)).off + 1, none⟩ = some (.int .i64 ((rd_T140 l0 x3_1).f1.f0)) ∧ w'.cell? ⟨(ad101.add ((x3_1).toNat * 5)).block, (ad101.add ((x3_1).toNat * 5)).off + 2, none⟩ = some (.int .i64 ((rd_T140 l0 x3_1).f1.f1)) ∧ w'.cell? ⟨(ad101.add ((x3_1).toNat * 5)).block, (ad101.add ((x3_1).toNat * 5)).off + 3, none⟩ = some (.string ((rd_T140 l0 x3_1).f1.f2)) ∧ w'.cell? ⟨(ad101.add ((x3_1).toNat * 5)).block, (ad101.add ((x3_1).toNat * 5)).off + 4, none⟩ = some (.slice A101_4 ((rd_T140 l0 x3_1).f1.f3).length c101_4) ∧ w'.cell? (ad101.add ((x3_1).toNat * 5)) = some (.string ((rd_T140 l0 x3_1).f0)) ∧ w'.cell? ⟨(ad101.add ((x3_1).toNat * 5)).block, (ad101.add ((x3_1).toNat * 5)).off + 1, none⟩ = some (.int .i64 ((rd_T140 l0 x3_1).f1.f0)) ∧ w'.cell? ⟨(ad101.add ((x3_1).toNat * 5)).block, (ad101.add ((x3_1).toNat * 5)).off + 2, none⟩ = some (.int .i64 ((rd_T140 l0 x3_1).f1.f1)) ∧ w'.cell? ⟨(ad101.add ((x3_1).toNat * 5)).block, (ad101.add ((x3_1).toNat * 5)).off + 3, none⟩ = some (.string ((rd_T140 l0 x3_1).f1.f2)) ∧ w'.cell? ⟨(ad101.add ((x3_1).toNat * 5)).block, (ad101.add ((x3_1).toNat * 5)).off + 4, none⟩ = some (.slice A101_4 ((rd_T140 l0 x3_1).f1.f3).length c101_4) ∧ w'.cell? (ad101.add ((x3_1).toNat * 5)) = some (.string ((rd_T140 l0 x3_1).f0)) ∧ w'.cell? ⟨(ad101.add ((x3_1).toNat * 5)).block, (ad101.add ((x3_1).toNat * 5)).off + 1, none⟩ = some (.int .i64 ((rd_T140 l0 x3_1).f1.f0)) ∧ w'.cell? ⟨(ad101.add ((x3_1).toNat * 5)).block, (ad101.add ((x3_1).toNat * 5)).off + 2, none⟩ = some (.int .i64 ((rd_T140 l0 x3_1).f1.f1)) ∧ w'.cell? ⟨(ad101.add ((x3_1).toNat * 5)).block, (ad101.add ((x3_1).toNat * 5)).off + 3, none⟩ = some (.string ((rd_T140 l0 x3_1).f1.f2)) ∧ w'.cell? ⟨(ad101.add ((x3_1).toNat * 5)).block, (ad101.add ((x3_1).toNat * 5)).off + 4, none⟩ = some (.slice A101_4 ((rd_T140 l0 x3_1).f1.f3).length c101_4) ∧ w'.cell? (ad101.add (((ji11)).toNat * 5)) = some (.string ((rd_T140 l0 (ji11)).f0)) ∧ w'.cell? ⟨(ad101.add (((ji11)).toNat * 5)).block, (ad101.add (((ji11)).toNat * 5)).off + 1, none⟩ = some (.int .i64 ((rd_T140 l0 (ji11)).f1.f0)) ∧ w'.cell? ⟨(ad101.add (((ji11)).toNat * 5)).block, (ad101.add (((ji11)).toNat * 5)).off + 2, none⟩ = some (.int .i64 ((rd_T140 l0 (ji11)).f1.f1)) ∧ w'.cell? ⟨(ad101.add (((ji11)).toNat * 5)).block, (ad101.add (((ji11)).toNat * 5)).off + 3, none⟩ = some (.string ((rd_T140 l0 (ji11)).f1.f2)) ∧ w'.cell? ⟨(ad101.add (((ji11)).toNat * 5)).block, (ad101.add (((ji11)).toNat * 5)).off + 4, none⟩ = some (.slice A107_4 ((rd_T140 l0 (ji11)).f1.f3).length c107_4) ∧ w'.cell? (ad101.add ((x3_1).toNat * 5)) = some (.string ((rd_T140 l0 x3_1).f0)) ∧ w'.cell? ⟨(ad101.add ((x3_1).toNat * 5)).block, (ad101.add ((x3_1).toNat * 5)).off + 1, none⟩ = some (.int .i64 ((rd_T140 l0 x3_1).f1.f0)) ∧ w'.cell? ⟨(ad101.add ((x3_1).toNat * 5)).block, (ad101.add ((x3_1).toNat * 5)).off + 2, none⟩ = some (.int .i64 ((rd_T140 l0 x3_1).f1.f1)) ∧ w'.cell? ⟨(ad101.add ((x3_1).toNat * 5)).block, (ad101.add ((x3_1).toNat * 5)).off + 3, none⟩ = some (.string ((rd_T140 l0 x3_1).f1.f2)) ∧ w'.cell? ⟨(ad101.add ((x3_1).toNat * 5)).block, (ad101.add ((x3_1).toNat * 5)).off + 4, none⟩ = some (.slice A101_4 ((rd_T140 l0 x3_1).f1.f3).length c101_4)) (ds := []) #[false, false, false, false, false, false, false, false, false, false, false, false, false, false, false, false, false, false, false, false, false, false, false, false, false, false, false, false, false, false, false, false, false, false, false, false, false, false, false, false, false, false, false] (by kernel_rfl) rfl rfl ⟨(mv_ HB hw101_0 :), (mv_ HB hw101_1 :), (mv_ HB hw101_2 :), (mv_ HB hw101_3 :), (mv_ HB hw101_4 :), (mv_ HB hw103_0 :), (mv_ HB hw103_1 :), (mv_ HB hw103_2 :), (mv_ HB hw103_3 :), (mv_ HB hw103_4 :), (mv_ HB hw105_0 :), (mv_ HB hw105_1 :), (mv_ HB hw105_2 :), (mv_ HB hw105_3 :), (mv_ HB hw105_4 :), (mv_ HB hw107_0 :), (mv_ HB hw107_1 :), (mv_ HB hw107_2 :), (mv_ HB hw107_3 :), (mv_ HB hw107_4 :), (mv_ HB hw108_0 :), (mv_ HB hw108_1 :), (mv_ HB hw108_2 :), (mv_ HB hw108_3 :), (mv_ HB hw108_4 :)⟩ (fun hHeld => ?_); refine with_tabW spec_l2Props.tab4 spec_l2Props.bits4 (fun HT_ HW_ => ?_)
          generalize wr.drew = w15 at HB HR101_4 HR103_4 HR105_4 HR107_4 HR108_4 hx101_0 hx101_1 hx101_2 hx101_3 hx101_4 hx103_0 hx103_1 hx103_2 hx103_3 hx103_4 hx105_0 hx105_1 hx105_2 hx105_3 hx105_4 hx107_0 hx107_1 hx107_2 hx107_3 hx107_4 hx108_0 hx108_1 hx108_2 hx108_3 hx108_4 hHeld ⊢
          refine puA 0 (some 10) ?_
          refine puA 1 (some 11) ?_
          refine puA 2 (some 12) ?_
          refine puA 3 (some 13) ?_
          refine taA 4 (some 14) ?_
          refine one_ (i := 5) (N := some 15) #[true, true, true, true, true, true, false, false, false, false, false, false, false, false, false, false, false, false, false, false, false, false, false, false, false, false, false, false, false, false, false, false, false, false, false, false, false, false, false, false, false, false, false] rfl rfl (one_of HT_.out (by kernel_rfl)) (by decide) (fun K hK => ?_)
          refine goes_ Try.func72 (by kernel_rfl) rfl #[.string ((rd_T140 l0 x3_1).f0)] (by rfl) rfl rfl ar_ ?_
          with_reducible refine (spec_l2Name.calls k1 ((rd_T140 l0 x3_1).f0) true _ A4.out).mono ?_
          rintro e w16 ⟨rfl, hb⟩
          refine ⟨_, rfl, ?_⟩
          replace HB := bs_ hb
          (try clear hb)
          (try clear hb2)
          (try clear hk)
          (try clear hi)
          refine hK.out _ _ ⟨(mv_ HB hw101_0 :), (mv_ HB hw101_1 :), (mv_ HB hw101_2 :), (mv_ HB hw101_3 :), (mv_ HB hw101_4 :), (mv_ HB hw103_0 :), (mv_ HB hw103_1 :), (mv_ HB hw103_2 :), (mv_ HB hw103_3 :), (mv_ HB hw103_4 :), (mv_ HB hw105_0 :), (mv_ HB hw105_1 :), (mv_ HB hw105_2 :), (mv_ HB hw105_3 :), (mv_ HB hw105_4 :), (mv_ HB hw107_0 :), (mv_ HB hw107_1 :), (mv_ HB hw107_2 :), (mv_ HB hw107_3 :), (mv_ HB hw107_4 :), (mv_ HB hw108_0 :), (mv_ HB hw108_1 :), (mv_ HB hw108_2 :), (mv_ HB hw108_3 :), (mv_ HB hw108_4 :)⟩ (fun hHeld => ?_)
          clear hK K
          refine norm_ (a' := ?_) ?_ ?_
          rotate_left
          · show Act.put _ (some 15) _ = _
            simp only [Act.put, List.setIfInBounds_toArray, List.set_cons_zero, List.set_cons_succ, i64_w, i32_w]
            rfl
          refine puA 6 (some 16) ?_
          refine puA 7 (some 17) ?_
          refine puA 8 (some 18) ?_
          refine puA 9 (some 19) ?_
          refine puA 10 (some 20) ?_
          refine puA 11 (some 21) ?_
          refine taA 12 (some 22) ?_
          refine one_ (i := 13) (N := some 23) #[true, true, true, true, true, true, true, true, true, true, true, true, true, true, false, false, false, false, false, false, false, false, false, false, false, false, false, false, false, false, false, false, false, false, false, false, false, false, false, false, false, false, false] rfl rfl (one_of HT_.out (by kernel_rfl)) (by decide) (fun K hK => ?_)
          refine goes_ Try.func94 (by kernel_rfl) rfl #[.agg #[.int .i64 ((rd_T140 l0 x3_1).f1.f0), .int .i64 ((rd_T140 l0 x3_1).f1.f1), .string ((rd_T140 l0 x3_1).f1.f2), .slice A101_4 ((rd_T140 l0 x3_1).f1.f3).length c101_4]] (by rfl) rfl rfl ar_ ?_
          with_reducible refine (spec_ValueOk.calls k1 ((rd_T140 l0 x3_1).f1.f0) ((rd_T140 l0 x3_1).f1.f1) ((rd_T140 l0 x3_1).f1.f2) _ _ ((rd_T140 l0 x3_1).f1.f3) true _ ?side1 ?side2 A6.out).mono ?_
          (case side1 => exact rdb_ HR103_4)
          (case side2 => exact HC103_4.out)
          rintro e w17 ⟨rfl, hb⟩
          refine ⟨_, rfl, ?_⟩
          replace HB := bs_ hb
          (try clear hb)
          (try clear hb2)
          (try clear hk)
          (try clear hi)
          refine hK.out _ _ ⟨(mv_ HB hw101_0 :), (mv_ HB hw101_1 :), (mv_ HB hw101_2 :), (mv_ HB hw101_3 :), (mv_ HB hw101_4 :), (mv_ HB hw103_0 :), (mv_ HB hw103_1 :), (mv_ HB hw103_2 :), (mv_ HB hw103_3 :), (mv_ HB hw103_4 :), (mv_ HB hw105_0 :), (mv_ HB hw105_1 :), (mv_ HB hw105_2 :), (mv_ HB hw105_3 :), (mv_ HB hw105_4 :), (mv_ HB hw107_0 :), (mv_ HB hw107_1 :), (mv_ HB hw107_2 :), (mv_ HB hw107_3 :), (mv_ HB hw107_4 :), (mv_ HB hw108_0 :), (mv_ HB hw108_1 :), (mv_ HB hw108_2 :), (mv_ HB hw108_3 :), (mv_ HB hw108_4 :)⟩ (fun hHeld => ?_)
          clear hK K
          refine norm_ (a' := ?_) ?_ ?_
          rotate_left
          · show Act.put _ (some 23) _ = _
            simp only [Act.put, List.setIfInBounds_toArray, List.set_cons_zero, List.set_cons_succ, i64_w, i32_w]
            rfl
          refine puA 14 (some 24) ?_
          refine puA 15 (some 25) ?_
          refine puA 16 (some 26) ?_
          refine puA 17 (some 27) ?_
          refine puA 18 (some 28) ?_
          refine puA 19 (some 29) ?_
          refine puA 20 (some 30) ?_
          refine taA 21 (some 31) ?_
          refine one_ (i := 22) (N := some 32) #[true, true, true, true, true, true, true, true, true, true, true, true, true, true, true, true, true, true, true, true, true, true, true, false, false, false, false, false, false, false, false, false, false, false, false, false, false, false, false, false, false, false, false] rfl rfl (one_of HT_.out (by kernel_rfl)) (by decide) (fun K hK => ?_)
          refine goes_ Try.func149 (by kernel_rfl) rfl #[.agg #[.int .i64 ((rd_T140 l0 x3_1).f1.f0), .int .i64 ((rd_T140 l0 x3_1).f1.f1), .string ((rd_T140 l0 x3_1).f1.f2), .slice A101_4 ((rd_T140 l0 x3_1).f1.f3).length c101_4]] (by rfl) rfl rfl ar_ ?_
          with_reducible refine (spec_l2Plain.calls k1 ((rd_T140 l0 x3_1).f1.f0) ((rd_T140 l0 x3_1).f1.f1) ((rd_T140 l0 x3_1).f1.f2) _ _ ((rd_T140 l0 x3_1).f1.f3) true _ ?side1 ?side2 A8.out).mono ?_
          (case side1 => exact rdb_ HR105_4)
          (case side2 => exact HC105_4.out)
          rintro e w18 ⟨rfl, hb⟩
          refine ⟨_, rfl, ?_⟩
          replace HB := bs_ hb
          (try clear hb)
          (try clear hb2)
          (try clear hk)
          (try clear hi)
          refine hK.out _ _ ⟨(mv_ HB hw101_0 :), (mv_ HB hw101_1 :), (mv_ HB hw101_2 :), (mv_ HB hw101_3 :), (mv_ HB hw101_4 :), (mv_ HB hw103_0 :), (mv_ HB hw103_1 :), (mv_ HB hw103_2 :), (mv_ HB hw103_3 :), (mv_ HB hw103_4 :), (mv_ HB hw105_0 :), (mv_ HB hw105_1 :), (mv_ HB hw105_2 :), (mv_ HB hw105_3 :), (mv_ HB hw105_4 :), (mv_ HB hw107_0 :), (mv_ HB hw107_1 :), (mv_ HB hw107_2 :), (mv_ HB hw107_3 :), (mv_ HB hw107_4 :), (mv_ HB hw108_0 :), (mv_ HB hw108_1 :), (mv_ HB hw108_2 :), (mv_ HB hw108_3 :), (mv_ HB hw108_4 :)⟩ (fun hHeld => ?_)
          clear hK K
          refine norm_ (a' := ?_) ?_ ?_
          rotate_left
          · show Act.put _ (some 32) _ = _
            simp only [Act.put, List.setIfInBounds_toArray, List.set_cons_zero, List.set_cons_succ, i64_w, i32_w]
            rfl
          refine puA 23 (some 33) ?_
          refine puA 24 (some 34) ?_
          refine puA 25 (some 35) ?_
          refine puA 26 (some 36) ?_
          refine puA 27 (some 37) ?_
          refine puA 28 (some 38) ?_
          refine puA 29 (some 39) ?_
          refine puA 30 (some 40) ?_
          refine puA 31 (some 41) ?_
          refine puA 32 (some 42) ?_
          refine puA 33 (some 43) ?_
          refine puA 35 (some 45) ?_
          refine puA 36 (some 46) ?_
          refine puA 37 (some 47) ?_
          refine puA 38 (some 48) ?_
          refine taA 34 (some 44) ?_
          refine taA 39 (some 49) ?_
          refine puA 40 (some 50) ?_
          refine puA 41 (some 51) ?_
          refine puA 42 (some 52) ?_
          refine done_ (done_of HT_.out (by kernel_rfl)) ?_
          try go_wp2
        rotate_left
        · go_ret
          exact ⟨by first | rfl | (simp [errW_none, errW_some] <;> rfl) | (simp only [← hji11]; first | rfl | (simp [errW_none, errW_some] <;> rfl)) | (simp [*, errW_none, errW_some] <;> rfl), bel_⟩
        go_roundg k1
        case measure => have := HK1.out; omega
        case rel => exact ⟨(wrap64 (x3_1 + 1)), sm_, H', ⟨by have := HK1.out; omega⟩, ⟨bel_⟩⟩
      rw [if_neg c10] at H
      have c10b0 : decide (0 < x3_1) = false := decide_eq_false c10
      clear c10
      have H' := Aside0.mk H
      clear H
      rotate_left 4
      · go_wp2
        go_ret
        exact re_
      all_goals
        try go_wp2
        replace HB := Aside0.mk (below_drew1 HB.out)
        have p101 : 0 ≤ (x3_1 : Int) := od_
        have q101 : x3_1 < (l0.length : Int) := od_
        obtain ⟨ad101, A101_4, c101_4, e101, hx101_0, hx101_1, hx101_2, hx101_3, hx101_4, hl101_4, hi101_4⟩ := at_T140 HR0.out x3_1 p101 q101
        have hw101_4 := hx101_4
        have hw101_3 := hx101_3
        have hw101_2 := hx101_2
        have hw101_1 := hx101_1
        have hw101_0 := hx101_0
        cases e101
        replace hx101_0 := mv_ HB hx101_0
        replace hx101_1 := mv_ HB hx101_1
        replace hx101_2 := mv_ HB hx101_2
        replace hx101_3 := mv_ HB hx101_3
        replace hx101_4 := mv_ HB hx101_4
        have HR101_4 := Aside0.mk hi101_4
        have HC101_4 := Aside0.mk hl101_4
        clear hi101_4 hl101_4
        replace p101 := eq_true p101
        replace q101 := eq_true q101
      rotate_left 3
      · refine start_ (n := 43) (S := fun w' => w'.cell? (ad101.add ((x3_1).toNat * 5)) = some (.string ((rd_T140 l0 x3_1).f0)) ∧ w'.cell? ⟨(ad101.add ((x3_1).toNat * 5)).block, (ad101.add ((x3_1).toNat * 5)).off + 1, none⟩ = some (.int .i64 ((rd_T140 l0 x3_1).f1.f0)) ∧ w'.cell? ⟨(ad101.add ((x3_1).toNat * 5)).block, (ad101.add ((x3_1).toNat * 5)).off + 2, none⟩ = some (.int .i64 ((rd_T140 l0 x3_1).f1.f1)) ∧ w'.cell? ⟨(ad101.add ((x3_1).toNat * 5)).block, (ad101.add ((x3_1).toNat * 5)).off + 3, none⟩ = some (.string ((rd_T140 l0 x3_1).f1.f2)) ∧ w'.cell? ⟨(ad101.add ((x3_1).toNat * 5)).block, (ad101.add ((x3_1).toNat * 5)).off + 4, none⟩ = some (.slice A101_4 ((rd_T140 l0 x3_1).f1.f3).length c101_4)) (ds := []) #[false, false, false, false, false, false, false, false, false, false, false, false, false, false, false, false, false, false, false, false, false, false, false, false, false, false, false, false, false, false, false, false, false, false, false, false, false, false, false, false, false, false, false] (by kernel_rfl) rfl rfl ⟨(mv_ HB hw101_0 :), (mv_ HB hw101_1 :), (mv_ HB hw101_2 :), (mv_ HB hw101_3 :), (mv_ HB hw101_4 :)⟩ (fun hHeld => ?_); refine with_tabW spec_l2Props.tab4 spec_l2Props.bits4 (fun HT_ HW_ => ?_)
        generalize wr.drew = w34 at HB HR101_4 hx101_0 hx101_1 hx101_2 hx101_3 hx101_4 hHeld ⊢
        refine puA 0 (some 10) ?_
        refine puA 1 (some 11) ?_
        refine puA 2 (some 12) ?_
        refine puA 3 (some 13) ?_
        refine taA 4 (some 14) ?_
        refine one_ (i := 5) (N := some 15) #[true, true, true, true, true, true, false, false, false, false, false, false, false, false, false, false, false, false, false, false, false, false, false, false, false, false, false, false, false, false, false, false, false, false, false, false, false, false, false, false, false, false, false] rfl rfl (one_of HT_.out (by kernel_rfl)) (by decide) (fun K hK => ?_)
        refine goes_ Try.func72 (by kernel_rfl) rfl #[.string ((rd_T140 l0 x3_1).f0)] (by rfl) rfl rfl ar_ ?_
        with_reducible refine (spec_l2Name.calls k1 ((rd_T140 l0 x3_1).f0) false _ A4.out).mono ?_
        rintro e w35 ⟨rfl, hb⟩
        refine ⟨_, rfl, ?_⟩
        replace HB := bs_ hb
        (try clear hb)
        (try clear hb2)
        (try clear hk)
        (try clear hi)
        refine hK.out _ _ ⟨(mv_ HB hw101_0 :), (mv_ HB hw101_1 :), (mv_ HB hw101_2 :), (mv_ HB hw101_3 :), (mv_ HB hw101_4 :)⟩ (fun hHeld => ?_)
        clear hK K
        refine norm_ (a' := ?_) ?_ ?_
        rotate_left
        · show Act.put _ (some 15) _ = _
          simp only [Act.put, List.setIfInBounds_toArray, List.set_cons_zero, List.set_cons_succ, i64_w, i32_w]
          rfl
        refine puA 6 (some 16) ?_
        refine puA 7 (some 17) ?_
        refine puX 8 (some 18) ?_
        refine puX 9 (some 19) ?_
        refine puX 10 (some 20) ?_
        refine puX 11 (some 21) ?_
        refine puX 12 (some 22) ?_
        refine puX 13 (some 23) ?_
        refine puX 14 (some 24) ?_
        refine puA 15 (some 25) ?_
        refine puA 16 (some 26) ?_
        refine puX 17 (some 27) ?_
        refine puX 18 (some 28) ?_
        refine puX 19 (some 29) ?_
        refine puX 20 (some 30) ?_
        refine puX 21 (some 31) ?_
        refine puX 22 (some 32) ?_
        refine puX 23 (some 33) ?_
        refine puA 24 (some 34) ?_
        refine puA 25 (some 35) ?_
        refine puX 26 (some 36) ?_
        refine puX 27 (some 37) ?_
        refine puX 28 (some 38) ?_
        refine puX 29 (some 39) ?_
        refine puX 30 (some 40) ?_
        refine puX 31 (some 41) ?_
        refine puX 32 (some 42) ?_
        refine puX 33 (some 43) ?_
        refine puX 34 (some 44) ?_
        refine puX 35 (some 45) ?_
        refine puX 36 (some 46) ?_
        refine puX 37 (some 47) ?_
        refine puX 38 (some 48) ?_
        refine puX 39 (some 49) ?_
        refine puX 40 (some 50) ?_
        refine puX 41 (some 51) ?_
        refine puA 42 (some 52) ?_
        refine done_ (done_of HT_.out (by kernel_rfl)) ?_
        try go_wp2
        go_ret
        exact re_
      all_goals
        have p103 : 0 ≤ (x3_1 : Int) := od_
        have q103 : x3_1 < (l0.length : Int) := od_
        obtain ⟨ad103, A103_4, c103_4, e103, hx103_0, hx103_1, hx103_2, hx103_3, hx103_4, hl103_4, hi103_4⟩ := at_T140 HR0.out x3_1 p103 q103
        have hw103_4 := hx103_4
        have hw103_3 := hx103_3
        have hw103_2 := hx103_2
        have hw103_1 := hx103_1
        have hw103_0 := hx103_0
        obtain rfl : ad101 = ad103 := (by injection e103)
        obtain ⟨rfl, rfl⟩ := sls_ hw101_4 hw103_4
        replace hx103_0 := mv_ HB hx103_0
        replace hx103_1 := mv_ HB hx103_1
        replace hx103_2 := mv_ HB hx103_2
        replace hx103_3 := mv_ HB hx103_3
        replace hx103_4 := mv_ HB hx103_4
        have HR103_4 := Aside0.mk hi103_4
        have HC103_4 := Aside0.mk hl103_4
        clear hi103_4 hl103_4
        replace p103 := eq_true p103
        replace q103 := eq_true q103
      rotate_left 2
      · refine start_ (n := 43) (S := fun w' => w'.cell? (ad101.add ((x3_1).toNat * 5)) = some (.string ((rd_T140 l0 x3_1).f0)) ∧ w'.cell? ⟨(ad101.add ((x3_1).toNat * 5)).block, (ad101.add ((x3_1).toNat * 5)).off + 1, none⟩ = some (.int .i64 ((rd_T140 l0 x3_1).f1.f0)) ∧ w'.cell? ⟨(ad101.add ((x3_1).toNat * 5)).block, (ad101.add ((x3_1).toNat * 5)).off + 2, none⟩ = some (.int .i64 ((rd_T140 l0 x3_1).f1.f1)) ∧ w'.cell? ⟨(ad101.add ((x3_1).toNat * 5)).block, (ad101.add ((x3_1).toNat * 5)).off + 3, none⟩ = some (.string ((rd_T140 l0 x3_1).f1.f2)) ∧ w'.cell? ⟨(ad101.add ((x3_1).toNat * 5)).block, (ad101.add ((x3_1).toNat * 5)).off + 4, none⟩ = some (.slice A101_4 ((rd_T140 l0 x3_1).f1.f3).length c101_4) ∧ w'.cell? (ad101.add ((x3_1).toNat * 5)) = some (.string ((rd_T140 l0 x3_1).f0)) ∧ w'.cell? ⟨(ad101.add ((x3_1).toNat * 5)).block, (ad101.add ((x3_1).toNat * 5)).off + 1, none⟩ = some (.int .i64 ((rd_T140 l0 x3_1).f1.f0)) ∧ w'.cell? ⟨(ad101.add ((x3_1).toNat * 5)).block, (ad101.add ((x3_1).toNat * 5)).off + 2, none⟩ = some (.int .i64 ((rd_T140 l0 x3_1).f1.f1)) ∧ w'.cell? ⟨(ad101.add ((x3_1).toNat * 5)).block, (ad101.add ((x3_1).toNat * 5)).off + 3, none⟩ = some (.string ((rd_T140 l0 x3_1).f1.f2)) ∧ w'.cell? ⟨(ad101.add ((x3_1).toNat * 5)).block, (ad101.add ((x3_1).toNat * 5)).off + 4, none⟩ = some (.slice A101_4 ((rd_T140 l0 x3_1).f1.f3).length c101_4)) (ds := []) #[false, false, false, false, false, false, false, false, false, false, false, false, false, false, false, false, false, false, false, false, false, false, false, false, false, false, false, false, false, false, false, false, false, false, false, false, false, false, false, false, false, false, false] (by kernel_rfl) rfl rfl ⟨(mv_ HB hw101_0 :), (mv_ HB hw101_1 :), (mv_ HB hw101_2 :), (mv_ HB hw101_3 :), (mv_ HB hw101_4 :), (mv_ HB hw103_0 :), (mv_ HB hw103_1 :), (mv_ HB hw103_2 :), (mv_ HB hw103_3 :), (mv_ HB hw103_4 :)⟩ (fun hHeld => ?_); refine with_tabW spec_l2Props.tab4 spec_l2Props.bits4 (fun HT_ HW_ => ?_)
        generalize wr.drew = w31 at HB HR101_4 HR103_4 hx101_0 hx101_1 hx101_2 hx101_3 hx101_4 hx103_0 hx103_1 hx103_2 hx103_3 hx103_4 hHeld ⊢
        refine puA 0 (some 10) ?_
        refine puA 1 (some 11) ?_
        refine puA 2 (some 12) ?_
        refine puA 3 (some 13) ?_
        refine taA 4 (some 14) ?_
        refine one_ (i := 5) (N := some 15) #[true, true, true, true, true, true, false, false, false, false, false, false, false, false, false, false, false, false, false, false, false, false, false, false, false, false, false, false, false, false, false, false, false, false, false, false, false, false, false, false, false, false, false] rfl rfl (one_of HT_.out (by kernel_rfl)) (by decide) (fun K hK => ?_)
        refine goes_ Try.func72 (by kernel_rfl) rfl #[.string ((rd_T140 l0 x3_1).f0)] (by rfl) rfl rfl ar_ ?_
        with_reducible refine (spec_l2Name.calls k1 ((rd_T140 l0 x3_1).f0) true _ A4.out).mono ?_
        rintro e w32 ⟨rfl, hb⟩
        refine ⟨_, rfl, ?_⟩
        replace HB := bs_ hb
        (try clear hb)
        (try clear hb2)
        (try clear hk)
        (try clear hi)
        refine hK.out _ _ ⟨(mv_ HB hw101_0 :), (mv_ HB hw101_1 :), (mv_ HB hw101_2 :), (mv_ HB hw101_3 :), (mv_ HB hw101_4 :), (mv_ HB hw103_0 :), (mv_ HB hw103_1 :), (mv_ HB hw103_2 :), (mv_ HB hw103_3 :), (mv_ HB hw103_4 :)⟩ (fun hHeld => ?_)
        clear hK K
        refine norm_ (a' := ?_) ?_ ?_
        rotate_left
        · show Act.put _ (some 15) _ = _
          simp only [Act.put, List.setIfInBounds_toArray, List.set_cons_zero, List.set_cons_succ, i64_w, i32_w]
          rfl
        refine puA 6 (some 16) ?_
        refine puA 7 (some 17) ?_
        refine puA 8 (some 18) ?_
        refine puA 9 (some 19) ?_
        refine puA 10 (some 20) ?_
        refine puA 11 (some 21) ?_
        refine taA 12 (some 22) ?_
        refine one_ (i := 13) (N := some 23) #[true, true, true, true, true, true, true, true, true, true, true, true, true, true, false, false, false, false, false, false, false, false, false, false, false, false, false, false, false, false, false, false, false, false, false, false, false, false, false, false, false, false, false] rfl rfl (one_of HT_.out (by kernel_rfl)) (by decide) (fun K hK => ?_)
        refine goes_ Try.func94 (by kernel_rfl) rfl #[.agg #[.int .i64 ((rd_T140 l0 x3_1).f1.f0), .int .i64 ((rd_T140 l0 x3_1).f1.f1), .string ((rd_T140 l0 x3_1).f1.f2), .slice A101_4 ((rd_T140 l0 x3_1).f1.f3).length c101_4]] (by rfl) rfl rfl ar_ ?_
        with_reducible refine (spec_ValueOk.calls k1 ((rd_T140 l0 x3_1).f1.f0) ((rd_T140 l0 x3_1).f1.f1) ((rd_T140 l0 x3_1).f1.f2) _ _ ((rd_T140 l0 x3_1).f1.f3) false _ ?side1 ?side2 A6.out).mono ?_
        (case side1 => exact rdb_ HR103_4)
        (case side2 => exact HC103_4.out)
        rintro e w33 ⟨rfl, hb⟩
        refine ⟨_, rfl, ?_⟩
        replace HB := bs_ hb
        (try clear hb)
        (try clear hb2)
        (try clear hk)
        (try clear hi)
        refine hK.out _ _ ⟨(mv_ HB hw101_0 :), (mv_ HB hw101_1 :), (mv_ HB hw101_2 :), (mv_ HB hw101_3 :), (mv_ HB hw101_4 :), (mv_ HB hw103_0 :), (mv_ HB hw103_1 :), (mv_ HB hw103_2 :), (mv_ HB hw103_3 :), (mv_ HB hw103_4 :)⟩ (fun hHeld => ?_)
        clear hK K
        refine norm_ (a' := ?_) ?_ ?_
        rotate_left
        · show Act.put _ (some 23) _ = _
          simp only [Act.put, List.setIfInBounds_toArray, List.set_cons_zero, List.set_cons_succ, i64_w, i32_w]
          rfl
        refine puA 14 (some 24) ?_
        refine puA 15 (some 25) ?_
        refine puA 16 (some 26) ?_
        refine puX 17 (some 27) ?_
        refine puX 18 (some 28) ?_
        refine puX 19 (some 29) ?_
        refine puX 20 (some 30) ?_
        refine puX 21 (some 31) ?_
        refine puX 22 (some 32) ?_
        refine puX 23 (some 33) ?_
        refine puA 24 (some 34) ?_
        refine puA 25 (some 35) ?_
        refine puX 26 (some 36) ?_
        refine puX 27 (some 37) ?_
        refine puX 28 (some 38) ?_
        refine puX 29 (some 39) ?_
        refine puX 30 (some 40) ?_
        refine puX 31 (some 41) ?_
        refine puX 32 (some 42) ?_
        refine puX 33 (some 43) ?_
        refine puX 34 (some 44) ?_
        refine puX 35 (some 45) ?_
        refine puX 36 (some 46) ?_
        refine puX 37 (some 47) ?_
        refine puX 38 (some 48) ?_
        refine puX 39 (some 49) ?_
        refine puX 40 (some 50) ?_
        refine puX 41 (some 51) ?_
        refine puA 42 (some 52) ?_
        refine done_ (done_of HT_.out (by kernel_rfl)) ?_
        try go_wp2
        go_ret
        exact re_
      all_goals
        have p105 : 0 ≤ (x3_1 : Int) := od_
        have q105 : x3_1 < (l0.length : Int) := od_
        obtain ⟨ad105, A105_4, c105_4, e105, hx105_0, hx105_1, hx105_2, hx105_3, hx105_4, hl105_4, hi105_4⟩ := at_T140 HR0.out x3_1 p105 q105
        have hw105_4 := hx105_4
        have hw105_3 := hx105_3
        have hw105_2 := hx105_2
        have hw105_1 := hx105_1
        have hw105_0 := hx105_0
        obtain rfl : ad101 = ad105 := (by injection e105)
        obtain ⟨rfl, rfl⟩ := sls_ hw101_4 hw105_4
        replace hx105_0 := mv_ HB hx105_0
        replace hx105_1 := mv_ HB hx105_1
        replace hx105_2 := mv_ HB hx105_2
        replace hx105_3 := mv_ HB hx105_3
        replace hx105_4 := mv_ HB hx105_4
        have HR105_4 := Aside0.mk hi105_4
        have HC105_4 := Aside0.mk hl105_4
        clear hi105_4 hl105_4
        replace p105 := eq_true p105
        replace q105 := eq_true q105
        refine start_ (n := 43) (S := fun w' => w'.cell? (ad101.add ((x3_1).toNat * 5)) = some (.string ((rd_T140 l0 x3_1).f0)) ∧ w'.cell? ⟨(ad101.add ((x3_1).toNat * 5)).block, (ad101.add ((x3_1).toNat * 5)).off + 1, none⟩ = some (.int .i64 ((rd_T140 l0 x3_1).f1.f0)) ∧ w'.cell? ⟨(ad101.add ((x3_1).toNat * 5)).block, (ad101.add ((x3_1).toNat * 5)).off + 2, none⟩ = some (.int .i64 ((rd_T140 l0 x3_1).f1.f1)) ∧ w'.cell? ⟨(ad101.add ((x3_1).toNat * 5)).block, (ad101.add ((x3_1).toNat * 5)).off + 3, none⟩ = some (.string ((rd_T140 l0 x3_1).f1.f2)) ∧ w'.cell? ⟨(ad101.add ((x3_1).toNat * 5)).block, (ad101.add ((x3_1).toNat * 5)).off + 4, none⟩ = some (.slice A101_4 ((rd_T140 l0 x3_1).f1.f3).length c101_4) ∧ w'.cell? (ad101.add ((x3_1).toNat * 5)) = some (.string ((rd_T140 l0 x3_1).f0)) ∧ w'.cell? ⟨(ad101.add ((x3_1).toNat * 5)).block, (ad101.add ((x3_1).toNat * 5)).off + 1, none⟩ = some (.int .i64 ((rd_T140 l0 x3_1).f1.f0)) ∧ w'.cell? ⟨(ad101.add ((x3_1).toNat * 5)).block, (ad101.add ((x3_1).toNat * 5)).off + 2, none⟩ = some (.int .i64 ((rd_T140 l0 x3_1).f1.f1)) ∧ w'.cell? ⟨(ad101.add ((x3_1).toNat * 5)).block, (ad101.add ((x3_1).toNat * 5)).off + 3, none⟩ = some (.string ((rd_T140 l0 x3_1).f1.f2)) ∧ w'.cell? ⟨(ad101.add ((x3_1).toNat * 5)).block, (ad101.add ((x3_1).toNat * 5)).off + 4, none⟩ = some (.slice A101_4 ((rd_T140 l0 x3_1).f1.f3).length c101_4) ∧ w'.cell? (ad101.add ((x3_1).toNat * 5)) = some (.string ((rd_T140 l0 x3_1).f0)) ∧ w'.cell? ⟨(ad101.add ((x3_1).toNat * 5)).block, (ad101.add ((x3_1).toNat * 5)).off + 1, none⟩ = some (.int .i64 ((rd_T140 l0 x3_1).f1.f0)) ∧ w'.cell? ⟨(ad101.add ((x3_1).toNat * 5)).block, (ad101.add ((x3_1).toNat * 5)).off + 2, none⟩ = some (.int .i64 ((rd_T140 l0 x3_1).f1.f1)) ∧ w'.cell? ⟨(ad101.add ((x3_1).toNat * 5)).block, (ad101.add ((x3_1).toNat * 5)).off + 3, none⟩ = some (.string ((rd_T140 l0 x3_1).f1.f2)) ∧ w'.cell? ⟨(ad101.add ((x3_1).toNat * 5)).block, (ad101.add ((x3_1).toNat * 5)).off + 4, none⟩ = some (.slice A101_4 ((rd_T140 l0 x3_1).f1.f3).length c101_4)) (ds := []) #[false, false, false, false, false, false, false, false, false, false, false, false, false, false, false, false, false, false, false, false, false, false, false, false, false, false, false, false, false, false, false, false, false, false, false, false, false, false, false, false, false, false, false] (by kernel_rfl) rfl rfl ⟨(mv_ HB hw101_0 :), (mv_ HB hw101_1 :), (mv_ HB hw101_2 :), (mv_ HB hw101_3 :), (mv_ HB hw101_4 :), (mv_ HB hw103_0 :), (mv_ HB hw103_1 :), (mv_ HB hw103_2 :), (mv_ HB hw103_3 :), (mv_ HB hw103_4 :), (mv_ HB hw105_0 :), (mv_ HB hw105_1 :), (mv_ HB hw105_2 :), (mv_ HB hw105_3 :), (mv_ HB hw105_4 :)⟩ (fun hHeld => ?_); refine with_tabW spec_l2Props.tab4 spec_l2Props.bits4 (fun HT_ HW_ => ?_)
        generalize wr.drew = w23 at HB HR101_4 HR103_4 HR105_4 hx101_0 hx101_1 hx101_2 hx101_3 hx101_4 hx103_0 hx103_1 hx103_2 hx103_3 hx103_4 hx105_0 hx105_1 hx105_2 hx105_3 hx105_4 hHeld ⊢
        refine puA 0 (some 10) ?_
        refine puA 1 (some 11) ?_
        refine puA 2 (some 12) ?_
        refine puA 3 (some 13) ?_
        refine taA 4 (some 14) ?_
        refine one_ (i := 5) (N := some 15) #[true, true, true, true, true, true, false, false, false, false, false, false, false, false, false, false, false, false, false, false, false, false, false, false, false, false, false, false, false, false, false, false, false, false, false, false, false, false, false, false, false, false, false] rfl rfl (one_of HT_.out (by kernel_rfl)) (by decide) (fun K hK => ?_)
        refine goes_ Try.func72 (by kernel_rfl) rfl #[.string ((rd_T140 l0 x3_1).f0)] (by rfl) rfl rfl ar_ ?_
        with_reducible refine (spec_l2Name.calls k1 ((rd_T140 l0 x3_1).f0) true _ A4.out).mono ?_
        rintro e w24 ⟨rfl, hb⟩
        refine ⟨_, rfl, ?_⟩
        replace HB := bs_ hb
        (try clear hb)
        (try clear hb2)
        (try clear hk)
        (try clear hi)
        refine hK.out _ _ ⟨(mv_ HB hw101_0 :), (mv_ HB hw101_1 :), (mv_ HB hw101_2 :), (mv_ HB hw101_3 :), (mv_ HB hw101_4 :), (mv_ HB hw103_0 :), (mv_ HB hw103_1 :), (mv_ HB hw103_2 :), (mv_ HB hw103_3 :), (mv_ HB hw103_4 :), (mv_ HB hw105_0 :), (mv_ HB hw105_1 :), (mv_ HB hw105_2 :), (mv_ HB hw105_3 :), (mv_ HB hw105_4 :)⟩ (fun hHeld => ?_)
        clear hK K
        refine norm_ (a' := ?_) ?_ ?_
        rotate_left
        · show Act.put _ (some 15) _ = _
          simp only [Act.put, List.setIfInBounds_toArray, List.set_cons_zero, List.set_cons_succ, i64_w, i32_w]
          rfl
        refine puA 6 (some 16) ?_
        refine puA 7 (some 17) ?_
        refine puA 8 (some 18) ?_
        refine puA 9 (some 19) ?_
        refine puA 10 (some 20) ?_
        refine puA 11 (some 21) ?_
        refine taA 12 (some 22) ?_
        refine one_ (i := 13) (N := some 23) #[true, true, true, true, true, true, true, true, true, true, true, true, true, true, false, false, false, false, false, false, false, false, false, false, false, false, false, false, false, false, false, false, false, false, false, false, false, false, false, false, false, false, false] rfl rfl (one_of HT_.out (by kernel_rfl)) (by decide) (fun K hK => ?_)
        refine goes_ Try.func94 (by kernel_rfl) rfl #[.agg #[.int .i64 ((rd_T140 l0 x3_1).f1.f0), .int .i64 ((rd_T140 l0 x3_1).f1.f1), .string ((rd_T140 l0 x3_1).f1.f2), .slice A101_4 ((rd_T140 l0 x3_1).f1.f3).length c101_4]] (by rfl) rfl rfl ar_ ?_
        with_reducible refine (spec_ValueOk.calls k1 ((rd_T140 l0 x3_1).f1.f0) ((rd_T140 l0 x3_1).f1.f1) ((rd_T140 l0 x3_1).f1.f2) _ _ ((rd_T140 l0 x3_1).f1.f3) true _ ?side1 ?side2 A6.out).mono ?_
        (case side1 => exact rdb_ HR103_4)
        (case side2 => exact HC103_4.out)
        rintro e w25 ⟨rfl, hb⟩
        refine ⟨_, rfl, ?_⟩
        replace HB := bs_ hb
        (try clear hb)
        (try clear hb2)
        (try clear hk)
        (try clear hi)
        refine hK.out _ _ ⟨(mv_ HB hw101_0 :), (mv_ HB hw101_1 :), (mv_ HB hw101_2 :), (mv_ HB hw101_3 :), (mv_ HB hw101_4 :), (mv_ HB hw103_0 :), (mv_ HB hw103_1 :), (mv_ HB hw103_2 :), (mv_ HB hw103_3 :), (mv_ HB hw103_4 :), (mv_ HB hw105_0 :), (mv_ HB hw105_1 :), (mv_ HB hw105_2 :), (mv_ HB hw105_3 :), (mv_ HB hw105_4 :)⟩ (fun hHeld => ?_)
        clear hK K
        refine norm_ (a' := ?_) ?_ ?_
        rotate_left
        · show Act.put _ (some 23) _ = _
          simp only [Act.put, List.setIfInBounds_toArray, List.set_cons_zero, List.set_cons_succ, i64_w, i32_w]
          rfl
        refine puA 14 (some 24) ?_
        refine puA 15 (some 25) ?_
        refine puA 16 (some 26) ?_
        refine puA 17 (some 27) ?_
        refine puA 18 (some 28) ?_
        refine puA 19 (some 29) ?_
        refine puA 20 (some 30) ?_
        refine taA 21 (some 31) ?_
        refine one_ (i := 22) (N := some 32) #[true, true, true, true, true, true, true, true, true, true, true, true, true, true, true, true, true, true, true, true, true, true, true, false, false, false, false, false, false, false, false, false, false, false, false, false, false, false, false, false, false, false, false] rfl rfl (one_of HT_.out (by kernel_rfl)) (by decide) (fun K hK => ?_)
        refine goes_ Try.func149 (by kernel_rfl) rfl #[.agg #[.int .i64 ((rd_T140 l0 x3_1).f1.f0), .int .i64 ((rd_T140 l0 x3_1).f1.f1), .string ((rd_T140 l0 x3_1).f1.f2), .slice A101_4 ((rd_T140 l0 x3_1).f1.f3).length c101_4]] (by rfl) rfl rfl ar_ ?_
        with_reducible refine (spec_l2Plain.calls k1 ((rd_T140 l0 x3_1).f1.f0) ((rd_T140 l0 x3_1).f1.f1) ((rd_T140 l0 x3_1).f1.f2) _ _ ((rd_T140 l0 x3_1).f1.f3) _ _ ?side1 ?side2 A8.out).mono ?_
        (case side1 => exact rdb_ HR105_4)
        (case side2 => exact HC105_4.out)
        rintro e w26 ⟨rfl, hb⟩
        refine ⟨_, rfl, ?_⟩
        replace HB := bs_ hb
        (try clear hb)
        (try clear hb2)
        (try clear hk)
        (try clear hi)
        refine hK.out _ _ ⟨(mv_ HB hw101_0 :), (mv_ HB hw101_1 :), (mv_ HB hw101_2 :), (mv_ HB hw101_3 :), (mv_ HB hw101_4 :), (mv_ HB hw103_0 :), (mv_ HB hw103_1 :), (mv_ HB hw103_2 :), (mv_ HB hw103_3 :), (mv_ HB hw103_4 :), (mv_ HB hw105_0 :), (mv_ HB hw105_1 :), (mv_ HB hw105_2 :), (mv_ HB hw105_3 :), (mv_ HB hw105_4 :)⟩ (fun hHeld => ?_)
        clear hK K
        refine norm_ (a' := ?_) ?_ ?_
        rotate_left
        · show Act.put _ (some 32) _ = _
          simp only [Act.put, List.setIfInBounds_toArray, List.set_cons_zero, List.set_cons_succ, i64_w, i32_w]
          rfl
        refine puA 23 (some 33) ?_
        refine puA 24 (some 34) ?_
        refine puA 25 (some 35) ?_
      rotate_left
      · refine puX 26 (some 36) ?_
        refine puX 27 (some 37) ?_
        refine puX 28 (some 38) ?_
        refine puX 29 (some 39) ?_
        refine puX 30 (some 40) ?_
        refine puX 31 (some 41) ?_
        refine puX 32 (some 42) ?_
        refine puX 33 (some 43) ?_
        refine puX 34 (some 44) ?_
        refine puX 35 (some 45) ?_
        refine puX 36 (some 46) ?_
        refine puX 37 (some 47) ?_
        refine puX 38 (some 48) ?_
        refine puX 39 (some 49) ?_
        refine puX 40 (some 50) ?_
        refine puX 41 (some 51) ?_
        refine puA 42 (some 52) ?_
        refine done_ (done_of HT_.out (by kernel_rfl)) ?_
        try go_wp2
        go_ret
        exact re_
      refine puA 26 (some 36) ?_
      refine puA 27 (some 37) ?_
      refine puA 28 (some 38) ?_
      refine puX 29 (some 39) ?_
      refine puX 30 (some 40) ?_
      refine puX 31 (some 41) ?_
      refine puX 32 (some 42) ?_
      refine puX 33 (some 43) ?_
      refine puX 34 (some 44) ?_
      refine puX 35 (some 45) ?_
      refine puX 36 (some 46) ?_
      refine puX 37 (some 47) ?_
      refine puX 38 (some 48) ?_
      refine puX 39 (some 49) ?_
      refine puX 40 (some 50) ?_
      refine puA 41 (some 51) ?_
      refine puA 42 (some 52) ?_
      refine done_ (done_of HT_.out (by kernel_rfl)) ?_
      try go_wp2
      go_roundg k1
      case measure => have := HK1.out; omega
      case rel => exact ⟨(wrap64 (x3_1 + 1)), sm_, H', ⟨by have := HK1.out; omega⟩, ⟨bel_⟩⟩

/-! ### spec_l2Node: function 73 -/
def spec_l2Node.l0 : Nat → Int → Int → List (S99) → List (S104) → Int → Int → Option (Int)
  | 0, _, _, _, _, _, _ => none
  | k + 1, x1, x5, x102000, x102001, x102002, x102003 => if x5 < (x102000.length : Int) then (if 0 ≤ x5 then (if ((rd_T99 x102000 x5).f0) = x1 then (some x5) else (spec_l2Node.l0 k x1 (wrap64 (x5 + 1)) x102000 x102001 x102002 x102003)) else (none)) else (some (-1))
def spec_l2Node.f (k : Nat) (l0_0 : List (S99)) (l0_1 : List (S104)) (a0_2 : Int) (a0_3 : Int) (a1 : Int) : Option (Int) := spec_l2Node.l0 k a1 0 l0_0 l0_1 a0_2 a0_3
set_option maxHeartbeats 8000000 in
set_option maxRecDepth 100000 in
theorem spec_l2Node.calls (k : Nat) (A0_0 : Option Addr) (c0_0 : Nat) (l0_0 : List (S99)) (A0_1 : Option Addr) (c0_1 : Nat) (l0_1 : List (S104)) (a0_2 : Int) (a0_3 : Int) (a1 : Int) (r : Int) (w : World) (hr0_0 : Kd.C k99 w A0_0 l0_0.length l0_0) (hc0_0 : l0_0.length ≤ c0_0) (hr0_1 : Kd.C k104 w A0_1 l0_1.length l0_1) (hc0_1 : l0_1.length ≤ c0_1) (h : spec_l2Node.f k l0_0 l0_1 a0_2 a0_3 a1 = some r) :
    Calls Try.prog 73 #[.agg #[.slice A0_0 l0_0.length c0_0, .slice A0_1 l0_1.length c0_1, .int .i64 a0_2, .int .i64 a0_3], .int .i64 a1] w fun e w' => e = .returned (.int .i64 r) ∧ Below w.heap.size w w' := by
  have hu31 := Try.underlying31
  have HR0_0 := Aside0.mk hr0_0
  have HC0_0 := Aside0.mk hc0_0
  clear hr0_0 hc0_0
  have HR0_1 := Aside0.mk hr0_1
  have HC0_1 := Aside0.mk hc0_1
  clear hr0_1 hc0_1
  have HB := Aside0.mk (Below.refl w.heap.size w)
  have H : (spec_l2Node.l0 k a1 0 l0_0 l0_1 a0_2 a0_3) = some r := h
  clear h
  have H' := Aside0.mk H
  clear H
  go_enter Try.func73, Try.ntmps73
  go_wp2_with (first | ((with_reducible refine gate_dst (N := 2) rfl ?_); refine bx_ 2 #[.slice A0_0 l0_0.length c0_0, .slice A0_1 l0_1.length c0_1, .int .i64 a0_2, .int .i64 a0_3] 31 ?_; intro gb101 hg w3 hbox hb; have BK101 := Aside0.mk (hbox); have GW101 := gw_ hg; have GE101 := gw_ hg; replace HB := bs_ hb; clear hb hbox hg))
  go_loopg [5] k (fun kq v5 w' => ∃ (x5_1 : Int), v5 = .int .i64 x5_1 ∧ Aside0 (spec_l2Node.l0 kq a1 x5_1 l0_0 l0_1 a0_2 a0_3 = some r) ∧ Aside0 (kq ≤ k) ∧ Aside0 (w'.heap[gb101]? = some (.cells #[(.slice A0_0 l0_0.length c0_0), (.slice A0_1 l0_1.length c0_1), .int .i64 a0_2, .int .i64 a0_3] 31 (0, 0))) ∧ Aside0 (Below w.heap.size w w'))
  case atStart => exact ⟨(0), sm_, H', ⟨Nat.le_refl _⟩, ⟨by refine pe_ ?_; exact BK101.out⟩, ⟨bel_⟩⟩
  case round =>
    clear H'
    try clear p2
    obtain ⟨x5_1, rfl, HA, HK1, BK101, HB⟩ := hrel
    cases gk with
    | zero => exact absurd HA.out (by simp [spec_l2Node.l0])
    | succ k1 =>
      have H := HA.out
      clear HA
      simp only [spec_l2Node.l0] at H
      by_cases c4 : x5_1 < (l0_0.length : Int)
      rotate_left
      rw [if_neg c4] at H
      have c4b0 : decide (x5_1 < (l0_0.length : Int)) = false := decide_eq_false c4
      clear c4
      obtain rfl := Option.some.inj H
      rotate_right
      rw [if_pos c4] at H
      have c4b0 : decide (x5_1 < (l0_0.length : Int)) = true := decide_eq_true c4
      clear c4
      by_cases c5 : 0 ≤ x5_1
      rotate_left
      · rw [if_neg c5] at H
        exact absurd H (by simp)
      rotate_right
      rw [if_pos c5] at H
      have c5b0 : decide (0 ≤ x5_1) = true := decide_eq_true c5
      clear c5
      by_cases c6 : ((rd_T99 l0_0 x5_1).f0) = a1
      rotate_left
      rw [if_neg c6] at H
      have c6b0 : (((rd_T99 l0_0 x5_1).f0) == a1) = false := beq_eq_false_iff_ne.mpr c6
      have c6b1 : (((rd_T99 l0_0 x5_1).f0) != a1) = true := bne_iff_ne.mpr c6
      have H' := Aside0.mk H
      clear H
      rotate_right
      rw [if_pos c6] at H
      have c6b0 : (((rd_T99 l0_0 x5_1).f0) == a1) = true := beq_iff_eq.mpr c6
      have c6b1 : (((rd_T99 l0_0 x5_1).f0) != a1) = false := bne_eq_false_iff_eq.mpr c6
      clear c6
      obtain rfl := Option.some.inj H
      all_goals
        obtain ⟨hcz8_0, hcz8_1, hcz8_2, hcz8_3, hfz8_0, hfz8_1, hfz8_2, hfz8_3⟩ := blk4 BK101
      rotate_left 2
      · go_wp2
        go_ret
        exact re_
      all_goals
        have p102 : 0 ≤ (x5_1 : Int) := od_
        have q102 : x5_1 < (l0_0.length : Int) := od_
        obtain ⟨ad102, A102_1, c102_1, A102_2, c102_2, e102, hx102_0, hx102_1, hx102_2, hl102_1, hi102_1, hl102_2, hi102_2⟩ := at_T99 HR0_0.out x5_1 p102 q102
        cases e102
        replace hx102_0 := mv_ HB hx102_0
        replace hx102_1 := mv_ HB hx102_1
        replace hx102_2 := mv_ HB hx102_2
        have HR102_1 := Aside0.mk hi102_1
        have HC102_1 := Aside0.mk hl102_1
        clear hi102_1 hl102_1
        have HR102_2 := Aside0.mk hi102_2
        have HC102_2 := Aside0.mk hl102_2
        clear hi102_2 hl102_2
        replace p102 := eq_true p102
        replace q102 := eq_true q102
        go_wp2
      · go_ret
        exact re_
      go_roundg k1
      case measure => have := HK1.out; omega
      case rel => exact ⟨(wrap64 (x5_1 + 1)), sm_, H', ⟨by have := HK1.out; omega⟩, ⟨by refine pe_ ?_; exact BK101.out⟩, ⟨bel_⟩⟩

end Go.Proofs.Ytcchmhmbjhgfdaa.G
