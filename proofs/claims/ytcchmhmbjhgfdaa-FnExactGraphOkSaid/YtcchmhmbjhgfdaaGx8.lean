-- Printed by a program of this claim's writer (wip/gen), out of the translation. Lean checks it.
import Derived.Test.YtcchmhmbjhgfdaaGx0
import Derived.Test.YtcchmhmbjhgfdaaGx3
import Derived.Test.YtcchmhmbjhgfdaaGx6
import Derived.Test.YtcchmhmbjhgfdaaGx7
namespace Go.Proofs.Ytcchmhmbjhgfdaa.G
open Go.RowKit Go.Proofs.YtcchmhmbjhgfdaaW.PrintWords Go.Proofs.YtcchmhmbjhgfdaaW.PrintLast Go.Proofs.YtcchmhmbjhgfdaaW.PrintMore
attribute [local go_sem] max2_int min2_int max_two min_two max_three min_three max_four min_four Own.str_gtr Own.str_leq Own.str_geq Own.sto_fn   -- for this text's walks alone
open Own
set_option linter.unusedVariables false
set_option linter.unusedSimpArgs false

/-! ### spec_l2Props: function 71 -/
def spec_l2Props.l0 : Nat → List (S140) → Int → Option (Bool)
  | 0, _, _ => none
  | k + 1, x0, x3 => if x3 < (x0.length : Int) then (if 0 ≤ x3 then ((spec_l2Name.f k ((rd_T140 x0 x3).f0)).bind fun t147 => (if t147 = true then ((spec_ValueOk.f k ((rd_T140 x0 x3).f1.f0) ((rd_T140 x0 x3).f1.f1) ((rd_T140 x0 x3).f1.f2) ((rd_T140 x0 x3).f1.f3)).bind fun t149 => (if t149 = true then ((spec_l2Plain.f k ((rd_T140 x0 x3).f1.f0) ((rd_T140 x0 x3).f1.f1) ((rd_T140 x0 x3).f1.f2) ((rd_T140 x0 x3).f1.f3)).bind fun t151 => (if t151 = true then (if x3 > 0 then (if 0 ≤ (wrap64 (x3 - 1)) then (if (wrap64 (x3 - 1)) < (x0.length : Int) then (if ((Op.bytesLess (((rd_T140 x0 (wrap64 (x3 - 1))).f0).toList) (((rd_T140 x0 x3).f0).toList)) = true) then (spec_l2Props.l0 k x0 (wrap64 (x3 + 1))) else (some false)) else (none)) else (none)) else (spec_l2Props.l0 k x0 (wrap64 (x3 + 1)))) else (some false))) else (some false))) else (some false))) else (none)) else (some (decide ((x0.length : Int) ≤ 4)))
def spec_l2Props.f (k : Nat) (l0 : List (S140)) : Option (Bool) := spec_l2Props.l0 k l0 0
def spec_l2Props.T4 : Bool × List (List Nat × List Nat) := (true, [([], []), ([], []), ([0, 1], [0, 1]), ([2], [2]), ([3], [3]), ([4], [4]), ([5], [5]), ([6, 5], [6]), ([7], [7]), ([7], [7]), ([8, 9, 7], [7, 8, 9]), ([10, 7], [7, 10]), ([11, 7], [7, 11]), ([12, 7, 7], [7, 12]), ([13, 7], [7, 13]), ([7, 14], [7, 14]), ([15, 13], [15]), ([16], [16]), ([16], [16]), ([17, 18, 16], [16, 17, 18]), ([19, 16], [16, 19]), ([20, 16], [16, 20]), ([21, 16, 16], [16, 21]), ([22, 16], [16, 22]), ([16, 23], [16, 23]), ([24, 22], [24]), ([25], [25]), ([26, 25], [25, 26]), ([27, 25, 25], [25, 27]), ([28], [28]), ([28], [28]), ([30, 28], [28, 30]), ([29, 31, 28], [28, 29, 31]), ([32, 28], [28, 32]), ([33, 28], [28, 33]), ([28], [28]), ([28], [28]), ([35, 36, 28], [28, 35, 36]), ([37, 28], [28, 37]), ([38, 28], [28, 38]), ([34, 39, 28], [28, 34, 39]), ([28, 40, 25], [25, 28, 40]), ([25, 41], [25, 41])])
def spec_l2Props.B4 : List Nat := [0, 0, 3, 7, 15, 31, 63, 127, 255, 255, 1023, 2047, 4095, 8191, 16383, 32767, 65535, 131071, 131071, 524287, 1048575, 2097151, 4194303, 8388607, 16777215, 33554431, 67108863, 134217727, 268435455, 536870911, 536870911, 1610612735, 4294967295, 8589934591, 17179869183, 536870911, 536870911, 103616086015, 241055039487, 515932946431, 1099511627775, 2199023255551, 4398046511103]
theorem spec_l2Props.tab4 : rtab .any (opsOf Try.f71 4) = spec_l2Props.T4 := by kernel_rfl
theorem spec_l2Props.bits4 : waitsOk spec_l2Props.T4.2 spec_l2Props.B4 = true := by kernel_rfl
set_option maxHeartbeats 8000000 in
set_option maxRecDepth 100000 in
theorem spec_l2Props.calls (k : Nat) (A0 : Option Addr) (c0 : Nat) (l0 : List (S140)) (r : Bool) (w : World) (hr0 : Kd.C k140 w A0 l0.length l0) (hc0 : l0.length ≤ c0) (h : spec_l2Props.f k l0 = some r) :
    Calls Try.prog 71 #[.slice A0 l0.length c0] w fun e w' => e = .returned (.bool r) ∧ Below w.heap.size w w' := by
  have hu49 := Try.underlying49
  have HR0 := Aside0.mk hr0
  have HC0 := Aside0.mk hc0
  clear hr0 hc0
  have HB := Aside0.mk (Below.refl w.heap.size w)
  have H : (spec_l2Props.l0 k l0 0) = some r := h
  clear h
  have H' := Aside0.mk H
  clear H
  go_enter Try.func71, Try.ntmps71
  go_wp2
  go_loopg [3] k (fun kq v3 w' => ∃ (x3_1 : Int), v3 = .int .i64 x3_1 ∧ Aside0 (spec_l2Props.l0 kq l0 x3_1 = some r) ∧ Aside0 (kq ≤ k) ∧ Aside0 (Below w.heap.size w w'))
  case atStart => exact ⟨(0), sm_, H', ⟨Nat.le_refl _⟩, ⟨bel_⟩⟩
  case round =>
    clear H'
    obtain ⟨x3_1, rfl, HA, HK1, HB⟩ := hrel
    cases gk with
    | zero => exact absurd HA.out (by simp [spec_l2Props.l0])
    | succ k1 =>
      have H := HA.out
      clear HA
      simp only [spec_l2Props.l0] at H
      by_cases c2 : x3_1 < (l0.length : Int)
      rotate_left
      · rw [if_neg c2] at H
        have c2b0 : decide (x3_1 < (l0.length : Int)) = false := decide_eq_false c2
        clear c2
        obtain rfl := Option.some.inj H
        go_wp2
        go_ret
        exact re_
      rw [if_pos c2] at H
      have c2b0 : decide (x3_1 < (l0.length : Int)) = true := decide_eq_true c2
      clear c2
      by_cases c3 : 0 ≤ x3_1
      rotate_left
      · rw [if_neg c3] at H
        exact absurd H (by simp)
      rw [if_pos c3] at H
      have c3b0 : decide (0 ≤ x3_1) = true := decide_eq_true c3
      clear c3
      replace H := Option.bind_eq_some_iff.mp H
      obtain ⟨t147, A40, H⟩ := H
      replace H : (if t147 = true then ((spec_ValueOk.f k1 ((rd_T140 l0 x3_1).f1.f0) ((rd_T140 l0 x3_1).f1.f1) ((rd_T140 l0 x3_1).f1.f2) ((rd_T140 l0 x3_1).f1.f3)).bind fun t149 => (if t149 = true then ((spec_l2Plain.f k1 ((rd_T140 l0 x3_1).f1.f0) ((rd_T140 l0 x3_1).f1.f1) ((rd_T140 l0 x3_1).f1.f2) ((rd_T140 l0 x3_1).f1.f3)).bind fun t151 => (if t151 = true then (if x3_1 > 0 then (if 0 ≤ (wrap64 (x3_1 - 1)) then (if (wrap64 (x3_1 - 1)) < (l0.length : Int) then (if ((Op.bytesLess (((rd_T140 l0 (wrap64 (x3_1 - 1))).f0).toList) (((rd_T140 l0 x3_1).f0).toList)) = true) then (spec_l2Props.l0 k1 l0 (wrap64 (x3_1 + 1))) else (some false)) else (none)) else (none)) else (spec_l2Props.l0 k1 l0 (wrap64 (x3_1 + 1)))) else (some false))) else (some false))) else (some false)) = some r := H
      have A4 := Aside0.mk A40
      clear A40
      by_cases c5 : t147 = true
      rotate_left
      · replace c5 := Bool.eq_false_iff.mpr c5
        subst c5
        have H1 : (some false) = some r := by rw [if_neg (show ¬ (false = true) by decide)] at H; exact H
        clear H
        have H := H1
        clear H1
        obtain rfl := Option.some.inj H
        try go_wp2
        replace HB := Aside0.mk (below_drew1 HB.out)
        have p146 : 0 ≤ (x3_1 : Int) := od_
        have q146 : x3_1 < (l0.length : Int) := od_
        obtain ⟨ad146, A146_4, c146_4, e146, hx146_0, hx146_1, hx146_2, hx146_3, hx146_4, hl146_4, hi146_4⟩ := at_T140 HR0.out x3_1 p146 q146
        have hw146_4 := hx146_4
        have hw146_3 := hx146_3
        have hw146_2 := hx146_2
        have hw146_1 := hx146_1
        have hw146_0 := hx146_0
        cases e146
        replace hx146_0 := mv_ HB hx146_0
        replace hx146_1 := mv_ HB hx146_1
        replace hx146_2 := mv_ HB hx146_2
        replace hx146_3 := mv_ HB hx146_3
        replace hx146_4 := mv_ HB hx146_4
        have HR146_4 := Aside0.mk hi146_4
        have HC146_4 := Aside0.mk hl146_4
        clear hi146_4 hl146_4
        replace p146 := eq_true p146
        replace q146 := eq_true q146
        refine start_ (n := 43) (S := fun w' => w'.cell? (ad146.add ((x3_1).toNat * 5)) = some (.string ((rd_T140 l0 x3_1).f0)) ∧ w'.cell? ⟨(ad146.add ((x3_1).toNat * 5)).block, (ad146.add ((x3_1).toNat * 5)).off + 1, none⟩ = some (.int .i64 ((rd_T140 l0 x3_1).f1.f0)) ∧ w'.cell? ⟨(ad146.add ((x3_1).toNat * 5)).block, (ad146.add ((x3_1).toNat * 5)).off + 2, none⟩ = some (.int .i64 ((rd_T140 l0 x3_1).f1.f1)) ∧ w'.cell? ⟨(ad146.add ((x3_1).toNat * 5)).block, (ad146.add ((x3_1).toNat * 5)).off + 3, none⟩ = some (.string ((rd_T140 l0 x3_1).f1.f2)) ∧ w'.cell? ⟨(ad146.add ((x3_1).toNat * 5)).block, (ad146.add ((x3_1).toNat * 5)).off + 4, none⟩ = some (.slice A146_4 ((rd_T140 l0 x3_1).f1.f3).length c146_4)) (ds := []) #[false, false, false, false, false, false, false, false, false, false, false, false, false, false, false, false, false, false, false, false, false, false, false, false, false, false, false, false, false, false, false, false, false, false, false, false, false, false, false, false, false, false, false] (by kernel_rfl) rfl rfl ⟨(mv_ HB hw146_0 :), (mv_ HB hw146_1 :), (mv_ HB hw146_2 :), (mv_ HB hw146_3 :), (mv_ HB hw146_4 :)⟩ (fun hHeld => ?_); refine with_tabW spec_l2Props.tab4 spec_l2Props.bits4 (fun HT_ HW_ => ?_)
        generalize wr.drew = w34 at HB HR146_4 hx146_0 hx146_1 hx146_2 hx146_3 hx146_4 hHeld ⊢
        refine puA 0 (some 10) ?_
        refine puA 1 (some 11) ?_
        refine puA 2 (some 12) ?_
        refine puA 3 (some 13) ?_
        refine taA 4 (some 14) ?_
        refine one_ (i := 5) (N := some 15) #[true, true, true, true, true, true, false, false, false, false, false, false, false, false, false, false, false, false, false, false, false, false, false, false, false, false, false, false, false, false, false, false, false, false, false, false, false, false, false, false, false, false, false] rfl rfl (one_of HT_.out (by kernel_rfl)) (by decide) (fun K hK => ?_)
        refine goes_ Try.func72 (by kernel_rfl) rfl #[.string ((rd_T140 l0 x3_1).f0)] (by rfl) rfl rfl ar_ ?_
        with_reducible refine (spec_l2Name.calls k1 ((rd_T140 l0 x3_1).f0) false _ A4.out).mono ?_
        rintro e w35 ⟨rfl, hb⟩
        refine ⟨_, rfl, ?_⟩
        replace HB := bs_ hb
        (try clear hb)
        (try clear hb2)
        (try clear hk)
        (try clear hi)
        refine hK.out _ _ ⟨(mv_ HB hw146_0 :), (mv_ HB hw146_1 :), (mv_ HB hw146_2 :), (mv_ HB hw146_3 :), (mv_ HB hw146_4 :)⟩ (fun hHeld => ?_)
        clear hK K
        refine norm_ (a' := ?_) ?_ ?_
        rotate_left
        · show Act.put _ (some 15) _ = _
          simp only [Act.put, List.setIfInBounds_toArray, List.set_cons_zero, List.set_cons_succ, i64_w, i32_w]
          rfl
        refine puA 6 (some 16) ?_
        refine puA 7 (some 17) ?_
        refine puX 8 (some 18) ?_
        refine puX 9 (some 19) ?_
        refine puX 10 (some 20) ?_
        refine puX 11 (some 21) ?_
        refine puX 12 (some 22) ?_
        refine puX 13 (some 23) ?_
        refine puX 14 (some 24) ?_
        refine puA 15 (some 25) ?_
        refine puA 16 (some 26) ?_
        refine puX 17 (some 27) ?_
        refine puX 18 (some 28) ?_
        refine puX 19 (some 29) ?_
        refine puX 20 (some 30) ?_
        refine puX 21 (some 31) ?_
        refine puX 22 (some 32) ?_
        refine puX 23 (some 33) ?_
        refine puA 24 (some 34) ?_
        refine puA 25 (some 35) ?_
        refine puX 26 (some 36) ?_
        refine puX 27 (some 37) ?_
        refine puX 28 (some 38) ?_
        refine puX 29 (some 39) ?_
        refine puX 30 (some 40) ?_
        refine puX 31 (some 41) ?_
        refine puX 32 (some 42) ?_
        refine puX 33 (some 43) ?_
        refine puX 34 (some 44) ?_
        refine puX 35 (some 45) ?_
        refine puX 36 (some 46) ?_
        refine puX 37 (some 47) ?_
        refine puX 38 (some 48) ?_
        refine puX 39 (some 49) ?_
        refine puX 40 (some 50) ?_
        refine puX 41 (some 51) ?_
        refine puA 42 (some 52) ?_
        refine done_ (done_of HT_.out (by kernel_rfl)) ?_
        try go_wp2
        go_ret
        exact re_
      subst c5
      have H1 : ((spec_ValueOk.f k1 ((rd_T140 l0 x3_1).f1.f0) ((rd_T140 l0 x3_1).f1.f1) ((rd_T140 l0 x3_1).f1.f2) ((rd_T140 l0 x3_1).f1.f3)).bind fun t149 => (if t149 = true then ((spec_l2Plain.f k1 ((rd_T140 l0 x3_1).f1.f0) ((rd_T140 l0 x3_1).f1.f1) ((rd_T140 l0 x3_1).f1.f2) ((rd_T140 l0 x3_1).f1.f3)).bind fun t151 => (if t151 = true then (if x3_1 > 0 then (if 0 ≤ (wrap64 (x3_1 - 1)) then (if (wrap64 (x3_1 - 1)) < (l0.length : Int) then (if ((Op.bytesLess (((rd_T140 l0 (wrap64 (x3_1 - 1))).f0).toList) (((rd_T140 l0 x3_1).f0).toList)) = true) then (spec_l2Props.l0 k1 l0 (wrap64 (x3_1 + 1))) else (some false)) else (none)) else (none)) else (spec_l2Props.l0 k1 l0 (wrap64 (x3_1 + 1)))) else (some false))) else (some false))) = some r := by rw [if_pos rfl] at H; exact H
      clear H
      have H := H1
      clear H1
      replace H := Option.bind_eq_some_iff.mp H
      obtain ⟨t149, A60, H⟩ := H
      replace H : (if t149 = true then ((spec_l2Plain.f k1 ((rd_T140 l0 x3_1).f1.f0) ((rd_T140 l0 x3_1).f1.f1) ((rd_T140 l0 x3_1).f1.f2) ((rd_T140 l0 x3_1).f1.f3)).bind fun t151 => (if t151 = true then (if x3_1 > 0 then (if 0 ≤ (wrap64 (x3_1 - 1)) then (if (wrap64 (x3_1 - 1)) < (l0.length : Int) then (if ((Op.bytesLess (((rd_T140 l0 (wrap64 (x3_1 - 1))).f0).toList) (((rd_T140 l0 x3_1).f0).toList)) = true) then (spec_l2Props.l0 k1 l0 (wrap64 (x3_1 + 1))) else (some false)) else (none)) else (none)) else (spec_l2Props.l0 k1 l0 (wrap64 (x3_1 + 1)))) else (some false))) else (some false)) = some r := H
      have A6 := Aside0.mk A60
      clear A60
      by_cases c7 : t149 = true
      rotate_left
      · replace c7 := Bool.eq_false_iff.mpr c7
        subst c7
        have H1 : (some false) = some r := by rw [if_neg (show ¬ (false = true) by decide)] at H; exact H
        clear H
        have H := H1
        clear H1
        obtain rfl := Option.some.inj H
        try go_wp2
        replace HB := Aside0.mk (below_drew1 HB.out)
        have p146 : 0 ≤ (x3_1 : Int) := od_
        have q146 : x3_1 < (l0.length : Int) := od_
        obtain ⟨ad146, A146_4, c146_4, e146, hx146_0, hx146_1, hx146_2, hx146_3, hx146_4, hl146_4, hi146_4⟩ := at_T140 HR0.out x3_1 p146 q146
        have hw146_4 := hx146_4
        have hw146_3 := hx146_3
        have hw146_2 := hx146_2
        have hw146_1 := hx146_1
        have hw146_0 := hx146_0
        cases e146
        replace hx146_0 := mv_ HB hx146_0
        replace hx146_1 := mv_ HB hx146_1
        replace hx146_2 := mv_ HB hx146_2
        replace hx146_3 := mv_ HB hx146_3
        replace hx146_4 := mv_ HB hx146_4
        have HR146_4 := Aside0.mk hi146_4
        have HC146_4 := Aside0.mk hl146_4
        clear hi146_4 hl146_4
        replace p146 := eq_true p146
        replace q146 := eq_true q146
        have p148 : 0 ≤ (x3_1 : Int) := od_
        have q148 : x3_1 < (l0.length : Int) := od_
        obtain ⟨ad148, A148_4, c148_4, e148, hx148_0, hx148_1, hx148_2, hx148_3, hx148_4, hl148_4, hi148_4⟩ := at_T140 HR0.out x3_1 p148 q148
        have hw148_4 := hx148_4
        have hw148_3 := hx148_3
        have hw148_2 := hx148_2
        have hw148_1 := hx148_1
        have hw148_0 := hx148_0
        obtain rfl : ad146 = ad148 := (by injection e148)
        obtain ⟨rfl, rfl⟩ := sls_ hw146_4 hw148_4
        replace hx148_0 := mv_ HB hx148_0
        replace hx148_1 := mv_ HB hx148_1
        replace hx148_2 := mv_ HB hx148_2
        replace hx148_3 := mv_ HB hx148_3
        replace hx148_4 := mv_ HB hx148_4
        have HR148_4 := Aside0.mk hi148_4
        have HC148_4 := Aside0.mk hl148_4
        clear hi148_4 hl148_4
        replace p148 := eq_true p148
        replace q148 := eq_true q148
        refine start_ (n := 43) (S := fun w' => w'.cell? (ad146.add ((x3_1).toNat * 5)) = some (.string ((rd_T140 l0 x3_1).f0)) ∧ w'.cell? ⟨(ad146.add ((x3_1).toNat * 5)).block, (ad146.add ((x3_1).toNat * 5)).off + 1, none⟩ = some (.int .i64 ((rd_T140 l0 x3_1).f1.f0)) ∧ w'.cell? ⟨(ad146.add ((x3_1).toNat * 5)).block, (ad146.add ((x3_1).toNat * 5)).off + 2, none⟩ = some (.int .i64 ((rd_T140 l0 x3_1).f1.f1)) ∧ w'.cell? ⟨(ad146.add ((x3_1).toNat * 5)).block, (ad146.add ((x3_1).toNat * 5)).off + 3, none⟩ = some (.string ((rd_T140 l0 x3_1).f1.f2)) ∧ w'.cell? ⟨(ad146.add ((x3_1).toNat * 5)).block, (ad146.add ((x3_1).toNat * 5)).off + 4, none⟩ = some (.slice A146_4 ((rd_T140 l0 x3_1).f1.f3).length c146_4) ∧ w'.cell? (ad146.add ((x3_1).toNat * 5)) = some (.string ((rd_T140 l0 x3_1).f0)) ∧ w'.cell? ⟨(ad146.add ((x3_1).toNat * 5)).block, (ad146.add ((x3_1).toNat * 5)).off + 1, none⟩ = some (.int .i64 ((rd_T140 l0 x3_1).f1.f0)) ∧ w'.cell? ⟨(ad146.add ((x3_1).toNat * 5)).block, (ad146.add ((x3_1).toNat * 5)).off + 2, none⟩ = some (.int .i64 ((rd_T140 l0 x3_1).f1.f1)) ∧ w'.cell? ⟨(ad146.add ((x3_1).toNat * 5)).block, (ad146.add ((x3_1).toNat * 5)).off + 3, none⟩ = some (.string ((rd_T140 l0 x3_1).f1.f2)) ∧ w'.cell? ⟨(ad146.add ((x3_1).toNat * 5)).block, (ad146.add ((x3_1).toNat * 5)).off + 4, none⟩ = some (.slice A146_4 ((rd_T140 l0 x3_1).f1.f3).length c146_4)) (ds := []) #[false, false, false, false, false, false, false, false, false, false, false, false, false, false, false, false, false, false, false, false, false, false, false, false, false, false, false, false, false, false, false, false, false, false, false, false, false, false, false, false, false, false, false] (by kernel_rfl) rfl rfl ⟨(mv_ HB hw146_0 :), (mv_ HB hw146_1 :), (mv_ HB hw146_2 :), (mv_ HB hw146_3 :), (mv_ HB hw146_4 :), (mv_ HB hw148_0 :), (mv_ HB hw148_1 :), (mv_ HB hw148_2 :), (mv_ HB hw148_3 :), (mv_ HB hw148_4 :)⟩ (fun hHeld => ?_); refine with_tabW spec_l2Props.tab4 spec_l2Props.bits4 (fun HT_ HW_ => ?_)
        generalize wr.drew = w31 at HB HR146_4 HR148_4 hx146_0 hx146_1 hx146_2 hx146_3 hx146_4 hx148_0 hx148_1 hx148_2 hx148_3 hx148_4 hHeld ⊢
        refine puA 0 (some 10) ?_
        refine puA 1 (some 11) ?_
        refine puA 2 (some 12) ?_
        refine puA 3 (some 13) ?_
        refine taA 4 (some 14) ?_
        refine one_ (i := 5) (N := some 15) #[true, true, true, true, true, true, false, false, false, false, false, false, false, false, false, false, false, false, false, false, false, false, false, false, false, false, false, false, false, false, false, false, false, false, false, false, false, false, false, false, false, false, false] rfl rfl (one_of HT_.out (by kernel_rfl)) (by decide) (fun K hK => ?_)
        refine goes_ Try.func72 (by kernel_rfl) rfl #[.string ((rd_T140 l0 x3_1).f0)] (by rfl) rfl rfl ar_ ?_
        with_reducible refine (spec_l2Name.calls k1 ((rd_T140 l0 x3_1).f0) true _ A4.out).mono ?_
        rintro e w32 ⟨rfl, hb⟩
        refine ⟨_, rfl, ?_⟩
        replace HB := bs_ hb
        (try clear hb)
        (try clear hb2)
        (try clear hk)
        (try clear hi)
        refine hK.out _ _ ⟨(mv_ HB hw146_0 :), (mv_ HB hw146_1 :), (mv_ HB hw146_2 :), (mv_ HB hw146_3 :), (mv_ HB hw146_4 :), (mv_ HB hw148_0 :), (mv_ HB hw148_1 :), (mv_ HB hw148_2 :), (mv_ HB hw148_3 :), (mv_ HB hw148_4 :)⟩ (fun hHeld => ?_)
        clear hK K
        refine norm_ (a' := ?_) ?_ ?_
        rotate_left
        · show Act.put _ (some 15) _ = _
          simp only [Act.put, List.setIfInBounds_toArray, List.set_cons_zero, List.set_cons_succ, i64_w, i32_w]
          rfl
        refine puA 6 (some 16) ?_
        refine puA 7 (some 17) ?_
        refine puA 8 (some 18) ?_
        refine puA 9 (some 19) ?_
        refine puA 10 (some 20) ?_
        refine puA 11 (some 21) ?_
        refine taA 12 (some 22) ?_
        refine one_ (i := 13) (N := some 23) #[true, true, true, true, true, true, true, true, true, true, true, true, true, true, false, false, false, false, false, false, false, false, false, false, false, false, false, false, false, false, false, false, false, false, false, false, false, false, false, false, false, false, false] rfl rfl (one_of HT_.out (by kernel_rfl)) (by decide) (fun K hK => ?_)
        refine goes_ Try.func94 (by kernel_rfl) rfl #[.agg #[.int .i64 ((rd_T140 l0 x3_1).f1.f0), .int .i64 ((rd_T140 l0 x3_1).f1.f1), .string ((rd_T140 l0 x3_1).f1.f2), .slice A146_4 ((rd_T140 l0 x3_1).f1.f3).length c146_4]] (by rfl) rfl rfl ar_ ?_
        with_reducible refine (spec_ValueOk.calls k1 ((rd_T140 l0 x3_1).f1.f0) ((rd_T140 l0 x3_1).f1.f1) ((rd_T140 l0 x3_1).f1.f2) _ _ ((rd_T140 l0 x3_1).f1.f3) false _ ?side1 ?side2 A6.out).mono ?_
        (case side1 => exact rdb_ HR148_4)
        (case side2 => exact HC148_4.out)
        rintro e w33 ⟨rfl, hb⟩
        refine ⟨_, rfl, ?_⟩
        replace HB := bs_ hb
        (try clear hb)
        (try clear hb2)
        (try clear hk)
        (try clear hi)
        refine hK.out _ _ ⟨(mv_ HB hw146_0 :), (mv_ HB hw146_1 :), (mv_ HB hw146_2 :), (mv_ HB hw146_3 :), (mv_ HB hw146_4 :), (mv_ HB hw148_0 :), (mv_ HB hw148_1 :), (mv_ HB hw148_2 :), (mv_ HB hw148_3 :), (mv_ HB hw148_4 :)⟩ (fun hHeld => ?_)
        clear hK K
        refine norm_ (a' := ?_) ?_ ?_
        rotate_left
        · show Act.put _ (some 23) _ = _
          simp only [Act.put, List.setIfInBounds_toArray, List.set_cons_zero, List.set_cons_succ, i64_w, i32_w]
          rfl
        refine puA 14 (some 24) ?_
        refine puA 15 (some 25) ?_
        refine puA 16 (some 26) ?_
        refine puX 17 (some 27) ?_
        refine puX 18 (some 28) ?_
        refine puX 19 (some 29) ?_
        refine puX 20 (some 30) ?_
        refine puX 21 (some 31) ?_
        refine puX 22 (some 32) ?_
        refine puX 23 (some 33) ?_
        refine puA 24 (some 34) ?_
        refine puA 25 (some 35) ?_
        refine puX 26 (some 36) ?_
        refine puX 27 (some 37) ?_
        refine puX 28 (some 38) ?_
        refine puX 29 (some 39) ?_
        refine puX 30 (some 40) ?_
        refine puX 31 (some 41) ?_
        refine puX 32 (some 42) ?_
        refine puX 33 (some 43) ?_
        refine puX 34 (some 44) ?_
        refine puX 35 (some 45) ?_
        refine puX 36 (some 46) ?_
        refine puX 37 (some 47) ?_
        refine puX 38 (some 48) ?_
        refine puX 39 (some 49) ?_
        refine puX 40 (some 50) ?_
        refine puX 41 (some 51) ?_
        refine puA 42 (some 52) ?_
        refine done_ (done_of HT_.out (by kernel_rfl)) ?_
        try go_wp2
        go_ret
        exact re_
      subst c7
      have H1 : ((spec_l2Plain.f k1 ((rd_T140 l0 x3_1).f1.f0) ((rd_T140 l0 x3_1).f1.f1) ((rd_T140 l0 x3_1).f1.f2) ((rd_T140 l0 x3_1).f1.f3)).bind fun t151 => (if t151 = true then (if x3_1 > 0 then (if 0 ≤ (wrap64 (x3_1 - 1)) then (if (wrap64 (x3_1 - 1)) < (l0.length : Int) then (if ((Op.bytesLess (((rd_T140 l0 (wrap64 (x3_1 - 1))).f0).toList) (((rd_T140 l0 x3_1).f0).toList)) = true) then (spec_l2Props.l0 k1 l0 (wrap64 (x3_1 + 1))) else (some false)) else (none)) else (none)) else (spec_l2Props.l0 k1 l0 (wrap64 (x3_1 + 1)))) else (some false))) = some r := by rw [if_pos rfl] at H; exact H
      clear H
      have H := H1
      clear H1
      replace H := Option.bind_eq_some_iff.mp H
      obtain ⟨t151, A80, H⟩ := H
      replace H : (if t151 = true then (if x3_1 > 0 then (if 0 ≤ (wrap64 (x3_1 - 1)) then (if (wrap64 (x3_1 - 1)) < (l0.length : Int) then (if ((Op.bytesLess (((rd_T140 l0 (wrap64 (x3_1 - 1))).f0).toList) (((rd_T140 l0 x3_1).f0).toList)) = true) then (spec_l2Props.l0 k1 l0 (wrap64 (x3_1 + 1))) else (some false)) else (none)) else (none)) else (spec_l2Props.l0 k1 l0 (wrap64 (x3_1 + 1)))) else (some false)) = some r := H
      have A8 := Aside0.mk A80
      clear A80
      by_cases c9 : t151 = true
      rotate_left
      · replace c9 := Bool.eq_false_iff.mpr c9
        subst c9
        have H1 : (some false) = some r := by rw [if_neg (show ¬ (false = true) by decide)] at H; exact H
        clear H
        have H := H1
        clear H1
        obtain rfl := Option.some.inj H
        try go_wp2
        replace HB := Aside0.mk (below_drew1 HB.out)
        have p146 : 0 ≤ (x3_1 : Int) := od_
        have q146 : x3_1 < (l0.length : Int) := od_
        obtain ⟨ad146, A146_4, c146_4, e146, hx146_0, hx146_1, hx146_2, hx146_3, hx146_4, hl146_4, hi146_4⟩ := at_T140 HR0.out x3_1 p146 q146
        have hw146_4 := hx146_4
        have hw146_3 := hx146_3
        have hw146_2 := hx146_2
        have hw146_1 := hx146_1
        have hw146_0 := hx146_0
        cases e146
        replace hx146_0 := mv_ HB hx146_0
        replace hx146_1 := mv_ HB hx146_1
        replace hx146_2 := mv_ HB hx146_2
        replace hx146_3 := mv_ HB hx146_3
        replace hx146_4 := mv_ HB hx146_4
        have HR146_4 := Aside0.mk hi146_4
        have HC146_4 := Aside0.mk hl146_4
        clear hi146_4 hl146_4
        replace p146 := eq_true p146
        replace q146 := eq_true q146
        have p148 : 0 ≤ (x3_1 : Int) := od_
        have q148 : x3_1 < (l0.length : Int) := od_
        obtain ⟨ad148, A148_4, c148_4, e148, hx148_0, hx148_1, hx148_2, hx148_3, hx148_4, hl148_4, hi148_4⟩ := at_T140 HR0.out x3_1 p148 q148
        have hw148_4 := hx148_4
        have hw148_3 := hx148_3
        have hw148_2 := hx148_2
        have hw148_1 := hx148_1
        have hw148_0 := hx148_0
        obtain rfl : ad146 = ad148 := (by injection e148)
        obtain ⟨rfl, rfl⟩ := sls_ hw146_4 hw148_4
        replace hx148_0 := mv_ HB hx148_0
        replace hx148_1 := mv_ HB hx148_1
        replace hx148_2 := mv_ HB hx148_2
        replace hx148_3 := mv_ HB hx148_3
        replace hx148_4 := mv_ HB hx148_4
        have HR148_4 := Aside0.mk hi148_4
        have HC148_4 := Aside0.mk hl148_4
        clear hi148_4 hl148_4
        replace p148 := eq_true p148
        replace q148 := eq_true q148
        have p150 : 0 ≤ (x3_1 : Int) := od_
        have q150 : x3_1 < (l0.length : Int) := od_
        obtain ⟨ad150, A150_4, c150_4, e150, hx150_0, hx150_1, hx150_2, hx150_3, hx150_4, hl150_4, hi150_4⟩ := at_T140 HR0.out x3_1 p150 q150
        have hw150_4 := hx150_4
        have hw150_3 := hx150_3
        have hw150_2 := hx150_2
        have hw150_1 := hx150_1
        have hw150_0 := hx150_0
        obtain rfl : ad146 = ad150 := (by injection e150)
        obtain ⟨rfl, rfl⟩ := sls_ hw146_4 hw150_4
        replace hx150_0 := mv_ HB hx150_0
        replace hx150_1 := mv_ HB hx150_1
        replace hx150_2 := mv_ HB hx150_2
        replace hx150_3 := mv_ HB hx150_3
        replace hx150_4 := mv_ HB hx150_4
        have HR150_4 := Aside0.mk hi150_4
        have HC150_4 := Aside0.mk hl150_4
        clear hi150_4 hl150_4
        replace p150 := eq_true p150
        replace q150 := eq_true q150
        refine start_ (n := 43) (S := fun w' => w'.cell? (ad146.add ((x3_1).toNat * 5)) = some (.string ((rd_T140 l0 x3_1).f0)) ∧ w'.cell? ⟨(ad146.add ((x3_1).toNat * 5)).block, (ad146.add ((x3_1).toNat * 5)).off + 1, none⟩ = some (.int .i64 ((rd_T140 l0 x3_1).f1.f0)) ∧ w'.cell? ⟨(ad146.add ((x3_1).toNat * 5)).block, (ad146.add ((x3_1).toNat * 5)).off + 2, none⟩ = some (.int .i64 ((rd_T140 l0 x3_1).f1.f1)) ∧ w'.cell? ⟨(ad146.add ((x3_1).toNat * 5)).block, (ad146.add ((x3_1).toNat * 5)).off + 3, none⟩ = some (.string ((rd_T140 l0 x3_1).f1.f2)) ∧ w'.cell? ⟨(ad146.add ((x3_1).toNat * 5)).block, (ad146.add ((x3_1).toNat * 5)).off + 4, none⟩ = some (.slice A146_4 ((rd_T140 l0 x3_1).f1.f3).length c146_4) ∧ w'.cell? (ad146.add ((x3_1).toNat * 5)) = some (.string ((rd_T140 l0 x3_1).f0)) ∧ w'.cell? ⟨(ad146.add ((x3_1).toNat * 5)).block, (ad146.add ((x3_1).toNat * 5)).off + 1, none⟩ = some (.int .i64 ((rd_T140 l0 x3_1).f1.f0)) ∧ w'.cell? ⟨(ad146.add ((x3_1).toNat * 5)).block, (ad146.add ((x3_1).toNat * 5)).off + 2, none⟩ = some (.int .i64 ((rd_T140 l0 x3_1).f1.f1)) ∧ w'.cell? ⟨(ad146.add ((x3_1).toNat * 5)).block, (ad146.add ((x3_1).toNat * 5)).off + 3, none⟩ = some (.string ((rd_T140 l0 x3_1).f1.f2)) ∧ w'.cell? ⟨(ad146.add ((x3_1).toNat * 5)).block, (ad146.add ((x3_1).toNat * 5)).off + 4, none⟩ = some (.slice A146_4 ((rd_T140 l0 x3_1).f1.f3).length c146_4) ∧ w'.cell? (ad146.add ((x3_1).toNat * 5)) = some (.string ((rd_T140 l0 x3_1).f0)) ∧ w'.cell? ⟨(ad146.add ((x3_1).toNat * 5)).block, (ad146.add ((x3_1).toNat * 5)).off + 1, none⟩ = some (.int .i64 ((rd_T140 l0 x3_1).f1.f0)) ∧ w'.cell? ⟨(ad146.add ((x3_1).toNat * 5)).block, (ad146.add ((x3_1).toNat * 5)).off + 2, none⟩ = some (.int .i64 ((rd_T140 l0 x3_1).f1.f1)) ∧ w'.cell? ⟨(ad146.add ((x3_1).toNat * 5)).block, (ad146.add ((x3_1).toNat * 5)).off + 3, none⟩ = some (.string ((rd_T140 l0 x3_1).f1.f2)) ∧ w'.cell? ⟨(ad146.add ((x3_1).toNat * 5)).block, (ad146.add ((x3_1).toNat * 5)).off + 4, none⟩ = some (.slice A146_4 ((rd_T140 l0 x3_1).f1.f3).length c146_4)) (ds := []) #[false, false, false, false, false, false, false, false, false, false, false, false, false, false, false, false, false, false, false, false, false, false, false, false, false, false, false, false, false, false, false, false, false, false, false, false, false, false, false, false, false, false, false] (by kernel_rfl) rfl rfl ⟨(mv_ HB hw146_0 :), (mv_ HB hw146_1 :), (mv_ HB hw146_2 :), (mv_ HB hw146_3 :), (mv_ HB hw146_4 :), (mv_ HB hw148_0 :), (mv_ HB hw148_1 :), (mv_ HB hw148_2 :), (mv_ HB hw148_3 :), (mv_ HB hw148_4 :), (mv_ HB hw150_0 :), (mv_ HB hw150_1 :), (mv_ HB hw150_2 :), (mv_ HB hw150_3 :), (mv_ HB hw150_4 :)⟩ (fun hHeld => ?_); refine with_tabW spec_l2Props.tab4 spec_l2Props.bits4 (fun HT_ HW_ => ?_)
        generalize wr.drew = w27 at HB HR146_4 HR148_4 HR150_4 hx146_0 hx146_1 hx146_2 hx146_3 hx146_4 hx148_0 hx148_1 hx148_2 hx148_3 hx148_4 hx150_0 hx150_1 hx150_2 hx150_3 hx150_4 hHeld ⊢
        refine puA 0 (some 10) ?_
        refine puA 1 (some 11) ?_
        refine puA 2 (some 12) ?_
        refine puA 3 (some 13) ?_
        refine taA 4 (some 14) ?_
        refine one_ (i := 5) (N := some 15) #[true, true, true, true, true, true, false, false, false, false, false, false, false, false, false, false, false, false, false, false, false, false, false, false, false, false, false, false, false, false, false, false, false, false, false, false, false, false, false, false, false, false, false] rfl rfl (one_of HT_.out (by kernel_rfl)) (by decide) (fun K hK => ?_)
        refine goes_ Try.func72 (by kernel_rfl) rfl #[.string ((rd_T140 l0 x3_1).f0)] (by rfl) rfl rfl ar_ ?_
        with_reducible refine (spec_l2Name.calls k1 ((rd_T140 l0 x3_1).f0) true _ A4.out).mono ?_
        rintro e w28 ⟨rfl, hb⟩
        refine ⟨_, rfl, ?_⟩
        replace HB := bs_ hb
        (try clear hb)
        (try clear hb2)
        (try clear hk)
        (try clear hi)
        refine hK.out _ _ ⟨(mv_ HB hw146_0 :), (mv_ HB hw146_1 :), (mv_ HB hw146_2 :), (mv_ HB hw146_3 :), (mv_ HB hw146_4 :), (mv_ HB hw148_0 :), (mv_ HB hw148_1 :), (mv_ HB hw148_2 :), (mv_ HB hw148_3 :), (mv_ HB hw148_4 :), (mv_ HB hw150_0 :), (mv_ HB hw150_1 :), (mv_ HB hw150_2 :), (mv_ HB hw150_3 :), (mv_ HB hw150_4 :)⟩ (fun hHeld => ?_)
        clear hK K
        refine norm_ (a' := ?_) ?_ ?_
        rotate_left
        · show Act.put _ (some 15) _ = _
          simp only [Act.put, List.setIfInBounds_toArray, List.set_cons_zero, List.set_cons_succ, i64_w, i32_w]
          rfl
        refine puA 6 (some 16) ?_
        refine puA 7 (some 17) ?_
        refine puA 8 (some 18) ?_
        refine puA 9 (some 19) ?_
        refine puA 10 (some 20) ?_
        refine puA 11 (some 21) ?_
        refine taA 12 (some 22) ?_
        refine one_ (i := 13) (N := some 23) #[true, true, true, true, true, true, true, true, true, true, true, true, true, true, false, false, false, false, false, false, false, false, false, false, false, false, false, false, false, false, false, false, false, false, false, false, false, false, false, false, false, false, false] rfl rfl (one_of HT_.out (by kernel_rfl)) (by decide) (fun K hK => ?_)
        refine goes_ Try.func94 (by kernel_rfl) rfl #[.agg #[.int .i64 ((rd_T140 l0 x3_1).f1.f0), .int .i64 ((rd_T140 l0 x3_1).f1.f1), .string ((rd_T140 l0 x3_1).f1.f2), .slice A146_4 ((rd_T140 l0 x3_1).f1.f3).length c146_4]] (by rfl) rfl rfl ar_ ?_
        with_reducible refine (spec_ValueOk.calls k1 ((rd_T140 l0 x3_1).f1.f0) ((rd_T140 l0 x3_1).f1.f1) ((rd_T140 l0 x3_1).f1.f2) _ _ ((rd_T140 l0 x3_1).f1.f3) true _ ?side1 ?side2 A6.out).mono ?_
        (case side1 => exact rdb_ HR148_4)
        (case side2 => exact HC148_4.out)
        rintro e w29 ⟨rfl, hb⟩
        refine ⟨_, rfl, ?_⟩
        replace HB := bs_ hb
        (try clear hb)
        (try clear hb2)
        (try clear hk)
        (try clear hi)
        refine hK.out _ _ ⟨(mv_ HB hw146_0 :), (mv_ HB hw146_1 :), (mv_ HB hw146_2 :), (mv_ HB hw146_3 :), (mv_ HB hw146_4 :), (mv_ HB hw148_0 :), (mv_ HB hw148_1 :), (mv_ HB hw148_2 :), (mv_ HB hw148_3 :), (mv_ HB hw148_4 :), (mv_ HB hw150_0 :), (mv_ HB hw150_1 :), (mv_ HB hw150_2 :), (mv_ HB hw150_3 :), (mv_ HB hw150_4 :)⟩ (fun hHeld => ?_)
        clear hK K
        refine norm_ (a' := ?_) ?_ ?_
        rotate_left
        · show Act.put _ (some 23) _ = _
          simp only [Act.put, List.setIfInBounds_toArray, List.set_cons_zero, List.set_cons_succ, i64_w, i32_w]
          rfl
        refine puA 14 (some 24) ?_
        refine puA 15 (some 25) ?_
        refine puA 16 (some 26) ?_
        refine puA 17 (some 27) ?_
        refine puA 18 (some 28) ?_
        refine puA 19 (some 29) ?_
        refine puA 20 (some 30) ?_
        refine taA 21 (some 31) ?_
        refine one_ (i := 22) (N := some 32) #[true, true, true, true, true, true, true, true, true, true, true, true, true, true, true, true, true, true, true, true, true, true, true, false, false, false, false, false, false, false, false, false, false, false, false, false, false, false, false, false, false, false, false] rfl rfl (one_of HT_.out (by kernel_rfl)) (by decide) (fun K hK => ?_)
        refine goes_ Try.func149 (by kernel_rfl) rfl #[.agg #[.int .i64 ((rd_T140 l0 x3_1).f1.f0), .int .i64 ((rd_T140 l0 x3_1).f1.f1), .string ((rd_T140 l0 x3_1).f1.f2), .slice A146_4 ((rd_T140 l0 x3_1).f1.f3).length c146_4]] (by rfl) rfl rfl ar_ ?_
        with_reducible refine (spec_l2Plain.calls k1 ((rd_T140 l0 x3_1).f1.f0) ((rd_T140 l0 x3_1).f1.f1) ((rd_T140 l0 x3_1).f1.f2) _ _ ((rd_T140 l0 x3_1).f1.f3) false _ ?side1 ?side2 A8.out).mono ?_
        (case side1 => exact rdb_ HR150_4)
        (case side2 => exact HC150_4.out)
        rintro e w30 ⟨rfl, hb⟩
        refine ⟨_, rfl, ?_⟩
        replace HB := bs_ hb
        (try clear hb)
        (try clear hb2)
        (try clear hk)
        (try clear hi)
        refine hK.out _ _ ⟨(mv_ HB hw146_0 :), (mv_ HB hw146_1 :), (mv_ HB hw146_2 :), (mv_ HB hw146_3 :), (mv_ HB hw146_4 :), (mv_ HB hw148_0 :), (mv_ HB hw148_1 :), (mv_ HB hw148_2 :), (mv_ HB hw148_3 :), (mv_ HB hw148_4 :), (mv_ HB hw150_0 :), (mv_ HB hw150_1 :), (mv_ HB hw150_2 :), (mv_ HB hw150_3 :), (mv_ HB hw150_4 :)⟩ (fun hHeld => ?_)
        clear hK K
        refine norm_ (a' := ?_) ?_ ?_
        rotate_left
        · show Act.put _ (some 32) _ = _
          simp only [Act.put, List.setIfInBounds_toArray, List.set_cons_zero, List.set_cons_succ, i64_w, i32_w]
          rfl
        refine puA 23 (some 33) ?_
        refine puA 24 (some 34) ?_
        refine puA 25 (some 35) ?_
        refine puX 26 (some 36) ?_
        refine puX 27 (some 37) ?_
        refine puX 28 (some 38) ?_
        refine puX 29 (some 39) ?_
        refine puX 30 (some 40) ?_
        refine puX 31 (some 41) ?_
        refine puX 32 (some 42) ?_
        refine puX 33 (some 43) ?_
        refine puX 34 (some 44) ?_
        refine puX 35 (some 45) ?_
        refine puX 36 (some 46) ?_
        refine puX 37 (some 47) ?_
        refine puX 38 (some 48) ?_
        refine puX 39 (some 49) ?_
        refine puX 40 (some 50) ?_
        refine puX 41 (some 51) ?_
        refine puA 42 (some 52) ?_
        refine done_ (done_of HT_.out (by kernel_rfl)) ?_
        try go_wp2
        go_ret
        exact re_
      subst c9
      have H1 : (if x3_1 > 0 then (if 0 ≤ (wrap64 (x3_1 - 1)) then (if (wrap64 (x3_1 - 1)) < (l0.length : Int) then (if ((Op.bytesLess (((rd_T140 l0 (wrap64 (x3_1 - 1))).f0).toList) (((rd_T140 l0 x3_1).f0).toList)) = true) then (spec_l2Props.l0 k1 l0 (wrap64 (x3_1 + 1))) else (some false)) else (none)) else (none)) else (spec_l2Props.l0 k1 l0 (wrap64 (x3_1 + 1)))) = some r := by rw [if_pos rfl] at H; exact H
      clear H
      have H := H1
      clear H1
      by_cases c10 : x3_1 > 0
      rotate_left
      · rw [if_neg c10] at H
        have c10b0 : decide (0 < x3_1) = false := decide_eq_false c10
        clear c10
        have H' := Aside0.mk H
        clear H
        try go_wp2
        replace HB := Aside0.mk (below_drew1 HB.out)
        have p146 : 0 ≤ (x3_1 : Int) := od_
        have q146 : x3_1 < (l0.length : Int) := od_
        obtain ⟨ad146, A146_4, c146_4, e146, hx146_0, hx146_1, hx146_2, hx146_3, hx146_4, hl146_4, hi146_4⟩ := at_T140 HR0.out x3_1 p146 q146
        have hw146_4 := hx146_4
        have hw146_3 := hx146_3
        have hw146_2 := hx146_2
        have hw146_1 := hx146_1
        have hw146_0 := hx146_0
        cases e146
        replace hx146_0 := mv_ HB hx146_0
        replace hx146_1 := mv_ HB hx146_1
        replace hx146_2 := mv_ HB hx146_2
        replace hx146_3 := mv_ HB hx146_3
        replace hx146_4 := mv_ HB hx146_4
        have HR146_4 := Aside0.mk hi146_4
        have HC146_4 := Aside0.mk hl146_4
        clear hi146_4 hl146_4
        replace p146 := eq_true p146
        replace q146 := eq_true q146
        have p148 : 0 ≤ (x3_1 : Int) := od_
        have q148 : x3_1 < (l0.length : Int) := od_
        obtain ⟨ad148, A148_4, c148_4, e148, hx148_0, hx148_1, hx148_2, hx148_3, hx148_4, hl148_4, hi148_4⟩ := at_T140 HR0.out x3_1 p148 q148
        have hw148_4 := hx148_4
        have hw148_3 := hx148_3
        have hw148_2 := hx148_2
        have hw148_1 := hx148_1
        have hw148_0 := hx148_0
        obtain rfl : ad146 = ad148 := (by injection e148)
        obtain ⟨rfl, rfl⟩ := sls_ hw146_4 hw148_4
        replace hx148_0 := mv_ HB hx148_0
        replace hx148_1 := mv_ HB hx148_1
        replace hx148_2 := mv_ HB hx148_2
        replace hx148_3 := mv_ HB hx148_3
        replace hx148_4 := mv_ HB hx148_4
        have HR148_4 := Aside0.mk hi148_4
        have HC148_4 := Aside0.mk hl148_4
        clear hi148_4 hl148_4
        replace p148 := eq_true p148
        replace q148 := eq_true q148
        have p150 : 0 ≤ (x3_1 : Int) := od_
        have q150 : x3_1 < (l0.length : Int) := od_
        obtain ⟨ad150, A150_4, c150_4, e150, hx150_0, hx150_1, hx150_2, hx150_3, hx150_4, hl150_4, hi150_4⟩ := at_T140 HR0.out x3_1 p150 q150
        have hw150_4 := hx150_4
        have hw150_3 := hx150_3
        have hw150_2 := hx150_2
        have hw150_1 := hx150_1
        have hw150_0 := hx150_0
        obtain rfl : ad146 = ad150 := (by injection e150)
        obtain ⟨rfl, rfl⟩ := sls_ hw146_4 hw150_4
        replace hx150_0 := mv_ HB hx150_0
        replace hx150_1 := mv_ HB hx150_1
        replace hx150_2 := mv_ HB hx150_2
        replace hx150_3 := mv_ HB hx150_3
        replace hx150_4 := mv_ HB hx150_4
        have HR150_4 := Aside0.mk hi150_4
        have HC150_4 := Aside0.mk hl150_4
        clear hi150_4 hl150_4
        replace p150 := eq_true p150
        replace q150 := eq_true q150
        refine start_ (n := 43) (S := fun w' => w'.cell? (ad146.add ((x3_1).toNat * 5)) = some (.string ((rd_T140 l0 x3_1).f0)) ∧ w'.cell? ⟨(ad146.add ((x3_1).toNat * 5)).block, (ad146.add ((x3_1).toNat * 5)).off + 1, none⟩ = some (.int .i64 ((rd_T140 l0 x3_1).f1.f0)) ∧ w'.cell? ⟨(ad146.add ((x3_1).toNat * 5)).block, (ad146.add ((x3_1).toNat * 5)).off + 2, none⟩ = some (.int .i64 ((rd_T140 l0 x3_1).f1.f1)) ∧ w'.cell? ⟨(ad146.add ((x3_1).toNat * 5)).block, (ad146.add ((x3_1).toNat * 5)).off + 3, none⟩ = some (.string ((rd_T140 l0 x3_1).f1.f2)) ∧ w'.cell? ⟨(ad146.add ((x3_1).toNat * 5)).block, (ad146.add ((x3_1).toNat * 5)).off + 4, none⟩ = some (.slice A146_4 ((rd_T140 l0 x3_1).f1.f3).length c146_4) ∧ w'.cell? (ad146.add ((x3_1).toNat * 5)) = some (.string ((rd_T140 l0 x3_1).f0)) ∧ w'.cell? ⟨(ad146.add ((x3_1).toNat * 5)).block, (ad146.add ((x3_1).toNat * 5)).off + 1, none⟩ = some (.int .i64 ((rd_T140 l0 x3_1).f1.f0)) ∧ w'.cell? ⟨(ad146.add ((x3_1).toNat * 5)).block, (ad146.add ((x3_1).toNat * 5)).off + 2, none⟩ = some (.int .i64 ((rd_T140 l0 x3_1).f1.f1)) ∧ w'.cell? ⟨(ad146.add ((x3_1).toNat * 5)).block, (ad146.add ((x3_1).toNat * 5)).off + 3, none⟩ = some (.string ((rd_T140 l0 x3_1).f1.f2)) ∧ w'.cell? ⟨(ad146.add ((x3_1).toNat * 5)).block, (ad146.add ((x3_1).toNat * 5)).off + 4, none⟩ = some (.slice A146_4 ((rd_T140 l0 x3_1).f1.f3).length c146_4) ∧ w'.cell? (ad146.add ((x3_1).toNat * 5)) = some (.string ((rd_T140 l0 x3_1).f0)) ∧ w'.cell? ⟨(ad146.add ((x3_1).toNat * 5)).block, (ad146.add ((x3_1).toNat * 5)).off + 1, none⟩ = some (.int .i64 ((rd_T140 l0 x3_1).f1.f0)) ∧ w'.cell? ⟨(ad146.add ((x3_1).toNat * 5)).block, (ad146.add ((x3_1).toNat * 5)).off + 2, none⟩ = some (.int .i64 ((rd_T140 l0 x3_1).f1.f1)) ∧ w'.cell? ⟨(ad146.add ((x3_1).toNat * 5)).block, (ad146.add ((x3_1).toNat * 5)).off + 3, none⟩ = some (.string ((rd_T140 l0 x3_1).f1.f2)) ∧ w'.cell? ⟨(ad146.add ((x3_1).toNat * 5)).block, (ad146.add ((x3_1).toNat * 5)).off + 4, none⟩ = some (.slice A146_4 ((rd_T140 l0 x3_1).f1.f3).length c146_4)) (ds := []) #[false, false, false, false, false, false, false, false, false, false, false, false, false, false, false, false, false, false, false, false, false, false, false, false, false, false, false, false, false, false, false, false, false, false, false, false, false, false, false, false, false, false, false] (by kernel_rfl) rfl rfl ⟨(mv_ HB hw146_0 :), (mv_ HB hw146_1 :), (mv_ HB hw146_2 :), (mv_ HB hw146_3 :), (mv_ HB hw146_4 :), (mv_ HB hw148_0 :), (mv_ HB hw148_1 :), (mv_ HB hw148_2 :), (mv_ HB hw148_3 :), (mv_ HB hw148_4 :), (mv_ HB hw150_0 :), (mv_ HB hw150_1 :), (mv_ HB hw150_2 :), (mv_ HB hw150_3 :), (mv_ HB hw150_4 :)⟩ (fun hHeld => ?_); refine with_tabW spec_l2Props.tab4 spec_l2Props.bits4 (fun HT_ HW_ => ?_)
        generalize wr.drew = w23 at HB HR146_4 HR148_4 HR150_4 hx146_0 hx146_1 hx146_2 hx146_3 hx146_4 hx148_0 hx148_1 hx148_2 hx148_3 hx148_4 hx150_0 hx150_1 hx150_2 hx150_3 hx150_4 hHeld ⊢
        refine puA 0 (some 10) ?_
        refine puA 1 (some 11) ?_
        refine puA 2 (some 12) ?_
        refine puA 3 (some 13) ?_
        refine taA 4 (some 14) ?_
        refine one_ (i := 5) (N := some 15) #[true, true, true, true, true, true, false, false, false, false, false, false, false, false, false, false, false, false, false, false, false, false, false, false, false, false, false, false, false, false, false, false, false, false, false, false, false, false, false, false, false, false, false] rfl rfl (one_of HT_.out (by kernel_rfl)) (by decide) (fun K hK => ?_)
        refine goes_ Try.func72 (by kernel_rfl) rfl #[.string ((rd_T140 l0 x3_1).f0)] (by rfl) rfl rfl ar_ ?_
        with_reducible refine (spec_l2Name.calls k1 ((rd_T140 l0 x3_1).f0) true _ A4.out).mono ?_
        rintro e w24 ⟨rfl, hb⟩
        refine ⟨_, rfl, ?_⟩
        replace HB := bs_ hb
        (try clear hb)
        (try clear hb2)
        (try clear hk)
        (try clear hi)
        refine hK.out _ _ ⟨(mv_ HB hw146_0 :), (mv_ HB hw146_1 :), (mv_ HB hw146_2 :), (mv_ HB hw146_3 :), (mv_ HB hw146_4 :), (mv_ HB hw148_0 :), (mv_ HB hw148_1 :), (mv_ HB hw148_2 :), (mv_ HB hw148_3 :), (mv_ HB hw148_4 :), (mv_ HB hw150_0 :), (mv_ HB hw150_1 :), (mv_ HB hw150_2 :), (mv_ HB hw150_3 :), (mv_ HB hw150_4 :)⟩ (fun hHeld => ?_)
        clear hK K
        refine norm_ (a' := ?_) ?_ ?_
        rotate_left
        · show Act.put _ (some 15) _ = _
          simp only [Act.put, List.setIfInBounds_toArray, List.set_cons_zero, List.set_cons_succ, i64_w, i32_w]
          rfl
        refine puA 6 (some 16) ?_
        refine puA 7 (some 17) ?_
        refine puA 8 (some 18) ?_
        refine puA 9 (some 19) ?_
        refine puA 10 (some 20) ?_
        refine puA 11 (some 21) ?_
        refine taA 12 (some 22) ?_
        refine one_ (i := 13) (N := some 23) #[true, true, true, true, true, true, true, true, true, true, true, true, true, true, false, false, false, false, false, false, false, false, false, false, false, false, false, false, false, false, false, false, false, false, false, false, false, false, false, false, false, false, false] rfl rfl (one_of HT_.out (by kernel_rfl)) (by decide) (fun K hK => ?_)
        refine goes_ Try.func94 (by kernel_rfl) rfl #[.agg #[.int .i64 ((rd_T140 l0 x3_1).f1.f0), .int .i64 ((rd_T140 l0 x3_1).f1.f1), .string ((rd_T140 l0 x3_1).f1.f2), .slice A146_4 ((rd_T140 l0 x3_1).f1.f3).length c146_4]] (by rfl) rfl rfl ar_ ?_
        with_reducible refine (spec_ValueOk.calls k1 ((rd_T140 l0 x3_1).f1.f0) ((rd_T140 l0 x3_1).f1.f1) ((rd_T140 l0 x3_1).f1.f2) _ _ ((rd_T140 l0 x3_1).f1.f3) true _ ?side1 ?side2 A6.out).mono ?_
        (case side1 => exact rdb_ HR148_4)
        (case side2 => exact HC148_4.out)
        rintro e w25 ⟨rfl, hb⟩
        refine ⟨_, rfl, ?_⟩
        replace HB := bs_ hb
        (try clear hb)
        (try clear hb2)
        (try clear hk)
        (try clear hi)
        refine hK.out _ _ ⟨(mv_ HB hw146_0 :), (mv_ HB hw146_1 :), (mv_ HB hw146_2 :), (mv_ HB hw146_3 :), (mv_ HB hw146_4 :), (mv_ HB hw148_0 :), (mv_ HB hw148_1 :), (mv_ HB hw148_2 :), (mv_ HB hw148_3 :), (mv_ HB hw148_4 :), (mv_ HB hw150_0 :), (mv_ HB hw150_1 :), (mv_ HB hw150_2 :), (mv_ HB hw150_3 :), (mv_ HB hw150_4 :)⟩ (fun hHeld => ?_)
        clear hK K
        refine norm_ (a' := ?_) ?_ ?_
        rotate_left
        · show Act.put _ (some 23) _ = _
          simp only [Act.put, List.setIfInBounds_toArray, List.set_cons_zero, List.set_cons_succ, i64_w, i32_w]
          rfl
        refine puA 14 (some 24) ?_
        refine puA 15 (some 25) ?_
        refine puA 16 (some 26) ?_
        refine puA 17 (some 27) ?_
        refine puA 18 (some 28) ?_
        refine puA 19 (some 29) ?_
        refine puA 20 (some 30) ?_
        refine taA 21 (some 31) ?_
        refine one_ (i := 22) (N := some 32) #[true, true, true, true, true, true, true, true, true, true, true, true, true, true, true, true, true, true, true, true, true, true, true, false, false, false, false, false, false, false, false, false, false, false, false, false, false, false, false, false, false, false, false] rfl rfl (one_of HT_.out (by kernel_rfl)) (by decide) (fun K hK => ?_)
        refine goes_ Try.func149 (by kernel_rfl) rfl #[.agg #[.int .i64 ((rd_T140 l0 x3_1).f1.f0), .int .i64 ((rd_T140 l0 x3_1).f1.f1), .string ((rd_T140 l0 x3_1).f1.f2), .slice A146_4 ((rd_T140 l0 x3_1).f1.f3).length c146_4]] (by rfl) rfl rfl ar_ ?_
        with_reducible refine (spec_l2Plain.calls k1 ((rd_T140 l0 x3_1).f1.f0) ((rd_T140 l0 x3_1).f1.f1) ((rd_T140 l0 x3_1).f1.f2) _ _ ((rd_T140 l0 x3_1).f1.f3) true _ ?side1 ?side2 A8.out).mono ?_
        (case side1 => exact rdb_ HR150_4)
        (case side2 => exact HC150_4.out)
        rintro e w26 ⟨rfl, hb⟩
        refine ⟨_, rfl, ?_⟩
        replace HB := bs_ hb
        (try clear hb)
        (try clear hb2)
        (try clear hk)
        (try clear hi)
        refine hK.out _ _ ⟨(mv_ HB hw146_0 :), (mv_ HB hw146_1 :), (mv_ HB hw146_2 :), (mv_ HB hw146_3 :), (mv_ HB hw146_4 :), (mv_ HB hw148_0 :), (mv_ HB hw148_1 :), (mv_ HB hw148_2 :), (mv_ HB hw148_3 :), (mv_ HB hw148_4 :), (mv_ HB hw150_0 :), (mv_ HB hw150_1 :), (mv_ HB hw150_2 :), (mv_ HB hw150_3 :), (mv_ HB hw150_4 :)⟩ (fun hHeld => ?_)
        clear hK K
        refine norm_ (a' := ?_) ?_ ?_
        rotate_left
        · show Act.put _ (some 32) _ = _
          simp only [Act.put, List.setIfInBounds_toArray, List.set_cons_zero, List.set_cons_succ, i64_w, i32_w]
          rfl
        refine puA 23 (some 33) ?_
        refine puA 24 (some 34) ?_
        refine puA 25 (some 35) ?_
        refine puA 26 (some 36) ?_
        refine puA 27 (some 37) ?_
        refine puA 28 (some 38) ?_
        refine puX 29 (some 39) ?_
        refine puX 30 (some 40) ?_
        refine puX 31 (some 41) ?_
        refine puX 32 (some 42) ?_
        refine puX 33 (some 43) ?_
        refine puX 34 (some 44) ?_
        refine puX 35 (some 45) ?_
        refine puX 36 (some 46) ?_
        refine puX 37 (some 47) ?_
        refine puX 38 (some 48) ?_
        refine puX 39 (some 49) ?_
        refine puX 40 (some 50) ?_
        refine puA 41 (some 51) ?_
        refine puA 42 (some 52) ?_
        refine done_ (done_of HT_.out (by kernel_rfl)) ?_
        try go_wp2
        go_roundg k1
        case measure => have := HK1.out; omega
        case rel => exact ⟨(wrap64 (x3_1 + 1)), sm_, H', ⟨by have := HK1.out; omega⟩, ⟨bel_⟩⟩
      rw [if_pos c10] at H
      have c10b0 : decide (0 < x3_1) = true := decide_eq_true c10
      clear c10
      obtain ⟨ji11, hji11⟩ : ∃ j_ : Int, (wrap64 (x3_1 - 1)) = j_ := ⟨_, rfl⟩
      replace H : (if 0 ≤ (ji11) then (if (ji11) < (l0.length : Int) then (if ((Op.bytesLess (((rd_T140 l0 (ji11)).f0).toList) (((rd_T140 l0 x3_1).f0).toList)) = true) then (spec_l2Props.l0 k1 l0 (wrap64 (x3_1 + 1))) else (some false)) else (none)) else (none)) = some r := by first | (rw [hji11] at H; exact H) | (simp only [hji11] at H ⊢; exact H)
      (try rw [hji11] at A4)
      (try rw [hji11] at A6)
      (try rw [hji11] at A8)
      have hji11w : (IntKind.i64.wrap (x3_1 - 1)) = ji11 := (i64_w _).trans hji11
      by_cases c12 : 0 ≤ (ji11)
      rotate_left
      · rw [if_neg c12] at H
        exact absurd H (by simp)
      rw [if_pos c12] at H
      have c12b0 : decide (0 ≤ (ji11)) = true := decide_eq_true c12
      clear c12
      by_cases c13 : (ji11) < (l0.length : Int)
      rotate_left
      · rw [if_neg c13] at H
        exact absurd H (by simp)
      rw [if_pos c13] at H
      have c13b0 : decide ((ji11) < (l0.length : Int)) = true := decide_eq_true c13
      clear c13
      by_cases c14 : ((Op.bytesLess (((rd_T140 l0 (ji11)).f0).toList) (((rd_T140 l0 x3_1).f0).toList)) = true)
      · rw [if_pos c14] at H
        have c14b0 : (Op.bytesLess (((rd_T140 l0 (ji11)).f0).toList) (((rd_T140 l0 x3_1).f0).toList)) = true := c14
        clear c14
        have H' := Aside0.mk H
        clear H
        try go_wp2
        replace HB := Aside0.mk (below_drew1 HB.out)
        have p146 : 0 ≤ (x3_1 : Int) := od_
        have q146 : x3_1 < (l0.length : Int) := od_
        obtain ⟨ad146, A146_4, c146_4, e146, hx146_0, hx146_1, hx146_2, hx146_3, hx146_4, hl146_4, hi146_4⟩ := at_T140 HR0.out x3_1 p146 q146
        have hw146_4 := hx146_4
        have hw146_3 := hx146_3
        have hw146_2 := hx146_2
        have hw146_1 := hx146_1
        have hw146_0 := hx146_0
        cases e146
        replace hx146_0 := mv_ HB hx146_0
        replace hx146_1 := mv_ HB hx146_1
        replace hx146_2 := mv_ HB hx146_2
        replace hx146_3 := mv_ HB hx146_3
        replace hx146_4 := mv_ HB hx146_4
        have HR146_4 := Aside0.mk hi146_4
        have HC146_4 := Aside0.mk hl146_4
        clear hi146_4 hl146_4
        replace p146 := eq_true p146
        replace q146 := eq_true q146
        have p148 : 0 ≤ (x3_1 : Int) := od_
        have q148 : x3_1 < (l0.length : Int) := od_
        obtain ⟨ad148, A148_4, c148_4, e148, hx148_0, hx148_1, hx148_2, hx148_3, hx148_4, hl148_4, hi148_4⟩ := at_T140 HR0.out x3_1 p148 q148
        have hw148_4 := hx148_4
        have hw148_3 := hx148_3
        have hw148_2 := hx148_2
        have hw148_1 := hx148_1
        have hw148_0 := hx148_0
        obtain rfl : ad146 = ad148 := (by injection e148)
        obtain ⟨rfl, rfl⟩ := sls_ hw146_4 hw148_4
        replace hx148_0 := mv_ HB hx148_0
        replace hx148_1 := mv_ HB hx148_1
        replace hx148_2 := mv_ HB hx148_2
        replace hx148_3 := mv_ HB hx148_3
        replace hx148_4 := mv_ HB hx148_4
        have HR148_4 := Aside0.mk hi148_4
        have HC148_4 := Aside0.mk hl148_4
        clear hi148_4 hl148_4
        replace p148 := eq_true p148
        replace q148 := eq_true q148
        have p150 : 0 ≤ (x3_1 : Int) := od_
        have q150 : x3_1 < (l0.length : Int) := od_
        obtain ⟨ad150, A150_4, c150_4, e150, hx150_0, hx150_1, hx150_2, hx150_3, hx150_4, hl150_4, hi150_4⟩ := at_T140 HR0.out x3_1 p150 q150
        have hw150_4 := hx150_4
        have hw150_3 := hx150_3
        have hw150_2 := hx150_2
        have hw150_1 := hx150_1
        have hw150_0 := hx150_0
        obtain rfl : ad146 = ad150 := (by injection e150)
        obtain ⟨rfl, rfl⟩ := sls_ hw146_4 hw150_4
        replace hx150_0 := mv_ HB hx150_0
        replace hx150_1 := mv_ HB hx150_1
        replace hx150_2 := mv_ HB hx150_2
        replace hx150_3 := mv_ HB hx150_3
        replace hx150_4 := mv_ HB hx150_4
        have HR150_4 := Aside0.mk hi150_4
        have HC150_4 := Aside0.mk hl150_4
        clear hi150_4 hl150_4
        replace p150 := eq_true p150
        replace q150 := eq_true q150
        have p152 : 0 ≤ ((ji11) : Int) := od_
        have q152 : (ji11) < (l0.length : Int) := od_
        obtain ⟨ad152, A152_4, c152_4, e152, hx152_0, hx152_1, hx152_2, hx152_3, hx152_4, hl152_4, hi152_4⟩ := at_T140 HR0.out (ji11) p152 q152
        have hw152_4 := hx152_4
        have hw152_3 := hx152_3
        have hw152_2 := hx152_2
        have hw152_1 := hx152_1
        have hw152_0 := hx152_0
        obtain rfl : ad146 = ad152 := (by injection e152)
        replace hx152_0 := mv_ HB hx152_0
        replace hx152_1 := mv_ HB hx152_1
        replace hx152_2 := mv_ HB hx152_2
        replace hx152_3 := mv_ HB hx152_3
        replace hx152_4 := mv_ HB hx152_4
        have HR152_4 := Aside0.mk hi152_4
        have HC152_4 := Aside0.mk hl152_4
        clear hi152_4 hl152_4
        replace p152 := eq_true p152
        replace q152 := eq_true q152
        have p153 : 0 ≤ (x3_1 : Int) := od_
        have q153 : x3_1 < (l0.length : Int) := od_
        obtain ⟨ad153, A153_4, c153_4, e153, hx153_0, hx153_1, hx153_2, hx153_3, hx153_4, hl153_4, hi153_4⟩ := at_T140 HR0.out x3_1 p153 q153
        have hw153_4 := hx153_4
        have hw153_3 := hx153_3
        have hw153_2 := hx153_2
        have hw153_1 := hx153_1
        have hw153_0 := hx153_0
        obtain rfl : ad146 = ad153 := (by injection e153)
        obtain ⟨rfl, rfl⟩ := sls_ hw146_4 hw153_4
        replace hx153_0 := mv_ HB hx153_0
        replace hx153_1 := mv_ HB hx153_1
        replace hx153_2 := mv_ HB hx153_2
        replace hx153_3 := mv_ HB hx153_3
        replace hx153_4 := mv_ HB hx153_4
        have HR153_4 := Aside0.mk hi153_4
        have HC153_4 := Aside0.mk hl153_4
        clear hi153_4 hl153_4
        replace p153 := eq_true p153
        replace q153 := eq_true q153
        refine start_ (n := 43) (S := fun w' => w'.cell? (ad146.add ((x3_1).toNat * 5)) = some (.string ((rd_T140 l0 x3_1).f0)) ∧ w'.cell? ⟨(ad146.add ((x3_1).toNat * 5)).block, (ad146.add ((x3_1).toNat * 5)).off + 1, none⟩ = some (.int .i64 ((rd_T140 l0 x3_1).f1.f0)) ∧ w'.cell? ⟨(ad146.add ((x3_1).toNat * 5)).block, (ad146.add ((x3_1).toNat * 5)).off + 2, none⟩ = some (.int .i64 ((rd_T140 l0 x3_1).f1.f1)) ∧ w'.cell? ⟨(ad146.add ((x3_1).toNat * 5)).block, (ad146.add ((x3_1).toNat * 5)).off + 3, none⟩ = some (.string ((rd_T140 l0 x3_1).f1.f2)) ∧ w'.cell? ⟨(ad146.add ((x3_1).toNat * 5)).block, (ad146.add ((x3_1).toNat * 5)).off + 4, none⟩ = some (.slice A146_4 ((rd_T140 l0 x3_1).f1.f3).length c146_4) ∧ w'.cell? (ad146.add ((x3_1).toNat * 5)) = some (.string ((rd_T140 l0 x3_1).f0)) ∧ w'.cell? ⟨(ad146.add ((x3_1).toNat * 5)).block, (ad146.add ((x3_1).toNat * 5)).off + 1, none⟩ = some (.int .i64 ((rd_T140 l0 x3_1).f1.f0)) ∧ w'.cell? ⟨(ad146.add ((x3_1).toNat * 5)).block, (ad146.add ((x3_1).toNat * 5)).off + 2, none⟩ = some (.int .i64 ((rd_T140 l0 x3_1).f1.f1)) ∧ w'.cell? ⟨(ad146.add ((x3_1).toNat * 5)).block, (ad146.add ((x3_1).toNat * 5)).off + 3, none⟩ = some (.string ((rd_T140 l0 x3_1).f1.f2)) ∧ w'.cell? ⟨(ad146.add ((x3_1).toNat * 5)).block, (ad146.add ((x3_1).toNat * 5)).off + 4, none⟩ = some (.slice A146_4 ((rd_T140 l0 x3_1).f1.f3).length c146_4) ∧ w'.cell? (ad146.add ((x3_1).toNat * 5)) = some (.string ((rd_T140 l0 x3_1).f0)) ∧ w'.cell? ⟨(ad146.add ((x3_1).toNat * 5)).block, (ad146.add ((x3_1).toNat * 5)).off + 1, none⟩ = some (.int .i64 ((rd_T140 l0 x3_1).f1.f0)) ∧ w'.cell? ⟨(ad146.add ((x3_1).toNat * 5)).block, (ad146.add ((x3_1).toNat * 5)).off + 2, none⟩ = some (.int .i64 ((rd_T140 l0 x3_1).f1.f1)) ∧ w'.cell? ⟨(ad146.add ((x3_1).toNat * 5)).block, (ad146.add ((x3_1).toNat * 5)).off + 3, none⟩ = some (.string ((rd_T140 l0 x3_1).f1.f2)) ∧ w'.cell? ⟨(ad146.add ((x3_1).toNat * 5)).block, (ad146.add ((x3_1).toNat * 5)).off + 4, none⟩ = some (.slice A146_4 ((rd_T140 l0 x3_1).f1.f3).length c146_4) ∧ w'.cell? (ad146.add (((ji11)).toNat * 5)) = some (.string ((rd_T140 l0 (ji11)).f0)) ∧ w'.cell? ⟨(ad146.add (((ji11)).toNat * 5)).block, (ad146.add (((ji11)).toNat * 5)).off + 1, none⟩ = some (.int .i64 ((rd_T140 l0 (ji11)).f1.f0)) ∧ w'.cell? ⟨(ad146.add (((ji11)).toNat * 5)).block, (ad146.add (((ji11)).toNat * 5)).off + 2, none⟩ = some (.int .i64 ((rd_T140 l0 (ji11)).f1.f1)) ∧ w'.cell? ⟨(ad146.add (((ji11)).toNat * 5)).block, (ad146.add (((ji11)).toNat * 5)).off + 3, none⟩ = some (.string ((rd_T140 l0 (ji11)).f1.f2)) ∧ w'.cell? ⟨(ad146.add (((ji11)).toNat * 5)).block, (ad146.add (((ji11)).toNat * 5)).off + 4, none⟩ = some (.slice A152_4 ((rd_T140 l0 (ji11)).f1.f3).length c152_4) ∧ w'.cell? (ad146.add ((x3_1).toNat * 5)) = some (.string ((rd_T140 l0 x3_1).f0)) ∧ w'.cell? ⟨(ad146.add ((x3_1).toNat * 5)).block, (ad146.add ((x3_1).toNat * 5)).off + 1, none⟩ = some (.int .i64 ((rd_T140 l0 x3_1).f1.f0)) ∧ w'.cell? ⟨(ad146.add ((x3_1).toNat * 5)).block, (ad146.add ((x3_1).toNat * 5)).off + 2, none⟩ = some (.int .i64 ((rd_T140 l0 x3_1).f1.f1)) ∧ w'.cell? ⟨(ad146.add ((x3_1).toNat * 5)).block, (ad146.add ((x3_1).toNat * 5)).off + 3, none⟩ = some (.string ((rd_T140 l0 x3_1).f1.f2)) ∧ w'.cell? ⟨(ad146.add ((x3_1).toNat * 5)).block, (ad146.add ((x3_1).toNat * 5)).off + 4, none⟩ = some (.slice A146_4 ((rd_T140 l0 x3_1).f1.f3).length c146_4)) (ds := []) #[false, false, false, false, false, false, false, false, false, false, false, false, false, false, false, false, false, false, false, false, false, false, false, false, false, false, false, false, false, false, false, false, false, false, false, false, false, false, false, false, false, false, false] (by kernel_rfl) rfl rfl ⟨(mv_ HB hw146_0 :), (mv_ HB hw146_1 :), (mv_ HB hw146_2 :), (mv_ HB hw146_3 :), (mv_ HB hw146_4 :), (mv_ HB hw148_0 :), (mv_ HB hw148_1 :), (mv_ HB hw148_2 :), (mv_ HB hw148_3 :), (mv_ HB hw148_4 :), (mv_ HB hw150_0 :), (mv_ HB hw150_1 :), (mv_ HB hw150_2 :), (mv_ HB hw150_3 :), (mv_ HB hw150_4 :), (mv_ HB hw152_0 :), (mv_ HB hw152_1 :), (mv_ HB hw152_2 :), (mv_ HB hw152_3 :), (mv_ HB hw152_4 :), (mv_ HB hw153_0 :), (mv_ HB hw153_1 :), (mv_ HB hw153_2 :), (mv_ HB hw153_3 :), (mv_ HB hw153_4 :)⟩ (fun hHeld => ?_); refine with_tabW spec_l2Props.tab4 spec_l2Props.bits4 (fun HT_ HW_ => ?_)
        generalize wr.drew = w15 at HB HR146_4 HR148_4 HR150_4 HR152_4 HR153_4 hx146_0 hx146_1 hx146_2 hx146_3 hx146_4 hx148_0 hx148_1 hx148_2 hx148_3 hx148_4 hx150_0 hx150_1 hx150_2 hx150_3 hx150_4 hx152_0 hx152_1 hx152_2 hx152_3 hx152_4 hx153_0 hx153_1 hx153_2 hx153_3 hx153_4 hHeld ⊢
        refine puA 0 (some 10) ?_
        refine puA 1 (some 11) ?_
        refine puA 2 (some 12) ?_
        refine puA 3 (some 13) ?_
        refine taA 4 (some 14) ?_
        refine one_ (i := 5) (N := some 15) #[true, true, true, true, true, true, false, false, false, false, false, false, false, false, false, false, false, false, false, false, false, false, false, false, false, false, false, false, false, false, false, false, false, false, false, false, false, false, false, false, false, false, false] rfl rfl (one_of HT_.out (by kernel_rfl)) (by decide) (fun K hK => ?_)
        refine goes_ Try.func72 (by kernel_rfl) rfl #[.string ((rd_T140 l0 x3_1).f0)] (by rfl) rfl rfl ar_ ?_
        with_reducible refine (spec_l2Name.calls k1 ((rd_T140 l0 x3_1).f0) true _ A4.out).mono ?_
        rintro e w16 ⟨rfl, hb⟩
        refine ⟨_, rfl, ?_⟩
        replace HB := bs_ hb
        (try clear hb)
        (try clear hb2)
        (try clear hk)
        (try clear hi)
        refine hK.out _ _ ⟨(mv_ HB hw146_0 :), (mv_ HB hw146_1 :), (mv_ HB hw146_2 :), (mv_ HB hw146_3 :), (mv_ HB hw146_4 :), (mv_ HB hw148_0 :), (mv_ HB hw148_1 :), (mv_ HB hw148_2 :), (mv_ HB hw148_3 :), (mv_ HB hw148_4 :), (mv_ HB hw150_0 :), (mv_ HB hw150_1 :), (mv_ HB hw150_2 :), (mv_ HB hw150_3 :), (mv_ HB hw150_4 :), (mv_ HB hw152_0 :), (mv_ HB hw152_1 :), (mv_ HB hw152_2 :), (mv_ HB hw152_3 :), (mv_ HB hw152_4 :), (mv_ HB hw153_0 :), (mv_ HB hw153_1 :), (mv_ HB hw153_2 :), (mv_ HB hw153_3 :), (mv_ HB hw153_4 :)⟩ (fun hHeld => ?_)
        clear hK K
        refine norm_ (a' := ?_) ?_ ?_
        rotate_left
        · show Act.put _ (some 15) _ = _
          simp only [Act.put, List.setIfInBounds_toArray, List.set_cons_zero, List.set_cons_succ, i64_w, i32_w]
          rfl
        refine puA 6 (some 16) ?_
        refine puA 7 (some 17) ?_
        refine puA 8 (some 18) ?_
        refine puA 9 (some 19) ?_
        refine puA 10 (some 20) ?_
        refine puA 11 (some 21) ?_
        refine taA 12 (some 22) ?_
        refine one_ (i := 13) (N := some 23) #[true, true, true, true, true, true, true, true, true, true, true, true, true, true, false, false, false, false, false, false, false, false, false, false, false, false, false, false, false, false, false, false, false, false, false, false, false, false, false, false, false, false, false] rfl rfl (one_of HT_.out (by kernel_rfl)) (by decide) (fun K hK => ?_)
        refine goes_ Try.func94 (by kernel_rfl) rfl #[.agg #[.int .i64 ((rd_T140 l0 x3_1).f1.f0), .int .i64 ((rd_T140 l0 x3_1).f1.f1), .string ((rd_T140 l0 x3_1).f1.f2), .slice A146_4 ((rd_T140 l0 x3_1).f1.f3).length c146_4]] (by rfl) rfl rfl ar_ ?_
        with_reducible refine (spec_ValueOk.calls k1 ((rd_T140 l0 x3_1).f1.f0) ((rd_T140 l0 x3_1).f1.f1) ((rd_T140 l0 x3_1).f1.f2) _ _ ((rd_T140 l0 x3_1).f1.f3) true _ ?side1 ?side2 A6.out).mono ?_
        (case side1 => exact rdb_ HR148_4)
        (case side2 => exact HC148_4.out)
        rintro e w17 ⟨rfl, hb⟩
        refine ⟨_, rfl, ?_⟩
        replace HB := bs_ hb
        (try clear hb)
        (try clear hb2)
        (try clear hk)
        (try clear hi)
        refine hK.out _ _ ⟨(mv_ HB hw146_0 :), (mv_ HB hw146_1 :), (mv_ HB hw146_2 :), (mv_ HB hw146_3 :), (mv_ HB hw146_4 :), (mv_ HB hw148_0 :), (mv_ HB hw148_1 :), (mv_ HB hw148_2 :), (mv_ HB hw148_3 :), (mv_ HB hw148_4 :), (mv_ HB hw150_0 :), (mv_ HB hw150_1 :), (mv_ HB hw150_2 :), (mv_ HB hw150_3 :), (mv_ HB hw150_4 :), (mv_ HB hw152_0 :), (mv_ HB hw152_1 :), (mv_ HB hw152_2 :), (mv_ HB hw152_3 :), (mv_ HB hw152_4 :), (mv_ HB hw153_0 :), (mv_ HB hw153_1 :), (mv_ HB hw153_2 :), (mv_ HB hw153_3 :), (mv_ HB hw153_4 :)⟩ (fun hHeld => ?_)
        clear hK K
        refine norm_ (a' := ?_) ?_ ?_
        rotate_left
        · show Act.put _ (some 23) _ = _
          simp only [Act.put, List.setIfInBounds_toArray, List.set_cons_zero, List.set_cons_succ, i64_w, i32_w]
          rfl
        refine puA 14 (some 24) ?_
        refine puA 15 (some 25) ?_
        refine puA 16 (some 26) ?_
        refine puA 17 (some 27) ?_
        refine puA 18 (some 28) ?_
        refine puA 19 (some 29) ?_
        refine puA 20 (some 30) ?_
        refine taA 21 (some 31) ?_
        refine one_ (i := 22) (N := some 32) #[true, true, true, true, true, true, true, true, true, true, true, true, true, true, true, true, true, true, true, true, true, true, true, false, false, false, false, false, false, false, false, false, false, false, false, false, false, false, false, false, false, false, false] rfl rfl (one_of HT_.out (by kernel_rfl)) (by decide) (fun K hK => ?_)
        refine goes_ Try.func149 (by kernel_rfl) rfl #[.agg #[.int .i64 ((rd_T140 l0 x3_1).f1.f0), .int .i64 ((rd_T140 l0 x3_1).f1.f1), .string ((rd_T140 l0 x3_1).f1.f2), .slice A146_4 ((rd_T140 l0 x3_1).f1.f3).length c146_4]] (by rfl) rfl rfl ar_ ?_
        with_reducible refine (spec_l2Plain.calls k1 ((rd_T140 l0 x3_1).f1.f0) ((rd_T140 l0 x3_1).f1.f1) ((rd_T140 l0 x3_1).f1.f2) _ _ ((rd_T140 l0 x3_1).f1.f3) true _ ?side1 ?side2 A8.out).mono ?_
        (case side1 => exact rdb_ HR150_4)
        (case side2 => exact HC150_4.out)
        rintro e w18 ⟨rfl, hb⟩
        refine ⟨_, rfl, ?_⟩
        replace HB := bs_ hb
        (try clear hb)
        (try clear hb2)
        (try clear hk)
        (try clear hi)
        refine hK.out _ _ ⟨(mv_ HB hw146_0 :), (mv_ HB hw146_1 :), (mv_ HB hw146_2 :), (mv_ HB hw146_3 :), (mv_ HB hw146_4 :), (mv_ HB hw148_0 :), (mv_ HB hw148_1 :), (mv_ HB hw148_2 :), (mv_ HB hw148_3 :), (mv_ HB hw148_4 :), (mv_ HB hw150_0 :), (mv_ HB hw150_1 :), (mv_ HB hw150_2 :), (mv_ HB hw150_3 :), (mv_ HB hw150_4 :), (mv_ HB hw152_0 :), (mv_ HB hw152_1 :), (mv_ HB hw152_2 :), (mv_ HB hw152_3 :), (mv_ HB hw152_4 :), (mv_ HB hw153_0 :), (mv_ HB hw153_1 :), (mv_ HB hw153_2 :), (mv_ HB hw153_3 :), (mv_ HB hw153_4 :)⟩ (fun hHeld => ?_)
        clear hK K
        refine norm_ (a' := ?_) ?_ ?_
        rotate_left
        · show Act.put _ (some 32) _ = _
          simp only [Act.put, List.setIfInBounds_toArray, List.set_cons_zero, List.set_cons_succ, i64_w, i32_w]
          rfl
        refine puA 23 (some 33) ?_
        refine puA 24 (some 34) ?_
        refine puA 25 (some 35) ?_
        refine puA 26 (some 36) ?_
        refine puA 27 (some 37) ?_
        refine puA 28 (some 38) ?_
        refine puA 29 (some 39) ?_
        refine puA 30 (some 40) ?_
        refine puA 31 (some 41) ?_
        refine puA 32 (some 42) ?_
        refine puA 33 (some 43) ?_
        refine puA 35 (some 45) ?_
        refine puA 36 (some 46) ?_
        refine puA 37 (some 47) ?_
        refine puA 38 (some 48) ?_
        refine taA 34 (some 44) ?_
        refine taA 39 (some 49) ?_
        refine puA 40 (some 50) ?_
        refine puA 41 (some 51) ?_
        refine puA 42 (some 52) ?_
        refine done_ (done_of HT_.out (by kernel_rfl)) ?_
        try go_wp2
        go_roundg k1
        case measure => have := HK1.out; omega
        case rel => exact ⟨(wrap64 (x3_1 + 1)), sm_, H', ⟨by have := HK1.out; omega⟩, ⟨bel_⟩⟩
      rw [if_neg c14] at H
      have c14b0 : (Op.bytesLess (((rd_T140 l0 (ji11)).f0).toList) (((rd_T140 l0 x3_1).f0).toList)) = false := by simpa using c14
      clear c14
      obtain rfl := Option.some.inj H
      try go_wp2
      replace HB := Aside0.mk (below_drew1 HB.out)
      have p146 : 0 ≤ (x3_1 : Int) := od_
      have q146 : x3_1 < (l0.length : Int) := od_
      obtain ⟨ad146, A146_4, c146_4, e146, hx146_0, hx146_1, hx146_2, hx146_3, hx146_4, hl146_4, hi146_4⟩ := at_T140 HR0.out x3_1 p146 q146
      have hw146_4 := hx146_4
      have hw146_3 := hx146_3
      have hw146_2 := hx146_2
      have hw146_1 := hx146_1
      have hw146_0 := hx146_0
      cases e146
      replace hx146_0 := mv_ HB hx146_0
      replace hx146_1 := mv_ HB hx146_1
      replace hx146_2 := mv_ HB hx146_2
      replace hx146_3 := mv_ HB hx146_3
      replace hx146_4 := mv_ HB hx146_4
      have HR146_4 := Aside0.mk hi146_4
      have HC146_4 := Aside0.mk hl146_4
      clear hi146_4 hl146_4
      replace p146 := eq_true p146
      replace q146 := eq_true q146
      have p148 : 0 ≤ (x3_1 : Int) := od_
      have q148 : x3_1 < (l0.length : Int) := od_
      obtain ⟨ad148, A148_4, c148_4, e148, hx148_0, hx148_1, hx148_2, hx148_3, hx148_4, hl148_4, hi148_4⟩ := at_T140 HR0.out x3_1 p148 q148
      have hw148_4 := hx148_4
      have hw148_3 := hx148_3
      have hw148_2 := hx148_2
      have hw148_1 := hx148_1
      have hw148_0 := hx148_0
      obtain rfl : ad146 = ad148 := (by injection e148)
      obtain ⟨rfl, rfl⟩ := sls_ hw146_4 hw148_4
      replace hx148_0 := mv_ HB hx148_0
      replace hx148_1 := mv_ HB hx148_1
      replace hx148_2 := mv_ HB hx148_2
      replace hx148_3 := mv_ HB hx148_3
      replace hx148_4 := mv_ HB hx148_4
      have HR148_4 := Aside0.mk hi148_4
      have HC148_4 := Aside0.mk hl148_4
      clear hi148_4 hl148_4
      replace p148 := eq_true p148
      replace q148 := eq_true q148
      have p150 : 0 ≤ (x3_1 : Int) := od_
      have q150 : x3_1 < (l0.length : Int) := od_
      obtain ⟨ad150, A150_4, c150_4, e150, hx150_0, hx150_1, hx150_2, hx150_3, hx150_4, hl150_4, hi150_4⟩ := at_T140 HR0.out x3_1 p150 q150
      have hw150_4 := hx150_4
      have hw150_3 := hx150_3
      have hw150_2 := hx150_2
      have hw150_1 := hx150_1
      have hw150_0 := hx150_0
      obtain rfl : ad146 = ad150 := (by injection e150)
      obtain ⟨rfl, rfl⟩ := sls_ hw146_4 hw150_4
      replace hx150_0 := mv_ HB hx150_0
      replace hx150_1 := mv_ HB hx150_1
      replace hx150_2 := mv_ HB hx150_2
      replace hx150_3 := mv_ HB hx150_3
      replace hx150_4 := mv_ HB hx150_4
      have HR150_4 := Aside0.mk hi150_4
      have HC150_4 := Aside0.mk hl150_4
      clear hi150_4 hl150_4
      replace p150 := eq_true p150
      replace q150 := eq_true q150
      have p152 : 0 ≤ ((ji11) : Int) := od_
      have q152 : (ji11) < (l0.length : Int) := od_
      obtain ⟨ad152, A152_4, c152_4, e152, hx152_0, hx152_1, hx152_2, hx152_3, hx152_4, hl152_4, hi152_4⟩ := at_T140 HR0.out (ji11) p152 q152
      have hw152_4 := hx152_4
      have hw152_3 := hx152_3
      have hw152_2 := hx152_2
      have hw152_1 := hx152_1
      have hw152_0 := hx152_0
      obtain rfl : ad146 = ad152 := (by injection e152)
      replace hx152_0 := mv_ HB hx152_0
      replace hx152_1 := mv_ HB hx152_1
      replace hx152_2 := mv_ HB hx152_2
      replace hx152_3 := mv_ HB hx152_3
      replace hx152_4 := mv_ HB hx152_4
      have HR152_4 := Aside0.mk hi152_4
      have HC152_4 := Aside0.mk hl152_4
      clear hi152_4 hl152_4
      replace p152 := eq_true p152
      replace q152 := eq_true q152
      have p153 : 0 ≤ (x3_1 : Int) := od_
      have q153 : x3_1 < (l0.length : Int) := od_
      obtain ⟨ad153, A153_4, c153_4, e153, hx153_0, hx153_1, hx153_2, hx153_3, hx153_4, hl153_4, hi153_4⟩ := at_T140 HR0.out x3_1 p153 q153
      have hw153_4 := hx153_4
      have hw153_3 := hx153_3
      have hw153_2 := hx153_2
      have hw153_1 := hx153_1
      have hw153_0 := hx153_0
      obtain rfl : ad146 = ad153 := (by injection e153)
      obtain ⟨rfl, rfl⟩ := sls_ hw146_4 hw153_4
      replace hx153_0 := mv_ HB hx153_0
      replace hx153_1 := mv_ HB hx153_1
      replace hx153_2 := mv_ HB hx153_2
      replace hx153_3 := mv_ HB hx153_3
      replace hx153_4 := mv_ HB hx153_4
      have HR153_4 := Aside0.mk hi153_4
      have HC153_4 := Aside0.mk hl153_4
      clear hi153_4 hl153_4
      replace p153 := eq_true p153
      replace q153 := eq_true q153
      refine start_ (n := 43) (S := fun w' => w'.cell? (ad146.add ((x3_1).toNat * 5)) = some (.string ((rd_T140 l0 x3_1).f0)) ∧ w'.cell? ⟨(ad146.add ((x3_1).toNat * 5)).block, (ad146.add ((x3_1).toNat * 5)).off + 1, none⟩ = some (.int .i64 ((rd_T140 l0 x3_1).f1.f0)) ∧ w'.cell? ⟨(ad146.add ((x3_1).toNat * 5)).block, (ad146.add ((x3_1).toNat * 5)).off + 2, none⟩ = some (.int .i64 ((rd_T140 l0 x3_1).f1.f1)) ∧ w'.cell? ⟨(ad146.add ((x3_1).toNat * 5)).block, (ad146.add ((x3_1).toNat * 5)).off + 3, none⟩ = some (.string ((rd_T140 l0 x3_1).f1.f2)) ∧ w'.cell? ⟨(ad146.add ((x3_1).toNat * 5)).block, (ad146.add ((x3_1).toNat * 5)).off + 4, none⟩ = some (.slice A146_4 ((rd_T140 l0 x3_1).f1.f3).length c146_4) ∧ w'.cell? (ad146.add ((x3_1).toNat * 5)) = some (.string ((rd_T140 l0 x3_1).f0)) ∧ w'.cell? ⟨(ad146.add ((x3_1).toNat * 5)).block, (ad146.add ((x3_1).toNat * 5)).off + 1, none⟩ = some (.int .i64 ((rd_T140 l0 x3_1).f1.f0)) ∧ w'.cell? ⟨(ad146.add ((x3_1).toNat * 5)).block, (ad146.add ((x3_1).toNat * 5)).off + 2, none⟩ = some (.int .i64 ((rd_T140 l0 x3_1).f1.f1)) ∧ w'.cell? ⟨(ad146.add ((x3_1).toNat * 5)).block, (ad146.add ((x3_1).toNat * 5)).off + 3, none⟩ = some (.string ((rd_T140 l0 x3_1).f1.f2)) ∧ w'.cell? ⟨(ad146.add ((x3_1).toNat * 5)).block, (ad146.add ((x3_1).toNat * 5)).off + 4, none⟩ = some (.slice A146_4 ((rd_T140 l0 x3_1).f1.f3).length c146_4) ∧ w'.cell? (ad146.add ((x3_1).toNat * 5)) = some (.string ((rd_T140 l0 x3_1).f0)) ∧ w'.cell? ⟨(ad146.add ((x3_1).toNat * 5)).block, (ad146.add ((x3_1).toNat * 5)).off + 1, none⟩ = some (.int .i64 ((rd_T140 l0 x3_1).f1.f0)) ∧ w'.cell? ⟨(ad146.add ((x3_1).toNat * 5)).block, (ad146.add ((x3_1).toNat * 5)).off + 2, none⟩ = some (.int .i64 ((rd_T140 l0 x3_1).f1.f1)) ∧ w'.cell? ⟨(ad146.add ((x3_1).toNat * 5)).block, (ad146.add ((x3_1).toNat * 5)).off + 3, none⟩ = some (.string ((rd_T140 l0 x3_1).f1.f2)) ∧ w'.cell? ⟨(ad146.add ((x3_1).toNat * 5)).block, (ad146.add ((x3_1).toNat * 5)).off + 4, none⟩ = some (.slice A146_4 ((rd_T140 l0 x3_1).f1.f3).length c146_4) ∧ w'.cell? (ad146.add (((ji11)).toNat * 5)) = some (.string ((rd_T140 l0 (ji11)).f0)) ∧ w'.cell? ⟨(ad146.add (((ji11)).toNat * 5)).block, (ad146.add (((ji11)).toNat * 5)).off + 1, none⟩ = some (.int .i64 ((rd_T140 l0 (ji11)).f1.f0)) ∧ w'.cell? ⟨(ad146.add (((ji11)).toNat * 5)).block, (ad146.add (((ji11)).toNat * 5)).off + 2, none⟩ = some (.int .i64 ((rd_T140 l0 (ji11)).f1.f1)) ∧ w'.cell? ⟨(ad146.add (((ji11)).toNat * 5)).block, (ad146.add (((ji11)).toNat * 5)).off + 3, none⟩ = some (.string ((rd_T140 l0 (ji11)).f1.f2)) ∧ w'.cell? ⟨(ad146.add (((ji11)).toNat * 5)).block, (ad146.add (((ji11)).toNat * 5)).off + 4, none⟩ = some (.slice A152_4 ((rd_T140 l0 (ji11)).f1.f3).length c152_4) ∧ w'.cell? (ad146.add ((x3_1).toNat * 5)) = some (.string ((rd_T140 l0 x3_1).f0)) ∧ w'.cell? ⟨(ad146.add ((x3_1).toNat * 5)).block, (ad146.add ((x3_1).toNat * 5)).off + 1, none⟩ = some (.int .i64 ((rd_T140 l0 x3_1).f1.f0)) ∧ w'.cell? ⟨(ad146.add ((x3_1).toNat * 5)).block, (ad146.add ((x3_1).toNat * 5)).off + 2, none⟩ = some (.int .i64 ((rd_T140 l0 x3_1).f1.f1)) ∧ w'.cell? ⟨(ad146.add ((x3_1).toNat * 5)).block, (ad146.add ((x3_1).toNat * 5)).off + 3, none⟩ = some (.string ((rd_T140 l0 x3_1).f1.f2)) ∧ w'.cell? ⟨(ad146.add ((x3_1).toNat * 5)).block, (ad146.add ((x3_1).toNat * 5)).off + 4, none⟩ = some (.slice A146_4 ((rd_T140 l0 x3_1).f1.f3).length c146_4)) (ds := []) #[false, false, false, false, false, false, false, false, false, false, false, false, false, false, false, false, false, false, false, false, false, false, false, false, false, false, false, false, false, false, false, false, false, false, false, false, false, false, false, false, false, false, false] (by kernel_rfl) rfl rfl ⟨(mv_ HB hw146_0 :), (mv_ HB hw146_1 :), (mv_ HB hw146_2 :), (mv_ HB hw146_3 :), (mv_ HB hw146_4 :), (mv_ HB hw148_0 :), (mv_ HB hw148_1 :), (mv_ HB hw148_2 :), (mv_ HB hw148_3 :), (mv_ HB hw148_4 :), (mv_ HB hw150_0 :), (mv_ HB hw150_1 :), (mv_ HB hw150_2 :), (mv_ HB hw150_3 :), (mv_ HB hw150_4 :), (mv_ HB hw152_0 :), (mv_ HB hw152_1 :), (mv_ HB hw152_2 :), (mv_ HB hw152_3 :), (mv_ HB hw152_4 :), (mv_ HB hw153_0 :), (mv_ HB hw153_1 :), (mv_ HB hw153_2 :), (mv_ HB hw153_3 :), (mv_ HB hw153_4 :)⟩ (fun hHeld => ?_); refine with_tabW spec_l2Props.tab4 spec_l2Props.bits4 (fun HT_ HW_ => ?_)
      generalize wr.drew = w19 at HB HR146_4 HR148_4 HR150_4 HR152_4 HR153_4 hx146_0 hx146_1 hx146_2 hx146_3 hx146_4 hx148_0 hx148_1 hx148_2 hx148_3 hx148_4 hx150_0 hx150_1 hx150_2 hx150_3 hx150_4 hx152_0 hx152_1 hx152_2 hx152_3 hx152_4 hx153_0 hx153_1 hx153_2 hx153_3 hx153_4 hHeld ⊢
      refine puA 0 (some 10) ?_
      refine puA 1 (some 11) ?_
      refine puA 2 (some 12) ?_
      refine puA 3 (some 13) ?_
      refine taA 4 (some 14) ?_
      refine one_ (i := 5) (N := some 15) #[true, true, true, true, true, true, false, false, false, false, false, false, false, false, false, false, false, false, false, false, false, false, false, false, false, false, false, false, false, false, false, false, false, false, false, false, false, false, false, false, false, false, false] rfl rfl (one_of HT_.out (by kernel_rfl)) (by decide) (fun K hK => ?_)
      refine goes_ Try.func72 (by kernel_rfl) rfl #[.string ((rd_T140 l0 x3_1).f0)] (by rfl) rfl rfl ar_ ?_
      with_reducible refine (spec_l2Name.calls k1 ((rd_T140 l0 x3_1).f0) true _ A4.out).mono ?_
      rintro e w20 ⟨rfl, hb⟩
      refine ⟨_, rfl, ?_⟩
      replace HB := bs_ hb
      (try clear hb)
      (try clear hb2)
      (try clear hk)
      (try clear hi)
      refine hK.out _ _ ⟨(mv_ HB hw146_0 :), (mv_ HB hw146_1 :), (mv_ HB hw146_2 :), (mv_ HB hw146_3 :), (mv_ HB hw146_4 :), (mv_ HB hw148_0 :), (mv_ HB hw148_1 :), (mv_ HB hw148_2 :), (mv_ HB hw148_3 :), (mv_ HB hw148_4 :), (mv_ HB hw150_0 :), (mv_ HB hw150_1 :), (mv_ HB hw150_2 :), (mv_ HB hw150_3 :), (mv_ HB hw150_4 :), (mv_ HB hw152_0 :), (mv_ HB hw152_1 :), (mv_ HB hw152_2 :), (mv_ HB hw152_3 :), (mv_ HB hw152_4 :), (mv_ HB hw153_0 :), (mv_ HB hw153_1 :), (mv_ HB hw153_2 :), (mv_ HB hw153_3 :), (mv_ HB hw153_4 :)⟩ (fun hHeld => ?_)
      clear hK K
      refine norm_ (a' := ?_) ?_ ?_
      rotate_left
      · show Act.put _ (some 15) _ = _
        simp only [Act.put, List.setIfInBounds_toArray, List.set_cons_zero, List.set_cons_succ, i64_w, i32_w]
        rfl
      refine puA 6 (some 16) ?_
      refine puA 7 (some 17) ?_
      refine puA 8 (some 18) ?_
      refine puA 9 (some 19) ?_
      refine puA 10 (some 20) ?_
      refine puA 11 (some 21) ?_
      refine taA 12 (some 22) ?_
      refine one_ (i := 13) (N := some 23) #[true, true, true, true, true, true, true, true, true, true, true, true, true, true, false, false, false, false, false, false, false, false, false, false, false, false, false, false, false, false, false, false, false, false, false, false, false, false, false, false, false, false, false] rfl rfl (one_of HT_.out (by kernel_rfl)) (by decide) (fun K hK => ?_)
      refine goes_ Try.func94 (by kernel_rfl) rfl #[.agg #[.int .i64 ((rd_T140 l0 x3_1).f1.f0), .int .i64 ((rd_T140 l0 x3_1).f1.f1), .string ((rd_T140 l0 x3_1).f1.f2), .slice A146_4 ((rd_T140 l0 x3_1).f1.f3).length c146_4]] (by rfl) rfl rfl ar_ ?_
      with_reducible refine (spec_ValueOk.calls k1 ((rd_T140 l0 x3_1).f1.f0) ((rd_T140 l0 x3_1).f1.f1) ((rd_T140 l0 x3_1).f1.f2) _ _ ((rd_T140 l0 x3_1).f1.f3) true _ ?side1 ?side2 A6.out).mono ?_
      (case side1 => exact rdb_ HR148_4)
      (case side2 => exact HC148_4.out)
      rintro e w21 ⟨rfl, hb⟩
      refine ⟨_, rfl, ?_⟩
      replace HB := bs_ hb
      (try clear hb)
      (try clear hb2)
      (try clear hk)
      (try clear hi)
      refine hK.out _ _ ⟨(mv_ HB hw146_0 :), (mv_ HB hw146_1 :), (mv_ HB hw146_2 :), (mv_ HB hw146_3 :), (mv_ HB hw146_4 :), (mv_ HB hw148_0 :), (mv_ HB hw148_1 :), (mv_ HB hw148_2 :), (mv_ HB hw148_3 :), (mv_ HB hw148_4 :), (mv_ HB hw150_0 :), (mv_ HB hw150_1 :), (mv_ HB hw150_2 :), (mv_ HB hw150_3 :), (mv_ HB hw150_4 :), (mv_ HB hw152_0 :), (mv_ HB hw152_1 :), (mv_ HB hw152_2 :), (mv_ HB hw152_3 :), (mv_ HB hw152_4 :), (mv_ HB hw153_0 :), (mv_ HB hw153_1 :), (mv_ HB hw153_2 :), (mv_ HB hw153_3 :), (mv_ HB hw153_4 :)⟩ (fun hHeld => ?_)
      clear hK K
      refine norm_ (a' := ?_) ?_ ?_
      rotate_left
      · show Act.put _ (some 23) _ = _
        simp only [Act.put, List.setIfInBounds_toArray, List.set_cons_zero, List.set_cons_succ, i64_w, i32_w]
        rfl
      refine puA 14 (some 24) ?_
      refine puA 15 (some 25) ?_
      refine puA 16 (some 26) ?_
      refine puA 17 (some 27) ?_
      refine puA 18 (some 28) ?_
      refine puA 19 (some 29) ?_
      refine puA 20 (some 30) ?_
      refine taA 21 (some 31) ?_
      refine one_ (i := 22) (N := some 32) #[true, true, true, true, true, true, true, true, true, true, true, true, true, true, true, true, true, true, true, true, true, true, true, false, false, false, false, false, false, false, false, false, false, false, false, false, false, false, false, false, false, false, false] rfl rfl (one_of HT_.out (by kernel_rfl)) (by decide) (fun K hK => ?_)
      refine goes_ Try.func149 (by kernel_rfl) rfl #[.agg #[.int .i64 ((rd_T140 l0 x3_1).f1.f0), .int .i64 ((rd_T140 l0 x3_1).f1.f1), .string ((rd_T140 l0 x3_1).f1.f2), .slice A146_4 ((rd_T140 l0 x3_1).f1.f3).length c146_4]] (by rfl) rfl rfl ar_ ?_
      with_reducible refine (spec_l2Plain.calls k1 ((rd_T140 l0 x3_1).f1.f0) ((rd_T140 l0 x3_1).f1.f1) ((rd_T140 l0 x3_1).f1.f2) _ _ ((rd_T140 l0 x3_1).f1.f3) true _ ?side1 ?side2 A8.out).mono ?_
      (case side1 => exact rdb_ HR150_4)
      (case side2 => exact HC150_4.out)
      rintro e w22 ⟨rfl, hb⟩
      refine ⟨_, rfl, ?_⟩
      replace HB := bs_ hb
      (try clear hb)
      (try clear hb2)
      (try clear hk)
      (try clear hi)
      refine hK.out _ _ ⟨(mv_ HB hw146_0 :), (mv_ HB hw146_1 :), (mv_ HB hw146_2 :), (mv_ HB hw146_3 :), (mv_ HB hw146_4 :), (mv_ HB hw148_0 :), (mv_ HB hw148_1 :), (mv_ HB hw148_2 :), (mv_ HB hw148_3 :), (mv_ HB hw148_4 :), (mv_ HB hw150_0 :), (mv_ HB hw150_1 :), (mv_ HB hw150_2 :), (mv_ HB hw150_3 :), (mv_ HB hw150_4 :), (mv_ HB hw152_0 :), (mv_ HB hw152_1 :), (mv_ HB hw152_2 :), (mv_ HB hw152_3 :), (mv_ HB hw152_4 :), (mv_ HB hw153_0 :), (mv_ HB hw153_1 :), (mv_ HB hw153_2 :), (mv_ HB hw153_3 :), (mv_ HB hw153_4 :)⟩ (fun hHeld => ?_)
      clear hK K
      refine norm_ (a' := ?_) ?_ ?_
      rotate_left
      · show Act.put _ (some 32) _ = _
        simp only [Act.put, List.setIfInBounds_toArray, List.set_cons_zero, List.set_cons_succ, i64_w, i32_w]
        rfl
      refine puA 23 (some 33) ?_
      refine puA 24 (some 34) ?_
      refine puA 25 (some 35) ?_
      refine puA 26 (some 36) ?_
      refine puA 27 (some 37) ?_
      refine puA 28 (some 38) ?_
      refine puA 29 (some 39) ?_
      refine puA 30 (some 40) ?_
      refine puA 31 (some 41) ?_
      refine puA 32 (some 42) ?_
      refine puA 33 (some 43) ?_
      refine puA 35 (some 45) ?_
      refine puA 36 (some 46) ?_
      refine puA 37 (some 47) ?_
      refine puA 38 (some 48) ?_
      refine taA 34 (some 44) ?_
      refine taA 39 (some 49) ?_
      refine puA 40 (some 50) ?_
      refine puA 41 (some 51) ?_
      refine puA 42 (some 52) ?_
      refine done_ (done_of HT_.out (by kernel_rfl)) ?_
      try go_wp2
      go_ret
      exact ⟨by first | rfl | (simp [errW_none, errW_some] <;> rfl) | (simp only [← hji11]; first | rfl | (simp [errW_none, errW_some] <;> rfl)) | (simp [*, errW_none, errW_some] <;> rfl), bel_⟩

end Go.Proofs.Ytcchmhmbjhgfdaa.G
