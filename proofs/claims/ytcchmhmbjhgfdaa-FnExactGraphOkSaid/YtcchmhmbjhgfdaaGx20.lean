-- Printed by a program of this claim's writer (wip/gen), out of the translation. Lean checks it.
import Derived.Test.YtcchmhmbjhgfdaaGx0
import Derived.Test.YtcchmhmbjhgfdaaGx19
namespace Go.Proofs.Ytcchmhmbjhgfdaa.G
open Go.RowKit Go.Proofs.YtcchmhmbjhgfdaaW.PrintWords Go.Proofs.YtcchmhmbjhgfdaaW.PrintLast Go.Proofs.YtcchmhmbjhgfdaaW.PrintMore
attribute [local go_sem] max2_int min2_int max_two min_two max_three min_three max_four min_four Own.str_gtr Own.str_leq Own.str_geq Own.sto_fn   -- for this text's walks alone
open Own
set_option linter.unusedVariables false
set_option linter.unusedSimpArgs false

/-! ### laws_eqPropS: function 44 -/
def laws_eqPropS.l0 : Nat → List (S140) → List (S140) → Int → Option (Bool)
  | 0, _, _, _ => none
  | k + 1, x0, x1, x5 => if x5 < (x0.length : Int) then (if 0 ≤ x5 then (if x5 < (x1.length : Int) then ((laws_eqProp.f k ((rd_T140 x0 x5).f0) ((rd_T140 x0 x5).f1.f0) ((rd_T140 x0 x5).f1.f1) ((rd_T140 x0 x5).f1.f2) ((rd_T140 x0 x5).f1.f3) ((rd_T140 x1 x5).f0) ((rd_T140 x1 x5).f1.f0) ((rd_T140 x1 x5).f1.f1) ((rd_T140 x1 x5).f1.f2) ((rd_T140 x1 x5).f1.f3)).bind fun t344 => (if t344 = true then (laws_eqPropS.l0 k x0 x1 (wrap64 (x5 + 1))) else (some false))) else (none)) else (none)) else (some true)
def laws_eqPropS.f (k : Nat) (l0 : List (S140)) (l1 : List (S140)) : Option (Bool) := if (l0.length : Int) = (l1.length : Int) then (laws_eqPropS.l0 k l0 l1 0) else (some false)
def laws_eqPropS.T6 : Bool × List (List Nat × List Nat) := (true, [([], []), ([], []), ([0, 1], [0, 1]), ([2], [2]), ([], []), ([], []), ([4, 5], [4, 5]), ([6], [6]), ([3, 7], [3, 7]), ([8], [8])])
def laws_eqPropS.B6 : List Nat := [0, 0, 3, 7, 0, 0, 48, 112, 255, 511]
theorem laws_eqPropS.tab6 : rtab .any (opsOf Try.f44 6) = laws_eqPropS.T6 := by kernel_rfl
theorem laws_eqPropS.bits6 : waitsOk laws_eqPropS.T6.2 laws_eqPropS.B6 = true := by kernel_rfl
set_option maxHeartbeats 8000000 in
set_option maxRecDepth 100000 in
theorem laws_eqPropS.calls (k : Nat) (A0 : Option Addr) (c0 : Nat) (l0 : List (S140)) (A1 : Option Addr) (c1 : Nat) (l1 : List (S140)) (r : Bool) (w : World) (hr0 : Kd.C k140 w A0 l0.length l0) (hc0 : l0.length ≤ c0) (hr1 : Kd.C k140 w A1 l1.length l1) (hc1 : l1.length ≤ c1) (h : laws_eqPropS.f k l0 l1 = some r) :
    Calls Try.prog 44 #[.slice A0 l0.length c0, .slice A1 l1.length c1] w fun e w' => e = .returned (.bool r) ∧ Below w.heap.size w w' := by
  have hu140 := Try.underlying140
  have HR0 := Aside0.mk hr0
  have HC0 := Aside0.mk hc0
  clear hr0 hc0
  have HR1 := Aside0.mk hr1
  have HC1 := Aside0.mk hc1
  clear hr1 hc1
  have HB := Aside0.mk (Below.refl w.heap.size w)
  have H : (if (l0.length : Int) = (l1.length : Int) then (laws_eqPropS.l0 k l0 l1 0) else (some false)) = some r := h
  clear h
  by_cases c3 : (l0.length : Int) = (l1.length : Int)
  rotate_left
  · rw [if_neg c3] at H
    have c3b0 : ((l0.length : Int) == (l1.length : Int)) = false := beq_eq_false_iff_ne.mpr c3
    have c3b1 : ((l0.length : Int) != (l1.length : Int)) = true := bne_iff_ne.mpr c3
    have c3b2 : (l0.length == l1.length) = false := by first | simpa using c3 | (simp at c3 ⊢; omega)
    obtain rfl := Option.some.inj H
    go_enter Try.func44, Try.ntmps44
    go_wp2
    go_ret
    exact re_
  rw [if_pos c3] at H
  have c3b0 : ((l0.length : Int) == (l1.length : Int)) = true := beq_iff_eq.mpr c3
  have c3b1 : ((l0.length : Int) != (l1.length : Int)) = false := bne_eq_false_iff_eq.mpr c3
  have c3b2 : (l0.length == l1.length) = true := by first | simpa using c3 | (simp at c3 ⊢; omega)
  clear c3
  have H' := Aside0.mk H
  clear H
  go_enter Try.func44, Try.ntmps44
  go_wp2
  go_loopg [5] k (fun kq v5 w' => ∃ (x5_1 : Int), v5 = .int .i64 x5_1 ∧ Aside0 (laws_eqPropS.l0 kq l0 l1 x5_1 = some r) ∧ Aside0 (kq ≤ k) ∧ Aside0 (Below w.heap.size w w'))
  case atStart => exact ⟨(0), sm_, H', ⟨Nat.le_refl _⟩, ⟨bel_⟩⟩
  case round =>
    clear H'
    try clear c1
    try clear p2
    try clear c3
    try clear c3b0
    try clear c3b1
    try clear c3b2
    obtain ⟨x5_1, rfl, HA, HK1, HB⟩ := hrel
    cases gk with
    | zero => exact absurd HA.out (by simp [laws_eqPropS.l0])
    | succ k1 =>
      have H := HA.out
      clear HA
      simp only [laws_eqPropS.l0] at H
      by_cases c4 : x5_1 < (l0.length : Int)
      rotate_left
      · rw [if_neg c4] at H
        have c4b0 : decide (x5_1 < (l0.length : Int)) = false := decide_eq_false c4
        clear c4
        obtain rfl := Option.some.inj H
        go_wp2
        go_ret
        exact re_
      rw [if_pos c4] at H
      have c4b0 : decide (x5_1 < (l0.length : Int)) = true := decide_eq_true c4
      clear c4
      by_cases c5 : 0 ≤ x5_1
      rotate_left
      · rw [if_neg c5] at H
        exact absurd H (by simp)
      rw [if_pos c5] at H
      have c5b0 : decide (0 ≤ x5_1) = true := decide_eq_true c5
      clear c5
      by_cases c6 : x5_1 < (l1.length : Int)
      rotate_left
      · rw [if_neg c6] at H
        exact absurd H (by simp)
      rw [if_pos c6] at H
      have c6b0 : decide (x5_1 < (l1.length : Int)) = true := decide_eq_true c6
      clear c6
      replace H := Option.bind_eq_some_iff.mp H
      obtain ⟨t344, A70, H⟩ := H
      replace H : (if t344 = true then (laws_eqPropS.l0 k1 l0 l1 (wrap64 (x5_1 + 1))) else (some false)) = some r := H
      have A7 := Aside0.mk A70
      clear A70
      by_cases c8 : t344 = true
      · subst c8
        have H1 : (laws_eqPropS.l0 k1 l0 l1 (wrap64 (x5_1 + 1))) = some r := by rw [if_pos rfl] at H; exact H
        clear H
        have H := H1
        clear H1
        have H' := Aside0.mk H
        clear H
        try go_wp2
        replace HB := Aside0.mk (below_drew1 HB.out)
        have p342 : 0 ≤ (x5_1 : Int) := od_
        have q342 : x5_1 < (l0.length : Int) := od_
        obtain ⟨ad342, A342_4, c342_4, e342, hx342_0, hx342_1, hx342_2, hx342_3, hx342_4, hl342_4, hi342_4⟩ := at_T140 HR0.out x5_1 p342 q342
        have hw342_4 := hx342_4
        have hw342_3 := hx342_3
        have hw342_2 := hx342_2
        have hw342_1 := hx342_1
        have hw342_0 := hx342_0
        cases e342
        replace hx342_0 := mv_ HB hx342_0
        replace hx342_1 := mv_ HB hx342_1
        replace hx342_2 := mv_ HB hx342_2
        replace hx342_3 := mv_ HB hx342_3
        replace hx342_4 := mv_ HB hx342_4
        have HR342_4 := Aside0.mk hi342_4
        have HC342_4 := Aside0.mk hl342_4
        clear hi342_4 hl342_4
        replace p342 := eq_true p342
        replace q342 := eq_true q342
        have p343 : 0 ≤ (x5_1 : Int) := od_
        have q343 : x5_1 < (l1.length : Int) := od_
        obtain ⟨ad343, A343_4, c343_4, e343, hx343_0, hx343_1, hx343_2, hx343_3, hx343_4, hl343_4, hi343_4⟩ := at_T140 HR1.out x5_1 p343 q343
        have hw343_4 := hx343_4
        have hw343_3 := hx343_3
        have hw343_2 := hx343_2
        have hw343_1 := hx343_1
        have hw343_0 := hx343_0
        cases e343
        replace hx343_0 := mv_ HB hx343_0
        replace hx343_1 := mv_ HB hx343_1
        replace hx343_2 := mv_ HB hx343_2
        replace hx343_3 := mv_ HB hx343_3
        replace hx343_4 := mv_ HB hx343_4
        have HR343_4 := Aside0.mk hi343_4
        have HC343_4 := Aside0.mk hl343_4
        clear hi343_4 hl343_4
        replace p343 := eq_true p343
        replace q343 := eq_true q343
        refine start_ (n := 10) (S := fun w' => w'.cell? (ad342.add ((x5_1).toNat * 5)) = some (.string ((rd_T140 l0 x5_1).f0)) ∧ w'.cell? ⟨(ad342.add ((x5_1).toNat * 5)).block, (ad342.add ((x5_1).toNat * 5)).off + 1, none⟩ = some (.int .i64 ((rd_T140 l0 x5_1).f1.f0)) ∧ w'.cell? ⟨(ad342.add ((x5_1).toNat * 5)).block, (ad342.add ((x5_1).toNat * 5)).off + 2, none⟩ = some (.int .i64 ((rd_T140 l0 x5_1).f1.f1)) ∧ w'.cell? ⟨(ad342.add ((x5_1).toNat * 5)).block, (ad342.add ((x5_1).toNat * 5)).off + 3, none⟩ = some (.string ((rd_T140 l0 x5_1).f1.f2)) ∧ w'.cell? ⟨(ad342.add ((x5_1).toNat * 5)).block, (ad342.add ((x5_1).toNat * 5)).off + 4, none⟩ = some (.slice A342_4 ((rd_T140 l0 x5_1).f1.f3).length c342_4) ∧ w'.cell? (ad343.add ((x5_1).toNat * 5)) = some (.string ((rd_T140 l1 x5_1).f0)) ∧ w'.cell? ⟨(ad343.add ((x5_1).toNat * 5)).block, (ad343.add ((x5_1).toNat * 5)).off + 1, none⟩ = some (.int .i64 ((rd_T140 l1 x5_1).f1.f0)) ∧ w'.cell? ⟨(ad343.add ((x5_1).toNat * 5)).block, (ad343.add ((x5_1).toNat * 5)).off + 2, none⟩ = some (.int .i64 ((rd_T140 l1 x5_1).f1.f1)) ∧ w'.cell? ⟨(ad343.add ((x5_1).toNat * 5)).block, (ad343.add ((x5_1).toNat * 5)).off + 3, none⟩ = some (.string ((rd_T140 l1 x5_1).f1.f2)) ∧ w'.cell? ⟨(ad343.add ((x5_1).toNat * 5)).block, (ad343.add ((x5_1).toNat * 5)).off + 4, none⟩ = some (.slice A343_4 ((rd_T140 l1 x5_1).f1.f3).length c343_4)) (ds := []) #[false, false, false, false, false, false, false, false, false, false] (by kernel_rfl) rfl rfl ⟨(mv_ HB hw342_0 :), (mv_ HB hw342_1 :), (mv_ HB hw342_2 :), (mv_ HB hw342_3 :), (mv_ HB hw342_4 :), (mv_ HB hw343_0 :), (mv_ HB hw343_1 :), (mv_ HB hw343_2 :), (mv_ HB hw343_3 :), (mv_ HB hw343_4 :)⟩ (fun hHeld => ?_); refine with_tabW laws_eqPropS.tab6 laws_eqPropS.bits6 (fun HT_ HW_ => ?_)
        generalize wr.drew = w9 at HB HR342_4 HR343_4 hx342_0 hx342_1 hx342_2 hx342_3 hx342_4 hx343_0 hx343_1 hx343_2 hx343_3 hx343_4 hHeld ⊢
        refine puA 0 (some 17) ?_
        refine puA 1 (some 18) ?_
        refine puA 2 (some 19) ?_
        refine puA 4 (some 21) ?_
        refine puA 5 (some 22) ?_
        refine puA 6 (some 23) ?_
        refine taA 3 (some 20) ?_
        refine taA 7 (some 24) ?_
        refine one_ (i := 8) (N := some 25) #[true, true, true, true, true, true, true, true, true, false] rfl rfl (one_of HT_.out (by kernel_rfl)) (by decide) (fun K hK => ?_)
        refine goes_ Try.func113 (by kernel_rfl) rfl #[.agg #[.string ((rd_T140 l0 x5_1).f0), .int .i64 ((rd_T140 l0 x5_1).f1.f0), .int .i64 ((rd_T140 l0 x5_1).f1.f1), .string ((rd_T140 l0 x5_1).f1.f2), .slice A342_4 ((rd_T140 l0 x5_1).f1.f3).length c342_4], .agg #[.string ((rd_T140 l1 x5_1).f0), .int .i64 ((rd_T140 l1 x5_1).f1.f0), .int .i64 ((rd_T140 l1 x5_1).f1.f1), .string ((rd_T140 l1 x5_1).f1.f2), .slice A343_4 ((rd_T140 l1 x5_1).f1.f3).length c343_4]] (by rfl) rfl rfl ar_ ?_
        with_reducible refine (laws_eqProp.calls k1 ((rd_T140 l0 x5_1).f0) ((rd_T140 l0 x5_1).f1.f0) ((rd_T140 l0 x5_1).f1.f1) ((rd_T140 l0 x5_1).f1.f2) _ _ ((rd_T140 l0 x5_1).f1.f3) ((rd_T140 l1 x5_1).f0) ((rd_T140 l1 x5_1).f1.f0) ((rd_T140 l1 x5_1).f1.f1) ((rd_T140 l1 x5_1).f1.f2) _ _ ((rd_T140 l1 x5_1).f1.f3) true _ ?side1 ?side2 ?side3 ?side4 A7.out).mono ?_
        (case side1 => exact rdb_ HR342_4)
        (case side2 => exact HC342_4.out)
        (case side3 => exact rdb_ HR343_4)
        (case side4 => exact HC343_4.out)
        rintro e w10 ⟨rfl, hb⟩
        refine ⟨_, rfl, ?_⟩
        replace HB := bs_ hb
        (try clear hb)
        (try clear hb2)
        (try clear hk)
        (try clear hi)
        refine hK.out _ _ ⟨(mv_ HB hw342_0 :), (mv_ HB hw342_1 :), (mv_ HB hw342_2 :), (mv_ HB hw342_3 :), (mv_ HB hw342_4 :), (mv_ HB hw343_0 :), (mv_ HB hw343_1 :), (mv_ HB hw343_2 :), (mv_ HB hw343_3 :), (mv_ HB hw343_4 :)⟩ (fun hHeld => ?_)
        clear hK K
        refine norm_ (a' := ?_) ?_ ?_
        rotate_left
        · show Act.put _ (some 25) _ = _
          simp only [Act.put, List.setIfInBounds_toArray, List.set_cons_zero, List.set_cons_succ, i64_w, i32_w]
          rfl
        refine puA 9 (some 26) ?_
        refine done_ (done_of HT_.out (by kernel_rfl)) ?_
        try go_wp2
        go_roundg k1
        case measure => have := HK1.out; omega
        case rel => exact ⟨(wrap64 (x5_1 + 1)), sm_, H', ⟨by have := HK1.out; omega⟩, ⟨bel_⟩⟩
      replace c8 := Bool.eq_false_iff.mpr c8
      subst c8
      have H1 : (some false) = some r := by rw [if_neg (show ¬ (false = true) by decide)] at H; exact H
      clear H
      have H := H1
      clear H1
      obtain rfl := Option.some.inj H
      try go_wp2
      replace HB := Aside0.mk (below_drew1 HB.out)
      have p342 : 0 ≤ (x5_1 : Int) := od_
      have q342 : x5_1 < (l0.length : Int) := od_
      obtain ⟨ad342, A342_4, c342_4, e342, hx342_0, hx342_1, hx342_2, hx342_3, hx342_4, hl342_4, hi342_4⟩ := at_T140 HR0.out x5_1 p342 q342
      have hw342_4 := hx342_4
      have hw342_3 := hx342_3
      have hw342_2 := hx342_2
      have hw342_1 := hx342_1
      have hw342_0 := hx342_0
      cases e342
      replace hx342_0 := mv_ HB hx342_0
      replace hx342_1 := mv_ HB hx342_1
      replace hx342_2 := mv_ HB hx342_2
      replace hx342_3 := mv_ HB hx342_3
      replace hx342_4 := mv_ HB hx342_4
      have HR342_4 := Aside0.mk hi342_4
      have HC342_4 := Aside0.mk hl342_4
      clear hi342_4 hl342_4
      replace p342 := eq_true p342
      replace q342 := eq_true q342
      have p343 : 0 ≤ (x5_1 : Int) := od_
      have q343 : x5_1 < (l1.length : Int) := od_
      obtain ⟨ad343, A343_4, c343_4, e343, hx343_0, hx343_1, hx343_2, hx343_3, hx343_4, hl343_4, hi343_4⟩ := at_T140 HR1.out x5_1 p343 q343
      have hw343_4 := hx343_4
      have hw343_3 := hx343_3
      have hw343_2 := hx343_2
      have hw343_1 := hx343_1
      have hw343_0 := hx343_0
      cases e343
      replace hx343_0 := mv_ HB hx343_0
      replace hx343_1 := mv_ HB hx343_1
      replace hx343_2 := mv_ HB hx343_2
      replace hx343_3 := mv_ HB hx343_3
      replace hx343_4 := mv_ HB hx343_4
      have HR343_4 := Aside0.mk hi343_4
      have HC343_4 := Aside0.mk hl343_4
      clear hi343_4 hl343_4
      replace p343 := eq_true p343
      replace q343 := eq_true q343
      refine start_ (n := 10) (S := fun w' => w'.cell? (ad342.add ((x5_1).toNat * 5)) = some (.string ((rd_T140 l0 x5_1).f0)) ∧ w'.cell? ⟨(ad342.add ((x5_1).toNat * 5)).block, (ad342.add ((x5_1).toNat * 5)).off + 1, none⟩ = some (.int .i64 ((rd_T140 l0 x5_1).f1.f0)) ∧ w'.cell? ⟨(ad342.add ((x5_1).toNat * 5)).block, (ad342.add ((x5_1).toNat * 5)).off + 2, none⟩ = some (.int .i64 ((rd_T140 l0 x5_1).f1.f1)) ∧ w'.cell? ⟨(ad342.add ((x5_1).toNat * 5)).block, (ad342.add ((x5_1).toNat * 5)).off + 3, none⟩ = some (.string ((rd_T140 l0 x5_1).f1.f2)) ∧ w'.cell? ⟨(ad342.add ((x5_1).toNat * 5)).block, (ad342.add ((x5_1).toNat * 5)).off + 4, none⟩ = some (.slice A342_4 ((rd_T140 l0 x5_1).f1.f3).length c342_4) ∧ w'.cell? (ad343.add ((x5_1).toNat * 5)) = some (.string ((rd_T140 l1 x5_1).f0)) ∧ w'.cell? ⟨(ad343.add ((x5_1).toNat * 5)).block, (ad343.add ((x5_1).toNat * 5)).off + 1, none⟩ = some (.int .i64 ((rd_T140 l1 x5_1).f1.f0)) ∧ w'.cell? ⟨(ad343.add ((x5_1).toNat * 5)).block, (ad343.add ((x5_1).toNat * 5)).off + 2, none⟩ = some (.int .i64 ((rd_T140 l1 x5_1).f1.f1)) ∧ w'.cell? ⟨(ad343.add ((x5_1).toNat * 5)).block, (ad343.add ((x5_1).toNat * 5)).off + 3, none⟩ = some (.string ((rd_T140 l1 x5_1).f1.f2)) ∧ w'.cell? ⟨(ad343.add ((x5_1).toNat * 5)).block, (ad343.add ((x5_1).toNat * 5)).off + 4, none⟩ = some (.slice A343_4 ((rd_T140 l1 x5_1).f1.f3).length c343_4)) (ds := []) #[false, false, false, false, false, false, false, false, false, false] (by kernel_rfl) rfl rfl ⟨(mv_ HB hw342_0 :), (mv_ HB hw342_1 :), (mv_ HB hw342_2 :), (mv_ HB hw342_3 :), (mv_ HB hw342_4 :), (mv_ HB hw343_0 :), (mv_ HB hw343_1 :), (mv_ HB hw343_2 :), (mv_ HB hw343_3 :), (mv_ HB hw343_4 :)⟩ (fun hHeld => ?_); refine with_tabW laws_eqPropS.tab6 laws_eqPropS.bits6 (fun HT_ HW_ => ?_)
      generalize wr.drew = w11 at HB HR342_4 HR343_4 hx342_0 hx342_1 hx342_2 hx342_3 hx342_4 hx343_0 hx343_1 hx343_2 hx343_3 hx343_4 hHeld ⊢
      refine puA 0 (some 17) ?_
      refine puA 1 (some 18) ?_
      refine puA 2 (some 19) ?_
      refine puA 4 (some 21) ?_
      refine puA 5 (some 22) ?_
      refine puA 6 (some 23) ?_
      refine taA 3 (some 20) ?_
      refine taA 7 (some 24) ?_
      refine one_ (i := 8) (N := some 25) #[true, true, true, true, true, true, true, true, true, false] rfl rfl (one_of HT_.out (by kernel_rfl)) (by decide) (fun K hK => ?_)
      refine goes_ Try.func113 (by kernel_rfl) rfl #[.agg #[.string ((rd_T140 l0 x5_1).f0), .int .i64 ((rd_T140 l0 x5_1).f1.f0), .int .i64 ((rd_T140 l0 x5_1).f1.f1), .string ((rd_T140 l0 x5_1).f1.f2), .slice A342_4 ((rd_T140 l0 x5_1).f1.f3).length c342_4], .agg #[.string ((rd_T140 l1 x5_1).f0), .int .i64 ((rd_T140 l1 x5_1).f1.f0), .int .i64 ((rd_T140 l1 x5_1).f1.f1), .string ((rd_T140 l1 x5_1).f1.f2), .slice A343_4 ((rd_T140 l1 x5_1).f1.f3).length c343_4]] (by rfl) rfl rfl ar_ ?_
      with_reducible refine (laws_eqProp.calls k1 ((rd_T140 l0 x5_1).f0) ((rd_T140 l0 x5_1).f1.f0) ((rd_T140 l0 x5_1).f1.f1) ((rd_T140 l0 x5_1).f1.f2) _ _ ((rd_T140 l0 x5_1).f1.f3) ((rd_T140 l1 x5_1).f0) ((rd_T140 l1 x5_1).f1.f0) ((rd_T140 l1 x5_1).f1.f1) ((rd_T140 l1 x5_1).f1.f2) _ _ ((rd_T140 l1 x5_1).f1.f3) false _ ?side1 ?side2 ?side3 ?side4 A7.out).mono ?_
      (case side1 => exact rdb_ HR342_4)
      (case side2 => exact HC342_4.out)
      (case side3 => exact rdb_ HR343_4)
      (case side4 => exact HC343_4.out)
      rintro e w12 ⟨rfl, hb⟩
      refine ⟨_, rfl, ?_⟩
      replace HB := bs_ hb
      (try clear hb)
      (try clear hb2)
      (try clear hk)
      (try clear hi)
      refine hK.out _ _ ⟨(mv_ HB hw342_0 :), (mv_ HB hw342_1 :), (mv_ HB hw342_2 :), (mv_ HB hw342_3 :), (mv_ HB hw342_4 :), (mv_ HB hw343_0 :), (mv_ HB hw343_1 :), (mv_ HB hw343_2 :), (mv_ HB hw343_3 :), (mv_ HB hw343_4 :)⟩ (fun hHeld => ?_)
      clear hK K
      refine norm_ (a' := ?_) ?_ ?_
      rotate_left
      · show Act.put _ (some 25) _ = _
        simp only [Act.put, List.setIfInBounds_toArray, List.set_cons_zero, List.set_cons_succ, i64_w, i32_w]
        rfl
      refine puA 9 (some 26) ?_
      refine done_ (done_of HT_.out (by kernel_rfl)) ?_
      try go_wp2
      go_ret
      exact re_

/-! ### laws_eqNode: function 158 -/
def laws_eqNode.f (k : Nat) (a0_0 : Int) (l0_1 : List ByteArray) (l0_2 : List (S140)) (a1_0 : Int) (l1_1 : List ByteArray) (l1_2 : List (S140)) : Option (Bool) := if a0_0 = a1_0 then ((laws_eqStringS.f k l0_1 l1_1).bind fun t347 => (if t347 = true then ((laws_eqPropS.f k l0_2 l1_2).bind fun t348 => (if t348 = true then (some true) else (some false))) else (some false))) else (some false)
set_option maxHeartbeats 8000000 in
set_option maxRecDepth 100000 in
theorem laws_eqNode.calls (k : Nat) (a0_0 : Int) (A0_1 : Option Addr) (c0_1 : Nat) (l0_1 : List ByteArray) (A0_2 : Option Addr) (c0_2 : Nat) (l0_2 : List (S140)) (a1_0 : Int) (A1_1 : Option Addr) (c1_1 : Nat) (l1_1 : List ByteArray) (A1_2 : Option Addr) (c1_2 : Nat) (l1_2 : List (S140)) (r : Bool) (w : World) (hr0_1 : Kd.C Kd.string w A0_1 l0_1.length l0_1) (hc0_1 : l0_1.length ≤ c0_1) (hr0_2 : Kd.C k140 w A0_2 l0_2.length l0_2) (hc0_2 : l0_2.length ≤ c0_2) (hr1_1 : Kd.C Kd.string w A1_1 l1_1.length l1_1) (hc1_1 : l1_1.length ≤ c1_1) (hr1_2 : Kd.C k140 w A1_2 l1_2.length l1_2) (hc1_2 : l1_2.length ≤ c1_2) (h : laws_eqNode.f k a0_0 l0_1 l0_2 a1_0 l1_1 l1_2 = some r) :
    Calls Try.prog 158 #[.agg #[.int .i64 a0_0, .slice A0_1 l0_1.length c0_1, .slice A0_2 l0_2.length c0_2], .agg #[.int .i64 a1_0, .slice A1_1 l1_1.length c1_1, .slice A1_2 l1_2.length c1_2]] w fun e w' => e = .returned (.bool r) ∧ Below w.heap.size w w' := by
  have hu99 := Try.underlying99
  have HR0_1 := Aside0.mk hr0_1
  have HC0_1 := Aside0.mk hc0_1
  clear hr0_1 hc0_1
  have HR0_2 := Aside0.mk hr0_2
  have HC0_2 := Aside0.mk hc0_2
  clear hr0_2 hc0_2
  have HR1_1 := Aside0.mk hr1_1
  have HC1_1 := Aside0.mk hc1_1
  clear hr1_1 hc1_1
  have HR1_2 := Aside0.mk hr1_2
  have HC1_2 := Aside0.mk hc1_2
  clear hr1_2 hc1_2
  have HB := Aside0.mk (Below.refl w.heap.size w)
  have H : (if a0_0 = a1_0 then ((laws_eqStringS.f k l0_1 l1_1).bind fun t347 => (if t347 = true then ((laws_eqPropS.f k l0_2 l1_2).bind fun t348 => (if t348 = true then (some true) else (some false))) else (some false))) else (some false)) = some r := h
  clear h
  by_cases c3 : a0_0 = a1_0
  rotate_left
  · rw [if_neg c3] at H
    have c3b0 : (a0_0 == a1_0) = false := beq_eq_false_iff_ne.mpr c3
    have c3b1 : (a0_0 != a1_0) = true := bne_iff_ne.mpr c3
    obtain rfl := Option.some.inj H
    go_enter Try.func158, Try.ntmps158
    go_wp2_with (first | ((with_reducible refine gate_dst (N := 2) rfl ?_); refine bx_ 2 #[.int .i64 a0_0, .slice A0_1 l0_1.length c0_1, .slice A0_2 l0_2.length c0_2] 99 ?_; intro gb345 hg w25 hbox hb; have BK345 := Aside0.mk (hbox); have GW345 := gw_ hg; have GE345 := gw_ hg; replace HB := bs_ hb; clear hb hbox hg) | ((with_reducible refine gate_dst (N := 3) rfl ?_); refine bx_ 3 #[.int .i64 a1_0, .slice A1_1 l1_1.length c1_1, .slice A1_2 l1_2.length c1_2] 99 ?_; intro gb346 hg w26 hbox hb; have BK346 := Aside0.mk (hbox); have GW346 := gw_ hg; have GE346 := gw_ hg; have NB345_346 := nlt_ hg BK345; have NB346_345 := ngt_ hg BK345; replace BK345 := bb_ BK345 hb; replace HB := bs_ hb; clear hb hbox hg; have hnb27 := NB345_346.out; have hnc27 := NB346_345.out; obtain ⟨hcz28_0, hcz28_1, hcz28_2, hfz28_0, hfz28_1, hfz28_2⟩ := blk3 BK345; obtain ⟨hcz29_0, hcz29_1, hcz29_2, hfz29_0, hfz29_1, hfz29_2⟩ := blk3 BK346))
    go_ret
    exact re_
  rw [if_pos c3] at H
  have c3b0 : (a0_0 == a1_0) = true := beq_iff_eq.mpr c3
  have c3b1 : (a0_0 != a1_0) = false := bne_eq_false_iff_eq.mpr c3
  clear c3
  replace H := Option.bind_eq_some_iff.mp H
  obtain ⟨t347, A40, H⟩ := H
  replace H : (if t347 = true then ((laws_eqPropS.f k l0_2 l1_2).bind fun t348 => (if t348 = true then (some true) else (some false))) else (some false)) = some r := H
  have A4 := Aside0.mk A40
  clear A40
  by_cases c5 : t347 = true
  rotate_left
  · replace c5 := Bool.eq_false_iff.mpr c5
    subst c5
    have H1 : (some false) = some r := by rw [if_neg (show ¬ (false = true) by decide)] at H; exact H
    clear H
    have H := H1
    clear H1
    obtain rfl := Option.some.inj H
    go_enter Try.func158, Try.ntmps158
    go_wp2_with (first | ((with_reducible refine gate_dst (N := 2) rfl ?_); refine bx_ 2 #[.int .i64 a0_0, .slice A0_1 l0_1.length c0_1, .slice A0_2 l0_2.length c0_2] 99 ?_; intro gb345 hg w20 hbox hb; have BK345 := Aside0.mk (hbox); have GW345 := gw_ hg; have GE345 := gw_ hg; replace HB := bs_ hb; clear hb hbox hg) | ((with_reducible refine gate_dst (N := 3) rfl ?_); refine bx_ 3 #[.int .i64 a1_0, .slice A1_1 l1_1.length c1_1, .slice A1_2 l1_2.length c1_2] 99 ?_; intro gb346 hg w21 hbox hb; have BK346 := Aside0.mk (hbox); have GW346 := gw_ hg; have GE346 := gw_ hg; have NB345_346 := nlt_ hg BK345; have NB346_345 := ngt_ hg BK345; replace BK345 := bb_ BK345 hb; replace HB := bs_ hb; clear hb hbox hg; have hnb22 := NB345_346.out; have hnc22 := NB346_345.out; obtain ⟨hcz23_0, hcz23_1, hcz23_2, hfz23_0, hfz23_1, hfz23_2⟩ := blk3 BK345; obtain ⟨hcz24_0, hcz24_1, hcz24_2, hfz24_0, hfz24_1, hfz24_2⟩ := blk3 BK346) | ((with_reducible refine gate_callee (f := 43) rfl ?_); refine goesL_ (some 14) rfl rfl Try.func43 (by kernel_rfl) rfl #[.slice A0_1 l0_1.length c0_1, .slice A1_1 l1_1.length c1_1] rfl ar_ ?_; (with_reducible refine (laws_eqStringS.calls k _ _ l0_1 _ _ l1_1 false _ ?side1 ?side2 ?side3 ?side4 A4.out).mono ?_); (case side1 => exact rdb_ HR0_1); (case side2 => exact HC0_1.out); (case side3 => exact rdb_ HR1_1); (case side4 => exact HC1_1.out); rintro e w' ⟨rfl, ⟨nd, rfl⟩⟩; refine ⟨_, rfl, ?_⟩))
    go_ret
    exact re_
  subst c5
  have H1 : ((laws_eqPropS.f k l0_2 l1_2).bind fun t348 => (if t348 = true then (some true) else (some false))) = some r := by rw [if_pos rfl] at H; exact H
  clear H
  have H := H1
  clear H1
  replace H := Option.bind_eq_some_iff.mp H
  obtain ⟨t348, A60, H⟩ := H
  replace H : (if t348 = true then (some true) else (some false)) = some r := H
  have A6 := Aside0.mk A60
  clear A60
  by_cases c7 : t348 = true
  · subst c7
    have H1 : (some true) = some r := by rw [if_pos rfl] at H; exact H
    clear H
    have H := H1
    clear H1
    obtain rfl := Option.some.inj H
    go_enter Try.func158, Try.ntmps158
    go_wp2_with (first | ((with_reducible refine gate_dst (N := 2) rfl ?_); refine bx_ 2 #[.int .i64 a0_0, .slice A0_1 l0_1.length c0_1, .slice A0_2 l0_2.length c0_2] 99 ?_; intro gb345 hg w8 hbox hb; have BK345 := Aside0.mk (hbox); have GW345 := gw_ hg; have GE345 := gw_ hg; replace HB := bs_ hb; clear hb hbox hg) | ((with_reducible refine gate_dst (N := 3) rfl ?_); refine bx_ 3 #[.int .i64 a1_0, .slice A1_1 l1_1.length c1_1, .slice A1_2 l1_2.length c1_2] 99 ?_; intro gb346 hg w9 hbox hb; have BK346 := Aside0.mk (hbox); have GW346 := gw_ hg; have GE346 := gw_ hg; have NB345_346 := nlt_ hg BK345; have NB346_345 := ngt_ hg BK345; replace BK345 := bb_ BK345 hb; replace HB := bs_ hb; clear hb hbox hg; have hnb10 := NB345_346.out; have hnc10 := NB346_345.out; obtain ⟨hcz11_0, hcz11_1, hcz11_2, hfz11_0, hfz11_1, hfz11_2⟩ := blk3 BK345; obtain ⟨hcz12_0, hcz12_1, hcz12_2, hfz12_0, hfz12_1, hfz12_2⟩ := blk3 BK346) | ((with_reducible refine gate_callee (f := 43) rfl ?_); refine goesL_ (some 14) rfl rfl Try.func43 (by kernel_rfl) rfl #[.slice A0_1 l0_1.length c0_1, .slice A1_1 l1_1.length c1_1] rfl ar_ ?_; (with_reducible refine (laws_eqStringS.calls k _ _ l0_1 _ _ l1_1 true _ ?side1 ?side2 ?side3 ?side4 A4.out).mono ?_); (case side1 => exact rdb_ HR0_1); (case side2 => exact HC0_1.out); (case side3 => exact rdb_ HR1_1); (case side4 => exact HC1_1.out); rintro e w' ⟨rfl, ⟨nd, rfl⟩⟩; refine ⟨_, rfl, ?_⟩) | ((with_reducible refine gate_callee (f := 44) rfl ?_); refine goesL_ (some 20) rfl rfl Try.func44 (by kernel_rfl) rfl #[.slice A0_2 l0_2.length c0_2, .slice A1_2 l1_2.length c1_2] rfl ar_ ?_; (with_reducible refine (laws_eqPropS.calls k _ _ l0_2 _ _ l1_2 true _ ?side1 ?side2 ?side3 ?side4 A6.out).mono ?_); (case side1 => repeat (first | exact (Kd.C_below HR0_2.out (bel_)) | (with_reducible refine Kd.C_alloc ?_ _) | (with_reducible refine Kd.C_drewN ?_ _) | (with_reducible refine Kd.C_drew ?_))); (case side2 => exact HC0_2.out); (case side3 => repeat (first | exact (Kd.C_below HR1_2.out (bel_)) | (with_reducible refine Kd.C_alloc ?_ _) | (with_reducible refine Kd.C_drewN ?_ _) | (with_reducible refine Kd.C_drew ?_))); (case side4 => exact HC1_2.out); rintro e w13 ⟨rfl, hb⟩; refine ⟨_, rfl, ?_⟩; replace BK345 := bb_ BK345 hb; replace BK346 := bb_ BK346 hb; replace HB := bs_ hb; (try clear hb); (try clear hb2); (try clear hk); (try clear hi)))
    go_ret
    exact re_
  replace c7 := Bool.eq_false_iff.mpr c7
  subst c7
  have H1 : (some false) = some r := by rw [if_neg (show ¬ (false = true) by decide)] at H; exact H
  clear H
  have H := H1
  clear H1
  obtain rfl := Option.some.inj H
  go_enter Try.func158, Try.ntmps158
  go_wp2_with (first | ((with_reducible refine gate_dst (N := 2) rfl ?_); refine bx_ 2 #[.int .i64 a0_0, .slice A0_1 l0_1.length c0_1, .slice A0_2 l0_2.length c0_2] 99 ?_; intro gb345 hg w14 hbox hb; have BK345 := Aside0.mk (hbox); have GW345 := gw_ hg; have GE345 := gw_ hg; replace HB := bs_ hb; clear hb hbox hg) | ((with_reducible refine gate_dst (N := 3) rfl ?_); refine bx_ 3 #[.int .i64 a1_0, .slice A1_1 l1_1.length c1_1, .slice A1_2 l1_2.length c1_2] 99 ?_; intro gb346 hg w15 hbox hb; have BK346 := Aside0.mk (hbox); have GW346 := gw_ hg; have GE346 := gw_ hg; have NB345_346 := nlt_ hg BK345; have NB346_345 := ngt_ hg BK345; replace BK345 := bb_ BK345 hb; replace HB := bs_ hb; clear hb hbox hg; have hnb16 := NB345_346.out; have hnc16 := NB346_345.out; obtain ⟨hcz17_0, hcz17_1, hcz17_2, hfz17_0, hfz17_1, hfz17_2⟩ := blk3 BK345; obtain ⟨hcz18_0, hcz18_1, hcz18_2, hfz18_0, hfz18_1, hfz18_2⟩ := blk3 BK346) | ((with_reducible refine gate_callee (f := 43) rfl ?_); refine goesL_ (some 14) rfl rfl Try.func43 (by kernel_rfl) rfl #[.slice A0_1 l0_1.length c0_1, .slice A1_1 l1_1.length c1_1] rfl ar_ ?_; (with_reducible refine (laws_eqStringS.calls k _ _ l0_1 _ _ l1_1 true _ ?side1 ?side2 ?side3 ?side4 A4.out).mono ?_); (case side1 => exact rdb_ HR0_1); (case side2 => exact HC0_1.out); (case side3 => exact rdb_ HR1_1); (case side4 => exact HC1_1.out); rintro e w' ⟨rfl, ⟨nd, rfl⟩⟩; refine ⟨_, rfl, ?_⟩) | ((with_reducible refine gate_callee (f := 44) rfl ?_); refine goesL_ (some 20) rfl rfl Try.func44 (by kernel_rfl) rfl #[.slice A0_2 l0_2.length c0_2, .slice A1_2 l1_2.length c1_2] rfl ar_ ?_; (with_reducible refine (laws_eqPropS.calls k _ _ l0_2 _ _ l1_2 false _ ?side1 ?side2 ?side3 ?side4 A6.out).mono ?_); (case side1 => repeat (first | exact (Kd.C_below HR0_2.out (bel_)) | (with_reducible refine Kd.C_alloc ?_ _) | (with_reducible refine Kd.C_drewN ?_ _) | (with_reducible refine Kd.C_drew ?_))); (case side2 => exact HC0_2.out); (case side3 => repeat (first | exact (Kd.C_below HR1_2.out (bel_)) | (with_reducible refine Kd.C_alloc ?_ _) | (with_reducible refine Kd.C_drewN ?_ _) | (with_reducible refine Kd.C_drew ?_))); (case side4 => exact HC1_2.out); rintro e w19 ⟨rfl, hb⟩; refine ⟨_, rfl, ?_⟩; replace BK345 := bb_ BK345 hb; replace BK346 := bb_ BK346 hb; replace HB := bs_ hb; (try clear hb); (try clear hb2); (try clear hk); (try clear hi)))
  go_ret
  exact re_

/-! ### laws_eqNodeS: function 84 -/
def laws_eqNodeS.l0 : Nat → List (S99) → List (S99) → Int → Option (Bool)
  | 0, _, _, _ => none
  | k + 1, x0, x1, x5 => if x5 < (x0.length : Int) then (if 0 ≤ x5 then (if x5 < (x1.length : Int) then ((laws_eqNode.f k ((rd_T99 x0 x5).f0) ((rd_T99 x0 x5).f1) ((rd_T99 x0 x5).f2) ((rd_T99 x1 x5).f0) ((rd_T99 x1 x5).f1) ((rd_T99 x1 x5).f2)).bind fun t351 => (if t351 = true then (laws_eqNodeS.l0 k x0 x1 (wrap64 (x5 + 1))) else (some false))) else (none)) else (none)) else (some true)
def laws_eqNodeS.f (k : Nat) (l0 : List (S99)) (l1 : List (S99)) : Option (Bool) := if (l0.length : Int) = (l1.length : Int) then (laws_eqNodeS.l0 k l0 l1 0) else (some false)
def laws_eqNodeS.T6 : Bool × List (List Nat × List Nat) := (true, [([], []), ([], []), ([0, 1], [0, 1]), ([2], [2]), ([], []), ([], []), ([4, 5], [4, 5]), ([6], [6]), ([3, 7], [3, 7]), ([8], [8])])
def laws_eqNodeS.B6 : List Nat := [0, 0, 3, 7, 0, 0, 48, 112, 255, 511]
theorem laws_eqNodeS.tab6 : rtab .any (opsOf Try.f84 6) = laws_eqNodeS.T6 := by kernel_rfl
theorem laws_eqNodeS.bits6 : waitsOk laws_eqNodeS.T6.2 laws_eqNodeS.B6 = true := by kernel_rfl
set_option maxHeartbeats 8000000 in
set_option maxRecDepth 100000 in
theorem laws_eqNodeS.calls (k : Nat) (A0 : Option Addr) (c0 : Nat) (l0 : List (S99)) (A1 : Option Addr) (c1 : Nat) (l1 : List (S99)) (r : Bool) (w : World) (hr0 : Kd.C k99 w A0 l0.length l0) (hc0 : l0.length ≤ c0) (hr1 : Kd.C k99 w A1 l1.length l1) (hc1 : l1.length ≤ c1) (h : laws_eqNodeS.f k l0 l1 = some r) :
    Calls Try.prog 84 #[.slice A0 l0.length c0, .slice A1 l1.length c1] w fun e w' => e = .returned (.bool r) ∧ Below w.heap.size w w' := by
  have hu99 := Try.underlying99
  have HR0 := Aside0.mk hr0
  have HC0 := Aside0.mk hc0
  clear hr0 hc0
  have HR1 := Aside0.mk hr1
  have HC1 := Aside0.mk hc1
  clear hr1 hc1
  have HB := Aside0.mk (Below.refl w.heap.size w)
  have H : (if (l0.length : Int) = (l1.length : Int) then (laws_eqNodeS.l0 k l0 l1 0) else (some false)) = some r := h
  clear h
  by_cases c3 : (l0.length : Int) = (l1.length : Int)
  rotate_left
  · rw [if_neg c3] at H
    have c3b0 : ((l0.length : Int) == (l1.length : Int)) = false := beq_eq_false_iff_ne.mpr c3
    have c3b1 : ((l0.length : Int) != (l1.length : Int)) = true := bne_iff_ne.mpr c3
    have c3b2 : (l0.length == l1.length) = false := by first | simpa using c3 | (simp at c3 ⊢; omega)
    obtain rfl := Option.some.inj H
    go_enter Try.func84, Try.ntmps84
    go_wp2
    go_ret
    exact re_
  rw [if_pos c3] at H
  have c3b0 : ((l0.length : Int) == (l1.length : Int)) = true := beq_iff_eq.mpr c3
  have c3b1 : ((l0.length : Int) != (l1.length : Int)) = false := bne_eq_false_iff_eq.mpr c3
  have c3b2 : (l0.length == l1.length) = true := by first | simpa using c3 | (simp at c3 ⊢; omega)
  clear c3
  have H' := Aside0.mk H
  clear H
  go_enter Try.func84, Try.ntmps84
  go_wp2
  go_loopg [5] k (fun kq v5 w' => ∃ (x5_1 : Int), v5 = .int .i64 x5_1 ∧ Aside0 (laws_eqNodeS.l0 kq l0 l1 x5_1 = some r) ∧ Aside0 (kq ≤ k) ∧ Aside0 (Below w.heap.size w w'))
  case atStart => exact ⟨(0), sm_, H', ⟨Nat.le_refl _⟩, ⟨bel_⟩⟩
  case round =>
    clear H'
    try clear c1
    try clear p2
    try clear c3
    try clear c3b0
    try clear c3b1
    try clear c3b2
    obtain ⟨x5_1, rfl, HA, HK1, HB⟩ := hrel
    cases gk with
    | zero => exact absurd HA.out (by simp [laws_eqNodeS.l0])
    | succ k1 =>
      have H := HA.out
      clear HA
      simp only [laws_eqNodeS.l0] at H
      by_cases c4 : x5_1 < (l0.length : Int)
      rotate_left
      · rw [if_neg c4] at H
        have c4b0 : decide (x5_1 < (l0.length : Int)) = false := decide_eq_false c4
        clear c4
        obtain rfl := Option.some.inj H
        go_wp2
        go_ret
        exact re_
      rw [if_pos c4] at H
      have c4b0 : decide (x5_1 < (l0.length : Int)) = true := decide_eq_true c4
      clear c4
      by_cases c5 : 0 ≤ x5_1
      rotate_left
      · rw [if_neg c5] at H
        exact absurd H (by simp)
      rw [if_pos c5] at H
      have c5b0 : decide (0 ≤ x5_1) = true := decide_eq_true c5
      clear c5
      by_cases c6 : x5_1 < (l1.length : Int)
      rotate_left
      · rw [if_neg c6] at H
        exact absurd H (by simp)
      rw [if_pos c6] at H
      have c6b0 : decide (x5_1 < (l1.length : Int)) = true := decide_eq_true c6
      clear c6
      replace H := Option.bind_eq_some_iff.mp H
      obtain ⟨t351, A70, H⟩ := H
      replace H : (if t351 = true then (laws_eqNodeS.l0 k1 l0 l1 (wrap64 (x5_1 + 1))) else (some false)) = some r := H
      have A7 := Aside0.mk A70
      clear A70
      by_cases c8 : t351 = true
      · subst c8
        have H1 : (laws_eqNodeS.l0 k1 l0 l1 (wrap64 (x5_1 + 1))) = some r := by rw [if_pos rfl] at H; exact H
        clear H
        have H := H1
        clear H1
        have H' := Aside0.mk H
        clear H
        try go_wp2
        replace HB := Aside0.mk (below_drew1 HB.out)
        have p349 : 0 ≤ (x5_1 : Int) := od_
        have q349 : x5_1 < (l0.length : Int) := od_
        obtain ⟨ad349, A349_1, c349_1, A349_2, c349_2, e349, hx349_0, hx349_1, hx349_2, hl349_1, hi349_1, hl349_2, hi349_2⟩ := at_T99 HR0.out x5_1 p349 q349
        have hw349_2 := hx349_2
        have hw349_1 := hx349_1
        have hw349_0 := hx349_0
        cases e349
        replace hx349_0 := mv_ HB hx349_0
        replace hx349_1 := mv_ HB hx349_1
        replace hx349_2 := mv_ HB hx349_2
        have HR349_1 := Aside0.mk hi349_1
        have HC349_1 := Aside0.mk hl349_1
        clear hi349_1 hl349_1
        have HR349_2 := Aside0.mk hi349_2
        have HC349_2 := Aside0.mk hl349_2
        clear hi349_2 hl349_2
        replace p349 := eq_true p349
        replace q349 := eq_true q349
        have p350 : 0 ≤ (x5_1 : Int) := od_
        have q350 : x5_1 < (l1.length : Int) := od_
        obtain ⟨ad350, A350_1, c350_1, A350_2, c350_2, e350, hx350_0, hx350_1, hx350_2, hl350_1, hi350_1, hl350_2, hi350_2⟩ := at_T99 HR1.out x5_1 p350 q350
        have hw350_2 := hx350_2
        have hw350_1 := hx350_1
        have hw350_0 := hx350_0
        cases e350
        replace hx350_0 := mv_ HB hx350_0
        replace hx350_1 := mv_ HB hx350_1
        replace hx350_2 := mv_ HB hx350_2
        have HR350_1 := Aside0.mk hi350_1
        have HC350_1 := Aside0.mk hl350_1
        clear hi350_1 hl350_1
        have HR350_2 := Aside0.mk hi350_2
        have HC350_2 := Aside0.mk hl350_2
        clear hi350_2 hl350_2
        replace p350 := eq_true p350
        replace q350 := eq_true q350
        refine start_ (n := 10) (S := fun w' => w'.cell? (ad349.add ((x5_1).toNat * 3)) = some (.int .i64 ((rd_T99 l0 x5_1).f0)) ∧ w'.cell? ⟨(ad349.add ((x5_1).toNat * 3)).block, (ad349.add ((x5_1).toNat * 3)).off + 1, none⟩ = some (.slice A349_1 ((rd_T99 l0 x5_1).f1).length c349_1) ∧ w'.cell? ⟨(ad349.add ((x5_1).toNat * 3)).block, (ad349.add ((x5_1).toNat * 3)).off + 2, none⟩ = some (.slice A349_2 ((rd_T99 l0 x5_1).f2).length c349_2) ∧ w'.cell? (ad350.add ((x5_1).toNat * 3)) = some (.int .i64 ((rd_T99 l1 x5_1).f0)) ∧ w'.cell? ⟨(ad350.add ((x5_1).toNat * 3)).block, (ad350.add ((x5_1).toNat * 3)).off + 1, none⟩ = some (.slice A350_1 ((rd_T99 l1 x5_1).f1).length c350_1) ∧ w'.cell? ⟨(ad350.add ((x5_1).toNat * 3)).block, (ad350.add ((x5_1).toNat * 3)).off + 2, none⟩ = some (.slice A350_2 ((rd_T99 l1 x5_1).f2).length c350_2)) (ds := []) #[false, false, false, false, false, false, false, false, false, false] (by kernel_rfl) rfl rfl ⟨(mv_ HB hw349_0 :), (mv_ HB hw349_1 :), (mv_ HB hw349_2 :), (mv_ HB hw350_0 :), (mv_ HB hw350_1 :), (mv_ HB hw350_2 :)⟩ (fun hHeld => ?_); refine with_tabW laws_eqNodeS.tab6 laws_eqNodeS.bits6 (fun HT_ HW_ => ?_)
        generalize wr.drew = w9 at HB HR349_1 HR349_2 HR350_1 HR350_2 hx349_0 hx349_1 hx349_2 hx350_0 hx350_1 hx350_2 hHeld ⊢
        refine puA 0 (some 17) ?_
        refine puA 1 (some 18) ?_
        refine puA 2 (some 19) ?_
        refine puA 4 (some 21) ?_
        refine puA 5 (some 22) ?_
        refine puA 6 (some 23) ?_
        refine taA 3 (some 20) ?_
        refine taA 7 (some 24) ?_
        refine one_ (i := 8) (N := some 25) #[true, true, true, true, true, true, true, true, true, false] rfl rfl (one_of HT_.out (by kernel_rfl)) (by decide) (fun K hK => ?_)
        refine goes_ Try.func158 (by kernel_rfl) rfl #[.agg #[.int .i64 ((rd_T99 l0 x5_1).f0), .slice A349_1 ((rd_T99 l0 x5_1).f1).length c349_1, .slice A349_2 ((rd_T99 l0 x5_1).f2).length c349_2], .agg #[.int .i64 ((rd_T99 l1 x5_1).f0), .slice A350_1 ((rd_T99 l1 x5_1).f1).length c350_1, .slice A350_2 ((rd_T99 l1 x5_1).f2).length c350_2]] (by rfl) rfl rfl ar_ ?_
        with_reducible refine (laws_eqNode.calls k1 ((rd_T99 l0 x5_1).f0) _ _ ((rd_T99 l0 x5_1).f1) _ _ ((rd_T99 l0 x5_1).f2) ((rd_T99 l1 x5_1).f0) _ _ ((rd_T99 l1 x5_1).f1) _ _ ((rd_T99 l1 x5_1).f2) true _ ?side1 ?side2 ?side3 ?side4 ?side5 ?side6 ?side7 ?side8 A7.out).mono ?_
        (case side1 => exact rdb_ HR349_1)
        (case side2 => exact HC349_1.out)
        (case side3 => exact rdb_ HR349_2)
        (case side4 => exact HC349_2.out)
        (case side5 => exact rdb_ HR350_1)
        (case side6 => exact HC350_1.out)
        (case side7 => exact rdb_ HR350_2)
        (case side8 => exact HC350_2.out)
        rintro e w10 ⟨rfl, hb⟩
        refine ⟨_, rfl, ?_⟩
        replace HB := bs_ hb
        (try clear hb)
        (try clear hb2)
        (try clear hk)
        (try clear hi)
        refine hK.out _ _ ⟨(mv_ HB hw349_0 :), (mv_ HB hw349_1 :), (mv_ HB hw349_2 :), (mv_ HB hw350_0 :), (mv_ HB hw350_1 :), (mv_ HB hw350_2 :)⟩ (fun hHeld => ?_)
        clear hK K
        refine norm_ (a' := ?_) ?_ ?_
        rotate_left
        · show Act.put _ (some 25) _ = _
          simp only [Act.put, List.setIfInBounds_toArray, List.set_cons_zero, List.set_cons_succ, i64_w, i32_w]
          rfl
        refine puA 9 (some 26) ?_
        refine done_ (done_of HT_.out (by kernel_rfl)) ?_
        try go_wp2
        go_roundg k1
        case measure => have := HK1.out; omega
        case rel => exact ⟨(wrap64 (x5_1 + 1)), sm_, H', ⟨by have := HK1.out; omega⟩, ⟨bel_⟩⟩
      replace c8 := Bool.eq_false_iff.mpr c8
      subst c8
      have H1 : (some false) = some r := by rw [if_neg (show ¬ (false = true) by decide)] at H; exact H
      clear H
      have H := H1
      clear H1
      obtain rfl := Option.some.inj H
      try go_wp2
      replace HB := Aside0.mk (below_drew1 HB.out)
      have p349 : 0 ≤ (x5_1 : Int) := od_
      have q349 : x5_1 < (l0.length : Int) := od_
      obtain ⟨ad349, A349_1, c349_1, A349_2, c349_2, e349, hx349_0, hx349_1, hx349_2, hl349_1, hi349_1, hl349_2, hi349_2⟩ := at_T99 HR0.out x5_1 p349 q349
      have hw349_2 := hx349_2
      have hw349_1 := hx349_1
      have hw349_0 := hx349_0
      cases e349
      replace hx349_0 := mv_ HB hx349_0
      replace hx349_1 := mv_ HB hx349_1
      replace hx349_2 := mv_ HB hx349_2
      have HR349_1 := Aside0.mk hi349_1
      have HC349_1 := Aside0.mk hl349_1
      clear hi349_1 hl349_1
      have HR349_2 := Aside0.mk hi349_2
      have HC349_2 := Aside0.mk hl349_2
      clear hi349_2 hl349_2
      replace p349 := eq_true p349
      replace q349 := eq_true q349
      have p350 : 0 ≤ (x5_1 : Int) := od_
      have q350 : x5_1 < (l1.length : Int) := od_
      obtain ⟨ad350, A350_1, c350_1, A350_2, c350_2, e350, hx350_0, hx350_1, hx350_2, hl350_1, hi350_1, hl350_2, hi350_2⟩ := at_T99 HR1.out x5_1 p350 q350
      have hw350_2 := hx350_2
      have hw350_1 := hx350_1
      have hw350_0 := hx350_0
      cases e350
      replace hx350_0 := mv_ HB hx350_0
      replace hx350_1 := mv_ HB hx350_1
      replace hx350_2 := mv_ HB hx350_2
      have HR350_1 := Aside0.mk hi350_1
      have HC350_1 := Aside0.mk hl350_1
      clear hi350_1 hl350_1
      have HR350_2 := Aside0.mk hi350_2
      have HC350_2 := Aside0.mk hl350_2
      clear hi350_2 hl350_2
      replace p350 := eq_true p350
      replace q350 := eq_true q350
      refine start_ (n := 10) (S := fun w' => w'.cell? (ad349.add ((x5_1).toNat * 3)) = some (.int .i64 ((rd_T99 l0 x5_1).f0)) ∧ w'.cell? ⟨(ad349.add ((x5_1).toNat * 3)).block, (ad349.add ((x5_1).toNat * 3)).off + 1, none⟩ = some (.slice A349_1 ((rd_T99 l0 x5_1).f1).length c349_1) ∧ w'.cell? ⟨(ad349.add ((x5_1).toNat * 3)).block, (ad349.add ((x5_1).toNat * 3)).off + 2, none⟩ = some (.slice A349_2 ((rd_T99 l0 x5_1).f2).length c349_2) ∧ w'.cell? (ad350.add ((x5_1).toNat * 3)) = some (.int .i64 ((rd_T99 l1 x5_1).f0)) ∧ w'.cell? ⟨(ad350.add ((x5_1).toNat * 3)).block, (ad350.add ((x5_1).toNat * 3)).off + 1, none⟩ = some (.slice A350_1 ((rd_T99 l1 x5_1).f1).length c350_1) ∧ w'.cell? ⟨(ad350.add ((x5_1).toNat * 3)).block, (ad350.add ((x5_1).toNat * 3)).off + 2, none⟩ = some (.slice A350_2 ((rd_T99 l1 x5_1).f2).length c350_2)) (ds := []) #[false, false, false, false, false, false, false, false, false, false] (by kernel_rfl) rfl rfl ⟨(mv_ HB hw349_0 :), (mv_ HB hw349_1 :), (mv_ HB hw349_2 :), (mv_ HB hw350_0 :), (mv_ HB hw350_1 :), (mv_ HB hw350_2 :)⟩ (fun hHeld => ?_); refine with_tabW laws_eqNodeS.tab6 laws_eqNodeS.bits6 (fun HT_ HW_ => ?_)
      generalize wr.drew = w11 at HB HR349_1 HR349_2 HR350_1 HR350_2 hx349_0 hx349_1 hx349_2 hx350_0 hx350_1 hx350_2 hHeld ⊢
      refine puA 0 (some 17) ?_
      refine puA 1 (some 18) ?_
      refine puA 2 (some 19) ?_
      refine puA 4 (some 21) ?_
      refine puA 5 (some 22) ?_
      refine puA 6 (some 23) ?_
      refine taA 3 (some 20) ?_
      refine taA 7 (some 24) ?_
      refine one_ (i := 8) (N := some 25) #[true, true, true, true, true, true, true, true, true, false] rfl rfl (one_of HT_.out (by kernel_rfl)) (by decide) (fun K hK => ?_)
      refine goes_ Try.func158 (by kernel_rfl) rfl #[.agg #[.int .i64 ((rd_T99 l0 x5_1).f0), .slice A349_1 ((rd_T99 l0 x5_1).f1).length c349_1, .slice A349_2 ((rd_T99 l0 x5_1).f2).length c349_2], .agg #[.int .i64 ((rd_T99 l1 x5_1).f0), .slice A350_1 ((rd_T99 l1 x5_1).f1).length c350_1, .slice A350_2 ((rd_T99 l1 x5_1).f2).length c350_2]] (by rfl) rfl rfl ar_ ?_
      with_reducible refine (laws_eqNode.calls k1 ((rd_T99 l0 x5_1).f0) _ _ ((rd_T99 l0 x5_1).f1) _ _ ((rd_T99 l0 x5_1).f2) ((rd_T99 l1 x5_1).f0) _ _ ((rd_T99 l1 x5_1).f1) _ _ ((rd_T99 l1 x5_1).f2) false _ ?side1 ?side2 ?side3 ?side4 ?side5 ?side6 ?side7 ?side8 A7.out).mono ?_
      (case side1 => exact rdb_ HR349_1)
      (case side2 => exact HC349_1.out)
      (case side3 => exact rdb_ HR349_2)
      (case side4 => exact HC349_2.out)
      (case side5 => exact rdb_ HR350_1)
      (case side6 => exact HC350_1.out)
      (case side7 => exact rdb_ HR350_2)
      (case side8 => exact HC350_2.out)
      rintro e w12 ⟨rfl, hb⟩
      refine ⟨_, rfl, ?_⟩
      replace HB := bs_ hb
      (try clear hb)
      (try clear hb2)
      (try clear hk)
      (try clear hi)
      refine hK.out _ _ ⟨(mv_ HB hw349_0 :), (mv_ HB hw349_1 :), (mv_ HB hw349_2 :), (mv_ HB hw350_0 :), (mv_ HB hw350_1 :), (mv_ HB hw350_2 :)⟩ (fun hHeld => ?_)
      clear hK K
      refine norm_ (a' := ?_) ?_ ?_
      rotate_left
      · show Act.put _ (some 25) _ = _
        simp only [Act.put, List.setIfInBounds_toArray, List.set_cons_zero, List.set_cons_succ, i64_w, i32_w]
        rfl
      refine puA 9 (some 26) ?_
      refine done_ (done_of HT_.out (by kernel_rfl)) ?_
      try go_wp2
      go_ret
      exact re_

end Go.Proofs.Ytcchmhmbjhgfdaa.G
