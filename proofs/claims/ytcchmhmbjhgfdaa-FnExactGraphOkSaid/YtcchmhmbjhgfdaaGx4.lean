-- Printed by a program of this claim's writer (wip/gen), out of the translation. Lean checks it.
import Derived.Test.YtcchmhmbjhgfdaaGx0
import Derived.Test.YtcchmhmbjhgfdaaGx3
namespace Go.Proofs.Ytcchmhmbjhgfdaa.G
open Go.RowKit Go.Proofs.YtcchmhmbjhgfdaaW.PrintWords Go.Proofs.YtcchmhmbjhgfdaaW.PrintLast Go.Proofs.YtcchmhmbjhgfdaaW.PrintMore
attribute [local go_sem] max2_int min2_int max_two min_two max_three min_three max_four min_four Own.str_gtr Own.str_leq Own.str_geq Own.sto_fn   -- for this text's walks alone
open Own
set_option linter.unusedVariables false
set_option linter.unusedSimpArgs false

/-! ### spec_l2Labels: function 70 -/
def spec_l2Labels.l0 : Nat → List ByteArray → Int → Option (Bool)
  | 0, _, _ => none
  | k + 1, x0, x3 => if x3 < (x0.length : Int) then (if 0 ≤ x3 then ((spec_l2Name.f k (rdOf ByteArray.empty x0 x3)).bind fun t130 => (if t130 = true then (if x3 > 0 then (if 0 ≤ (wrap64 (x3 - 1)) then (if (wrap64 (x3 - 1)) < (x0.length : Int) then (if ((Op.bytesLess ((rdOf ByteArray.empty x0 (wrap64 (x3 - 1))).toList) ((rdOf ByteArray.empty x0 x3).toList)) = true) then (spec_l2Labels.l0 k x0 (wrap64 (x3 + 1))) else (some false)) else (none)) else (none)) else (spec_l2Labels.l0 k x0 (wrap64 (x3 + 1)))) else (some false))) else (none)) else (some (decide ((x0.length : Int) ≤ 3)))
def spec_l2Labels.f (k : Nat) (l0 : List ByteArray) : Option (Bool) := spec_l2Labels.l0 k l0 0
def spec_l2Labels.T4 : Bool × List (List Nat × List Nat) := (true, [([], []), ([], []), ([0, 1], [0, 1]), ([2], [2]), ([3], [3]), ([4], [4]), ([5, 4], [5]), ([6], [6]), ([7, 6], [6, 7]), ([8, 6, 6], [6, 8]), ([9], [9]), ([9], [9]), ([11, 9], [9, 11]), ([10, 12, 9], [9, 10, 12]), ([13, 9], [9, 13]), ([9], [9]), ([9], [9]), ([15, 16, 9], [9, 15, 16]), ([17, 9], [9, 17]), ([14, 18, 9], [9, 14, 18]), ([9, 19, 6], [6, 9, 19]), ([6, 20], [6, 20])])
def spec_l2Labels.B4 : List Nat := [0, 0, 3, 7, 15, 31, 63, 127, 255, 511, 1023, 1023, 3071, 8191, 16383, 1023, 1023, 99327, 230399, 524287, 1048575, 2097151]
theorem spec_l2Labels.tab4 : rtab .any (opsOf Try.f70 4) = spec_l2Labels.T4 := by kernel_rfl
theorem spec_l2Labels.bits4 : waitsOk spec_l2Labels.T4.2 spec_l2Labels.B4 = true := by kernel_rfl
set_option maxHeartbeats 8000000 in
set_option maxRecDepth 100000 in
theorem spec_l2Labels.calls (k : Nat) (A0 : Option Addr) (c0 : Nat) (l0 : List ByteArray) (r : Bool) (w : World) (hr0 : Kd.C Kd.string w A0 l0.length l0) (hc0 : l0.length ≤ c0) (h : spec_l2Labels.f k l0 = some r) :
    Calls Try.prog 70 #[.slice A0 l0.length c0] w fun e w' => e = .returned (.bool r) ∧ Below w.heap.size w w' := by
  have HR0 := Aside0.mk hr0
  have HC0 := Aside0.mk hc0
  clear hr0 hc0
  have HB := Aside0.mk (Below.refl w.heap.size w)
  have H : (spec_l2Labels.l0 k l0 0) = some r := h
  clear h
  have H' := Aside0.mk H
  clear H
  go_enter Try.func70, Try.ntmps70
  go_wp2
  go_loopg [3] k (fun kq v3 w' => ∃ (x3_1 : Int), v3 = .int .i64 x3_1 ∧ Aside0 (spec_l2Labels.l0 kq l0 x3_1 = some r) ∧ Aside0 (kq ≤ k) ∧ Aside0 (Below w.heap.size w w'))
  case atStart => exact ⟨(0), sm_, H', ⟨Nat.le_refl _⟩, ⟨bel_⟩⟩
  case round =>
    clear H'
    obtain ⟨x3_1, rfl, HA, HK1, HB⟩ := hrel
    cases gk with
    | zero => exact absurd HA.out (by simp [spec_l2Labels.l0])
    | succ k1 =>
      have H := HA.out
      clear HA
      simp only [spec_l2Labels.l0] at H
      by_cases c2 : x3_1 < (l0.length : Int)
      rotate_left
      · rw [if_neg c2] at H
        have c2b0 : decide (x3_1 < (l0.length : Int)) = false := decide_eq_false c2
        clear c2
        obtain rfl := Option.some.inj H
        go_wp2
        go_ret
        exact re_
      rw [if_pos c2] at H
      have c2b0 : decide (x3_1 < (l0.length : Int)) = true := decide_eq_true c2
      clear c2
      by_cases c3 : 0 ≤ x3_1
      rotate_left
      · rw [if_neg c3] at H
        exact absurd H (by simp)
      rw [if_pos c3] at H
      have c3b0 : decide (0 ≤ x3_1) = true := decide_eq_true c3
      clear c3
      replace H := Option.bind_eq_some_iff.mp H
      obtain ⟨t130, A40, H⟩ := H
      replace H : (if t130 = true then (if x3_1 > 0 then (if 0 ≤ (wrap64 (x3_1 - 1)) then (if (wrap64 (x3_1 - 1)) < (l0.length : Int) then (if ((Op.bytesLess ((rdOf ByteArray.empty l0 (wrap64 (x3_1 - 1))).toList) ((rdOf ByteArray.empty l0 x3_1).toList)) = true) then (spec_l2Labels.l0 k1 l0 (wrap64 (x3_1 + 1))) else (some false)) else (none)) else (none)) else (spec_l2Labels.l0 k1 l0 (wrap64 (x3_1 + 1)))) else (some false)) = some r := H
      have A4 := Aside0.mk A40
      clear A40
      by_cases c5 : t130 = true
      rotate_left
      · replace c5 := Bool.eq_false_iff.mpr c5
        subst c5
        have H1 : (some false) = some r := by rw [if_neg (show ¬ (false = true) by decide)] at H; exact H
        clear H
        have H := H1
        clear H1
        obtain rfl := Option.some.inj H
        try go_wp2
        replace HB := Aside0.mk (below_drew1 HB.out)
        have p129 : 0 ≤ (x3_1 : Int) := od_
        have q129 : x3_1 < (l0.length : Int) := od_
        obtain ⟨ad129, e129, hx129_0⟩ := Kd.at_string HR0.out x3_1 p129 q129
        have hw129_0 := hx129_0
        cases e129
        replace hx129_0 := mv_ HB hx129_0
        replace p129 := eq_true p129
        replace q129 := eq_true q129
        refine start_ (n := 22) (S := fun w' => w'.cell? (ad129.add (x3_1).toNat) = some (.string (rdOf ByteArray.empty l0 x3_1))) (ds := []) #[false, false, false, false, false, false, false, false, false, false, false, false, false, false, false, false, false, false, false, false, false, false] (by kernel_rfl) rfl rfl ((mv_ HB hw129_0 :)) (fun hHeld => ?_); refine with_tabW spec_l2Labels.tab4 spec_l2Labels.bits4 (fun HT_ HW_ => ?_)
        generalize wr.drew = w17 at HB hx129_0 hHeld ⊢
        refine puA 0 (some 10) ?_
        refine puA 1 (some 11) ?_
        refine puA 2 (some 12) ?_
        refine take_ (i := 3) (N := some 13) (v := ?_) (a' := ?_) #[true, true, true, true, false, false, false, false, false, false, false, false, false, false, false, false, false, false, false, false, false, false] rfl rfl (take_ofW HT_.out HW_.out (by kernel_rfl)) (fun _ _ _ h => h) (Or.inl ⟨by rfl, ?_⟩) hHeld ?_ ?_
        rotate_left
        · intro w' s0
          go_simp
          with_reducible rfl
        rotate_left
        · simp only [Act.put, List.setIfInBounds_toArray, List.set_cons_zero, List.set_cons_succ, i64_w, i32_w]
          rfl
        refine one_ (i := 4) (N := some 14) #[true, true, true, true, true, false, false, false, false, false, false, false, false, false, false, false, false, false, false, false, false, false] rfl rfl (one_of HT_.out (by kernel_rfl)) (by decide) (fun K hK => ?_)
        refine goes_ Try.func72 (by kernel_rfl) rfl #[.string (rdOf ByteArray.empty l0 x3_1)] (by rfl) rfl rfl ar_ ?_
        with_reducible refine (spec_l2Name.calls k1 (rdOf ByteArray.empty l0 x3_1) false _ A4.out).mono ?_
        rintro e w18 ⟨rfl, hb⟩
        refine ⟨_, rfl, ?_⟩
        replace HB := bs_ hb
        (try clear hb)
        (try clear hb2)
        (try clear hk)
        (try clear hi)
        refine hK.out _ _ ((mv_ HB hw129_0 :)) (fun hHeld => ?_)
        clear hK K
        refine norm_ (a' := ?_) ?_ ?_
        rotate_left
        · show Act.put _ (some 14) _ = _
          simp only [Act.put, List.setIfInBounds_toArray, List.set_cons_zero, List.set_cons_succ, i64_w, i32_w]
          rfl
        refine puA 5 (some 15) ?_
        refine puA 6 (some 16) ?_
        refine puX 7 (some 17) ?_
        refine puX 8 (some 18) ?_
        refine puX 9 (some 19) ?_
        refine puX 10 (some 20) ?_
        refine puX 11 (some 21) ?_
        refine puX 12 (some 22) ?_
        refine puX 13 (some 23) ?_
        refine puX 14 (some 24) ?_
        refine puX 15 (some 25) ?_
        refine puX 16 (some 26) ?_
        refine puX 17 (some 27) ?_
        refine puX 18 (some 28) ?_
        refine puX 19 (some 29) ?_
        refine puX 20 (some 30) ?_
        refine puA 21 (some 31) ?_
        refine done_ (done_of HT_.out (by kernel_rfl)) ?_
        try go_wp2
        go_ret
        exact re_
      subst c5
      have H1 : (if x3_1 > 0 then (if 0 ≤ (wrap64 (x3_1 - 1)) then (if (wrap64 (x3_1 - 1)) < (l0.length : Int) then (if ((Op.bytesLess ((rdOf ByteArray.empty l0 (wrap64 (x3_1 - 1))).toList) ((rdOf ByteArray.empty l0 x3_1).toList)) = true) then (spec_l2Labels.l0 k1 l0 (wrap64 (x3_1 + 1))) else (some false)) else (none)) else (none)) else (spec_l2Labels.l0 k1 l0 (wrap64 (x3_1 + 1)))) = some r := by rw [if_pos rfl] at H; exact H
      clear H
      have H := H1
      clear H1
      by_cases c6 : x3_1 > 0
      rotate_left
      · rw [if_neg c6] at H
        have c6b0 : decide (0 < x3_1) = false := decide_eq_false c6
        clear c6
        have H' := Aside0.mk H
        clear H
        try go_wp2
        replace HB := Aside0.mk (below_drew1 HB.out)
        have p129 : 0 ≤ (x3_1 : Int) := od_
        have q129 : x3_1 < (l0.length : Int) := od_
        obtain ⟨ad129, e129, hx129_0⟩ := Kd.at_string HR0.out x3_1 p129 q129
        have hw129_0 := hx129_0
        cases e129
        replace hx129_0 := mv_ HB hx129_0
        replace p129 := eq_true p129
        replace q129 := eq_true q129
        refine start_ (n := 22) (S := fun w' => w'.cell? (ad129.add (x3_1).toNat) = some (.string (rdOf ByteArray.empty l0 x3_1))) (ds := []) #[false, false, false, false, false, false, false, false, false, false, false, false, false, false, false, false, false, false, false, false, false, false] (by kernel_rfl) rfl rfl ((mv_ HB hw129_0 :)) (fun hHeld => ?_); refine with_tabW spec_l2Labels.tab4 spec_l2Labels.bits4 (fun HT_ HW_ => ?_)
        generalize wr.drew = w15 at HB hx129_0 hHeld ⊢
        refine puA 0 (some 10) ?_
        refine puA 1 (some 11) ?_
        refine puA 2 (some 12) ?_
        refine take_ (i := 3) (N := some 13) (v := ?_) (a' := ?_) #[true, true, true, true, false, false, false, false, false, false, false, false, false, false, false, false, false, false, false, false, false, false] rfl rfl (take_ofW HT_.out HW_.out (by kernel_rfl)) (fun _ _ _ h => h) (Or.inl ⟨by rfl, ?_⟩) hHeld ?_ ?_
        rotate_left
        · intro w' s0
          go_simp
          with_reducible rfl
        rotate_left
        · simp only [Act.put, List.setIfInBounds_toArray, List.set_cons_zero, List.set_cons_succ, i64_w, i32_w]
          rfl
        refine one_ (i := 4) (N := some 14) #[true, true, true, true, true, false, false, false, false, false, false, false, false, false, false, false, false, false, false, false, false, false] rfl rfl (one_of HT_.out (by kernel_rfl)) (by decide) (fun K hK => ?_)
        refine goes_ Try.func72 (by kernel_rfl) rfl #[.string (rdOf ByteArray.empty l0 x3_1)] (by rfl) rfl rfl ar_ ?_
        with_reducible refine (spec_l2Name.calls k1 (rdOf ByteArray.empty l0 x3_1) true _ A4.out).mono ?_
        rintro e w16 ⟨rfl, hb⟩
        refine ⟨_, rfl, ?_⟩
        replace HB := bs_ hb
        (try clear hb)
        (try clear hb2)
        (try clear hk)
        (try clear hi)
        refine hK.out _ _ ((mv_ HB hw129_0 :)) (fun hHeld => ?_)
        clear hK K
        refine norm_ (a' := ?_) ?_ ?_
        rotate_left
        · show Act.put _ (some 14) _ = _
          simp only [Act.put, List.setIfInBounds_toArray, List.set_cons_zero, List.set_cons_succ, i64_w, i32_w]
          rfl
        refine puA 5 (some 15) ?_
        refine puA 6 (some 16) ?_
        refine puA 7 (some 17) ?_
        refine puA 8 (some 18) ?_
        refine puA 9 (some 19) ?_
        refine puX 10 (some 20) ?_
        refine puX 11 (some 21) ?_
        refine puX 12 (some 22) ?_
        refine puX 13 (some 23) ?_
        refine puX 14 (some 24) ?_
        refine puX 15 (some 25) ?_
        refine puX 16 (some 26) ?_
        refine puX 17 (some 27) ?_
        refine puX 18 (some 28) ?_
        refine puX 19 (some 29) ?_
        refine puA 20 (some 30) ?_
        refine puA 21 (some 31) ?_
        refine done_ (done_of HT_.out (by kernel_rfl)) ?_
        try go_wp2
        go_roundg k1
        case measure => have := HK1.out; omega
        case rel => exact ⟨(wrap64 (x3_1 + 1)), sm_, H', ⟨by have := HK1.out; omega⟩, ⟨bel_⟩⟩
      rw [if_pos c6] at H
      have c6b0 : decide (0 < x3_1) = true := decide_eq_true c6
      clear c6
      obtain ⟨ji7, hji7⟩ : ∃ j_ : Int, (wrap64 (x3_1 - 1)) = j_ := ⟨_, rfl⟩
      replace H : (if 0 ≤ (ji7) then (if (ji7) < (l0.length : Int) then (if ((Op.bytesLess ((rdOf ByteArray.empty l0 (ji7)).toList) ((rdOf ByteArray.empty l0 x3_1).toList)) = true) then (spec_l2Labels.l0 k1 l0 (wrap64 (x3_1 + 1))) else (some false)) else (none)) else (none)) = some r := by first | (rw [hji7] at H; exact H) | (simp only [hji7] at H ⊢; exact H)
      (try rw [hji7] at A4)
      have hji7w : (IntKind.i64.wrap (x3_1 - 1)) = ji7 := (i64_w _).trans hji7
      by_cases c8 : 0 ≤ (ji7)
      rotate_left
      · rw [if_neg c8] at H
        exact absurd H (by simp)
      rw [if_pos c8] at H
      have c8b0 : decide (0 ≤ (ji7)) = true := decide_eq_true c8
      clear c8
      by_cases c9 : (ji7) < (l0.length : Int)
      rotate_left
      · rw [if_neg c9] at H
        exact absurd H (by simp)
      rw [if_pos c9] at H
      have c9b0 : decide ((ji7) < (l0.length : Int)) = true := decide_eq_true c9
      clear c9
      by_cases c10 : ((Op.bytesLess ((rdOf ByteArray.empty l0 (ji7)).toList) ((rdOf ByteArray.empty l0 x3_1).toList)) = true)
      · rw [if_pos c10] at H
        have c10b0 : (Op.bytesLess ((rdOf ByteArray.empty l0 (ji7)).toList) ((rdOf ByteArray.empty l0 x3_1).toList)) = true := c10
        clear c10
        have H' := Aside0.mk H
        clear H
        try go_wp2
        replace HB := Aside0.mk (below_drew1 HB.out)
        have p129 : 0 ≤ (x3_1 : Int) := od_
        have q129 : x3_1 < (l0.length : Int) := od_
        obtain ⟨ad129, e129, hx129_0⟩ := Kd.at_string HR0.out x3_1 p129 q129
        have hw129_0 := hx129_0
        cases e129
        replace hx129_0 := mv_ HB hx129_0
        replace p129 := eq_true p129
        replace q129 := eq_true q129
        have p131 : 0 ≤ ((ji7) : Int) := od_
        have q131 : (ji7) < (l0.length : Int) := od_
        obtain ⟨ad131, e131, hx131_0⟩ := Kd.at_string HR0.out (ji7) p131 q131
        have hw131_0 := hx131_0
        obtain rfl : ad129 = ad131 := (by injection e131)
        replace hx131_0 := mv_ HB hx131_0
        replace p131 := eq_true p131
        replace q131 := eq_true q131
        have p132 : 0 ≤ (x3_1 : Int) := od_
        have q132 : x3_1 < (l0.length : Int) := od_
        obtain ⟨ad132, e132, hx132_0⟩ := Kd.at_string HR0.out x3_1 p132 q132
        have hw132_0 := hx132_0
        obtain rfl : ad129 = ad132 := (by injection e132)
        replace hx132_0 := mv_ HB hx132_0
        replace p132 := eq_true p132
        replace q132 := eq_true q132
        refine start_ (n := 22) (S := fun w' => w'.cell? (ad129.add (x3_1).toNat) = some (.string (rdOf ByteArray.empty l0 x3_1)) ∧ w'.cell? (ad129.add ((ji7)).toNat) = some (.string (rdOf ByteArray.empty l0 (ji7))) ∧ w'.cell? (ad129.add (x3_1).toNat) = some (.string (rdOf ByteArray.empty l0 x3_1))) (ds := []) #[false, false, false, false, false, false, false, false, false, false, false, false, false, false, false, false, false, false, false, false, false, false] (by kernel_rfl) rfl rfl ⟨(mv_ HB hw129_0 :), (mv_ HB hw131_0 :), (mv_ HB hw132_0 :)⟩ (fun hHeld => ?_); refine with_tabW spec_l2Labels.tab4 spec_l2Labels.bits4 (fun HT_ HW_ => ?_)
        generalize wr.drew = w11 at HB hx129_0 hx131_0 hx132_0 hHeld ⊢
        refine puA 0 (some 10) ?_
        refine puA 1 (some 11) ?_
        refine puA 2 (some 12) ?_
        refine taA 3 (some 13) ?_
        refine one_ (i := 4) (N := some 14) #[true, true, true, true, true, false, false, false, false, false, false, false, false, false, false, false, false, false, false, false, false, false] rfl rfl (one_of HT_.out (by kernel_rfl)) (by decide) (fun K hK => ?_)
        refine goes_ Try.func72 (by kernel_rfl) rfl #[.string (rdOf ByteArray.empty l0 x3_1)] (by rfl) rfl rfl ar_ ?_
        with_reducible refine (spec_l2Name.calls k1 (rdOf ByteArray.empty l0 x3_1) true _ A4.out).mono ?_
        rintro e w12 ⟨rfl, hb⟩
        refine ⟨_, rfl, ?_⟩
        replace HB := bs_ hb
        (try clear hb)
        (try clear hb2)
        (try clear hk)
        (try clear hi)
        refine hK.out _ _ ⟨(mv_ HB hw129_0 :), (mv_ HB hw131_0 :), (mv_ HB hw132_0 :)⟩ (fun hHeld => ?_)
        clear hK K
        refine norm_ (a' := ?_) ?_ ?_
        rotate_left
        · show Act.put _ (some 14) _ = _
          simp only [Act.put, List.setIfInBounds_toArray, List.set_cons_zero, List.set_cons_succ, i64_w, i32_w]
          rfl
        refine puA 5 (some 15) ?_
        refine puA 6 (some 16) ?_
        refine puA 7 (some 17) ?_
        refine puA 8 (some 18) ?_
        refine puA 9 (some 19) ?_
        refine puA 10 (some 20) ?_
        refine puA 11 (some 21) ?_
        refine puA 12 (some 22) ?_
        refine puA 13 (some 23) ?_
        refine puA 15 (some 25) ?_
        refine puA 16 (some 26) ?_
        refine puA 17 (some 27) ?_
        refine taA 14 (some 24) ?_
        refine taA 18 (some 28) ?_
        refine puA 19 (some 29) ?_
        refine puA 20 (some 30) ?_
        refine puA 21 (some 31) ?_
        refine done_ (done_of HT_.out (by kernel_rfl)) ?_
        try go_wp2
        go_roundg k1
        case measure => have := HK1.out; omega
        case rel => exact ⟨(wrap64 (x3_1 + 1)), sm_, H', ⟨by have := HK1.out; omega⟩, ⟨bel_⟩⟩
      rw [if_neg c10] at H
      have c10b0 : (Op.bytesLess ((rdOf ByteArray.empty l0 (ji7)).toList) ((rdOf ByteArray.empty l0 x3_1).toList)) = false := by simpa using c10
      clear c10
      obtain rfl := Option.some.inj H
      try go_wp2
      replace HB := Aside0.mk (below_drew1 HB.out)
      have p129 : 0 ≤ (x3_1 : Int) := od_
      have q129 : x3_1 < (l0.length : Int) := od_
      obtain ⟨ad129, e129, hx129_0⟩ := Kd.at_string HR0.out x3_1 p129 q129
      have hw129_0 := hx129_0
      cases e129
      replace hx129_0 := mv_ HB hx129_0
      replace p129 := eq_true p129
      replace q129 := eq_true q129
      have p131 : 0 ≤ ((ji7) : Int) := od_
      have q131 : (ji7) < (l0.length : Int) := od_
      obtain ⟨ad131, e131, hx131_0⟩ := Kd.at_string HR0.out (ji7) p131 q131
      have hw131_0 := hx131_0
      obtain rfl : ad129 = ad131 := (by injection e131)
      replace hx131_0 := mv_ HB hx131_0
      replace p131 := eq_true p131
      replace q131 := eq_true q131
      have p132 : 0 ≤ (x3_1 : Int) := od_
      have q132 : x3_1 < (l0.length : Int) := od_
      obtain ⟨ad132, e132, hx132_0⟩ := Kd.at_string HR0.out x3_1 p132 q132
      have hw132_0 := hx132_0
      obtain rfl : ad129 = ad132 := (by injection e132)
      replace hx132_0 := mv_ HB hx132_0
      replace p132 := eq_true p132
      replace q132 := eq_true q132
      refine start_ (n := 22) (S := fun w' => w'.cell? (ad129.add (x3_1).toNat) = some (.string (rdOf ByteArray.empty l0 x3_1)) ∧ w'.cell? (ad129.add ((ji7)).toNat) = some (.string (rdOf ByteArray.empty l0 (ji7))) ∧ w'.cell? (ad129.add (x3_1).toNat) = some (.string (rdOf ByteArray.empty l0 x3_1))) (ds := []) #[false, false, false, false, false, false, false, false, false, false, false, false, false, false, false, false, false, false, false, false, false, false] (by kernel_rfl) rfl rfl ⟨(mv_ HB hw129_0 :), (mv_ HB hw131_0 :), (mv_ HB hw132_0 :)⟩ (fun hHeld => ?_); refine with_tabW spec_l2Labels.tab4 spec_l2Labels.bits4 (fun HT_ HW_ => ?_)
      generalize wr.drew = w13 at HB hx129_0 hx131_0 hx132_0 hHeld ⊢
      refine puA 0 (some 10) ?_
      refine puA 1 (some 11) ?_
      refine puA 2 (some 12) ?_
      refine taA 3 (some 13) ?_
      refine one_ (i := 4) (N := some 14) #[true, true, true, true, true, false, false, false, false, false, false, false, false, false, false, false, false, false, false, false, false, false] rfl rfl (one_of HT_.out (by kernel_rfl)) (by decide) (fun K hK => ?_)
      refine goes_ Try.func72 (by kernel_rfl) rfl #[.string (rdOf ByteArray.empty l0 x3_1)] (by rfl) rfl rfl ar_ ?_
      with_reducible refine (spec_l2Name.calls k1 (rdOf ByteArray.empty l0 x3_1) true _ A4.out).mono ?_
      rintro e w14 ⟨rfl, hb⟩
      refine ⟨_, rfl, ?_⟩
      replace HB := bs_ hb
      (try clear hb)
      (try clear hb2)
      (try clear hk)
      (try clear hi)
      refine hK.out _ _ ⟨(mv_ HB hw129_0 :), (mv_ HB hw131_0 :), (mv_ HB hw132_0 :)⟩ (fun hHeld => ?_)
      clear hK K
      refine norm_ (a' := ?_) ?_ ?_
      rotate_left
      · show Act.put _ (some 14) _ = _
        simp only [Act.put, List.setIfInBounds_toArray, List.set_cons_zero, List.set_cons_succ, i64_w, i32_w]
        rfl
      refine puA 5 (some 15) ?_
      refine puA 6 (some 16) ?_
      refine puA 7 (some 17) ?_
      refine puA 8 (some 18) ?_
      refine puA 9 (some 19) ?_
      refine puA 10 (some 20) ?_
      refine puA 11 (some 21) ?_
      refine puA 12 (some 22) ?_
      refine puA 13 (some 23) ?_
      refine puA 15 (some 25) ?_
      refine puA 16 (some 26) ?_
      refine puA 17 (some 27) ?_
      refine taA 14 (some 24) ?_
      refine taA 18 (some 28) ?_
      refine puA 19 (some 29) ?_
      refine puA 20 (some 30) ?_
      refine puA 21 (some 31) ?_
      refine done_ (done_of HT_.out (by kernel_rfl)) ?_
      try go_wp2
      go_ret
      exact ⟨by first | rfl | (simp [errW_none, errW_some] <;> rfl) | (simp only [← hji7]; first | rfl | (simp [errW_none, errW_some] <;> rfl)) | (simp [*, errW_none, errW_some] <;> rfl), bel_⟩

end Go.Proofs.Ytcchmhmbjhgfdaa.G
