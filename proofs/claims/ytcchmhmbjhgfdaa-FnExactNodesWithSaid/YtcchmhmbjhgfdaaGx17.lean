-- Printed by a program of this claim's writer (wip/gen), out of the translation. Lean checks it.
import Derived.Test.YtcchmhmbjhgfdaaGx0
import Derived.Test.YtcchmhmbjhgfdaaGx16
namespace Go.Proofs.Ytcchmhmbjhgfdaa.G
open Go.RowKit Go.Proofs.YtcchmhmbjhgfdaaW.PrintWords Go.Proofs.YtcchmhmbjhgfdaaW.PrintLast Go.Proofs.YtcchmhmbjhgfdaaW.PrintMore
attribute [local go_sem] max2_int min2_int max_two min_two max_three min_three max_four min_four Own.str_gtr Own.str_leq Own.str_geq Own.sto_fn   -- for this text's walks alone
open Own
set_option linter.unusedVariables false
set_option linter.unusedSimpArgs false

/-! ### impl_NameOk: function 82 -/
mutual
def impl_NameOk.j0 : Nat → ByteArray → Bool → Option (Bool)
  | 0, _, _ => none
  | k + 1, x0, x16 => if x16 = true then (some false) else (impl_NameOk.l0 k x0 1)
def impl_NameOk.l0 : Nat → ByteArray → Int → Option (Bool)
  | 0, _, _ => none
  | k + 1, x0, x3 => if x3 < (x0.size : Int) then (if 0 ≤ x3 then ((impl_isLetter.f (bt x0 x3)).bind fun t102 => (if t102 = true then (impl_NameOk.l0 k x0 (wrap64 (x3 + 1))) else ((impl_isFigure.f (bt x0 x3)).bind fun t103 => (if t103 = true then (impl_NameOk.l0 k x0 (wrap64 (x3 + 1))) else (some false))))) else (none)) else (if x0.toList = ([77, 65, 84, 67, 72] : List UInt8) then (some false) else (if x0.toList = ([79, 80, 84, 73, 79, 78, 65, 76] : List UInt8) then (some false) else (if x0.toList = ([87, 72, 69, 82, 69] : List UInt8) then (some false) else (if x0.toList = ([85, 78, 87, 73, 78, 68] : List UInt8) then (some false) else (if x0.toList = ([87, 73, 84, 72] : List UInt8) then (some false) else (if x0.toList = ([82, 69, 84, 85, 82, 78] : List UInt8) then (some false) else (if x0.toList = ([67, 82, 69, 65, 84, 69] : List UInt8) then (some false) else (if x0.toList = ([83, 69, 84] : List UInt8) then (some false) else (if x0.toList = ([68, 69, 76, 69, 84, 69] : List UInt8) then (some false) else (if x0.toList = ([68, 69, 84, 65, 67, 72] : List UInt8) then (some false) else (if x0.toList = ([65, 83] : List UInt8) then (some false) else (if x0.toList = ([65, 78, 68] : List UInt8) then (some false) else (if x0.toList = ([79, 82] : List UInt8) then (some false) else (if x0.toList = ([78, 79, 84] : List UInt8) then (some false) else (if x0.toList = ([73, 83] : List UInt8) then (some false) else (if x0.toList = ([78, 85, 76, 76] : List UInt8) then (some false) else (if x0.toList = ([73, 78] : List UInt8) then (some false) else (if x0.toList = ([68, 73, 83, 84, 73, 78, 67, 84] : List UInt8) then (some false) else (if x0.toList = ([79, 82, 68, 69, 82] : List UInt8) then (some false) else (if x0.toList = ([66, 89] : List UInt8) then (some false) else (if x0.toList = ([68, 69, 83, 67] : List UInt8) then (some false) else (if x0.toList = ([83, 75, 73, 80] : List UInt8) then (some false) else (if x0.toList = ([76, 73, 77, 73, 84] : List UInt8) then (some false) else (if x0.toList = ([110, 117, 108, 108] : List UInt8) then (some false) else (if x0.toList = ([116, 114, 117, 101] : List UInt8) then (some false) else (if x0.toList = ([102, 97, 108, 115, 101] : List UInt8) then (some false) else (if x0.toList = ([99, 111, 117, 110, 116] : List UInt8) then (some false) else (if x0.toList = ([115, 117, 109] : List UInt8) then (some false) else (if x0.toList = ([115, 105, 122, 101] : List UInt8) then (some false) else (some true))))))))))))))))))))))))))))))
end
def impl_NameOk.f (k : Nat) (a0 : ByteArray) : Option (Bool) := if a0.toList = ([] : List UInt8) then (impl_NameOk.j0 k a0 true) else (if (a0.size : Int) > 8 then (impl_NameOk.j0 k a0 true) else (if 0 < (a0.size : Int) then ((impl_isLetter.f (bt a0 0)).bind fun t101 => (impl_NameOk.j0 k a0 (!t101))) else (none)))
set_option maxHeartbeats 8000000 in
set_option maxRecDepth 100000 in
theorem impl_NameOk.calls (k : Nat) (a0 : ByteArray) (r : Bool) (w : World) (h : impl_NameOk.f k a0 = some r) :
    Calls Try.prog 82 #[.string a0] w fun e w' => e = .returned (.bool r) ∧ Drawn0 w w' := by
  have H : (if a0.toList = ([] : List UInt8) then (impl_NameOk.j0 k a0 true) else (if (a0.size : Int) > 8 then (impl_NameOk.j0 k a0 true) else (if 0 < (a0.size : Int) then ((impl_isLetter.f (bt a0 0)).bind fun t101 => (impl_NameOk.j0 k a0 (!t101))) else (none)))) = some r := h
  clear h
  have HC2 := Aside0.mk H
  clear H
  go_enter Try.func82, Try.ntmps82
  go_upto_region 1 with (fail)
  go_cut [16] (fun v16 wc => ∃ (kq : Nat) (x16_1 : Bool), v16 = .bool x16_1 ∧ Aside0 (impl_NameOk.j0 kq a0 x16_1 = some r) ∧ Aside0 (kq ≤ k) ∧ Drawn0 w wc)
  case first =>
    have H := HC2.out
    clear HC2
    by_cases c3 : a0.toList = ([] : List UInt8)
    rotate_left
    rw [if_neg c3] at H
    have c3b0 : (a0.toList == ([] : List UInt8)) = false := beq_eq_false_iff_ne.mpr c3
    have c3b1 : (a0.toList != ([] : List UInt8)) = true := bne_iff_ne.mpr c3
    rotate_right
    rw [if_pos c3] at H
    have c3b0 : (a0.toList == ([] : List UInt8)) = true := beq_iff_eq.mpr c3
    have c3b1 : (a0.toList != ([] : List UInt8)) = false := bne_eq_false_iff_eq.mpr c3
    clear c3
    all_goals
      (first | rw [c3b0] | (simp only [i64_w, i32_w]; rw [c3b0]) | skip)
    rotate_left
    · by_cases c4 : (a0.size : Int) > 8
      · rw [if_pos c4] at H
        have c4b0 : decide (8 < (a0.size : Int)) = true := decide_eq_true c4
        have c4b1 : decide (8 < a0.size) = true := decide_eq_true (by omega)
        clear c4
        have H' := Aside0.mk H
        clear H
        go_wp2
        go_meet
        case rel => exact ⟨_, (true), sm_, H', ⟨by first | omega | exact Nat.le_refl _⟩, by repeat (first | exact Drawn0.refl _ | apply Drawn0.step)⟩
      rw [if_neg c4] at H
      have c4b0 : decide (8 < (a0.size : Int)) = false := decide_eq_false c4
      have c4b1 : decide (8 < a0.size) = false := decide_eq_false (by omega)
      clear c4
      by_cases c5 : 0 < (a0.size : Int)
      rotate_left
      · rw [if_neg c5] at H
        exact absurd H (by simp)
      rw [if_pos c5] at H
      have c5b0 : decide (0 < (a0.size : Int)) = true := decide_eq_true c5
      have c5b1 : decide (0 < a0.size) = true := decide_eq_true (by omega)
      clear c5
      replace H := Option.bind_eq_some_iff.mp H
      obtain ⟨t101, A70, H⟩ := H
      replace H : (impl_NameOk.j0 k a0 (!t101)) = some r := H
      have A7 := Aside0.mk A70
      clear A70
      have H' := Aside0.mk H
      clear H
      have p6 : 0 ≤ (0 : Int) := (by omega)
      have q6 : 0 < a0.size := (by have : (0 : Int) < (a0.size : Int) := od_; omega)
      have hx6 : ∀ h : 0 < a0.size, ((a0[0]'h).toNat : Int) = bt a0 0 := bt_at a0 0
      clear p6
      have qi6 : (0 < (a0.size : Int)) = True := eq_true (od_)
      replace q6 := eq_true q6
      go_wp2_with (first | (go_at_call 156; (with_reducible refine (impl_isLetter.calls (bt a0 0) t101 _ A7.out).mono ?_); rintro e w' ⟨rfl, ⟨nd, rfl⟩⟩))
      go_meet
      case rel => exact ⟨_, (!t101), sm_, H', ⟨by first | omega | exact Nat.le_refl _⟩, by repeat (first | exact Drawn0.refl _ | apply Drawn0.step)⟩
    have H' := Aside0.mk H
    clear H
    go_wp2
    go_meet
    case rel => exact ⟨_, (true), sm_, H', ⟨by first | omega | exact Nat.le_refl _⟩, by repeat (first | exact Drawn0.refl _ | apply Drawn0.step)⟩
  case rest =>
    clear HC2
    try clear p2
    try clear c3
    try clear c3b0
    try clear c3b1
    try clear c4
    try clear c4b0
    try clear c4b1
    try clear c5
    try clear c5b0
    try clear c5b1
    try clear p6
    try clear q6
    try clear hx6
    try clear qi6
    try clear p6
    try clear q6
    obtain ⟨kq, x16_1, rfl, HA, HJ1, ⟨mc1, rfl⟩⟩ := hcut
    cases kq with
    | zero => exact absurd HA.out (by simp [impl_NameOk.j0])
    | succ kj1 =>
      have H := HA.out
      clear HA
      simp only [impl_NameOk.j0] at H
      by_cases c8 : x16_1 = true
      rotate_left
      replace c8 := Bool.eq_false_iff.mpr c8
      subst c8
      have H1 : (impl_NameOk.l0 kj1 a0 1) = some r := by rw [if_neg (show ¬ (false = true) by decide)] at H; exact H
      clear H
      have H := H1
      clear H1
      have H' := Aside0.mk H
      clear H
      rotate_right
      subst c8
      have H1 : (some false) = some r := by rw [if_pos rfl] at H; exact H
      clear H
      have H := H1
      clear H1
      obtain rfl := Option.some.inj H
      all_goals
        go_wp2
      · go_ret
        exact rd_
      go_loopg [3] kj1 (fun kq v3 w' => ∃ (x3_2 : Int), v3 = .int .i64 x3_2 ∧ Aside0 (impl_NameOk.l0 kq a0 x3_2 = some r) ∧ Aside0 (kq ≤ kj1) ∧ Drawn0 w w')
      case atStart => exact ⟨(1), sm_, H', ⟨Nat.le_refl _⟩, by repeat (first | exact Drawn0.refl _ | apply Drawn0.step)⟩
      case round =>
        clear H'
        try clear c1
        try clear p2
        try clear c3
        try clear c3b0
        try clear c3b1
        try clear c4
        try clear c4b0
        try clear c4b1
        try clear c5
        try clear c5b0
        try clear c5b1
        try clear p6
        try clear q6
        try clear hx6
        try clear qi6
        try clear c8
        try clear p2
        try clear p6
        try clear q6
        obtain ⟨x3_2, rfl, HA, HK2, ⟨m2, rfl⟩⟩ := hrel
        cases gk with
        | zero => exact absurd HA.out (by simp [impl_NameOk.l0])
        | succ k2 =>
          have H := HA.out
          clear HA
          simp only [impl_NameOk.l0] at H
          by_cases c9 : x3_2 < (a0.size : Int)
          rotate_left
          · rw [if_neg c9] at H
            have c9b0 : decide (x3_2 < (a0.size : Int)) = false := decide_eq_false c9
            clear c9
            by_cases c17 : a0.toList = ([77, 65, 84, 67, 72] : List UInt8)
            rotate_left
            rw [if_neg c17] at H
            have c17b0 : (a0.toList == ([77, 65, 84, 67, 72] : List UInt8)) = false := beq_eq_false_iff_ne.mpr c17
            have c17b1 : (a0.toList != ([77, 65, 84, 67, 72] : List UInt8)) = true := bne_iff_ne.mpr c17
            by_cases c18 : a0.toList = ([79, 80, 84, 73, 79, 78, 65, 76] : List UInt8)
            rotate_left
            rw [if_neg c18] at H
            have c18b0 : (a0.toList == ([79, 80, 84, 73, 79, 78, 65, 76] : List UInt8)) = false := beq_eq_false_iff_ne.mpr c18
            have c18b1 : (a0.toList != ([79, 80, 84, 73, 79, 78, 65, 76] : List UInt8)) = true := bne_iff_ne.mpr c18
            by_cases c19 : a0.toList = ([87, 72, 69, 82, 69] : List UInt8)
            rotate_left
            rw [if_neg c19] at H
            have c19b0 : (a0.toList == ([87, 72, 69, 82, 69] : List UInt8)) = false := beq_eq_false_iff_ne.mpr c19
            have c19b1 : (a0.toList != ([87, 72, 69, 82, 69] : List UInt8)) = true := bne_iff_ne.mpr c19
            by_cases c20 : a0.toList = ([85, 78, 87, 73, 78, 68] : List UInt8)
            rotate_left
            rw [if_neg c20] at H
            have c20b0 : (a0.toList == ([85, 78, 87, 73, 78, 68] : List UInt8)) = false := beq_eq_false_iff_ne.mpr c20
            have c20b1 : (a0.toList != ([85, 78, 87, 73, 78, 68] : List UInt8)) = true := bne_iff_ne.mpr c20
            by_cases c21 : a0.toList = ([87, 73, 84, 72] : List UInt8)
            rotate_left
            rw [if_neg c21] at H
            have c21b0 : (a0.toList == ([87, 73, 84, 72] : List UInt8)) = false := beq_eq_false_iff_ne.mpr c21
            have c21b1 : (a0.toList != ([87, 73, 84, 72] : List UInt8)) = true := bne_iff_ne.mpr c21
            by_cases c22 : a0.toList = ([82, 69, 84, 85, 82, 78] : List UInt8)
            rotate_left
            rw [if_neg c22] at H
            have c22b0 : (a0.toList == ([82, 69, 84, 85, 82, 78] : List UInt8)) = false := beq_eq_false_iff_ne.mpr c22
            have c22b1 : (a0.toList != ([82, 69, 84, 85, 82, 78] : List UInt8)) = true := bne_iff_ne.mpr c22
            by_cases c23 : a0.toList = ([67, 82, 69, 65, 84, 69] : List UInt8)
            rotate_left
            rw [if_neg c23] at H
            have c23b0 : (a0.toList == ([67, 82, 69, 65, 84, 69] : List UInt8)) = false := beq_eq_false_iff_ne.mpr c23
            have c23b1 : (a0.toList != ([67, 82, 69, 65, 84, 69] : List UInt8)) = true := bne_iff_ne.mpr c23
            by_cases c24 : a0.toList = ([83, 69, 84] : List UInt8)
            rotate_left
            rw [if_neg c24] at H
            have c24b0 : (a0.toList == ([83, 69, 84] : List UInt8)) = false := beq_eq_false_iff_ne.mpr c24
            have c24b1 : (a0.toList != ([83, 69, 84] : List UInt8)) = true := bne_iff_ne.mpr c24
            by_cases c25 : a0.toList = ([68, 69, 76, 69, 84, 69] : List UInt8)
            rotate_left
            rw [if_neg c25] at H
            have c25b0 : (a0.toList == ([68, 69, 76, 69, 84, 69] : List UInt8)) = false := beq_eq_false_iff_ne.mpr c25
            have c25b1 : (a0.toList != ([68, 69, 76, 69, 84, 69] : List UInt8)) = true := bne_iff_ne.mpr c25
            by_cases c26 : a0.toList = ([68, 69, 84, 65, 67, 72] : List UInt8)
            rotate_left
            rw [if_neg c26] at H
            have c26b0 : (a0.toList == ([68, 69, 84, 65, 67, 72] : List UInt8)) = false := beq_eq_false_iff_ne.mpr c26
            have c26b1 : (a0.toList != ([68, 69, 84, 65, 67, 72] : List UInt8)) = true := bne_iff_ne.mpr c26
            by_cases c27 : a0.toList = ([65, 83] : List UInt8)
            rotate_left
            rw [if_neg c27] at H
            have c27b0 : (a0.toList == ([65, 83] : List UInt8)) = false := beq_eq_false_iff_ne.mpr c27
            have c27b1 : (a0.toList != ([65, 83] : List UInt8)) = true := bne_iff_ne.mpr c27
            by_cases c28 : a0.toList = ([65, 78, 68] : List UInt8)
            rotate_left
            rw [if_neg c28] at H
            have c28b0 : (a0.toList == ([65, 78, 68] : List UInt8)) = false := beq_eq_false_iff_ne.mpr c28
            have c28b1 : (a0.toList != ([65, 78, 68] : List UInt8)) = true := bne_iff_ne.mpr c28
            by_cases c29 : a0.toList = ([79, 82] : List UInt8)
            rotate_left
            rw [if_neg c29] at H
            have c29b0 : (a0.toList == ([79, 82] : List UInt8)) = false := beq_eq_false_iff_ne.mpr c29
            have c29b1 : (a0.toList != ([79, 82] : List UInt8)) = true := bne_iff_ne.mpr c29
            by_cases c30 : a0.toList = ([78, 79, 84] : List UInt8)
            rotate_left
            rw [if_neg c30] at H
            have c30b0 : (a0.toList == ([78, 79, 84] : List UInt8)) = false := beq_eq_false_iff_ne.mpr c30
            have c30b1 : (a0.toList != ([78, 79, 84] : List UInt8)) = true := bne_iff_ne.mpr c30
            by_cases c31 : a0.toList = ([73, 83] : List UInt8)
            rotate_left
            rw [if_neg c31] at H
            have c31b0 : (a0.toList == ([73, 83] : List UInt8)) = false := beq_eq_false_iff_ne.mpr c31
            have c31b1 : (a0.toList != ([73, 83] : List UInt8)) = true := bne_iff_ne.mpr c31
            by_cases c32 : a0.toList = ([78, 85, 76, 76] : List UInt8)
            rotate_left
            rw [if_neg c32] at H
            have c32b0 : (a0.toList == ([78, 85, 76, 76] : List UInt8)) = false := beq_eq_false_iff_ne.mpr c32
            have c32b1 : (a0.toList != ([78, 85, 76, 76] : List UInt8)) = true := bne_iff_ne.mpr c32
            by_cases c33 : a0.toList = ([73, 78] : List UInt8)
            rotate_left
            rw [if_neg c33] at H
            have c33b0 : (a0.toList == ([73, 78] : List UInt8)) = false := beq_eq_false_iff_ne.mpr c33
            have c33b1 : (a0.toList != ([73, 78] : List UInt8)) = true := bne_iff_ne.mpr c33
            by_cases c34 : a0.toList = ([68, 73, 83, 84, 73, 78, 67, 84] : List UInt8)
            rotate_left
            rw [if_neg c34] at H
            have c34b0 : (a0.toList == ([68, 73, 83, 84, 73, 78, 67, 84] : List UInt8)) = false := beq_eq_false_iff_ne.mpr c34
            have c34b1 : (a0.toList != ([68, 73, 83, 84, 73, 78, 67, 84] : List UInt8)) = true := bne_iff_ne.mpr c34
            by_cases c35 : a0.toList = ([79, 82, 68, 69, 82] : List UInt8)
            rotate_left
            rw [if_neg c35] at H
            have c35b0 : (a0.toList == ([79, 82, 68, 69, 82] : List UInt8)) = false := beq_eq_false_iff_ne.mpr c35
            have c35b1 : (a0.toList != ([79, 82, 68, 69, 82] : List UInt8)) = true := bne_iff_ne.mpr c35
            by_cases c36 : a0.toList = ([66, 89] : List UInt8)
            rotate_left
            rw [if_neg c36] at H
            have c36b0 : (a0.toList == ([66, 89] : List UInt8)) = false := beq_eq_false_iff_ne.mpr c36
            have c36b1 : (a0.toList != ([66, 89] : List UInt8)) = true := bne_iff_ne.mpr c36
            by_cases c37 : a0.toList = ([68, 69, 83, 67] : List UInt8)
            rotate_left
            rw [if_neg c37] at H
            have c37b0 : (a0.toList == ([68, 69, 83, 67] : List UInt8)) = false := beq_eq_false_iff_ne.mpr c37
            have c37b1 : (a0.toList != ([68, 69, 83, 67] : List UInt8)) = true := bne_iff_ne.mpr c37
            by_cases c38 : a0.toList = ([83, 75, 73, 80] : List UInt8)
            rotate_left
            rw [if_neg c38] at H
            have c38b0 : (a0.toList == ([83, 75, 73, 80] : List UInt8)) = false := beq_eq_false_iff_ne.mpr c38
            have c38b1 : (a0.toList != ([83, 75, 73, 80] : List UInt8)) = true := bne_iff_ne.mpr c38
            by_cases c39 : a0.toList = ([76, 73, 77, 73, 84] : List UInt8)
            rotate_left
            rw [if_neg c39] at H
            have c39b0 : (a0.toList == ([76, 73, 77, 73, 84] : List UInt8)) = false := beq_eq_false_iff_ne.mpr c39
            have c39b1 : (a0.toList != ([76, 73, 77, 73, 84] : List UInt8)) = true := bne_iff_ne.mpr c39
            by_cases c40 : a0.toList = ([110, 117, 108, 108] : List UInt8)
            rotate_left
            rw [if_neg c40] at H
            have c40b0 : (a0.toList == ([110, 117, 108, 108] : List UInt8)) = false := beq_eq_false_iff_ne.mpr c40
            have c40b1 : (a0.toList != ([110, 117, 108, 108] : List UInt8)) = true := bne_iff_ne.mpr c40
            by_cases c41 : a0.toList = ([116, 114, 117, 101] : List UInt8)
            rotate_left
            rw [if_neg c41] at H
            have c41b0 : (a0.toList == ([116, 114, 117, 101] : List UInt8)) = false := beq_eq_false_iff_ne.mpr c41
            have c41b1 : (a0.toList != ([116, 114, 117, 101] : List UInt8)) = true := bne_iff_ne.mpr c41
            by_cases c42 : a0.toList = ([102, 97, 108, 115, 101] : List UInt8)
            rotate_left
            rw [if_neg c42] at H
            have c42b0 : (a0.toList == ([102, 97, 108, 115, 101] : List UInt8)) = false := beq_eq_false_iff_ne.mpr c42
            have c42b1 : (a0.toList != ([102, 97, 108, 115, 101] : List UInt8)) = true := bne_iff_ne.mpr c42
            by_cases c43 : a0.toList = ([99, 111, 117, 110, 116] : List UInt8)
            rotate_left
            rw [if_neg c43] at H
            have c43b0 : (a0.toList == ([99, 111, 117, 110, 116] : List UInt8)) = false := beq_eq_false_iff_ne.mpr c43
            have c43b1 : (a0.toList != ([99, 111, 117, 110, 116] : List UInt8)) = true := bne_iff_ne.mpr c43
            by_cases c44 : a0.toList = ([115, 117, 109] : List UInt8)
            rotate_left
            rw [if_neg c44] at H
            have c44b0 : (a0.toList == ([115, 117, 109] : List UInt8)) = false := beq_eq_false_iff_ne.mpr c44
            have c44b1 : (a0.toList != ([115, 117, 109] : List UInt8)) = true := bne_iff_ne.mpr c44
            by_cases c45 : a0.toList = ([115, 105, 122, 101] : List UInt8)
            rotate_left
            rw [if_neg c45] at H
            have c45b0 : (a0.toList == ([115, 105, 122, 101] : List UInt8)) = false := beq_eq_false_iff_ne.mpr c45
            have c45b1 : (a0.toList != ([115, 105, 122, 101] : List UInt8)) = true := bne_iff_ne.mpr c45
            obtain rfl := Option.some.inj H
            rotate_right
            rw [if_pos c45] at H
            have c45b0 : (a0.toList == ([115, 105, 122, 101] : List UInt8)) = true := beq_iff_eq.mpr c45
            have c45b1 : (a0.toList != ([115, 105, 122, 101] : List UInt8)) = false := bne_eq_false_iff_eq.mpr c45
            clear c45
            obtain rfl := Option.some.inj H
            rotate_right
            rw [if_pos c44] at H
            have c44b0 : (a0.toList == ([115, 117, 109] : List UInt8)) = true := beq_iff_eq.mpr c44
            have c44b1 : (a0.toList != ([115, 117, 109] : List UInt8)) = false := bne_eq_false_iff_eq.mpr c44
            clear c44
            obtain rfl := Option.some.inj H
            rotate_right
            rw [if_pos c43] at H
            have c43b0 : (a0.toList == ([99, 111, 117, 110, 116] : List UInt8)) = true := beq_iff_eq.mpr c43
            have c43b1 : (a0.toList != ([99, 111, 117, 110, 116] : List UInt8)) = false := bne_eq_false_iff_eq.mpr c43
            clear c43
            obtain rfl := Option.some.inj H
            rotate_right
            rw [if_pos c42] at H
            have c42b0 : (a0.toList == ([102, 97, 108, 115, 101] : List UInt8)) = true := beq_iff_eq.mpr c42
            have c42b1 : (a0.toList != ([102, 97, 108, 115, 101] : List UInt8)) = false := bne_eq_false_iff_eq.mpr c42
            clear c42
            obtain rfl := Option.some.inj H
            rotate_right
            rw [if_pos c41] at H
            have c41b0 : (a0.toList == ([116, 114, 117, 101] : List UInt8)) = true := beq_iff_eq.mpr c41
            have c41b1 : (a0.toList != ([116, 114, 117, 101] : List UInt8)) = false := bne_eq_false_iff_eq.mpr c41
            clear c41
            obtain rfl := Option.some.inj H
            rotate_right
            rw [if_pos c40] at H
            have c40b0 : (a0.toList == ([110, 117, 108, 108] : List UInt8)) = true := beq_iff_eq.mpr c40
            have c40b1 : (a0.toList != ([110, 117, 108, 108] : List UInt8)) = false := bne_eq_false_iff_eq.mpr c40
            clear c40
            obtain rfl := Option.some.inj H
            rotate_right
            rw [if_pos c39] at H
            have c39b0 : (a0.toList == ([76, 73, 77, 73, 84] : List UInt8)) = true := beq_iff_eq.mpr c39
            have c39b1 : (a0.toList != ([76, 73, 77, 73, 84] : List UInt8)) = false := bne_eq_false_iff_eq.mpr c39
            clear c39
            obtain rfl := Option.some.inj H
            rotate_right
            rw [if_pos c38] at H
            have c38b0 : (a0.toList == ([83, 75, 73, 80] : List UInt8)) = true := beq_iff_eq.mpr c38
            have c38b1 : (a0.toList != ([83, 75, 73, 80] : List UInt8)) = false := bne_eq_false_iff_eq.mpr c38
            clear c38
            obtain rfl := Option.some.inj H
            rotate_right
            rw [if_pos c37] at H
            have c37b0 : (a0.toList == ([68, 69, 83, 67] : List UInt8)) = true := beq_iff_eq.mpr c37
            have c37b1 : (a0.toList != ([68, 69, 83, 67] : List UInt8)) = false := bne_eq_false_iff_eq.mpr c37
            clear c37
            obtain rfl := Option.some.inj H
            rotate_right
            rw [if_pos c36] at H
            have c36b0 : (a0.toList == ([66, 89] : List UInt8)) = true := beq_iff_eq.mpr c36
            have c36b1 : (a0.toList != ([66, 89] : List UInt8)) = false := bne_eq_false_iff_eq.mpr c36
            clear c36
            obtain rfl := Option.some.inj H
            rotate_right
            rw [if_pos c35] at H
            have c35b0 : (a0.toList == ([79, 82, 68, 69, 82] : List UInt8)) = true := beq_iff_eq.mpr c35
            have c35b1 : (a0.toList != ([79, 82, 68, 69, 82] : List UInt8)) = false := bne_eq_false_iff_eq.mpr c35
            clear c35
            obtain rfl := Option.some.inj H
            rotate_right
            rw [if_pos c34] at H
            have c34b0 : (a0.toList == ([68, 73, 83, 84, 73, 78, 67, 84] : List UInt8)) = true := beq_iff_eq.mpr c34
            have c34b1 : (a0.toList != ([68, 73, 83, 84, 73, 78, 67, 84] : List UInt8)) = false := bne_eq_false_iff_eq.mpr c34
            clear c34
            obtain rfl := Option.some.inj H
            rotate_right
            rw [if_pos c33] at H
            have c33b0 : (a0.toList == ([73, 78] : List UInt8)) = true := beq_iff_eq.mpr c33
            have c33b1 : (a0.toList != ([73, 78] : List UInt8)) = false := bne_eq_false_iff_eq.mpr c33
            clear c33
            obtain rfl := Option.some.inj H
            rotate_right
            rw [if_pos c32] at H
            have c32b0 : (a0.toList == ([78, 85, 76, 76] : List UInt8)) = true := beq_iff_eq.mpr c32
            have c32b1 : (a0.toList != ([78, 85, 76, 76] : List UInt8)) = false := bne_eq_false_iff_eq.mpr c32
            clear c32
            obtain rfl := Option.some.inj H
            rotate_right
            rw [if_pos c31] at H
            have c31b0 : (a0.toList == ([73, 83] : List UInt8)) = true := beq_iff_eq.mpr c31
            have c31b1 : (a0.toList != ([73, 83] : List UInt8)) = false := bne_eq_false_iff_eq.mpr c31
            clear c31
            obtain rfl := Option.some.inj H
            rotate_right
            rw [if_pos c30] at H
            have c30b0 : (a0.toList == ([78, 79, 84] : List UInt8)) = true := beq_iff_eq.mpr c30
            have c30b1 : (a0.toList != ([78, 79, 84] : List UInt8)) = false := bne_eq_false_iff_eq.mpr c30
            clear c30
            obtain rfl := Option.some.inj H
            rotate_right
            rw [if_pos c29] at H
            have c29b0 : (a0.toList == ([79, 82] : List UInt8)) = true := beq_iff_eq.mpr c29
            have c29b1 : (a0.toList != ([79, 82] : List UInt8)) = false := bne_eq_false_iff_eq.mpr c29
            clear c29
            obtain rfl := Option.some.inj H
            rotate_right
            rw [if_pos c28] at H
            have c28b0 : (a0.toList == ([65, 78, 68] : List UInt8)) = true := beq_iff_eq.mpr c28
            have c28b1 : (a0.toList != ([65, 78, 68] : List UInt8)) = false := bne_eq_false_iff_eq.mpr c28
            clear c28
            obtain rfl := Option.some.inj H
            rotate_right
            rw [if_pos c27] at H
            have c27b0 : (a0.toList == ([65, 83] : List UInt8)) = true := beq_iff_eq.mpr c27
            have c27b1 : (a0.toList != ([65, 83] : List UInt8)) = false := bne_eq_false_iff_eq.mpr c27
            clear c27
            obtain rfl := Option.some.inj H
            rotate_right
            rw [if_pos c26] at H
            have c26b0 : (a0.toList == ([68, 69, 84, 65, 67, 72] : List UInt8)) = true := beq_iff_eq.mpr c26
            have c26b1 : (a0.toList != ([68, 69, 84, 65, 67, 72] : List UInt8)) = false := bne_eq_false_iff_eq.mpr c26
            clear c26
            obtain rfl := Option.some.inj H
            rotate_right
            rw [if_pos c25] at H
            have c25b0 : (a0.toList == ([68, 69, 76, 69, 84, 69] : List UInt8)) = true := beq_iff_eq.mpr c25
            have c25b1 : (a0.toList != ([68, 69, 76, 69, 84, 69] : List UInt8)) = false := bne_eq_false_iff_eq.mpr c25
            clear c25
            obtain rfl := Option.some.inj H
            rotate_right
            rw [if_pos c24] at H
            have c24b0 : (a0.toList == ([83, 69, 84] : List UInt8)) = true := beq_iff_eq.mpr c24
            have c24b1 : (a0.toList != ([83, 69, 84] : List UInt8)) = false := bne_eq_false_iff_eq.mpr c24
            clear c24
            obtain rfl := Option.some.inj H
            rotate_right
            rw [if_pos c23] at H
            have c23b0 : (a0.toList == ([67, 82, 69, 65, 84, 69] : List UInt8)) = true := beq_iff_eq.mpr c23
            have c23b1 : (a0.toList != ([67, 82, 69, 65, 84, 69] : List UInt8)) = false := bne_eq_false_iff_eq.mpr c23
            clear c23
            obtain rfl := Option.some.inj H
            rotate_right
            rw [if_pos c22] at H
            have c22b0 : (a0.toList == ([82, 69, 84, 85, 82, 78] : List UInt8)) = true := beq_iff_eq.mpr c22
            have c22b1 : (a0.toList != ([82, 69, 84, 85, 82, 78] : List UInt8)) = false := bne_eq_false_iff_eq.mpr c22
            clear c22
            obtain rfl := Option.some.inj H
            rotate_right
            rw [if_pos c21] at H
            have c21b0 : (a0.toList == ([87, 73, 84, 72] : List UInt8)) = true := beq_iff_eq.mpr c21
            have c21b1 : (a0.toList != ([87, 73, 84, 72] : List UInt8)) = false := bne_eq_false_iff_eq.mpr c21
            clear c21
            obtain rfl := Option.some.inj H
            rotate_right
            rw [if_pos c20] at H
            have c20b0 : (a0.toList == ([85, 78, 87, 73, 78, 68] : List UInt8)) = true := beq_iff_eq.mpr c20
            have c20b1 : (a0.toList != ([85, 78, 87, 73, 78, 68] : List UInt8)) = false := bne_eq_false_iff_eq.mpr c20
            clear c20
            obtain rfl := Option.some.inj H
            rotate_right
            rw [if_pos c19] at H
            have c19b0 : (a0.toList == ([87, 72, 69, 82, 69] : List UInt8)) = true := beq_iff_eq.mpr c19
            have c19b1 : (a0.toList != ([87, 72, 69, 82, 69] : List UInt8)) = false := bne_eq_false_iff_eq.mpr c19
            clear c19
            obtain rfl := Option.some.inj H
            rotate_right
            rw [if_pos c18] at H
            have c18b0 : (a0.toList == ([79, 80, 84, 73, 79, 78, 65, 76] : List UInt8)) = true := beq_iff_eq.mpr c18
            have c18b1 : (a0.toList != ([79, 80, 84, 73, 79, 78, 65, 76] : List UInt8)) = false := bne_eq_false_iff_eq.mpr c18
            clear c18
            obtain rfl := Option.some.inj H
            rotate_right
            rw [if_pos c17] at H
            have c17b0 : (a0.toList == ([77, 65, 84, 67, 72] : List UInt8)) = true := beq_iff_eq.mpr c17
            have c17b1 : (a0.toList != ([77, 65, 84, 67, 72] : List UInt8)) = false := bne_eq_false_iff_eq.mpr c17
            clear c17
            obtain rfl := Option.some.inj H
            all_goals
              go_wp2
              go_ret
              exact rd_
          rotate_right
          rw [if_pos c9] at H
          have c9b0 : decide (x3_2 < (a0.size : Int)) = true := decide_eq_true c9
          clear c9
          by_cases c10 : 0 ≤ x3_2
          rotate_left
          · rw [if_neg c10] at H
            exact absurd H (by simp)
          rotate_right
          rw [if_pos c10] at H
          have c10b0 : decide (0 ≤ x3_2) = true := decide_eq_true c10
          clear c10
          replace H := Option.bind_eq_some_iff.mp H
          obtain ⟨t102, A120, H⟩ := H
          replace H : (if t102 = true then (impl_NameOk.l0 k2 a0 (wrap64 (x3_2 + 1))) else ((impl_isFigure.f (bt a0 x3_2)).bind fun t103 => (if t103 = true then (impl_NameOk.l0 k2 a0 (wrap64 (x3_2 + 1))) else (some false)))) = some r := H
          have A12 := Aside0.mk A120
          clear A120
          by_cases c13 : t102 = true
          rotate_left
          replace c13 := Bool.eq_false_iff.mpr c13
          subst c13
          have H1 : ((impl_isFigure.f (bt a0 x3_2)).bind fun t103 => (if t103 = true then (impl_NameOk.l0 k2 a0 (wrap64 (x3_2 + 1))) else (some false))) = some r := by rw [if_neg (show ¬ (false = true) by decide)] at H; exact H
          clear H
          have H := H1
          clear H1
          replace H := Option.bind_eq_some_iff.mp H
          obtain ⟨t103, A150, H⟩ := H
          replace H : (if t103 = true then (impl_NameOk.l0 k2 a0 (wrap64 (x3_2 + 1))) else (some false)) = some r := H
          have A15 := Aside0.mk A150
          clear A150
          by_cases c16 : t103 = true
          rotate_left
          replace c16 := Bool.eq_false_iff.mpr c16
          subst c16
          have H1 : (some false) = some r := by rw [if_neg (show ¬ (false = true) by decide)] at H; exact H
          clear H
          have H := H1
          clear H1
          obtain rfl := Option.some.inj H
          rotate_right
          subst c16
          have H1 : (impl_NameOk.l0 k2 a0 (wrap64 (x3_2 + 1))) = some r := by rw [if_pos rfl] at H; exact H
          clear H
          have H := H1
          clear H1
          have H' := Aside0.mk H
          clear H
          rotate_right
          subst c13
          have H1 : (impl_NameOk.l0 k2 a0 (wrap64 (x3_2 + 1))) = some r := by rw [if_pos rfl] at H; exact H
          clear H
          have H := H1
          clear H1
          have H' := Aside0.mk H
          clear H
          all_goals
            have p11 : 0 ≤ (x3_2 : Int) := od_
            have q11 : x3_2 < (a0.size : Int) := od_
            have hx11 := bt_at a0 x3_2
            replace p11 := eq_true p11
            replace q11 := eq_true q11
          · go_wp2_with (first | ((with_reducible refine gate_callee (f := 156) rfl ?_); refine goesL_ (some 26) rfl rfl Try.func156 (by kernel_rfl) rfl #[.int .u8 (bt a0 x3_2)] rfl ar_ ?_; (with_reducible refine (impl_isLetter.calls (bt a0 x3_2) true _ A12.out).mono ?_); rintro e w' ⟨rfl, ⟨nd, rfl⟩⟩; refine ⟨_, rfl, ?_⟩))
            go_roundg k2
            case measure => have := HJ1.out; have := HK2.out; omega
            case rel => exact ⟨(wrap64 (x3_2 + 1)), sm_, H', ⟨by have := HJ1.out; have := HK2.out; omega⟩, by repeat (first | exact Drawn0.refl _ | apply Drawn0.step)⟩
          all_goals
            go_wp2_with (first | ((with_reducible refine gate_callee (f := 156) rfl ?_); refine goesL_ (some 26) rfl rfl Try.func156 (by kernel_rfl) rfl #[.int .u8 (bt a0 x3_2)] rfl ar_ ?_; (with_reducible refine (impl_isLetter.calls (bt a0 x3_2) false _ A12.out).mono ?_); rintro e w' ⟨rfl, ⟨nd, rfl⟩⟩; refine ⟨_, rfl, ?_⟩; have p14 : 0 ≤ (x3_2 : Int) := od_; have q14 : x3_2 < (a0.size : Int) := od_; have hx14 := bt_at a0 x3_2; replace p14 := eq_true p14; replace q14 := eq_true q14) | (go_at_call 157; (with_reducible refine (impl_isFigure.calls (bt a0 x3_2) _ _ A15.out).mono ?_); rintro e w' ⟨rfl, ⟨nd, rfl⟩⟩))
          rotate_left
          · go_ret
            exact rd_
          go_roundg k2
          case measure => have := HJ1.out; have := HK2.out; omega
          case rel => exact ⟨(wrap64 (x3_2 + 1)), sm_, H', ⟨by have := HJ1.out; have := HK2.out; omega⟩, by repeat (first | exact Drawn0.refl _ | apply Drawn0.step)⟩

/-! ### impl_labelsOk: function 80 -/
def impl_labelsOk.l0 : Nat → List ByteArray → List ByteArray → Int → Int → Option (Bool)
  | 0, _, _, _, _ => none
  | k + 1, x0, x8, x9, x10 => if x10 < x9 then (if 0 ≤ x10 then (if x10 < (x8.length : Int) then ((impl_NameOk.f k (rdOf ByteArray.empty x8 x10)).bind fun t102 => (if t102 = true then (if x10 > 0 then (if 0 ≤ (wrap64 (x10 - 1)) then (if (wrap64 (x10 - 1)) < (x0.length : Int) then (if ((Op.bytesLess ((rdOf ByteArray.empty x0 (wrap64 (x10 - 1))).toList) ((rdOf ByteArray.empty x8 x10).toList)) = true) then (impl_labelsOk.l0 k x0 x8 x9 (wrap64 (x10 + 1))) else (some false)) else (none)) else (none)) else (impl_labelsOk.l0 k x0 x8 x9 (wrap64 (x10 + 1)))) else (some false))) else (none)) else (none)) else (some true)
def impl_labelsOk.f (k : Nat) (l0 : List ByteArray) : Option (Bool) := if (l0.length : Int) > 3 then (some false) else (impl_labelsOk.l0 k l0 l0 (l0.length : Int) 0)
set_option maxHeartbeats 8000000 in
set_option maxRecDepth 100000 in
theorem impl_labelsOk.calls (k : Nat) (A0 : Option Addr) (c0 : Nat) (l0 : List ByteArray) (r : Bool) (w : World) (hr0 : Kd.C Kd.string w A0 l0.length l0) (hc0 : l0.length ≤ c0) (h : impl_labelsOk.f k l0 = some r) :
    Calls Try.prog 80 #[.slice A0 l0.length c0] w fun e w' => e = .returned (.bool r) ∧ Drawn0 w w' := by
  have HR0 := Aside0.mk hr0
  have HC0 := Aside0.mk hc0
  clear hr0 hc0
  have H : (if (l0.length : Int) > 3 then (some false) else (impl_labelsOk.l0 k l0 l0 (l0.length : Int) 0)) = some r := h
  clear h
  by_cases c2 : (l0.length : Int) > 3
  rotate_left
  rw [if_neg c2] at H
  have c2b0 : decide (3 < (l0.length : Int)) = false := decide_eq_false c2
  have c2b1 : decide (3 < l0.length) = false := decide_eq_false (by omega)
  clear c2
  have H' := Aside0.mk H
  clear H
  rotate_right
  rw [if_pos c2] at H
  have c2b0 : decide (3 < (l0.length : Int)) = true := decide_eq_true c2
  have c2b1 : decide (3 < l0.length) = true := decide_eq_true (by omega)
  clear c2
  obtain rfl := Option.some.inj H
  all_goals
    go_enter Try.func80, Try.ntmps80
    go_wp2
  · go_ret
    exact rd_
  go_loopg [10] k (fun kq v10 w' => ∃ (x10_1 : Int), v10 = .int .i64 x10_1 ∧ Aside0 (impl_labelsOk.l0 kq l0 l0 (l0.length : Int) x10_1 = some r) ∧ Aside0 (kq ≤ k) ∧ Drawn0 w w')
  case atStart => exact ⟨(0), sm_, H', ⟨Nat.le_refl _⟩, by repeat (first | exact Drawn0.refl _ | apply Drawn0.step)⟩
  case round =>
    clear H'
    try clear c2
    try clear c2b0
    try clear c2b1
    try clear p2
    obtain ⟨x10_1, rfl, HA, HK1, ⟨m1, rfl⟩⟩ := hrel
    cases gk with
    | zero => exact absurd HA.out (by simp [impl_labelsOk.l0])
    | succ k1 =>
      have H := HA.out
      clear HA
      simp only [impl_labelsOk.l0] at H
      by_cases c3 : x10_1 < (l0.length : Int)
      rotate_left
      rw [if_neg c3] at H
      have c3b0 : decide (x10_1 < (l0.length : Int)) = false := decide_eq_false c3
      clear c3
      obtain rfl := Option.some.inj H
      rotate_right
      rw [if_pos c3] at H
      have c3b0 : decide (x10_1 < (l0.length : Int)) = true := decide_eq_true c3
      clear c3
      by_cases c4 : 0 ≤ x10_1
      rotate_left
      · rw [if_neg c4] at H
        exact absurd H (by simp)
      rotate_right
      rw [if_pos c4] at H
      have c4b0 : decide (0 ≤ x10_1) = true := decide_eq_true c4
      clear c4
      by_cases c5 : x10_1 < (l0.length : Int)
      rotate_left
      · rw [if_neg c5] at H
        exact absurd H (by simp)
      rotate_right
      rw [if_pos c5] at H
      have c5b0 : decide (x10_1 < (l0.length : Int)) = true := decide_eq_true c5
      clear c5
      replace H := Option.bind_eq_some_iff.mp H
      obtain ⟨t102, A60, H⟩ := H
      replace H : (if t102 = true then (if x10_1 > 0 then (if 0 ≤ (wrap64 (x10_1 - 1)) then (if (wrap64 (x10_1 - 1)) < (l0.length : Int) then (if ((Op.bytesLess ((rdOf ByteArray.empty l0 (wrap64 (x10_1 - 1))).toList) ((rdOf ByteArray.empty l0 x10_1).toList)) = true) then (impl_labelsOk.l0 k1 l0 l0 (l0.length : Int) (wrap64 (x10_1 + 1))) else (some false)) else (none)) else (none)) else (impl_labelsOk.l0 k1 l0 l0 (l0.length : Int) (wrap64 (x10_1 + 1)))) else (some false)) = some r := H
      have A6 := Aside0.mk A60
      clear A60
      by_cases c7 : t102 = true
      rotate_left
      replace c7 := Bool.eq_false_iff.mpr c7
      subst c7
      have H1 : (some false) = some r := by rw [if_neg (show ¬ (false = true) by decide)] at H; exact H
      clear H
      have H := H1
      clear H1
      obtain rfl := Option.some.inj H
      rotate_right
      subst c7
      have H1 : (if x10_1 > 0 then (if 0 ≤ (wrap64 (x10_1 - 1)) then (if (wrap64 (x10_1 - 1)) < (l0.length : Int) then (if ((Op.bytesLess ((rdOf ByteArray.empty l0 (wrap64 (x10_1 - 1))).toList) ((rdOf ByteArray.empty l0 x10_1).toList)) = true) then (impl_labelsOk.l0 k1 l0 l0 (l0.length : Int) (wrap64 (x10_1 + 1))) else (some false)) else (none)) else (none)) else (impl_labelsOk.l0 k1 l0 l0 (l0.length : Int) (wrap64 (x10_1 + 1)))) = some r := by rw [if_pos rfl] at H; exact H
      clear H
      have H := H1
      clear H1
      by_cases c8 : x10_1 > 0
      · rw [if_pos c8] at H
        have c8b0 : decide (0 < x10_1) = true := decide_eq_true c8
        clear c8
        obtain ⟨ji9, hji9⟩ : ∃ j_ : Int, (wrap64 (x10_1 - 1)) = j_ := ⟨_, rfl⟩
        replace H : (if 0 ≤ (ji9) then (if (ji9) < (l0.length : Int) then (if ((Op.bytesLess ((rdOf ByteArray.empty l0 (ji9)).toList) ((rdOf ByteArray.empty l0 x10_1).toList)) = true) then (impl_labelsOk.l0 k1 l0 l0 (l0.length : Int) (wrap64 (x10_1 + 1))) else (some false)) else (none)) else (none)) = some r := by first | (rw [hji9] at H; exact H) | (simp only [hji9] at H ⊢; exact H)
        (try rw [hji9] at A6)
        have hji9w : (IntKind.i64.wrap (x10_1 - 1)) = ji9 := (i64_w _).trans hji9
        by_cases c10 : 0 ≤ (ji9)
        rotate_left
        · rw [if_neg c10] at H
          exact absurd H (by simp)
        rotate_right
        rw [if_pos c10] at H
        have c10b0 : decide (0 ≤ (ji9)) = true := decide_eq_true c10
        clear c10
        by_cases c11 : (ji9) < (l0.length : Int)
        rotate_left
        · rw [if_neg c11] at H
          exact absurd H (by simp)
        rotate_right
        rw [if_pos c11] at H
        have c11b0 : decide ((ji9) < (l0.length : Int)) = true := decide_eq_true c11
        clear c11
        by_cases c12 : ((Op.bytesLess ((rdOf ByteArray.empty l0 (ji9)).toList) ((rdOf ByteArray.empty l0 x10_1).toList)) = true)
        rotate_left
        rw [if_neg c12] at H
        have c12b0 : (Op.bytesLess ((rdOf ByteArray.empty l0 (ji9)).toList) ((rdOf ByteArray.empty l0 x10_1).toList)) = false := by simpa using c12
        clear c12
        obtain rfl := Option.some.inj H
        rotate_right
        rw [if_pos c12] at H
        have c12b0 : (Op.bytesLess ((rdOf ByteArray.empty l0 (ji9)).toList) ((rdOf ByteArray.empty l0 x10_1).toList)) = true := c12
        clear c12
        have H' := Aside0.mk H
        clear H
        all_goals
          have p101 : 0 ≤ (x10_1 : Int) := od_
          have q101 : x10_1 < (l0.length : Int) := od_
          obtain ⟨ad101, e101, hx101_0⟩ := Kd.at_string HR0.out x10_1 p101 q101
          cases e101
          replace p101 := eq_true p101
          replace q101 := eq_true q101
          go_wp2_with (first | ((with_reducible refine gate_callee (f := 82) rfl ?_); refine goesL_ (some 16) rfl rfl Try.func82 (by kernel_rfl) rfl #[.string (rdOf ByteArray.empty l0 x10_1)] rfl ar_ ?_; (with_reducible refine (impl_NameOk.calls k1 (rdOf ByteArray.empty l0 x10_1) true _ A6.out).mono ?_); rintro e w' ⟨rfl, ⟨nd, rfl⟩⟩; refine ⟨_, rfl, ?_⟩; have p103 : 0 ≤ ((ji9) : Int) := od_; have q103 : (ji9) < (l0.length : Int) := od_; obtain ⟨ad103, e103, hx103_0⟩ := Kd.at_string HR0.out (ji9) p103 q103; obtain rfl : ad101 = ad103 := (by injection e103); replace p103 := eq_true p103; replace q103 := eq_true q103))
        rotate_left
        · go_ret
          exact ⟨by first | rfl | (simp; done) | (simp only [← hji9] <;> (first | rfl | simp)) | (simp [*]; done), by repeat (first | exact Drawn0.refl _ | apply Drawn0.step)⟩
        go_roundg k1
        case measure => have := HK1.out; omega
        case rel => exact ⟨(wrap64 (x10_1 + 1)), sm_, H', ⟨by have := HK1.out; omega⟩, by repeat (first | exact Drawn0.refl _ | apply Drawn0.step)⟩
      rw [if_neg c8] at H
      have c8b0 : decide (0 < x10_1) = false := decide_eq_false c8
      clear c8
      have H' := Aside0.mk H
      clear H
      rotate_left 2
      · go_wp2
        go_ret
        exact rd_
      all_goals
        have p101 : 0 ≤ (x10_1 : Int) := od_
        have q101 : x10_1 < (l0.length : Int) := od_
        obtain ⟨ad101, e101, hx101_0⟩ := Kd.at_string HR0.out x10_1 p101 q101
        cases e101
        replace p101 := eq_true p101
        replace q101 := eq_true q101
        go_wp2_with (first | ((with_reducible refine gate_callee (f := 82) rfl ?_); refine goesL_ (some 16) rfl rfl Try.func82 (by kernel_rfl) rfl #[.string (rdOf ByteArray.empty l0 x10_1)] rfl ar_ ?_; (with_reducible refine (impl_NameOk.calls k1 (rdOf ByteArray.empty l0 x10_1) _ _ A6.out).mono ?_); rintro e w' ⟨rfl, ⟨nd, rfl⟩⟩; refine ⟨_, rfl, ?_⟩))
      rotate_left
      · go_ret
        exact rd_
      go_roundg k1
      case measure => have := HK1.out; omega
      case rel => exact ⟨(wrap64 (x10_1 + 1)), sm_, H', ⟨by have := HK1.out; omega⟩, by repeat (first | exact Drawn0.refl _ | apply Drawn0.step)⟩

/-! ### impl_textFits: function 186 -/
def impl_textFits.l0 : Nat → ByteArray → Int → Option (Bool)
  | 0, _, _ => none
  | k + 1, x0, x3 => if x3 < (x0.size : Int) then (if 0 ≤ x3 then (if (bt x0 x3) < 32 then (some false) else (if (bt x0 x3) > 126 then (some false) else (if (bt x0 x3) = 39 then (some false) else (impl_textFits.l0 k x0 (wrap64 (x3 + 1)))))) else (none)) else (some true)
def impl_textFits.f (k : Nat) (a0 : ByteArray) : Option (Bool) := if (a0.size : Int) > 16 then (some false) else (impl_textFits.l0 k a0 0)
set_option maxHeartbeats 8000000 in
set_option maxRecDepth 100000 in
theorem impl_textFits.calls (k : Nat) (a0 : ByteArray) (r : Bool) (w : World) (h : impl_textFits.f k a0 = some r) :
    Calls Try.prog 186 #[.string a0] w fun e w' => e = .returned (.bool r) ∧ Drawn0 w w' := by
  have H : (if (a0.size : Int) > 16 then (some false) else (impl_textFits.l0 k a0 0)) = some r := h
  clear h
  by_cases c2 : (a0.size : Int) > 16
  rotate_left
  rw [if_neg c2] at H
  have c2b0 : decide (16 < (a0.size : Int)) = false := decide_eq_false c2
  have c2b1 : decide (16 < a0.size) = false := decide_eq_false (by omega)
  clear c2
  have H' := Aside0.mk H
  clear H
  rotate_right
  rw [if_pos c2] at H
  have c2b0 : decide (16 < (a0.size : Int)) = true := decide_eq_true c2
  have c2b1 : decide (16 < a0.size) = true := decide_eq_true (by omega)
  clear c2
  obtain rfl := Option.some.inj H
  all_goals
    go_enter Try.func186, Try.ntmps186
    go_wp2
  · go_ret
    exact rd_
  go_loopg [3] k (fun kq v3 w' => ∃ (x3_1 : Int), v3 = .int .i64 x3_1 ∧ Aside0 (impl_textFits.l0 kq a0 x3_1 = some r) ∧ Aside0 (kq ≤ k) ∧ Drawn0 w w')
  case atStart => exact ⟨(0), sm_, H', ⟨Nat.le_refl _⟩, by repeat (first | exact Drawn0.refl _ | apply Drawn0.step)⟩
  case round =>
    clear H'
    try clear c1
    try clear c2
    try clear c2b0
    try clear c2b1
    try clear p2
    obtain ⟨x3_1, rfl, HA, HK1, ⟨m1, rfl⟩⟩ := hrel
    cases gk with
    | zero => exact absurd HA.out (by simp [impl_textFits.l0])
    | succ k1 =>
      have H := HA.out
      clear HA
      simp only [impl_textFits.l0] at H
      by_cases c3 : x3_1 < (a0.size : Int)
      rotate_left
      rw [if_neg c3] at H
      have c3b0 : decide (x3_1 < (a0.size : Int)) = false := decide_eq_false c3
      clear c3
      obtain rfl := Option.some.inj H
      rotate_right
      rw [if_pos c3] at H
      have c3b0 : decide (x3_1 < (a0.size : Int)) = true := decide_eq_true c3
      clear c3
      by_cases c4 : 0 ≤ x3_1
      rotate_left
      · rw [if_neg c4] at H
        exact absurd H (by simp)
      rotate_right
      rw [if_pos c4] at H
      have c4b0 : decide (0 ≤ x3_1) = true := decide_eq_true c4
      clear c4
      by_cases c6 : (bt a0 x3_1) < 32
      rotate_left
      rw [if_neg c6] at H
      have c6b0 : decide ((bt a0 x3_1) < 32) = false := decide_eq_false c6
      clear c6
      by_cases c8 : (bt a0 x3_1) > 126
      rotate_left
      rw [if_neg c8] at H
      have c8b0 : decide (126 < (bt a0 x3_1)) = false := decide_eq_false c8
      clear c8
      by_cases c10 : (bt a0 x3_1) = 39
      rotate_left
      rw [if_neg c10] at H
      have c10b0 : ((bt a0 x3_1) == 39) = false := beq_eq_false_iff_ne.mpr c10
      have c10b1 : ((bt a0 x3_1) != 39) = true := bne_iff_ne.mpr c10
      have H' := Aside0.mk H
      clear H
      rotate_right
      rw [if_pos c10] at H
      have c10b0 : ((bt a0 x3_1) == 39) = true := beq_iff_eq.mpr c10
      have c10b1 : ((bt a0 x3_1) != 39) = false := bne_eq_false_iff_eq.mpr c10
      clear c10
      obtain rfl := Option.some.inj H
      rotate_right
      rw [if_pos c8] at H
      have c8b0 : decide (126 < (bt a0 x3_1)) = true := decide_eq_true c8
      clear c8
      obtain rfl := Option.some.inj H
      rotate_right
      rw [if_pos c6] at H
      have c6b0 : decide ((bt a0 x3_1) < 32) = true := decide_eq_true c6
      clear c6
      obtain rfl := Option.some.inj H
      rotate_left 4
      · go_wp2
        go_ret
        exact rd_
      all_goals
        have p5 : 0 ≤ (x3_1 : Int) := od_
        have q5 : x3_1 < (a0.size : Int) := od_
        have hx5 := bt_at a0 x3_1
        replace p5 := eq_true p5
        replace q5 := eq_true q5
      · go_wp2
        go_ret
        exact rd_
      all_goals
        have p7 : 0 ≤ (x3_1 : Int) := od_
        have q7 : x3_1 < (a0.size : Int) := od_
        have hx7 := bt_at a0 x3_1
        replace p7 := eq_true p7
        replace q7 := eq_true q7
      · go_wp2
        go_ret
        exact rd_
      all_goals
        have p9 : 0 ≤ (x3_1 : Int) := od_
        have q9 : x3_1 < (a0.size : Int) := od_
        have hx9 := bt_at a0 x3_1
        replace p9 := eq_true p9
        replace q9 := eq_true q9
        go_wp2
      · go_ret
        exact rd_
      go_roundg k1
      case measure => have := HK1.out; omega
      case rel => exact ⟨(wrap64 (x3_1 + 1)), sm_, H', ⟨by have := HK1.out; omega⟩, by repeat (first | exact Drawn0.refl _ | apply Drawn0.step)⟩

end Go.Proofs.Ytcchmhmbjhgfdaa.G
