-- Printed by a program of this claim's writer (wip/gen), out of the translation. Lean checks it.
import Derived.Test.YtejikddbdhahaaaGx0
namespace Go.Proofs.Ytejikddbdhahaaa.G
open Go.RowKit Go.Proofs.YtejikddbdhahaaaW.PrintWords Go.Proofs.YtejikddbdhahaaaW.PrintLast Go.Proofs.YtejikddbdhahaaaW.PrintMore
attribute [local go_sem] max2_int min2_int max_two min_two max_three min_three max_four min_four Own.str_gtr Own.str_leq Own.str_geq   -- for this text's walks alone
open Own
set_option linter.unusedVariables false
set_option linter.unusedSimpArgs false

/-! ### spec_l1Same: function 51 -/
mutual
def spec_l1Same.j0 : Nat → Bool → Int → Int → ByteArray → List (S31) → Int → Int → ByteArray → List (S31) → Option (Bool)
  | 0, _, _, _, _, _, _, _, _, _ => none
  | k + 1, x33, x116000, x116001, x116002, x116003, x117000, x117001, x117002, x117003 => if x33 = true then (some false) else (spec_l1Same.l0 k 0 x116000 x116001 x116002 x116003 x117000 x117001 x117002 x117003)
def spec_l1Same.l0 : Nat → Int → Int → Int → ByteArray → List (S31) → Int → Int → ByteArray → List (S31) → Option (Bool)
  | 0, _, _, _, _, _, _, _, _, _ => none
  | k + 1, x5, x116000, x116001, x116002, x116003, x117000, x117001, x117002, x117003 => if x5 < (x116003.length : Int) then (if 0 ≤ x5 then (if x5 < (x117003.length : Int) then ((spec_l1Same.f k ((rd_T31 x116003 x5).f0) ((rd_T31 x116003 x5).f1) ((rd_T31 x116003 x5).f2) ((rd_T31 x116003 x5).f3) ((rd_T31 x117003 x5).f0) ((rd_T31 x117003 x5).f1) ((rd_T31 x117003 x5).f2) ((rd_T31 x117003 x5).f3)).bind fun t119 => (if t119 = true then (spec_l1Same.l0 k (wrap64 (x5 + 1)) x116000 x116001 x116002 x116003 x117000 x117001 x117002 x117003) else (some false))) else (none)) else (none)) else (some true)
def spec_l1Same.f : Nat → Int → Int → ByteArray → List (S31) → Int → Int → ByteArray → List (S31) → Option (Bool)
  | 0, _, _, _, _, _, _, _, _ => none
  | k + 1, a0_0, a0_1, a0_2, l0_3, a1_0, a1_1, a1_2, l1_3 => if a0_0 = a1_0 then (if a0_1 = a1_1 then (if a0_2.toList = a1_2.toList then (spec_l1Same.j0 k ((l0_3.length : Int) != (l1_3.length : Int)) a0_0 a0_1 a0_2 l0_3 a1_0 a1_1 a1_2 l1_3) else (spec_l1Same.j0 k true a0_0 a0_1 a0_2 l0_3 a1_0 a1_1 a1_2 l1_3)) else (spec_l1Same.j0 k true a0_0 a0_1 a0_2 l0_3 a1_0 a1_1 a1_2 l1_3)) else (spec_l1Same.j0 k true a0_0 a0_1 a0_2 l0_3 a1_0 a1_1 a1_2 l1_3)
end
def spec_l1Same.T6 : Bool × List (List Nat × List Nat) := (true, [([], []), ([0], [0]), ([], []), ([1, 2], [1, 2]), ([3], [3]), ([], []), ([5], [5]), ([], []), ([6, 7], [6, 7]), ([8], [8]), ([4, 9], [4, 9]), ([10], [10])])
def spec_l1Same.B6 : List Nat := [0, 1, 0, 7, 15, 0, 32, 0, 224, 480, 1023, 2047]
theorem spec_l1Same.tab6 : rtab .any (opsOf Try.f51 6) = spec_l1Same.T6 := by kernel_rfl
theorem spec_l1Same.bits6 : waitsOk spec_l1Same.T6.2 spec_l1Same.B6 = true := by kernel_rfl
set_option maxHeartbeats 8000000 in
set_option maxRecDepth 100000 in
theorem spec_l1Same.calls (k : Nat) : ∀ (a0_0 : Int) (a0_1 : Int) (a0_2 : ByteArray) (A0_3 : Option Addr) (c0_3 : Nat) (l0_3 : List (S31)) (a1_0 : Int) (a1_1 : Int) (a1_2 : ByteArray) (A1_3 : Option Addr) (c1_3 : Nat) (l1_3 : List (S31)) (r : Bool) (w : World) (hr0_3 : Kd.C k31 w A0_3 l0_3.length l0_3) (hc0_3 : l0_3.length ≤ c0_3) (hr1_3 : Kd.C k31 w A1_3 l1_3.length l1_3) (hc1_3 : l1_3.length ≤ c1_3) (h : spec_l1Same.f k a0_0 a0_1 a0_2 l0_3 a1_0 a1_1 a1_2 l1_3 = some r),
    Calls Try.prog 51 #[.agg #[.int .i64 a0_0, .int .i64 a0_1, .string a0_2, .slice A0_3 l0_3.length c0_3], .agg #[.int .i64 a1_0, .int .i64 a1_1, .string a1_2, .slice A1_3 l1_3.length c1_3]] w fun e w' => e = .returned (.bool r) ∧ Below w.heap.size w w' := by
  induction k using Nat.strongRecOn with
  | _ k ih =>
  intro a0_0 a0_1 a0_2 A0_3 c0_3 l0_3 a1_0 a1_1 a1_2 A1_3 c1_3 l1_3 r w hr0_3 hc0_3 hr1_3 hc1_3 h
  cases k with
  | zero => exact absurd h (by simp [spec_l1Same.f])
  | succ k =>
  simp only [spec_l1Same.f] at h
  have hu31 := Try.underlying31
  have HR0_3 := Aside0.mk hr0_3
  have HC0_3 := Aside0.mk hc0_3
  clear hr0_3 hc0_3
  have HR1_3 := Aside0.mk hr1_3
  have HC1_3 := Aside0.mk hc1_3
  clear hr1_3 hc1_3
  have HB := Aside0.mk (Below.refl w.heap.size w)
  have H : (if a0_0 = a1_0 then (if a0_1 = a1_1 then (if a0_2.toList = a1_2.toList then (spec_l1Same.j0 k ((l0_3.length : Int) != (l1_3.length : Int)) a0_0 a0_1 a0_2 l0_3 a1_0 a1_1 a1_2 l1_3) else (spec_l1Same.j0 k true a0_0 a0_1 a0_2 l0_3 a1_0 a1_1 a1_2 l1_3)) else (spec_l1Same.j0 k true a0_0 a0_1 a0_2 l0_3 a1_0 a1_1 a1_2 l1_3)) else (spec_l1Same.j0 k true a0_0 a0_1 a0_2 l0_3 a1_0 a1_1 a1_2 l1_3)) = some r := h
  clear h
  have HC3 := Aside0.mk H
  clear H
  go_enter Try.func51, Try.ntmps51
  go_upto_region 1 with (first | ((with_reducible refine gate_dst (N := 2) rfl ?_); (try (refine gate_guard (by rfl) ?_; dsimp only)); refine box_event ?hg (N := 2) ?hd (cs := #[.int .i64 a0_0, .int .i64 a0_1, .string a0_2, .slice A0_3 l0_3.length c0_3]) (t := 31) ?hr ?_; (case hd => rfl); (case hg => rfl); (case hr => first | (go_simp; done) | (go_simp; rfl)); intro gb115 hg w4 hbox hb; have BK115 := Aside0.mk (hbox); have GW115 := gw_ hg; have GE115 := gw_ hg; replace HB := bs_ hb; clear hb hbox hg) | ((with_reducible refine gate_dst (N := 3) rfl ?_); (try (refine gate_guard (by rfl) ?_; dsimp only)); refine box_event ?hg (N := 3) ?hd (cs := #[.int .i64 a1_0, .int .i64 a1_1, .string a1_2, .slice A1_3 l1_3.length c1_3]) (t := 31) ?hr ?_; (case hd => rfl); (case hg => rfl); (case hr => first | (go_simp; done) | (go_simp; rfl)); intro gb116 hg w5 hbox hb; have BK116 := Aside0.mk (hbox); have GW116 := gw_ hg; have GE116 := gw_ hg; have NB115_116 := nlt_ hg BK115; have NB116_115 := ngt_ hg BK115; replace BK115 := bb_ BK115 hb; replace HB := bs_ hb; clear hb hbox hg))
  (try simp only [Act.put, List.setIfInBounds_toArray, List.set_cons_zero, List.set_cons_succ])
  go_cut [33] (fun v33 wc => ∃ (kq : Nat) (x33_2 : Bool), v33 = .bool x33_2 ∧ Aside0 (spec_l1Same.j0 kq x33_2 a0_0 a0_1 a0_2 l0_3 a1_0 a1_1 a1_2 l1_3 = some r) ∧ Aside0 (kq ≤ k) ∧ Aside0 (wc.heap[gb115]? = some (.cells #[.int .i64 a0_0, .int .i64 a0_1, .string a0_2, (.slice A0_3 l0_3.length c0_3)] 31 (0, 0))) ∧ Aside0 (wc.heap[gb116]? = some (.cells #[.int .i64 a1_0, .int .i64 a1_1, .string a1_2, (.slice A1_3 l1_3.length c1_3)] 31 (0, 0))) ∧ Aside0 (Below w.heap.size w wc))
  case first =>
    have H := HC3.out
    clear HC3
    by_cases c6 : a0_0 = a1_0
    rotate_left
    · rw [if_neg c6] at H
      have c6b0 : (a0_0 == a1_0) = false := beq_eq_false_iff_ne.mpr c6
      have c6b1 : (a0_0 != a1_0) = true := bne_iff_ne.mpr c6
      (first | rw [c6b0] | (simp only [i64_w, i32_w]; rw [c6b0]) | skip)
      have H' := Aside0.mk H
      clear H
      have hnb18 := NB115_116.out
      have hnc18 := NB116_115.out
      obtain ⟨hcz19_0, hcz19_1, hcz19_2, hcz19_3, hfz19_0, hfz19_1, hfz19_2, hfz19_3⟩ := blk4 BK115
      obtain ⟨hcz20_0, hcz20_1, hcz20_2, hcz20_3, hfz20_0, hfz20_1, hfz20_2, hfz20_3⟩ := blk4 BK116
      go_wp2
      go_meet
      case rel => exact ⟨_, (true), sm_, H', ⟨by first | omega | exact Nat.le_refl _⟩, ⟨by refine pe_ ?_; exact BK115.out⟩, ⟨by refine pe_ ?_; exact BK116.out⟩, ⟨bel_⟩⟩
    rw [if_pos c6] at H
    have c6b0 : (a0_0 == a1_0) = true := beq_iff_eq.mpr c6
    have c6b1 : (a0_0 != a1_0) = false := bne_eq_false_iff_eq.mpr c6
    clear c6
    (first | rw [c6b0] | (simp only [i64_w, i32_w]; rw [c6b0]) | skip)
    by_cases c7 : a0_1 = a1_1
    rotate_left
    · rw [if_neg c7] at H
      have c7b0 : (a0_1 == a1_1) = false := beq_eq_false_iff_ne.mpr c7
      have c7b1 : (a0_1 != a1_1) = true := bne_iff_ne.mpr c7
      have H' := Aside0.mk H
      clear H
      have hnb15 := NB115_116.out
      have hnc15 := NB116_115.out
      obtain ⟨hcz16_0, hcz16_1, hcz16_2, hcz16_3, hfz16_0, hfz16_1, hfz16_2, hfz16_3⟩ := blk4 BK115
      obtain ⟨hcz17_0, hcz17_1, hcz17_2, hcz17_3, hfz17_0, hfz17_1, hfz17_2, hfz17_3⟩ := blk4 BK116
      go_wp2
      go_meet
      case rel => exact ⟨_, (true), sm_, H', ⟨by first | omega | exact Nat.le_refl _⟩, ⟨by refine pe_ ?_; exact BK115.out⟩, ⟨by refine pe_ ?_; exact BK116.out⟩, ⟨bel_⟩⟩
    rw [if_pos c7] at H
    have c7b0 : (a0_1 == a1_1) = true := beq_iff_eq.mpr c7
    have c7b1 : (a0_1 != a1_1) = false := bne_eq_false_iff_eq.mpr c7
    clear c7
    by_cases c8 : a0_2.toList = a1_2.toList
    · rw [if_pos c8] at H
      have c8b0 : (a0_2.toList == a1_2.toList) = true := beq_iff_eq.mpr c8
      have c8b1 : (a0_2.toList != a1_2.toList) = false := bne_eq_false_iff_eq.mpr c8
      clear c8
      have H' := Aside0.mk H
      clear H
      have hnb9 := NB115_116.out
      have hnc9 := NB116_115.out
      obtain ⟨hcz10_0, hcz10_1, hcz10_2, hcz10_3, hfz10_0, hfz10_1, hfz10_2, hfz10_3⟩ := blk4 BK115
      obtain ⟨hcz11_0, hcz11_1, hcz11_2, hcz11_3, hfz11_0, hfz11_1, hfz11_2, hfz11_3⟩ := blk4 BK116
      go_wp2
      go_meet
      case rel => exact ⟨_, (((l0_3.length : Int) != (l1_3.length : Int))), sm_, H', ⟨by first | omega | exact Nat.le_refl _⟩, ⟨by refine pe_ ?_; exact BK115.out⟩, ⟨by refine pe_ ?_; exact BK116.out⟩, ⟨bel_⟩⟩
    rw [if_neg c8] at H
    have c8b0 : (a0_2.toList == a1_2.toList) = false := beq_eq_false_iff_ne.mpr c8
    have c8b1 : (a0_2.toList != a1_2.toList) = true := bne_iff_ne.mpr c8
    have H' := Aside0.mk H
    clear H
    have hnb12 := NB115_116.out
    have hnc12 := NB116_115.out
    obtain ⟨hcz13_0, hcz13_1, hcz13_2, hcz13_3, hfz13_0, hfz13_1, hfz13_2, hfz13_3⟩ := blk4 BK115
    obtain ⟨hcz14_0, hcz14_1, hcz14_2, hcz14_3, hfz14_0, hfz14_1, hfz14_2, hfz14_3⟩ := blk4 BK116
    go_wp2
    go_meet
    case rel => exact ⟨_, (true), sm_, H', ⟨by first | omega | exact Nat.le_refl _⟩, ⟨by refine pe_ ?_; exact BK115.out⟩, ⟨by refine pe_ ?_; exact BK116.out⟩, ⟨bel_⟩⟩
  case rest =>
    clear HC3
    try clear c1
    try clear p2
    try clear c5
    try clear c6
    try clear c6b0
    try clear c6b1
    try clear c7
    try clear c7b0
    try clear c7b1
    try clear c8
    try clear c8b0
    try clear c8b1
    try clear c9
    try clear c12
    try clear c15
    try clear c18
    try clear hcz10_0 hcz10_1 hcz10_2 hcz10_3
    try clear hcz11_0 hcz11_1 hcz11_2 hcz11_3
    try clear hcz13_0 hcz13_1 hcz13_2 hcz13_3
    try clear hcz14_0 hcz14_1 hcz14_2 hcz14_3
    try clear hcz16_0 hcz16_1 hcz16_2 hcz16_3
    try clear hcz17_0 hcz17_1 hcz17_2 hcz17_3
    try clear hcz19_0 hcz19_1 hcz19_2 hcz19_3
    try clear hcz20_0 hcz20_1 hcz20_2 hcz20_3
    try clear hfz10_0 hfz10_1 hfz10_2 hfz10_3
    try clear hfz11_0 hfz11_1 hfz11_2 hfz11_3
    try clear hfz13_0 hfz13_1 hfz13_2 hfz13_3
    try clear hfz14_0 hfz14_1 hfz14_2 hfz14_3
    try clear hfz16_0 hfz16_1 hfz16_2 hfz16_3
    try clear hfz17_0 hfz17_1 hfz17_2 hfz17_3
    try clear hfz19_0 hfz19_1 hfz19_2 hfz19_3
    try clear hfz20_0 hfz20_1 hfz20_2 hfz20_3
    obtain ⟨kq, x33_2, rfl, HA, HJ2, BK115, BK116, HB⟩ := hcut
    cases kq with
    | zero => exact absurd HA.out (by simp [spec_l1Same.j0])
    | succ kj2 =>
      have H := HA.out
      clear HA
      simp only [spec_l1Same.j0] at H
      by_cases c21 : x33_2 = true
      · subst c21
        have H1 : (some false) = some r := by rw [if_pos rfl] at H; exact H
        clear H
        have H := H1
        clear H1
        obtain rfl := Option.some.inj H
        go_wp2
        go_ret
        exact re_
      replace c21 := Bool.eq_false_iff.mpr c21
      subst c21
      have H1 : (spec_l1Same.l0 kj2 0 a0_0 a0_1 a0_2 l0_3 a1_0 a1_1 a1_2 l1_3) = some r := by rw [if_neg (show ¬ (false = true) by decide)] at H; exact H
      clear H
      have H := H1
      clear H1
      have H' := Aside0.mk H
      clear H
      go_wp2
      go_loopg [5] kj2 (fun kq v5 w' => ∃ (x5_2 : Int), v5 = .int .i64 x5_2 ∧ Aside0 (spec_l1Same.l0 kq x5_2 a0_0 a0_1 a0_2 l0_3 a1_0 a1_1 a1_2 l1_3 = some r) ∧ Aside0 (kq ≤ kj2) ∧ Aside0 (w'.heap[gb115]? = some (.cells #[.int .i64 a0_0, .int .i64 a0_1, .string a0_2, (.slice A0_3 l0_3.length c0_3)] 31 (0, 0))) ∧ Aside0 (w'.heap[gb116]? = some (.cells #[.int .i64 a1_0, .int .i64 a1_1, .string a1_2, (.slice A1_3 l1_3.length c1_3)] 31 (0, 0))) ∧ Aside0 (Below w.heap.size w w'))
      case atStart => exact ⟨(0), sm_, H', ⟨Nat.le_refl _⟩, ⟨by refine pe_ ?_; exact BK115.out⟩, ⟨by refine pe_ ?_; exact BK116.out⟩, ⟨bel_⟩⟩
      case round =>
        clear H'
        try clear c1
        try clear c2
        try clear p2
        try clear c5
        try clear c6
        try clear c6b0
        try clear c6b1
        try clear c7
        try clear c7b0
        try clear c7b1
        try clear c8
        try clear c8b0
        try clear c8b1
        try clear c9
        try clear c12
        try clear c15
        try clear c18
        try clear c21
        try clear hcz10_0 hcz10_1 hcz10_2 hcz10_3
        try clear hcz11_0 hcz11_1 hcz11_2 hcz11_3
        try clear hcz13_0 hcz13_1 hcz13_2 hcz13_3
        try clear hcz14_0 hcz14_1 hcz14_2 hcz14_3
        try clear hcz16_0 hcz16_1 hcz16_2 hcz16_3
        try clear hcz17_0 hcz17_1 hcz17_2 hcz17_3
        try clear hcz19_0 hcz19_1 hcz19_2 hcz19_3
        try clear hcz20_0 hcz20_1 hcz20_2 hcz20_3
        try clear hfz10_0 hfz10_1 hfz10_2 hfz10_3
        try clear hfz11_0 hfz11_1 hfz11_2 hfz11_3
        try clear hfz13_0 hfz13_1 hfz13_2 hfz13_3
        try clear hfz14_0 hfz14_1 hfz14_2 hfz14_3
        try clear hfz16_0 hfz16_1 hfz16_2 hfz16_3
        try clear hfz17_0 hfz17_1 hfz17_2 hfz17_3
        try clear hfz19_0 hfz19_1 hfz19_2 hfz19_3
        try clear hfz20_0 hfz20_1 hfz20_2 hfz20_3
        try clear p2
        obtain ⟨x5_2, rfl, HA, HK2, BK115, BK116, HB⟩ := hrel
        cases gk with
        | zero => exact absurd HA.out (by simp [spec_l1Same.l0])
        | succ k2 =>
          have H := HA.out
          clear HA
          simp only [spec_l1Same.l0] at H
          by_cases c22 : x5_2 < (l0_3.length : Int)
          rotate_left
          · rw [if_neg c22] at H
            have c22b0 : decide (x5_2 < (l0_3.length : Int)) = false := decide_eq_false c22
            clear c22
            obtain rfl := Option.some.inj H
            have hnb35 := NB115_116.out
            have hnc35 := NB116_115.out
            obtain ⟨hcz36_0, hcz36_1, hcz36_2, hcz36_3, hfz36_0, hfz36_1, hfz36_2, hfz36_3⟩ := blk4 BK115
            go_wp2
            go_ret
            exact re_
          rw [if_pos c22] at H
          have c22b0 : decide (x5_2 < (l0_3.length : Int)) = true := decide_eq_true c22
          clear c22
          by_cases c23 : 0 ≤ x5_2
          rotate_left
          · rw [if_neg c23] at H
            exact absurd H (by simp)
          rw [if_pos c23] at H
          have c23b0 : decide (0 ≤ x5_2) = true := decide_eq_true c23
          clear c23
          by_cases c24 : x5_2 < (l1_3.length : Int)
          rotate_left
          · rw [if_neg c24] at H
            exact absurd H (by simp)
          rw [if_pos c24] at H
          have c24b0 : decide (x5_2 < (l1_3.length : Int)) = true := decide_eq_true c24
          clear c24
          replace H := Option.bind_eq_some_iff.mp H
          obtain ⟨t119, A250, H⟩ := H
          replace H : (if t119 = true then (spec_l1Same.l0 k2 (wrap64 (x5_2 + 1)) a0_0 a0_1 a0_2 l0_3 a1_0 a1_1 a1_2 l1_3) else (some false)) = some r := H
          have A25 := Aside0.mk A250
          clear A250
          by_cases c26 : t119 = true
          · subst c26
            have H1 : (spec_l1Same.l0 k2 (wrap64 (x5_2 + 1)) a0_0 a0_1 a0_2 l0_3 a1_0 a1_1 a1_2 l1_3) = some r := by rw [if_pos rfl] at H; exact H
            clear H
            have H := H1
            clear H1
            have H' := Aside0.mk H
            clear H
            have hnb27 := NB115_116.out
            have hnc27 := NB116_115.out
            obtain ⟨hcz28_0, hcz28_1, hcz28_2, hcz28_3, hfz28_0, hfz28_1, hfz28_2, hfz28_3⟩ := blk4 BK115
            try go_wp2
            replace BK115 := Aside0.mk (blk_drew BK115.out)
            replace BK116 := Aside0.mk (blk_drew BK116.out)
            replace HB := Aside0.mk (below_drew1 HB.out)
            have p117 : 0 ≤ (x5_2 : Int) := od_
            have q117 : x5_2 < (l0_3.length : Int) := od_
            obtain ⟨ad117, A117_3, c117_3, e117, hx117_0, hx117_1, hx117_2, hx117_3, hl117_3, hi117_3⟩ := at_T31 HR0_3.out x5_2 p117 q117
            have hw117_3 := hx117_3
            have hw117_2 := hx117_2
            have hw117_1 := hx117_1
            have hw117_0 := hx117_0
            cases e117
            replace hx117_0 := mv_ HB hx117_0
            replace hx117_1 := mv_ HB hx117_1
            replace hx117_2 := mv_ HB hx117_2
            replace hx117_3 := mv_ HB hx117_3
            have HR117_3 := Aside0.mk hi117_3
            have HC117_3 := Aside0.mk hl117_3
            clear hi117_3 hl117_3
            replace p117 := eq_true p117
            replace q117 := eq_true q117
            have p118 : 0 ≤ (x5_2 : Int) := od_
            have q118 : x5_2 < (l1_3.length : Int) := od_
            obtain ⟨ad118, A118_3, c118_3, e118, hx118_0, hx118_1, hx118_2, hx118_3, hl118_3, hi118_3⟩ := at_T31 HR1_3.out x5_2 p118 q118
            have hw118_3 := hx118_3
            have hw118_2 := hx118_2
            have hw118_1 := hx118_1
            have hw118_0 := hx118_0
            cases e118
            replace hx118_0 := mv_ HB hx118_0
            replace hx118_1 := mv_ HB hx118_1
            replace hx118_2 := mv_ HB hx118_2
            replace hx118_3 := mv_ HB hx118_3
            have HR118_3 := Aside0.mk hi118_3
            have HC118_3 := Aside0.mk hl118_3
            clear hi118_3 hl118_3
            replace p118 := eq_true p118
            replace q118 := eq_true q118
            refine start_ (n := 12) (S := fun w' => w'.cell? ⟨gb115, 0, none⟩ = some (.int .i64 a0_0) ∧ w'.cell? ⟨gb115, 1, none⟩ = some (.int .i64 a0_1) ∧ w'.cell? ⟨gb115, 2, none⟩ = some (.string a0_2) ∧ w'.cell? ⟨gb115, 3, none⟩ = some (.slice (some ad117) l0_3.length c0_3) ∧ w'.cell? ⟨gb116, 0, none⟩ = some (.int .i64 a1_0) ∧ w'.cell? ⟨gb116, 1, none⟩ = some (.int .i64 a1_1) ∧ w'.cell? ⟨gb116, 2, none⟩ = some (.string a1_2) ∧ w'.cell? ⟨gb116, 3, none⟩ = some (.slice (some ad118) l1_3.length c1_3) ∧ w'.cell? (ad117.add ((x5_2).toNat * 4)) = some (.int .i64 ((rd_T31 l0_3 x5_2).f0)) ∧ w'.cell? ⟨(ad117.add ((x5_2).toNat * 4)).block, (ad117.add ((x5_2).toNat * 4)).off + 1, none⟩ = some (.int .i64 ((rd_T31 l0_3 x5_2).f1)) ∧ w'.cell? ⟨(ad117.add ((x5_2).toNat * 4)).block, (ad117.add ((x5_2).toNat * 4)).off + 2, none⟩ = some (.string ((rd_T31 l0_3 x5_2).f2)) ∧ w'.cell? ⟨(ad117.add ((x5_2).toNat * 4)).block, (ad117.add ((x5_2).toNat * 4)).off + 3, none⟩ = some (.slice A117_3 ((rd_T31 l0_3 x5_2).f3).length c117_3) ∧ w'.cell? (ad118.add ((x5_2).toNat * 4)) = some (.int .i64 ((rd_T31 l1_3 x5_2).f0)) ∧ w'.cell? ⟨(ad118.add ((x5_2).toNat * 4)).block, (ad118.add ((x5_2).toNat * 4)).off + 1, none⟩ = some (.int .i64 ((rd_T31 l1_3 x5_2).f1)) ∧ w'.cell? ⟨(ad118.add ((x5_2).toNat * 4)).block, (ad118.add ((x5_2).toNat * 4)).off + 2, none⟩ = some (.string ((rd_T31 l1_3 x5_2).f2)) ∧ w'.cell? ⟨(ad118.add ((x5_2).toNat * 4)).block, (ad118.add ((x5_2).toNat * 4)).off + 3, none⟩ = some (.slice A118_3 ((rd_T31 l1_3 x5_2).f3).length c118_3)) (ds := []) #[false, false, false, false, false, false, false, false, false, false, false, false] (by kernel_rfl) rfl rfl ⟨(blkc BK115 0), (blkc BK115 1), (blkc BK115 2), (blkc BK115 3), (blkc BK116 0), (blkc BK116 1), (blkc BK116 2), (blkc BK116 3), (mv_ HB hw117_0), (mv_ HB hw117_1), (mv_ HB hw117_2), (mv_ HB hw117_3), (mv_ HB hw118_0), (mv_ HB hw118_1), (mv_ HB hw118_2), (mv_ HB hw118_3)⟩ (fun hHeld => ?_); refine with_tabW spec_l1Same.tab6 spec_l1Same.bits6 (fun HT_ HW_ => ?_)
            generalize wr.drew = w29 at BK115 BK116 HB HR117_3 HR118_3 hx117_0 hx117_1 hx117_2 hx117_3 hx118_0 hx118_1 hx118_2 hx118_3 hHeld ⊢
            refine puA 0 (some 41) ?_
            refine puA 2 (some 43) ?_
            refine puA 5 (some 46) ?_
            refine puA 7 (some 48) ?_
            refine taA 1 (some 42) ?_
            refine puA 3 (some 44) ?_
            refine taA 4 (some 45) ?_
            refine taA 6 (some 47) ?_
            refine puA 8 (some 49) ?_
            refine taA 9 (some 50) ?_
            refine one_ (i := 10) (N := some 51) #[true, true, true, true, true, true, true, true, true, true, true, false] rfl rfl (one_of HT_.out (by kernel_rfl)) (by decide) (fun K hK => ?_)
            refine goes_ Try.func51 (by kernel_rfl) rfl #[.agg #[.int .i64 ((rd_T31 l0_3 x5_2).f0), .int .i64 ((rd_T31 l0_3 x5_2).f1), .string ((rd_T31 l0_3 x5_2).f2), .slice A117_3 ((rd_T31 l0_3 x5_2).f3).length c117_3], .agg #[.int .i64 ((rd_T31 l1_3 x5_2).f0), .int .i64 ((rd_T31 l1_3 x5_2).f1), .string ((rd_T31 l1_3 x5_2).f2), .slice A118_3 ((rd_T31 l1_3 x5_2).f3).length c118_3]] (by rfl) rfl rfl ar_ ?_
            with_reducible refine (ih k2 (by have := HJ2.out; have := HK2.out; omega) ((rd_T31 l0_3 x5_2).f0) ((rd_T31 l0_3 x5_2).f1) ((rd_T31 l0_3 x5_2).f2) _ _ ((rd_T31 l0_3 x5_2).f3) ((rd_T31 l1_3 x5_2).f0) ((rd_T31 l1_3 x5_2).f1) ((rd_T31 l1_3 x5_2).f2) _ _ ((rd_T31 l1_3 x5_2).f3) true _ ?side1 ?side2 ?side3 ?side4 A25.out).mono ?_
            (case side1 => exact rdb_ HR117_3)
            (case side2 => exact HC117_3.out)
            (case side3 => exact rdb_ HR118_3)
            (case side4 => exact HC118_3.out)
            rintro e w30 ⟨rfl, hb⟩
            refine ⟨_, rfl, ?_⟩
            replace BK115 := bb_ BK115 hb
            replace BK116 := bb_ BK116 hb
            replace HB := bs_ hb
            (try clear hb)
            (try clear hb2)
            (try clear hk)
            (try clear hi)
            refine hK.out _ _ ⟨(blkc BK115 0), (blkc BK115 1), (blkc BK115 2), (blkc BK115 3), (blkc BK116 0), (blkc BK116 1), (blkc BK116 2), (blkc BK116 3), (mv_ HB hw117_0), (mv_ HB hw117_1), (mv_ HB hw117_2), (mv_ HB hw117_3), (mv_ HB hw118_0), (mv_ HB hw118_1), (mv_ HB hw118_2), (mv_ HB hw118_3)⟩ (fun hHeld => ?_)
            clear hK K
            refine norm_ (a' := ?_) ?_ ?_
            rotate_left
            · show Act.put _ (some 51) _ = _
              simp only [Act.put, List.setIfInBounds_toArray, List.set_cons_zero, List.set_cons_succ, i64_w, i32_w]
              rfl
            refine puA 11 (some 52) ?_
            refine done_ (done_of HT_.out (by kernel_rfl)) ?_
            try go_wp2
            go_roundg k2
            case measure => have := HJ2.out; have := HK2.out; omega
            case rel => exact ⟨(wrap64 (x5_2 + 1)), sm_, H', ⟨by have := HJ2.out; have := HK2.out; omega⟩, ⟨by refine pe_ ?_; exact BK115.out⟩, ⟨by refine pe_ ?_; exact BK116.out⟩, ⟨bel_⟩⟩
          replace c26 := Bool.eq_false_iff.mpr c26
          subst c26
          have H1 : (some false) = some r := by rw [if_neg (show ¬ (false = true) by decide)] at H; exact H
          clear H
          have H := H1
          clear H1
          obtain rfl := Option.some.inj H
          have hnb31 := NB115_116.out
          have hnc31 := NB116_115.out
          obtain ⟨hcz32_0, hcz32_1, hcz32_2, hcz32_3, hfz32_0, hfz32_1, hfz32_2, hfz32_3⟩ := blk4 BK115
          try go_wp2
          replace BK115 := Aside0.mk (blk_drew BK115.out)
          replace BK116 := Aside0.mk (blk_drew BK116.out)
          replace HB := Aside0.mk (below_drew1 HB.out)
          have p117 : 0 ≤ (x5_2 : Int) := od_
          have q117 : x5_2 < (l0_3.length : Int) := od_
          obtain ⟨ad117, A117_3, c117_3, e117, hx117_0, hx117_1, hx117_2, hx117_3, hl117_3, hi117_3⟩ := at_T31 HR0_3.out x5_2 p117 q117
          have hw117_3 := hx117_3
          have hw117_2 := hx117_2
          have hw117_1 := hx117_1
          have hw117_0 := hx117_0
          cases e117
          replace hx117_0 := mv_ HB hx117_0
          replace hx117_1 := mv_ HB hx117_1
          replace hx117_2 := mv_ HB hx117_2
          replace hx117_3 := mv_ HB hx117_3
          have HR117_3 := Aside0.mk hi117_3
          have HC117_3 := Aside0.mk hl117_3
          clear hi117_3 hl117_3
          replace p117 := eq_true p117
          replace q117 := eq_true q117
          have p118 : 0 ≤ (x5_2 : Int) := od_
          have q118 : x5_2 < (l1_3.length : Int) := od_
          obtain ⟨ad118, A118_3, c118_3, e118, hx118_0, hx118_1, hx118_2, hx118_3, hl118_3, hi118_3⟩ := at_T31 HR1_3.out x5_2 p118 q118
          have hw118_3 := hx118_3
          have hw118_2 := hx118_2
          have hw118_1 := hx118_1
          have hw118_0 := hx118_0
          cases e118
          replace hx118_0 := mv_ HB hx118_0
          replace hx118_1 := mv_ HB hx118_1
          replace hx118_2 := mv_ HB hx118_2
          replace hx118_3 := mv_ HB hx118_3
          have HR118_3 := Aside0.mk hi118_3
          have HC118_3 := Aside0.mk hl118_3
          clear hi118_3 hl118_3
          replace p118 := eq_true p118
          replace q118 := eq_true q118
          refine start_ (n := 12) (S := fun w' => w'.cell? ⟨gb115, 0, none⟩ = some (.int .i64 a0_0) ∧ w'.cell? ⟨gb115, 1, none⟩ = some (.int .i64 a0_1) ∧ w'.cell? ⟨gb115, 2, none⟩ = some (.string a0_2) ∧ w'.cell? ⟨gb115, 3, none⟩ = some (.slice (some ad117) l0_3.length c0_3) ∧ w'.cell? ⟨gb116, 0, none⟩ = some (.int .i64 a1_0) ∧ w'.cell? ⟨gb116, 1, none⟩ = some (.int .i64 a1_1) ∧ w'.cell? ⟨gb116, 2, none⟩ = some (.string a1_2) ∧ w'.cell? ⟨gb116, 3, none⟩ = some (.slice (some ad118) l1_3.length c1_3) ∧ w'.cell? (ad117.add ((x5_2).toNat * 4)) = some (.int .i64 ((rd_T31 l0_3 x5_2).f0)) ∧ w'.cell? ⟨(ad117.add ((x5_2).toNat * 4)).block, (ad117.add ((x5_2).toNat * 4)).off + 1, none⟩ = some (.int .i64 ((rd_T31 l0_3 x5_2).f1)) ∧ w'.cell? ⟨(ad117.add ((x5_2).toNat * 4)).block, (ad117.add ((x5_2).toNat * 4)).off + 2, none⟩ = some (.string ((rd_T31 l0_3 x5_2).f2)) ∧ w'.cell? ⟨(ad117.add ((x5_2).toNat * 4)).block, (ad117.add ((x5_2).toNat * 4)).off + 3, none⟩ = some (.slice A117_3 ((rd_T31 l0_3 x5_2).f3).length c117_3) ∧ w'.cell? (ad118.add ((x5_2).toNat * 4)) = some (.int .i64 ((rd_T31 l1_3 x5_2).f0)) ∧ w'.cell? ⟨(ad118.add ((x5_2).toNat * 4)).block, (ad118.add ((x5_2).toNat * 4)).off + 1, none⟩ = some (.int .i64 ((rd_T31 l1_3 x5_2).f1)) ∧ w'.cell? ⟨(ad118.add ((x5_2).toNat * 4)).block, (ad118.add ((x5_2).toNat * 4)).off + 2, none⟩ = some (.string ((rd_T31 l1_3 x5_2).f2)) ∧ w'.cell? ⟨(ad118.add ((x5_2).toNat * 4)).block, (ad118.add ((x5_2).toNat * 4)).off + 3, none⟩ = some (.slice A118_3 ((rd_T31 l1_3 x5_2).f3).length c118_3)) (ds := []) #[false, false, false, false, false, false, false, false, false, false, false, false] (by kernel_rfl) rfl rfl ⟨(blkc BK115 0), (blkc BK115 1), (blkc BK115 2), (blkc BK115 3), (blkc BK116 0), (blkc BK116 1), (blkc BK116 2), (blkc BK116 3), (mv_ HB hw117_0), (mv_ HB hw117_1), (mv_ HB hw117_2), (mv_ HB hw117_3), (mv_ HB hw118_0), (mv_ HB hw118_1), (mv_ HB hw118_2), (mv_ HB hw118_3)⟩ (fun hHeld => ?_); refine with_tabW spec_l1Same.tab6 spec_l1Same.bits6 (fun HT_ HW_ => ?_)
          generalize wr.drew = w33 at BK115 BK116 HB HR117_3 HR118_3 hx117_0 hx117_1 hx117_2 hx117_3 hx118_0 hx118_1 hx118_2 hx118_3 hHeld ⊢
          refine puA 0 (some 41) ?_
          refine puA 2 (some 43) ?_
          refine puA 5 (some 46) ?_
          refine puA 7 (some 48) ?_
          refine taA 1 (some 42) ?_
          refine puA 3 (some 44) ?_
          refine taA 4 (some 45) ?_
          refine taA 6 (some 47) ?_
          refine puA 8 (some 49) ?_
          refine taA 9 (some 50) ?_
          refine one_ (i := 10) (N := some 51) #[true, true, true, true, true, true, true, true, true, true, true, false] rfl rfl (one_of HT_.out (by kernel_rfl)) (by decide) (fun K hK => ?_)
          refine goes_ Try.func51 (by kernel_rfl) rfl #[.agg #[.int .i64 ((rd_T31 l0_3 x5_2).f0), .int .i64 ((rd_T31 l0_3 x5_2).f1), .string ((rd_T31 l0_3 x5_2).f2), .slice A117_3 ((rd_T31 l0_3 x5_2).f3).length c117_3], .agg #[.int .i64 ((rd_T31 l1_3 x5_2).f0), .int .i64 ((rd_T31 l1_3 x5_2).f1), .string ((rd_T31 l1_3 x5_2).f2), .slice A118_3 ((rd_T31 l1_3 x5_2).f3).length c118_3]] (by rfl) rfl rfl ar_ ?_
          with_reducible refine (ih k2 (by have := HJ2.out; have := HK2.out; omega) ((rd_T31 l0_3 x5_2).f0) ((rd_T31 l0_3 x5_2).f1) ((rd_T31 l0_3 x5_2).f2) _ _ ((rd_T31 l0_3 x5_2).f3) ((rd_T31 l1_3 x5_2).f0) ((rd_T31 l1_3 x5_2).f1) ((rd_T31 l1_3 x5_2).f2) _ _ ((rd_T31 l1_3 x5_2).f3) false _ ?side1 ?side2 ?side3 ?side4 A25.out).mono ?_
          (case side1 => exact rdb_ HR117_3)
          (case side2 => exact HC117_3.out)
          (case side3 => exact rdb_ HR118_3)
          (case side4 => exact HC118_3.out)
          rintro e w34 ⟨rfl, hb⟩
          refine ⟨_, rfl, ?_⟩
          replace BK115 := bb_ BK115 hb
          replace BK116 := bb_ BK116 hb
          replace HB := bs_ hb
          (try clear hb)
          (try clear hb2)
          (try clear hk)
          (try clear hi)
          refine hK.out _ _ ⟨(blkc BK115 0), (blkc BK115 1), (blkc BK115 2), (blkc BK115 3), (blkc BK116 0), (blkc BK116 1), (blkc BK116 2), (blkc BK116 3), (mv_ HB hw117_0), (mv_ HB hw117_1), (mv_ HB hw117_2), (mv_ HB hw117_3), (mv_ HB hw118_0), (mv_ HB hw118_1), (mv_ HB hw118_2), (mv_ HB hw118_3)⟩ (fun hHeld => ?_)
          clear hK K
          refine norm_ (a' := ?_) ?_ ?_
          rotate_left
          · show Act.put _ (some 51) _ = _
            simp only [Act.put, List.setIfInBounds_toArray, List.set_cons_zero, List.set_cons_succ, i64_w, i32_w]
            rfl
          refine puA 11 (some 52) ?_
          refine done_ (done_of HT_.out (by kernel_rfl)) ?_
          try go_wp2
          go_ret
          exact re_

/-! ### spec_l1Bool: function 86 -/
def spec_l1Bool.f (a0 : Bool) : Option (Int × Int × ByteArray × (List (S31))) := if a0 = true then (some (1, 1, (⟨#[]⟩ : ByteArray), ([] : List (S31)))) else (some (1, 0, (⟨#[]⟩ : ByteArray), ([] : List (S31))))
set_option maxHeartbeats 8000000 in
set_option maxRecDepth 100000 in
theorem spec_l1Bool.calls (a0 : Bool) (r1 : Int) (r2 : Int) (r3 : ByteArray) (r4 : List (S31)) (w : World) (h : spec_l1Bool.f a0 = some (r1, r2, r3, r4)) :
    Calls Try.prog 86 #[.bool a0] w fun e w' => ∃ v3_ : Value, e = .returned (.agg #[.int .i64 r1, .int .i64 r2, .string r3, v3_]) ∧ Kd.R k31 31 w' w.heap.size (fun _ => True) v3_ r4 ∧ Below w.heap.size w w' := by
  have hu31 := Try.underlying31
  have HB := Aside0.mk (Below.refl w.heap.size w)
  have H : (if a0 = true then (some (1, 1, (⟨#[]⟩ : ByteArray), ([] : List (S31)))) else (some (1, 0, (⟨#[]⟩ : ByteArray), ([] : List (S31))))) = some (r1, r2, r3, r4) := h
  clear h
  by_cases c2 : a0 = true
  · subst c2
    have H1 : (some (1, 1, (⟨#[]⟩ : ByteArray), ([] : List (S31)))) = some (r1, r2, r3, r4) := by rw [if_pos rfl] at H; exact H
    clear H
    have H := H1
    clear H1
    simp only [Option.some.injEq, Prod.mk.injEq] at H
    obtain ⟨rfl, rfl, rfl, rfl⟩ := H
    go_enter Try.func86, Try.ntmps86
    go_wp2_with (first | ((with_reducible refine gate_dst (N := 2) rfl ?_); refine bx_ 2 #[.int .i64 0, .int .i64 0, .string (⟨#[]⟩ : ByteArray), .slice none 0 0] 31 ?_; intro gb120 hg w3 hbox hb; have BK120 := Aside0.mk (hbox); have GW120 := gw_ hg; have GE120 := gw_ hg; replace HB := bs_ hb; clear hb hbox hg; obtain ⟨hcz4_0, hcz4_1, hcz4_2, hcz4_3, hfz4_0, hfz4_1, hfz4_2, hfz4_3⟩ := blk4 BK120))
    refine bodyPost_ret (results_cell_row rfl _ _ gb120 31 #[.int .i64 1, .int .i64 1, .string (⟨#[]⟩ : ByteArray), .slice none 0 0] (0, 0) _ rfl (by refine pe_ ?_; refine blk_put (cs := #[.int .i64 1, .int .i64 1, .string (⟨#[]⟩ : ByteArray), .slice none 0 0]) ?_ 3 _ rfl; refine pe_ ?_; refine blk_put (cs := #[.int .i64 1, .int .i64 1, .string (⟨#[]⟩ : ByteArray), .slice none 0 0]) ?_ 2 _ rfl; refine pe_ ?_; refine blk_put (cs := #[.int .i64 1, .int .i64 0, .string (⟨#[]⟩ : ByteArray), .slice none 0 0]) ?_ 1 _ rfl; refine pe_ ?_; refine blk_put (cs := #[.int .i64 0, .int .i64 0, .string (⟨#[]⟩ : ByteArray), .slice none 0 0]) ?_ 0 _ rfl; refine pe_ ?_; exact BK120.out) Try.underlying31 rfl (by kernel_rfl)) rfl ?_
    exact ⟨_, by first | rfl | (simp [errW_none, errW_some] <;> rfl) | (simp [*, errW_none, errW_some] <;> rfl), by first | exact Kd.R_nil _ _ _ _ _ | exact Kd.N_nil _ _ _ _ _ | exact Kd.V_nil _ _ _ _ _ | exact Kd.Q_nil _ _ _ _ _ | exact Kd.S_nil _ _ _ _ _, bel_⟩
  replace c2 := Bool.eq_false_iff.mpr c2
  subst c2
  have H1 : (some (1, 0, (⟨#[]⟩ : ByteArray), ([] : List (S31)))) = some (r1, r2, r3, r4) := by rw [if_neg (show ¬ (false = true) by decide)] at H; exact H
  clear H
  have H := H1
  clear H1
  simp only [Option.some.injEq, Prod.mk.injEq] at H
  obtain ⟨rfl, rfl, rfl, rfl⟩ := H
  go_enter Try.func86, Try.ntmps86
  go_wp2_with (first | ((with_reducible refine gate_dst (N := 2) rfl ?_); refine bx_ 2 #[.int .i64 0, .int .i64 0, .string (⟨#[]⟩ : ByteArray), .slice none 0 0] 31 ?_; intro gb120 hg w5 hbox hb; have BK120 := Aside0.mk (hbox); have GW120 := gw_ hg; have GE120 := gw_ hg; replace HB := bs_ hb; clear hb hbox hg; obtain ⟨hcz6_0, hcz6_1, hcz6_2, hcz6_3, hfz6_0, hfz6_1, hfz6_2, hfz6_3⟩ := blk4 BK120))
  refine bodyPost_ret (results_cell_row rfl _ _ gb120 31 #[.int .i64 1, .int .i64 0, .string (⟨#[]⟩ : ByteArray), .slice none 0 0] (0, 0) _ rfl (by refine pe_ ?_; refine blk_put (cs := #[.int .i64 1, .int .i64 0, .string (⟨#[]⟩ : ByteArray), .slice none 0 0]) ?_ 3 _ rfl; refine pe_ ?_; refine blk_put (cs := #[.int .i64 1, .int .i64 0, .string (⟨#[]⟩ : ByteArray), .slice none 0 0]) ?_ 2 _ rfl; refine pe_ ?_; refine blk_put (cs := #[.int .i64 1, .int .i64 0, .string (⟨#[]⟩ : ByteArray), .slice none 0 0]) ?_ 1 _ rfl; refine pe_ ?_; refine blk_put (cs := #[.int .i64 0, .int .i64 0, .string (⟨#[]⟩ : ByteArray), .slice none 0 0]) ?_ 0 _ rfl; refine pe_ ?_; exact BK120.out) Try.underlying31 rfl (by kernel_rfl)) rfl ?_
  exact ⟨_, by first | rfl | (simp [errW_none, errW_some] <;> rfl) | (simp [*, errW_none, errW_some] <;> rfl), by first | exact Kd.R_nil _ _ _ _ _ | exact Kd.N_nil _ _ _ _ _ | exact Kd.V_nil _ _ _ _ _ | exact Kd.Q_nil _ _ _ _ _ | exact Kd.S_nil _ _ _ _ _, bel_⟩

end Go.Proofs.Ytejikddbdhahaaa.G
