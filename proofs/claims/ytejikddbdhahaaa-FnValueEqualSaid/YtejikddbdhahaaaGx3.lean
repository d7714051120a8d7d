-- Printed by a program of this claim's writer (wip/gen), out of the translation. Lean checks it.
import Derived.Test.YtejikddbdhahaaaGx0
namespace Go.Proofs.Ytejikddbdhahaaa.G
open Go.RowKit Go.Proofs.YtejikddbdhahaaaW.PrintWords Go.Proofs.YtejikddbdhahaaaW.PrintLast Go.Proofs.YtejikddbdhahaaaW.PrintMore
attribute [local go_sem] max2_int min2_int max_two min_two max_three min_three max_four min_four Own.str_gtr Own.str_leq Own.str_geq   -- for this text's walks alone
open Own
set_option linter.unusedVariables false
set_option linter.unusedSimpArgs false

/-! ### laws_asValue: function 38 -/
mutual
def laws_asValue.j0 : Nat → Bool → Int → Int → ByteArray → List (S31) → Int → Int → ByteArray → List (S31) → Option (Bool)
  | 0, _, _, _, _, _, _, _, _, _ => none
  | k + 1, x33, x111000, x111001, x111002, x111003, x112000, x112001, x112002, x112003 => if x33 = true then (some false) else (laws_asValue.l0 k 0 x111000 x111001 x111002 x111003 x112000 x112001 x112002 x112003)
def laws_asValue.l0 : Nat → Int → Int → Int → ByteArray → List (S31) → Int → Int → ByteArray → List (S31) → Option (Bool)
  | 0, _, _, _, _, _, _, _, _, _ => none
  | k + 1, x5, x111000, x111001, x111002, x111003, x112000, x112001, x112002, x112003 => if x5 < (x111003.length : Int) then (if 0 ≤ x5 then (if x5 < (x112003.length : Int) then ((laws_asValue.f k ((rd_T31 x111003 x5).f0) ((rd_T31 x111003 x5).f1) ((rd_T31 x111003 x5).f2) ((rd_T31 x111003 x5).f3) ((rd_T31 x112003 x5).f0) ((rd_T31 x112003 x5).f1) ((rd_T31 x112003 x5).f2) ((rd_T31 x112003 x5).f3)).bind fun t114 => (if t114 = true then (laws_asValue.l0 k (wrap64 (x5 + 1)) x111000 x111001 x111002 x111003 x112000 x112001 x112002 x112003) else (some false))) else (none)) else (none)) else (some true)
def laws_asValue.f : Nat → Int → Int → ByteArray → List (S31) → Int → Int → ByteArray → List (S31) → Option (Bool)
  | 0, _, _, _, _, _, _, _, _ => none
  | k + 1, a0_0, a0_1, a0_2, l0_3, a1_0, a1_1, a1_2, l1_3 => if a0_0 = a1_0 then (if a0_1 = a1_1 then (if a0_2.toList = a1_2.toList then (laws_asValue.j0 k ((l0_3.length : Int) != (l1_3.length : Int)) a0_0 a0_1 a0_2 l0_3 a1_0 a1_1 a1_2 l1_3) else (laws_asValue.j0 k true a0_0 a0_1 a0_2 l0_3 a1_0 a1_1 a1_2 l1_3)) else (laws_asValue.j0 k true a0_0 a0_1 a0_2 l0_3 a1_0 a1_1 a1_2 l1_3)) else (laws_asValue.j0 k true a0_0 a0_1 a0_2 l0_3 a1_0 a1_1 a1_2 l1_3)
end
def laws_asValue.T6 : Bool × List (List Nat × List Nat) := (true, [([], []), ([0], [0]), ([], []), ([1, 2], [1, 2]), ([3], [3]), ([], []), ([5], [5]), ([], []), ([6, 7], [6, 7]), ([8], [8]), ([4, 9], [4, 9]), ([10], [10])])
def laws_asValue.B6 : List Nat := [0, 1, 0, 7, 15, 0, 32, 0, 224, 480, 1023, 2047]
theorem laws_asValue.tab6 : rtab .any (opsOf Try.f38 6) = laws_asValue.T6 := by kernel_rfl
theorem laws_asValue.bits6 : waitsOk laws_asValue.T6.2 laws_asValue.B6 = true := by kernel_rfl
set_option maxHeartbeats 8000000 in
set_option maxRecDepth 100000 in
theorem laws_asValue.calls (k : Nat) : ∀ (a0_0 : Int) (a0_1 : Int) (a0_2 : ByteArray) (A0_3 : Option Addr) (c0_3 : Nat) (l0_3 : List (S31)) (a1_0 : Int) (a1_1 : Int) (a1_2 : ByteArray) (A1_3 : Option Addr) (c1_3 : Nat) (l1_3 : List (S31)) (r : Bool) (w : World) (hr0_3 : Kd.C k31 w A0_3 l0_3.length l0_3) (hc0_3 : l0_3.length ≤ c0_3) (hr1_3 : Kd.C k31 w A1_3 l1_3.length l1_3) (hc1_3 : l1_3.length ≤ c1_3) (h : laws_asValue.f k a0_0 a0_1 a0_2 l0_3 a1_0 a1_1 a1_2 l1_3 = some r),
    Calls Try.prog 38 #[.agg #[.int .i64 a0_0, .int .i64 a0_1, .string a0_2, .slice A0_3 l0_3.length c0_3], .agg #[.int .i64 a1_0, .int .i64 a1_1, .string a1_2, .slice A1_3 l1_3.length c1_3]] w fun e w' => e = .returned (.bool r) ∧ Below w.heap.size w w' := by
  induction k using Nat.strongRecOn with
  | _ k ih =>
  intro a0_0 a0_1 a0_2 A0_3 c0_3 l0_3 a1_0 a1_1 a1_2 A1_3 c1_3 l1_3 r w hr0_3 hc0_3 hr1_3 hc1_3 h
  cases k with
  | zero => exact absurd h (by simp [laws_asValue.f])
  | succ k =>
  simp only [laws_asValue.f] at h
  have hu31 := Try.underlying31
  have HR0_3 := Aside0.mk hr0_3
  have HC0_3 := Aside0.mk hc0_3
  clear hr0_3 hc0_3
  have HR1_3 := Aside0.mk hr1_3
  have HC1_3 := Aside0.mk hc1_3
  clear hr1_3 hc1_3
  have HB := Aside0.mk (Below.refl w.heap.size w)
  have H : (if a0_0 = a1_0 then (if a0_1 = a1_1 then (if a0_2.toList = a1_2.toList then (laws_asValue.j0 k ((l0_3.length : Int) != (l1_3.length : Int)) a0_0 a0_1 a0_2 l0_3 a1_0 a1_1 a1_2 l1_3) else (laws_asValue.j0 k true a0_0 a0_1 a0_2 l0_3 a1_0 a1_1 a1_2 l1_3)) else (laws_asValue.j0 k true a0_0 a0_1 a0_2 l0_3 a1_0 a1_1 a1_2 l1_3)) else (laws_asValue.j0 k true a0_0 a0_1 a0_2 l0_3 a1_0 a1_1 a1_2 l1_3)) = some r := h
  clear h
  have HC3 := Aside0.mk H
  clear H
  go_enter Try.func38, Try.ntmps38
  go_upto_region 1 with (first | ((with_reducible refine gate_dst (N := 2) rfl ?_); (try (refine gate_guard (by rfl) ?_; dsimp only)); refine box_event ?hg (N := 2) ?hd (cs := #[.int .i64 a0_0, .int .i64 a0_1, .string a0_2, .slice A0_3 l0_3.length c0_3]) (t := 31) ?hr ?_; (case hd => rfl); (case hg => rfl); (case hr => first | (go_simp; done) | (go_simp; rfl)); intro gb110 hg w4 hbox hb; have BK110 := Aside0.mk (hbox); have GW110 := gw_ hg; have GE110 := gw_ hg; replace HB := bs_ hb; clear hb hbox hg) | ((with_reducible refine gate_dst (N := 3) rfl ?_); (try (refine gate_guard (by rfl) ?_; dsimp only)); refine box_event ?hg (N := 3) ?hd (cs := #[.int .i64 a1_0, .int .i64 a1_1, .string a1_2, .slice A1_3 l1_3.length c1_3]) (t := 31) ?hr ?_; (case hd => rfl); (case hg => rfl); (case hr => first | (go_simp; done) | (go_simp; rfl)); intro gb111 hg w5 hbox hb; have BK111 := Aside0.mk (hbox); have GW111 := gw_ hg; have GE111 := gw_ hg; have NB110_111 := nlt_ hg BK110; have NB111_110 := ngt_ hg BK110; replace BK110 := bb_ BK110 hb; replace HB := bs_ hb; clear hb hbox hg))
  (try simp only [Act.put, List.setIfInBounds_toArray, List.set_cons_zero, List.set_cons_succ])
  go_cut [33] (fun v33 wc => ∃ (kq : Nat) (x33_2 : Bool), v33 = .bool x33_2 ∧ Aside0 (laws_asValue.j0 kq x33_2 a0_0 a0_1 a0_2 l0_3 a1_0 a1_1 a1_2 l1_3 = some r) ∧ Aside0 (kq ≤ k) ∧ Aside0 (wc.heap[gb110]? = some (.cells #[.int .i64 a0_0, .int .i64 a0_1, .string a0_2, (.slice A0_3 l0_3.length c0_3)] 31 (0, 0))) ∧ Aside0 (wc.heap[gb111]? = some (.cells #[.int .i64 a1_0, .int .i64 a1_1, .string a1_2, (.slice A1_3 l1_3.length c1_3)] 31 (0, 0))) ∧ Aside0 (Below w.heap.size w wc))
  case first =>
    have H := HC3.out
    clear HC3
    by_cases c6 : a0_0 = a1_0
    rotate_left
    · rw [if_neg c6] at H
      have c6b0 : (a0_0 == a1_0) = false := beq_eq_false_iff_ne.mpr c6
      have c6b1 : (a0_0 != a1_0) = true := bne_iff_ne.mpr c6
      (first | rw [c6b0] | (simp only [i64_w, i32_w]; rw [c6b0]) | skip)
      have H' := Aside0.mk H
      clear H
      have hnb18 := NB110_111.out
      have hnc18 := NB111_110.out
      obtain ⟨hcz19_0, hcz19_1, hcz19_2, hcz19_3, hfz19_0, hfz19_1, hfz19_2, hfz19_3⟩ := blk4 BK110
      obtain ⟨hcz20_0, hcz20_1, hcz20_2, hcz20_3, hfz20_0, hfz20_1, hfz20_2, hfz20_3⟩ := blk4 BK111
      go_wp2
      go_meet
      case rel => exact ⟨_, (true), sm_, H', ⟨by first | omega | exact Nat.le_refl _⟩, ⟨by refine pe_ ?_; exact BK110.out⟩, ⟨by refine pe_ ?_; exact BK111.out⟩, ⟨bel_⟩⟩
    rw [if_pos c6] at H
    have c6b0 : (a0_0 == a1_0) = true := beq_iff_eq.mpr c6
    have c6b1 : (a0_0 != a1_0) = false := bne_eq_false_iff_eq.mpr c6
    clear c6
    (first | rw [c6b0] | (simp only [i64_w, i32_w]; rw [c6b0]) | skip)
    by_cases c7 : a0_1 = a1_1
    rotate_left
    · rw [if_neg c7] at H
      have c7b0 : (a0_1 == a1_1) = false := beq_eq_false_iff_ne.mpr c7
      have c7b1 : (a0_1 != a1_1) = true := bne_iff_ne.mpr c7
      have H' := Aside0.mk H
      clear H
      have hnb15 := NB110_111.out
      have hnc15 := NB111_110.out
      obtain ⟨hcz16_0, hcz16_1, hcz16_2, hcz16_3, hfz16_0, hfz16_1, hfz16_2, hfz16_3⟩ := blk4 BK110
      obtain ⟨hcz17_0, hcz17_1, hcz17_2, hcz17_3, hfz17_0, hfz17_1, hfz17_2, hfz17_3⟩ := blk4 BK111
      go_wp2
      go_meet
      case rel => exact ⟨_, (true), sm_, H', ⟨by first | omega | exact Nat.le_refl _⟩, ⟨by refine pe_ ?_; exact BK110.out⟩, ⟨by refine pe_ ?_; exact BK111.out⟩, ⟨bel_⟩⟩
    rw [if_pos c7] at H
    have c7b0 : (a0_1 == a1_1) = true := beq_iff_eq.mpr c7
    have c7b1 : (a0_1 != a1_1) = false := bne_eq_false_iff_eq.mpr c7
    clear c7
    by_cases c8 : a0_2.toList = a1_2.toList
    · rw [if_pos c8] at H
      have c8b0 : (a0_2.toList == a1_2.toList) = true := beq_iff_eq.mpr c8
      have c8b1 : (a0_2.toList != a1_2.toList) = false := bne_eq_false_iff_eq.mpr c8
      clear c8
      have H' := Aside0.mk H
      clear H
      have hnb9 := NB110_111.out
      have hnc9 := NB111_110.out
      obtain ⟨hcz10_0, hcz10_1, hcz10_2, hcz10_3, hfz10_0, hfz10_1, hfz10_2, hfz10_3⟩ := blk4 BK110
      obtain ⟨hcz11_0, hcz11_1, hcz11_2, hcz11_3, hfz11_0, hfz11_1, hfz11_2, hfz11_3⟩ := blk4 BK111
      go_wp2
      go_meet
      case rel => exact ⟨_, (((l0_3.length : Int) != (l1_3.length : Int))), sm_, H', ⟨by first | omega | exact Nat.le_refl _⟩, ⟨by refine pe_ ?_; exact BK110.out⟩, ⟨by refine pe_ ?_; exact BK111.out⟩, ⟨bel_⟩⟩
    rw [if_neg c8] at H
    have c8b0 : (a0_2.toList == a1_2.toList) = false := beq_eq_false_iff_ne.mpr c8
    have c8b1 : (a0_2.toList != a1_2.toList) = true := bne_iff_ne.mpr c8
    have H' := Aside0.mk H
    clear H
    have hnb12 := NB110_111.out
    have hnc12 := NB111_110.out
    obtain ⟨hcz13_0, hcz13_1, hcz13_2, hcz13_3, hfz13_0, hfz13_1, hfz13_2, hfz13_3⟩ := blk4 BK110
    obtain ⟨hcz14_0, hcz14_1, hcz14_2, hcz14_3, hfz14_0, hfz14_1, hfz14_2, hfz14_3⟩ := blk4 BK111
    go_wp2
    go_meet
    case rel => exact ⟨_, (true), sm_, H', ⟨by first | omega | exact Nat.le_refl _⟩, ⟨by refine pe_ ?_; exact BK110.out⟩, ⟨by refine pe_ ?_; exact BK111.out⟩, ⟨bel_⟩⟩
  case rest =>
    clear HC3
    try clear c1
    try clear p2
    try clear c3
    try clear c6
    try clear c6b0
    try clear c6b1
    try clear c7
    try clear c7b0
    try clear c7b1
    try clear c8
    try clear c8b0
    try clear c8b1
    try clear c9
    try clear c12
    try clear c15
    try clear c18
    try clear hcz10_0 hcz10_1 hcz10_2 hcz10_3
    try clear hcz11_0 hcz11_1 hcz11_2 hcz11_3
    try clear hcz13_0 hcz13_1 hcz13_2 hcz13_3
    try clear hcz14_0 hcz14_1 hcz14_2 hcz14_3
    try clear hcz16_0 hcz16_1 hcz16_2 hcz16_3
    try clear hcz17_0 hcz17_1 hcz17_2 hcz17_3
    try clear hcz19_0 hcz19_1 hcz19_2 hcz19_3
    try clear hcz20_0 hcz20_1 hcz20_2 hcz20_3
    try clear hfz10_0 hfz10_1 hfz10_2 hfz10_3
    try clear hfz11_0 hfz11_1 hfz11_2 hfz11_3
    try clear hfz13_0 hfz13_1 hfz13_2 hfz13_3
    try clear hfz14_0 hfz14_1 hfz14_2 hfz14_3
    try clear hfz16_0 hfz16_1 hfz16_2 hfz16_3
    try clear hfz17_0 hfz17_1 hfz17_2 hfz17_3
    try clear hfz19_0 hfz19_1 hfz19_2 hfz19_3
    try clear hfz20_0 hfz20_1 hfz20_2 hfz20_3
    obtain ⟨kq, x33_2, rfl, HA, HJ2, BK110, BK111, HB⟩ := hcut
    cases kq with
    | zero => exact absurd HA.out (by simp [laws_asValue.j0])
    | succ kj2 =>
      have H := HA.out
      clear HA
      simp only [laws_asValue.j0] at H
      by_cases c21 : x33_2 = true
      · subst c21
        have H1 : (some false) = some r := by rw [if_pos rfl] at H; exact H
        clear H
        have H := H1
        clear H1
        obtain rfl := Option.some.inj H
        go_wp2
        go_ret
        exact re_
      replace c21 := Bool.eq_false_iff.mpr c21
      subst c21
      have H1 : (laws_asValue.l0 kj2 0 a0_0 a0_1 a0_2 l0_3 a1_0 a1_1 a1_2 l1_3) = some r := by rw [if_neg (show ¬ (false = true) by decide)] at H; exact H
      clear H
      have H := H1
      clear H1
      have H' := Aside0.mk H
      clear H
      go_wp2
      go_loopg [5] kj2 (fun kq v5 w' => ∃ (x5_2 : Int), v5 = .int .i64 x5_2 ∧ Aside0 (laws_asValue.l0 kq x5_2 a0_0 a0_1 a0_2 l0_3 a1_0 a1_1 a1_2 l1_3 = some r) ∧ Aside0 (kq ≤ kj2) ∧ Aside0 (w'.heap[gb110]? = some (.cells #[.int .i64 a0_0, .int .i64 a0_1, .string a0_2, (.slice A0_3 l0_3.length c0_3)] 31 (0, 0))) ∧ Aside0 (w'.heap[gb111]? = some (.cells #[.int .i64 a1_0, .int .i64 a1_1, .string a1_2, (.slice A1_3 l1_3.length c1_3)] 31 (0, 0))) ∧ Aside0 (Below w.heap.size w w'))
      case atStart => exact ⟨(0), sm_, H', ⟨Nat.le_refl _⟩, ⟨by refine pe_ ?_; exact BK110.out⟩, ⟨by refine pe_ ?_; exact BK111.out⟩, ⟨bel_⟩⟩
      case round =>
        clear H'
        try clear c1
        try clear c2
        try clear p2
        try clear c3
        try clear c6
        try clear c6b0
        try clear c6b1
        try clear c7
        try clear c7b0
        try clear c7b1
        try clear c8
        try clear c8b0
        try clear c8b1
        try clear c9
        try clear c12
        try clear c15
        try clear c18
        try clear c21
        try clear hcz10_0 hcz10_1 hcz10_2 hcz10_3
        try clear hcz11_0 hcz11_1 hcz11_2 hcz11_3
        try clear hcz13_0 hcz13_1 hcz13_2 hcz13_3
        try clear hcz14_0 hcz14_1 hcz14_2 hcz14_3
        try clear hcz16_0 hcz16_1 hcz16_2 hcz16_3
        try clear hcz17_0 hcz17_1 hcz17_2 hcz17_3
        try clear hcz19_0 hcz19_1 hcz19_2 hcz19_3
        try clear hcz20_0 hcz20_1 hcz20_2 hcz20_3
        try clear hfz10_0 hfz10_1 hfz10_2 hfz10_3
        try clear hfz11_0 hfz11_1 hfz11_2 hfz11_3
        try clear hfz13_0 hfz13_1 hfz13_2 hfz13_3
        try clear hfz14_0 hfz14_1 hfz14_2 hfz14_3
        try clear hfz16_0 hfz16_1 hfz16_2 hfz16_3
        try clear hfz17_0 hfz17_1 hfz17_2 hfz17_3
        try clear hfz19_0 hfz19_1 hfz19_2 hfz19_3
        try clear hfz20_0 hfz20_1 hfz20_2 hfz20_3
        try clear p2
        obtain ⟨x5_2, rfl, HA, HK2, BK110, BK111, HB⟩ := hrel
        cases gk with
        | zero => exact absurd HA.out (by simp [laws_asValue.l0])
        | succ k2 =>
          have H := HA.out
          clear HA
          simp only [laws_asValue.l0] at H
          by_cases c22 : x5_2 < (l0_3.length : Int)
          rotate_left
          · rw [if_neg c22] at H
            have c22b0 : decide (x5_2 < (l0_3.length : Int)) = false := decide_eq_false c22
            clear c22
            obtain rfl := Option.some.inj H
            have hnb35 := NB110_111.out
            have hnc35 := NB111_110.out
            obtain ⟨hcz36_0, hcz36_1, hcz36_2, hcz36_3, hfz36_0, hfz36_1, hfz36_2, hfz36_3⟩ := blk4 BK110
            go_wp2
            go_ret
            exact re_
          rw [if_pos c22] at H
          have c22b0 : decide (x5_2 < (l0_3.length : Int)) = true := decide_eq_true c22
          clear c22
          by_cases c23 : 0 ≤ x5_2
          rotate_left
          · rw [if_neg c23] at H
            exact absurd H (by simp)
          rw [if_pos c23] at H
          have c23b0 : decide (0 ≤ x5_2) = true := decide_eq_true c23
          clear c23
          by_cases c24 : x5_2 < (l1_3.length : Int)
          rotate_left
          · rw [if_neg c24] at H
            exact absurd H (by simp)
          rw [if_pos c24] at H
          have c24b0 : decide (x5_2 < (l1_3.length : Int)) = true := decide_eq_true c24
          clear c24
          replace H := Option.bind_eq_some_iff.mp H
          obtain ⟨t114, A250, H⟩ := H
          replace H : (if t114 = true then (laws_asValue.l0 k2 (wrap64 (x5_2 + 1)) a0_0 a0_1 a0_2 l0_3 a1_0 a1_1 a1_2 l1_3) else (some false)) = some r := H
          have A25 := Aside0.mk A250
          clear A250
          by_cases c26 : t114 = true
          · subst c26
            have H1 : (laws_asValue.l0 k2 (wrap64 (x5_2 + 1)) a0_0 a0_1 a0_2 l0_3 a1_0 a1_1 a1_2 l1_3) = some r := by rw [if_pos rfl] at H; exact H
            clear H
            have H := H1
            clear H1
            have H' := Aside0.mk H
            clear H
            have hnb27 := NB110_111.out
            have hnc27 := NB111_110.out
            obtain ⟨hcz28_0, hcz28_1, hcz28_2, hcz28_3, hfz28_0, hfz28_1, hfz28_2, hfz28_3⟩ := blk4 BK110
            try go_wp2
            replace BK110 := Aside0.mk (blk_drew BK110.out)
            replace BK111 := Aside0.mk (blk_drew BK111.out)
            replace HB := Aside0.mk (below_drew1 HB.out)
            have p112 : 0 ≤ (x5_2 : Int) := od_
            have q112 : x5_2 < (l0_3.length : Int) := od_
            obtain ⟨ad112, A112_3, c112_3, e112, hx112_0, hx112_1, hx112_2, hx112_3, hl112_3, hi112_3⟩ := at_T31 HR0_3.out x5_2 p112 q112
            have hw112_3 := hx112_3
            have hw112_2 := hx112_2
            have hw112_1 := hx112_1
            have hw112_0 := hx112_0
            cases e112
            replace hx112_0 := mv_ HB hx112_0
            replace hx112_1 := mv_ HB hx112_1
            replace hx112_2 := mv_ HB hx112_2
            replace hx112_3 := mv_ HB hx112_3
            have HR112_3 := Aside0.mk hi112_3
            have HC112_3 := Aside0.mk hl112_3
            clear hi112_3 hl112_3
            replace p112 := eq_true p112
            replace q112 := eq_true q112
            have p113 : 0 ≤ (x5_2 : Int) := od_
            have q113 : x5_2 < (l1_3.length : Int) := od_
            obtain ⟨ad113, A113_3, c113_3, e113, hx113_0, hx113_1, hx113_2, hx113_3, hl113_3, hi113_3⟩ := at_T31 HR1_3.out x5_2 p113 q113
            have hw113_3 := hx113_3
            have hw113_2 := hx113_2
            have hw113_1 := hx113_1
            have hw113_0 := hx113_0
            cases e113
            replace hx113_0 := mv_ HB hx113_0
            replace hx113_1 := mv_ HB hx113_1
            replace hx113_2 := mv_ HB hx113_2
            replace hx113_3 := mv_ HB hx113_3
            have HR113_3 := Aside0.mk hi113_3
            have HC113_3 := Aside0.mk hl113_3
            clear hi113_3 hl113_3
            replace p113 := eq_true p113
            replace q113 := eq_true q113
            refine start_ (n := 12) (S := fun w' => w'.cell? ⟨gb110, 0, none⟩ = some (.int .i64 a0_0) ∧ w'.cell? ⟨gb110, 1, none⟩ = some (.int .i64 a0_1) ∧ w'.cell? ⟨gb110, 2, none⟩ = some (.string a0_2) ∧ w'.cell? ⟨gb110, 3, none⟩ = some (.slice (some ad112) l0_3.length c0_3) ∧ w'.cell? ⟨gb111, 0, none⟩ = some (.int .i64 a1_0) ∧ w'.cell? ⟨gb111, 1, none⟩ = some (.int .i64 a1_1) ∧ w'.cell? ⟨gb111, 2, none⟩ = some (.string a1_2) ∧ w'.cell? ⟨gb111, 3, none⟩ = some (.slice (some ad113) l1_3.length c1_3) ∧ w'.cell? (ad112.add ((x5_2).toNat * 4)) = some (.int .i64 ((rd_T31 l0_3 x5_2).f0)) ∧ w'.cell? ⟨(ad112.add ((x5_2).toNat * 4)).block, (ad112.add ((x5_2).toNat * 4)).off + 1, none⟩ = some (.int .i64 ((rd_T31 l0_3 x5_2).f1)) ∧ w'.cell? ⟨(ad112.add ((x5_2).toNat * 4)).block, (ad112.add ((x5_2).toNat * 4)).off + 2, none⟩ = some (.string ((rd_T31 l0_3 x5_2).f2)) ∧ w'.cell? ⟨(ad112.add ((x5_2).toNat * 4)).block, (ad112.add ((x5_2).toNat * 4)).off + 3, none⟩ = some (.slice A112_3 ((rd_T31 l0_3 x5_2).f3).length c112_3) ∧ w'.cell? (ad113.add ((x5_2).toNat * 4)) = some (.int .i64 ((rd_T31 l1_3 x5_2).f0)) ∧ w'.cell? ⟨(ad113.add ((x5_2).toNat * 4)).block, (ad113.add ((x5_2).toNat * 4)).off + 1, none⟩ = some (.int .i64 ((rd_T31 l1_3 x5_2).f1)) ∧ w'.cell? ⟨(ad113.add ((x5_2).toNat * 4)).block, (ad113.add ((x5_2).toNat * 4)).off + 2, none⟩ = some (.string ((rd_T31 l1_3 x5_2).f2)) ∧ w'.cell? ⟨(ad113.add ((x5_2).toNat * 4)).block, (ad113.add ((x5_2).toNat * 4)).off + 3, none⟩ = some (.slice A113_3 ((rd_T31 l1_3 x5_2).f3).length c113_3)) (ds := []) #[false, false, false, false, false, false, false, false, false, false, false, false] (by kernel_rfl) rfl rfl ⟨(blkc BK110 0), (blkc BK110 1), (blkc BK110 2), (blkc BK110 3), (blkc BK111 0), (blkc BK111 1), (blkc BK111 2), (blkc BK111 3), (mv_ HB hw112_0), (mv_ HB hw112_1), (mv_ HB hw112_2), (mv_ HB hw112_3), (mv_ HB hw113_0), (mv_ HB hw113_1), (mv_ HB hw113_2), (mv_ HB hw113_3)⟩ (fun hHeld => ?_); refine with_tabW laws_asValue.tab6 laws_asValue.bits6 (fun HT_ HW_ => ?_)
            generalize wr.drew = w29 at BK110 BK111 HB HR112_3 HR113_3 hx112_0 hx112_1 hx112_2 hx112_3 hx113_0 hx113_1 hx113_2 hx113_3 hHeld ⊢
            refine puA 0 (some 41) ?_
            refine puA 2 (some 43) ?_
            refine puA 5 (some 46) ?_
            refine puA 7 (some 48) ?_
            refine taA 1 (some 42) ?_
            refine puA 3 (some 44) ?_
            refine taA 4 (some 45) ?_
            refine taA 6 (some 47) ?_
            refine puA 8 (some 49) ?_
            refine taA 9 (some 50) ?_
            refine one_ (i := 10) (N := some 51) #[true, true, true, true, true, true, true, true, true, true, true, false] rfl rfl (one_of HT_.out (by kernel_rfl)) (by decide) (fun K hK => ?_)
            refine goes_ Try.func38 (by kernel_rfl) rfl #[.agg #[.int .i64 ((rd_T31 l0_3 x5_2).f0), .int .i64 ((rd_T31 l0_3 x5_2).f1), .string ((rd_T31 l0_3 x5_2).f2), .slice A112_3 ((rd_T31 l0_3 x5_2).f3).length c112_3], .agg #[.int .i64 ((rd_T31 l1_3 x5_2).f0), .int .i64 ((rd_T31 l1_3 x5_2).f1), .string ((rd_T31 l1_3 x5_2).f2), .slice A113_3 ((rd_T31 l1_3 x5_2).f3).length c113_3]] (by rfl) rfl rfl ar_ ?_
            with_reducible refine (ih k2 (by have := HJ2.out; have := HK2.out; omega) ((rd_T31 l0_3 x5_2).f0) ((rd_T31 l0_3 x5_2).f1) ((rd_T31 l0_3 x5_2).f2) _ _ ((rd_T31 l0_3 x5_2).f3) ((rd_T31 l1_3 x5_2).f0) ((rd_T31 l1_3 x5_2).f1) ((rd_T31 l1_3 x5_2).f2) _ _ ((rd_T31 l1_3 x5_2).f3) true _ ?side1 ?side2 ?side3 ?side4 A25.out).mono ?_
            (case side1 => exact rdb_ HR112_3)
            (case side2 => exact HC112_3.out)
            (case side3 => exact rdb_ HR113_3)
            (case side4 => exact HC113_3.out)
            rintro e w30 ⟨rfl, hb⟩
            refine ⟨_, rfl, ?_⟩
            replace BK110 := bb_ BK110 hb
            replace BK111 := bb_ BK111 hb
            replace HB := bs_ hb
            (try clear hb)
            (try clear hb2)
            (try clear hk)
            (try clear hi)
            refine hK.out _ _ ⟨(blkc BK110 0), (blkc BK110 1), (blkc BK110 2), (blkc BK110 3), (blkc BK111 0), (blkc BK111 1), (blkc BK111 2), (blkc BK111 3), (mv_ HB hw112_0), (mv_ HB hw112_1), (mv_ HB hw112_2), (mv_ HB hw112_3), (mv_ HB hw113_0), (mv_ HB hw113_1), (mv_ HB hw113_2), (mv_ HB hw113_3)⟩ (fun hHeld => ?_)
            clear hK K
            refine norm_ (a' := ?_) ?_ ?_
            rotate_left
            · show Act.put _ (some 51) _ = _
              simp only [Act.put, List.setIfInBounds_toArray, List.set_cons_zero, List.set_cons_succ, i64_w, i32_w]
              rfl
            refine puA 11 (some 52) ?_
            refine done_ (done_of HT_.out (by kernel_rfl)) ?_
            try go_wp2
            go_roundg k2
            case measure => have := HJ2.out; have := HK2.out; omega
            case rel => exact ⟨(wrap64 (x5_2 + 1)), sm_, H', ⟨by have := HJ2.out; have := HK2.out; omega⟩, ⟨by refine pe_ ?_; exact BK110.out⟩, ⟨by refine pe_ ?_; exact BK111.out⟩, ⟨bel_⟩⟩
          replace c26 := Bool.eq_false_iff.mpr c26
          subst c26
          have H1 : (some false) = some r := by rw [if_neg (show ¬ (false = true) by decide)] at H; exact H
          clear H
          have H := H1
          clear H1
          obtain rfl := Option.some.inj H
          have hnb31 := NB110_111.out
          have hnc31 := NB111_110.out
          obtain ⟨hcz32_0, hcz32_1, hcz32_2, hcz32_3, hfz32_0, hfz32_1, hfz32_2, hfz32_3⟩ := blk4 BK110
          try go_wp2
          replace BK110 := Aside0.mk (blk_drew BK110.out)
          replace BK111 := Aside0.mk (blk_drew BK111.out)
          replace HB := Aside0.mk (below_drew1 HB.out)
          have p112 : 0 ≤ (x5_2 : Int) := od_
          have q112 : x5_2 < (l0_3.length : Int) := od_
          obtain ⟨ad112, A112_3, c112_3, e112, hx112_0, hx112_1, hx112_2, hx112_3, hl112_3, hi112_3⟩ := at_T31 HR0_3.out x5_2 p112 q112
          have hw112_3 := hx112_3
          have hw112_2 := hx112_2
          have hw112_1 := hx112_1
          have hw112_0 := hx112_0
          cases e112
          replace hx112_0 := mv_ HB hx112_0
          replace hx112_1 := mv_ HB hx112_1
          replace hx112_2 := mv_ HB hx112_2
          replace hx112_3 := mv_ HB hx112_3
          have HR112_3 := Aside0.mk hi112_3
          have HC112_3 := Aside0.mk hl112_3
          clear hi112_3 hl112_3
          replace p112 := eq_true p112
          replace q112 := eq_true q112
          have p113 : 0 ≤ (x5_2 : Int) := od_
          have q113 : x5_2 < (l1_3.length : Int) := od_
          obtain ⟨ad113, A113_3, c113_3, e113, hx113_0, hx113_1, hx113_2, hx113_3, hl113_3, hi113_3⟩ := at_T31 HR1_3.out x5_2 p113 q113
          have hw113_3 := hx113_3
          have hw113_2 := hx113_2
          have hw113_1 := hx113_1
          have hw113_0 := hx113_0
          cases e113
          replace hx113_0 := mv_ HB hx113_0
          replace hx113_1 := mv_ HB hx113_1
          replace hx113_2 := mv_ HB hx113_2
          replace hx113_3 := mv_ HB hx113_3
          have HR113_3 := Aside0.mk hi113_3
          have HC113_3 := Aside0.mk hl113_3
          clear hi113_3 hl113_3
          replace p113 := eq_true p113
          replace q113 := eq_true q113
          refine start_ (n := 12) (S := fun w' => w'.cell? ⟨gb110, 0, none⟩ = some (.int .i64 a0_0) ∧ w'.cell? ⟨gb110, 1, none⟩ = some (.int .i64 a0_1) ∧ w'.cell? ⟨gb110, 2, none⟩ = some (.string a0_2) ∧ w'.cell? ⟨gb110, 3, none⟩ = some (.slice (some ad112) l0_3.length c0_3) ∧ w'.cell? ⟨gb111, 0, none⟩ = some (.int .i64 a1_0) ∧ w'.cell? ⟨gb111, 1, none⟩ = some (.int .i64 a1_1) ∧ w'.cell? ⟨gb111, 2, none⟩ = some (.string a1_2) ∧ w'.cell? ⟨gb111, 3, none⟩ = some (.slice (some ad113) l1_3.length c1_3) ∧ w'.cell? (ad112.add ((x5_2).toNat * 4)) = some (.int .i64 ((rd_T31 l0_3 x5_2).f0)) ∧ w'.cell? ⟨(ad112.add ((x5_2).toNat * 4)).block, (ad112.add ((x5_2).toNat * 4)).off + 1, none⟩ = some (.int .i64 ((rd_T31 l0_3 x5_2).f1)) ∧ w'.cell? ⟨(ad112.add ((x5_2).toNat * 4)).block, (ad112.add ((x5_2).toNat * 4)).off + 2, none⟩ = some (.string ((rd_T31 l0_3 x5_2).f2)) ∧ w'.cell? ⟨(ad112.add ((x5_2).toNat * 4)).block, (ad112.add ((x5_2).toNat * 4)).off + 3, none⟩ = some (.slice A112_3 ((rd_T31 l0_3 x5_2).f3).length c112_3) ∧ w'.cell? (ad113.add ((x5_2).toNat * 4)) = some (.int .i64 ((rd_T31 l1_3 x5_2).f0)) ∧ w'.cell? ⟨(ad113.add ((x5_2).toNat * 4)).block, (ad113.add ((x5_2).toNat * 4)).off + 1, none⟩ = some (.int .i64 ((rd_T31 l1_3 x5_2).f1)) ∧ w'.cell? ⟨(ad113.add ((x5_2).toNat * 4)).block, (ad113.add ((x5_2).toNat * 4)).off + 2, none⟩ = some (.string ((rd_T31 l1_3 x5_2).f2)) ∧ w'.cell? ⟨(ad113.add ((x5_2).toNat * 4)).block, (ad113.add ((x5_2).toNat * 4)).off + 3, none⟩ = some (.slice A113_3 ((rd_T31 l1_3 x5_2).f3).length c113_3)) (ds := []) #[false, false, false, false, false, false, false, false, false, false, false, false] (by kernel_rfl) rfl rfl ⟨(blkc BK110 0), (blkc BK110 1), (blkc BK110 2), (blkc BK110 3), (blkc BK111 0), (blkc BK111 1), (blkc BK111 2), (blkc BK111 3), (mv_ HB hw112_0), (mv_ HB hw112_1), (mv_ HB hw112_2), (mv_ HB hw112_3), (mv_ HB hw113_0), (mv_ HB hw113_1), (mv_ HB hw113_2), (mv_ HB hw113_3)⟩ (fun hHeld => ?_); refine with_tabW laws_asValue.tab6 laws_asValue.bits6 (fun HT_ HW_ => ?_)
          generalize wr.drew = w33 at BK110 BK111 HB HR112_3 HR113_3 hx112_0 hx112_1 hx112_2 hx112_3 hx113_0 hx113_1 hx113_2 hx113_3 hHeld ⊢
          refine puA 0 (some 41) ?_
          refine puA 2 (some 43) ?_
          refine puA 5 (some 46) ?_
          refine puA 7 (some 48) ?_
          refine taA 1 (some 42) ?_
          refine puA 3 (some 44) ?_
          refine taA 4 (some 45) ?_
          refine taA 6 (some 47) ?_
          refine puA 8 (some 49) ?_
          refine taA 9 (some 50) ?_
          refine one_ (i := 10) (N := some 51) #[true, true, true, true, true, true, true, true, true, true, true, false] rfl rfl (one_of HT_.out (by kernel_rfl)) (by decide) (fun K hK => ?_)
          refine goes_ Try.func38 (by kernel_rfl) rfl #[.agg #[.int .i64 ((rd_T31 l0_3 x5_2).f0), .int .i64 ((rd_T31 l0_3 x5_2).f1), .string ((rd_T31 l0_3 x5_2).f2), .slice A112_3 ((rd_T31 l0_3 x5_2).f3).length c112_3], .agg #[.int .i64 ((rd_T31 l1_3 x5_2).f0), .int .i64 ((rd_T31 l1_3 x5_2).f1), .string ((rd_T31 l1_3 x5_2).f2), .slice A113_3 ((rd_T31 l1_3 x5_2).f3).length c113_3]] (by rfl) rfl rfl ar_ ?_
          with_reducible refine (ih k2 (by have := HJ2.out; have := HK2.out; omega) ((rd_T31 l0_3 x5_2).f0) ((rd_T31 l0_3 x5_2).f1) ((rd_T31 l0_3 x5_2).f2) _ _ ((rd_T31 l0_3 x5_2).f3) ((rd_T31 l1_3 x5_2).f0) ((rd_T31 l1_3 x5_2).f1) ((rd_T31 l1_3 x5_2).f2) _ _ ((rd_T31 l1_3 x5_2).f3) false _ ?side1 ?side2 ?side3 ?side4 A25.out).mono ?_
          (case side1 => exact rdb_ HR112_3)
          (case side2 => exact HC112_3.out)
          (case side3 => exact rdb_ HR113_3)
          (case side4 => exact HC113_3.out)
          rintro e w34 ⟨rfl, hb⟩
          refine ⟨_, rfl, ?_⟩
          replace BK110 := bb_ BK110 hb
          replace BK111 := bb_ BK111 hb
          replace HB := bs_ hb
          (try clear hb)
          (try clear hb2)
          (try clear hk)
          (try clear hi)
          refine hK.out _ _ ⟨(blkc BK110 0), (blkc BK110 1), (blkc BK110 2), (blkc BK110 3), (blkc BK111 0), (blkc BK111 1), (blkc BK111 2), (blkc BK111 3), (mv_ HB hw112_0), (mv_ HB hw112_1), (mv_ HB hw112_2), (mv_ HB hw112_3), (mv_ HB hw113_0), (mv_ HB hw113_1), (mv_ HB hw113_2), (mv_ HB hw113_3)⟩ (fun hHeld => ?_)
          clear hK K
          refine norm_ (a' := ?_) ?_ ?_
          rotate_left
          · show Act.put _ (some 51) _ = _
            simp only [Act.put, List.setIfInBounds_toArray, List.set_cons_zero, List.set_cons_succ, i64_w, i32_w]
            rfl
          refine puA 11 (some 52) ?_
          refine done_ (done_of HT_.out (by kernel_rfl)) ?_
          try go_wp2
          go_ret
          exact re_

end Go.Proofs.Ytejikddbdhahaaa.G
