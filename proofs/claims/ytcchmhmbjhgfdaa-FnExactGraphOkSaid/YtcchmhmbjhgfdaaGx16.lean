-- Printed by a program of this claim's writer (wip/gen), out of the translation. Lean checks it.
import Derived.Test.YtcchmhmbjhgfdaaGx0
import Derived.Test.YtcchmhmbjhgfdaaGx12
import Derived.Test.YtcchmhmbjhgfdaaGx15
namespace Go.Proofs.Ytcchmhmbjhgfdaa.G
open Go.RowKit Go.Proofs.YtcchmhmbjhgfdaaW.PrintWords Go.Proofs.YtcchmhmbjhgfdaaW.PrintLast Go.Proofs.YtcchmhmbjhgfdaaW.PrintMore
attribute [local go_sem] max2_int min2_int max_two min_two max_three min_three max_four min_four Own.str_gtr Own.str_leq Own.str_geq Own.sto_fn   -- for this text's walks alone
open Own
set_option linter.unusedVariables false
set_option linter.unusedSimpArgs false

/-! ### impl_propsOk: function 81 -/
def impl_propsOk.l0 : Nat → List (S140) → List (S140) → Int → Int → Option (Bool)
  | 0, _, _, _, _ => none
  | k + 1, x0, x8, x9, x10 => if x10 < x9 then (if 0 ≤ x10 then (if x10 < (x8.length : Int) then ((impl_NameOk.f k ((rd_T140 x8 x10).f0)).bind fun t302 => (if t302 = true then ((impl_storable.f k ((rd_T140 x8 x10).f1.f0) ((rd_T140 x8 x10).f1.f1) ((rd_T140 x8 x10).f1.f2) ((rd_T140 x8 x10).f1.f3)).bind fun t303 => (if t303 = true then (if x10 > 0 then (if 0 ≤ (wrap64 (x10 - 1)) then (if (wrap64 (x10 - 1)) < (x0.length : Int) then (if ((Op.bytesLess (((rd_T140 x0 (wrap64 (x10 - 1))).f0).toList) (((rd_T140 x8 x10).f0).toList)) = true) then (impl_propsOk.l0 k x0 x8 x9 (wrap64 (x10 + 1))) else (some false)) else (none)) else (none)) else (impl_propsOk.l0 k x0 x8 x9 (wrap64 (x10 + 1)))) else (some false))) else (some false))) else (none)) else (none)) else (some true)
def impl_propsOk.f (k : Nat) (l0 : List (S140)) : Option (Bool) := if (l0.length : Int) > 4 then (some false) else (impl_propsOk.l0 k l0 l0 (l0.length : Int) 0)
def impl_propsOk.T6 : Bool × List (List Nat × List Nat) := (true, [([], []), ([0], [0]), ([1], [1]), ([2], [2]), ([3, 2], [3]), ([4], [4]), ([5, 4], [4, 5]), ([6, 4, 4], [4, 6]), ([7, 4], [4, 7]), ([4, 8], [4, 8]), ([9, 7], [9]), ([10], [10]), ([11, 10], [10, 11]), ([12, 10, 10], [10, 12]), ([13], [13]), ([13], [13]), ([15, 13], [13, 15]), ([14, 16, 13], [13, 14, 16]), ([17, 13], [13, 17]), ([18, 13], [13, 18]), ([13], [13]), ([20, 13], [13, 20]), ([19, 21, 13], [13, 19, 21]), ([13, 22, 10], [10, 13, 22]), ([10, 23], [10, 23])])
def impl_propsOk.B6 : List Nat := [0, 1, 3, 7, 15, 31, 63, 127, 255, 511, 1023, 2047, 4095, 8191, 16383, 16383, 49151, 131071, 262143, 524287, 16383, 1064959, 4194303, 8388607, 16777215]
theorem impl_propsOk.tab6 : rtab .any (opsOf Try.f81 6) = impl_propsOk.T6 := by kernel_rfl
theorem impl_propsOk.bits6 : waitsOk impl_propsOk.T6.2 impl_propsOk.B6 = true := by kernel_rfl
set_option maxHeartbeats 8000000 in
set_option maxRecDepth 100000 in
theorem impl_propsOk.calls (k : Nat) (A0 : Option Addr) (c0 : Nat) (l0 : List (S140)) (r : Bool) (w : World) (hr0 : Kd.C k140 w A0 l0.length l0) (hc0 : l0.length ≤ c0) (h : impl_propsOk.f k l0 = some r) :
    Calls Try.prog 81 #[.slice A0 l0.length c0] w fun e w' => e = .returned (.bool r) ∧ Below w.heap.size w w' := by
  have hu140 := Try.underlying140
  have hu49 := Try.underlying49
  have HR0 := Aside0.mk hr0
  have HC0 := Aside0.mk hc0
  clear hr0 hc0
  have HB := Aside0.mk (Below.refl w.heap.size w)
  have H : (if (l0.length : Int) > 4 then (some false) else (impl_propsOk.l0 k l0 l0 (l0.length : Int) 0)) = some r := h
  clear h
  by_cases c2 : (l0.length : Int) > 4
  · rw [if_pos c2] at H
    have c2b0 : decide (4 < (l0.length : Int)) = true := decide_eq_true c2
    have c2b1 : decide (4 < l0.length) = true := decide_eq_true (by omega)
    clear c2
    obtain rfl := Option.some.inj H
    go_enter Try.func81, Try.ntmps81
    go_wp2
    go_ret
    exact re_
  rw [if_neg c2] at H
  have c2b0 : decide (4 < (l0.length : Int)) = false := decide_eq_false c2
  have c2b1 : decide (4 < l0.length) = false := decide_eq_false (by omega)
  clear c2
  have H' := Aside0.mk H
  clear H
  go_enter Try.func81, Try.ntmps81
  go_wp2
  go_loopg [10] k (fun kq v10 w' => ∃ (x10_1 : Int), v10 = .int .i64 x10_1 ∧ Aside0 (impl_propsOk.l0 kq l0 l0 (l0.length : Int) x10_1 = some r) ∧ Aside0 (kq ≤ k) ∧ Aside0 (Below w.heap.size w w'))
  case atStart => exact ⟨(0), sm_, H', ⟨Nat.le_refl _⟩, ⟨bel_⟩⟩
  case round =>
    clear H'
    try clear c2
    try clear c2b0
    try clear c2b1
    try clear p2
    obtain ⟨x10_1, rfl, HA, HK1, HB⟩ := hrel
    cases gk with
    | zero => exact absurd HA.out (by simp [impl_propsOk.l0])
    | succ k1 =>
      have H := HA.out
      clear HA
      simp only [impl_propsOk.l0] at H
      by_cases c3 : x10_1 < (l0.length : Int)
      rotate_left
      · rw [if_neg c3] at H
        have c3b0 : decide (x10_1 < (l0.length : Int)) = false := decide_eq_false c3
        clear c3
        obtain rfl := Option.some.inj H
        go_wp2
        go_ret
        exact re_
      rw [if_pos c3] at H
      have c3b0 : decide (x10_1 < (l0.length : Int)) = true := decide_eq_true c3
      clear c3
      by_cases c4 : 0 ≤ x10_1
      rotate_left
      · rw [if_neg c4] at H
        exact absurd H (by simp)
      rw [if_pos c4] at H
      have c4b0 : decide (0 ≤ x10_1) = true := decide_eq_true c4
      clear c4
      by_cases c5 : x10_1 < (l0.length : Int)
      rotate_left
      · rw [if_neg c5] at H
        exact absurd H (by simp)
      rw [if_pos c5] at H
      have c5b0 : decide (x10_1 < (l0.length : Int)) = true := decide_eq_true c5
      clear c5
      replace H := Option.bind_eq_some_iff.mp H
      obtain ⟨t302, A60, H⟩ := H
      replace H : (if t302 = true then ((impl_storable.f k1 ((rd_T140 l0 x10_1).f1.f0) ((rd_T140 l0 x10_1).f1.f1) ((rd_T140 l0 x10_1).f1.f2) ((rd_T140 l0 x10_1).f1.f3)).bind fun t303 => (if t303 = true then (if x10_1 > 0 then (if 0 ≤ (wrap64 (x10_1 - 1)) then (if (wrap64 (x10_1 - 1)) < (l0.length : Int) then (if ((Op.bytesLess (((rd_T140 l0 (wrap64 (x10_1 - 1))).f0).toList) (((rd_T140 l0 x10_1).f0).toList)) = true) then (impl_propsOk.l0 k1 l0 l0 (l0.length : Int) (wrap64 (x10_1 + 1))) else (some false)) else (none)) else (none)) else (impl_propsOk.l0 k1 l0 l0 (l0.length : Int) (wrap64 (x10_1 + 1)))) else (some false))) else (some false)) = some r := H
      have A6 := Aside0.mk A60
      clear A60
      by_cases c7 : t302 = true
      rotate_left
      · replace c7 := Bool.eq_false_iff.mpr c7
        subst c7
        have H1 : (some false) = some r := by rw [if_neg (show ¬ (false = true) by decide)] at H; exact H
        clear H
        have H := H1
        clear H1
        obtain rfl := Option.some.inj H
        have p300 : 0 ≤ (x10_1 : Int) := od_
        have q300 : x10_1 < (l0.length : Int) := od_
        obtain ⟨ad300, A300_4, c300_4, e300, hx300_0, hx300_1, hx300_2, hx300_3, hx300_4, hl300_4, hi300_4⟩ := at_T140 HR0.out x10_1 p300 q300
        cases e300
        replace hx300_0 := mv_ HB hx300_0
        replace hx300_1 := mv_ HB hx300_1
        replace hx300_2 := mv_ HB hx300_2
        replace hx300_3 := mv_ HB hx300_3
        replace hx300_4 := mv_ HB hx300_4
        have HR300_4 := Aside0.mk hi300_4
        have HC300_4 := Aside0.mk hl300_4
        clear hi300_4 hl300_4
        replace p300 := eq_true p300
        replace q300 := eq_true q300
        try go_wp2_with (first | ((with_reducible refine gate_dst (N := 4) rfl ?_); refine bx_ 4 #[.string (⟨#[]⟩ : ByteArray), .int .i64 0, .int .i64 0, .string (⟨#[]⟩ : ByteArray), .slice none 0 0] 140 ?_; intro gb301 hg w35 hbox hb; have BK301 := Aside0.mk (hbox); have GW301 := gw_ hg; have GE301 := gw_ hg; replace HB := bs_ hb; clear hb hbox hg; obtain ⟨hcz36_0, hcz36_1, hcz36_2, hcz36_3, hcz36_4, hfz36_0, hfz36_1, hfz36_2, hfz36_3, hfz36_4⟩ := blk5 BK301))
        have n0_ : Aside0 ((((((w35.setCell ⟨gb301, 0, none⟩ (.string ((rd_T140 l0 x10_1).f0))).setCell ⟨gb301, 1, none⟩ (.int .i64 ((rd_T140 l0 x10_1).f1.f0))).setCell ⟨gb301, 2, none⟩ (.int .i64 ((rd_T140 l0 x10_1).f1.f1))).setCell ⟨gb301, 3, none⟩ (.string ((rd_T140 l0 x10_1).f1.f2))).setCell ⟨gb301, 4, none⟩ (.slice A300_4 ((rd_T140 l0 x10_1).f1.f3).length c300_4)).heap[gb301]? = some (.cells #[.string ((rd_T140 l0 x10_1).f0), .int .i64 ((rd_T140 l0 x10_1).f1.f0), .int .i64 ((rd_T140 l0 x10_1).f1.f1), .string ((rd_T140 l0 x10_1).f1.f2), .slice A300_4 ((rd_T140 l0 x10_1).f1.f3).length c300_4] 140 (0, 0))) := ⟨by refine pe_ ?_; refine blk_put (cs := #[.string ((rd_T140 l0 x10_1).f0), .int .i64 ((rd_T140 l0 x10_1).f1.f0), .int .i64 ((rd_T140 l0 x10_1).f1.f1), .string ((rd_T140 l0 x10_1).f1.f2), .slice none 0 0]) ?_ 4 _ rfl; refine pe_ ?_; refine blk_put (cs := #[.string ((rd_T140 l0 x10_1).f0), .int .i64 ((rd_T140 l0 x10_1).f1.f0), .int .i64 ((rd_T140 l0 x10_1).f1.f1), .string (⟨#[]⟩ : ByteArray), .slice none 0 0]) ?_ 3 _ rfl; refine pe_ ?_; refine blk_put (cs := #[.string ((rd_T140 l0 x10_1).f0), .int .i64 ((rd_T140 l0 x10_1).f1.f0), .int .i64 0, .string (⟨#[]⟩ : ByteArray), .slice none 0 0]) ?_ 2 _ rfl; refine pe_ ?_; refine blk_put (cs := #[.string ((rd_T140 l0 x10_1).f0), .int .i64 0, .int .i64 0, .string (⟨#[]⟩ : ByteArray), .slice none 0 0]) ?_ 1 _ rfl; refine pe_ ?_; refine blk_put (cs := #[.string (⟨#[]⟩ : ByteArray), .int .i64 0, .int .i64 0, .string (⟨#[]⟩ : ByteArray), .slice none 0 0]) ?_ 0 _ rfl; refine pe_ ?_; exact BK301.out⟩
        have n1_ : Aside0 (Below w.heap.size w (((((w35.setCell ⟨gb301, 0, none⟩ (.string ((rd_T140 l0 x10_1).f0))).setCell ⟨gb301, 1, none⟩ (.int .i64 ((rd_T140 l0 x10_1).f1.f0))).setCell ⟨gb301, 2, none⟩ (.int .i64 ((rd_T140 l0 x10_1).f1.f1))).setCell ⟨gb301, 3, none⟩ (.string ((rd_T140 l0 x10_1).f1.f2))).setCell ⟨gb301, 4, none⟩ (.slice A300_4 ((rd_T140 l0 x10_1).f1.f3).length c300_4))) := ⟨bel_⟩
        (try clear BK301)
        (try clear HB)
        generalize (((((w35.setCell ⟨gb301, 0, none⟩ (.string ((rd_T140 l0 x10_1).f0))).setCell ⟨gb301, 1, none⟩ (.int .i64 ((rd_T140 l0 x10_1).f1.f0))).setCell ⟨gb301, 2, none⟩ (.int .i64 ((rd_T140 l0 x10_1).f1.f1))).setCell ⟨gb301, 3, none⟩ (.string ((rd_T140 l0 x10_1).f1.f2))).setCell ⟨gb301, 4, none⟩ (.slice A300_4 ((rd_T140 l0 x10_1).f1.f3).length c300_4)) = w37 at n0_ n1_ ⊢
        have BK301 := n0_
        have HB := n1_
        clear n0_ n1_
        replace BK301 := Aside0.mk (blk_drew BK301.out)
        replace HB := Aside0.mk (below_drew1 HB.out)
        refine start_ (n := 25) (S := fun w' => w'.cell? ⟨gb301, 0, none⟩ = some (.string ((rd_T140 l0 x10_1).f0)) ∧ w'.cell? ⟨gb301, 1, none⟩ = some (.int .i64 ((rd_T140 l0 x10_1).f1.f0)) ∧ w'.cell? ⟨gb301, 2, none⟩ = some (.int .i64 ((rd_T140 l0 x10_1).f1.f1)) ∧ w'.cell? ⟨gb301, 3, none⟩ = some (.string ((rd_T140 l0 x10_1).f1.f2)) ∧ w'.cell? ⟨gb301, 4, none⟩ = some (.slice A300_4 ((rd_T140 l0 x10_1).f1.f3).length c300_4)) (ds := []) #[false, false, false, false, false, false, false, false, false, false, false, false, false, false, false, false, false, false, false, false, false, false, false, false, false] (by kernel_rfl) rfl rfl ⟨(blkc BK301 0), (blkc BK301 1), (blkc BK301 2), (blkc BK301 3), (blkc BK301 4)⟩ (fun hHeld => ?_); refine with_tabW impl_propsOk.tab6 impl_propsOk.bits6 (fun HT_ HW_ => ?_)
        generalize w37.drew = w38 at BK301 HB hHeld ⊢
        refine puA 0 (some 15) ?_
        refine taA 1 (some 16) ?_
        refine one_ (i := 2) (N := some 17) #[true, true, true, false, false, false, false, false, false, false, false, false, false, false, false, false, false, false, false, false, false, false, false, false, false] rfl rfl (one_of HT_.out (by kernel_rfl)) (by decide) (fun K hK => ?_)
        refine goes_ Try.func82 (by kernel_rfl) rfl #[.string ((rd_T140 l0 x10_1).f0)] (by rfl) rfl rfl ar_ ?_
        with_reducible refine (impl_NameOk.calls k1 ((rd_T140 l0 x10_1).f0) false _ A6.out).mono ?_
        rintro e w' ⟨rfl, ⟨nd, rfl⟩⟩
        refine ⟨_, rfl, ?_⟩
        refine hK.out _ _ ⟨(blkc BK301 0), (blkc BK301 1), (blkc BK301 2), (blkc BK301 3), (blkc BK301 4)⟩ (fun hHeld => ?_)
        clear hK K
        refine norm_ (a' := ?_) ?_ ?_
        rotate_left
        · show Act.put _ (some 17) _ = _
          simp only [Act.put, List.setIfInBounds_toArray, List.set_cons_zero, List.set_cons_succ, i64_w, i32_w]
          rfl
        refine puA 3 (some 18) ?_
        refine puA 4 (some 19) ?_
        refine puX 5 (some 20) ?_
        refine puX 6 (some 21) ?_
        refine puX 7 (some 22) ?_
        refine puX 8 (some 23) ?_
        refine puA 9 (some 24) ?_
        refine puA 10 (some 25) ?_
        refine puX 11 (some 26) ?_
        refine puX 12 (some 27) ?_
        refine puX 13 (some 28) ?_
        refine puX 14 (some 29) ?_
        refine puX 15 (some 30) ?_
        refine puX 16 (some 31) ?_
        refine puX 17 (some 32) ?_
        refine puX 18 (some 33) ?_
        refine puX 19 (some 34) ?_
        refine puX 20 (some 35) ?_
        refine puX 21 (some 36) ?_
        refine puX 22 (some 37) ?_
        refine puX 23 (some 38) ?_
        refine puA 24 (some 39) ?_
        refine done_ (done_of HT_.out (by kernel_rfl)) ?_
        try go_wp2
        go_ret
        exact re_
      subst c7
      have H1 : ((impl_storable.f k1 ((rd_T140 l0 x10_1).f1.f0) ((rd_T140 l0 x10_1).f1.f1) ((rd_T140 l0 x10_1).f1.f2) ((rd_T140 l0 x10_1).f1.f3)).bind fun t303 => (if t303 = true then (if x10_1 > 0 then (if 0 ≤ (wrap64 (x10_1 - 1)) then (if (wrap64 (x10_1 - 1)) < (l0.length : Int) then (if ((Op.bytesLess (((rd_T140 l0 (wrap64 (x10_1 - 1))).f0).toList) (((rd_T140 l0 x10_1).f0).toList)) = true) then (impl_propsOk.l0 k1 l0 l0 (l0.length : Int) (wrap64 (x10_1 + 1))) else (some false)) else (none)) else (none)) else (impl_propsOk.l0 k1 l0 l0 (l0.length : Int) (wrap64 (x10_1 + 1)))) else (some false))) = some r := by rw [if_pos rfl] at H; exact H
      clear H
      have H := H1
      clear H1
      replace H := Option.bind_eq_some_iff.mp H
      obtain ⟨t303, A80, H⟩ := H
      replace H : (if t303 = true then (if x10_1 > 0 then (if 0 ≤ (wrap64 (x10_1 - 1)) then (if (wrap64 (x10_1 - 1)) < (l0.length : Int) then (if ((Op.bytesLess (((rd_T140 l0 (wrap64 (x10_1 - 1))).f0).toList) (((rd_T140 l0 x10_1).f0).toList)) = true) then (impl_propsOk.l0 k1 l0 l0 (l0.length : Int) (wrap64 (x10_1 + 1))) else (some false)) else (none)) else (none)) else (impl_propsOk.l0 k1 l0 l0 (l0.length : Int) (wrap64 (x10_1 + 1)))) else (some false)) = some r := H
      have A8 := Aside0.mk A80
      clear A80
      by_cases c9 : t303 = true
      rotate_left
      · replace c9 := Bool.eq_false_iff.mpr c9
        subst c9
        have H1 : (some false) = some r := by rw [if_neg (show ¬ (false = true) by decide)] at H; exact H
        clear H
        have H := H1
        clear H1
        obtain rfl := Option.some.inj H
        have p300 : 0 ≤ (x10_1 : Int) := od_
        have q300 : x10_1 < (l0.length : Int) := od_
        obtain ⟨ad300, A300_4, c300_4, e300, hx300_0, hx300_1, hx300_2, hx300_3, hx300_4, hl300_4, hi300_4⟩ := at_T140 HR0.out x10_1 p300 q300
        cases e300
        replace hx300_0 := mv_ HB hx300_0
        replace hx300_1 := mv_ HB hx300_1
        replace hx300_2 := mv_ HB hx300_2
        replace hx300_3 := mv_ HB hx300_3
        replace hx300_4 := mv_ HB hx300_4
        have HR300_4 := Aside0.mk hi300_4
        have HC300_4 := Aside0.mk hl300_4
        clear hi300_4 hl300_4
        replace p300 := eq_true p300
        replace q300 := eq_true q300
        try go_wp2_with (first | ((with_reducible refine gate_dst (N := 4) rfl ?_); refine bx_ 4 #[.string (⟨#[]⟩ : ByteArray), .int .i64 0, .int .i64 0, .string (⟨#[]⟩ : ByteArray), .slice none 0 0] 140 ?_; intro gb301 hg w30 hbox hb; have BK301 := Aside0.mk (hbox); have GW301 := gw_ hg; have GE301 := gw_ hg; replace HB := bs_ hb; clear hb hbox hg; obtain ⟨hcz31_0, hcz31_1, hcz31_2, hcz31_3, hcz31_4, hfz31_0, hfz31_1, hfz31_2, hfz31_3, hfz31_4⟩ := blk5 BK301))
        have n0_ : Aside0 ((((((w30.setCell ⟨gb301, 0, none⟩ (.string ((rd_T140 l0 x10_1).f0))).setCell ⟨gb301, 1, none⟩ (.int .i64 ((rd_T140 l0 x10_1).f1.f0))).setCell ⟨gb301, 2, none⟩ (.int .i64 ((rd_T140 l0 x10_1).f1.f1))).setCell ⟨gb301, 3, none⟩ (.string ((rd_T140 l0 x10_1).f1.f2))).setCell ⟨gb301, 4, none⟩ (.slice A300_4 ((rd_T140 l0 x10_1).f1.f3).length c300_4)).heap[gb301]? = some (.cells #[.string ((rd_T140 l0 x10_1).f0), .int .i64 ((rd_T140 l0 x10_1).f1.f0), .int .i64 ((rd_T140 l0 x10_1).f1.f1), .string ((rd_T140 l0 x10_1).f1.f2), .slice A300_4 ((rd_T140 l0 x10_1).f1.f3).length c300_4] 140 (0, 0))) := ⟨by refine pe_ ?_; refine blk_put (cs := #[.string ((rd_T140 l0 x10_1).f0), .int .i64 ((rd_T140 l0 x10_1).f1.f0), .int .i64 ((rd_T140 l0 x10_1).f1.f1), .string ((rd_T140 l0 x10_1).f1.f2), .slice none 0 0]) ?_ 4 _ rfl; refine pe_ ?_; refine blk_put (cs := #[.string ((rd_T140 l0 x10_1).f0), .int .i64 ((rd_T140 l0 x10_1).f1.f0), .int .i64 ((rd_T140 l0 x10_1).f1.f1), .string (⟨#[]⟩ : ByteArray), .slice none 0 0]) ?_ 3 _ rfl; refine pe_ ?_; refine blk_put (cs := #[.string ((rd_T140 l0 x10_1).f0), .int .i64 ((rd_T140 l0 x10_1).f1.f0), .int .i64 0, .string (⟨#[]⟩ : ByteArray), .slice none 0 0]) ?_ 2 _ rfl; refine pe_ ?_; refine blk_put (cs := #[.string ((rd_T140 l0 x10_1).f0), .int .i64 0, .int .i64 0, .string (⟨#[]⟩ : ByteArray), .slice none 0 0]) ?_ 1 _ rfl; refine pe_ ?_; refine blk_put (cs := #[.string (⟨#[]⟩ : ByteArray), .int .i64 0, .int .i64 0, .string (⟨#[]⟩ : ByteArray), .slice none 0 0]) ?_ 0 _ rfl; refine pe_ ?_; exact BK301.out⟩
        have n1_ : Aside0 (Below w.heap.size w (((((w30.setCell ⟨gb301, 0, none⟩ (.string ((rd_T140 l0 x10_1).f0))).setCell ⟨gb301, 1, none⟩ (.int .i64 ((rd_T140 l0 x10_1).f1.f0))).setCell ⟨gb301, 2, none⟩ (.int .i64 ((rd_T140 l0 x10_1).f1.f1))).setCell ⟨gb301, 3, none⟩ (.string ((rd_T140 l0 x10_1).f1.f2))).setCell ⟨gb301, 4, none⟩ (.slice A300_4 ((rd_T140 l0 x10_1).f1.f3).length c300_4))) := ⟨bel_⟩
        (try clear BK301)
        (try clear HB)
        generalize (((((w30.setCell ⟨gb301, 0, none⟩ (.string ((rd_T140 l0 x10_1).f0))).setCell ⟨gb301, 1, none⟩ (.int .i64 ((rd_T140 l0 x10_1).f1.f0))).setCell ⟨gb301, 2, none⟩ (.int .i64 ((rd_T140 l0 x10_1).f1.f1))).setCell ⟨gb301, 3, none⟩ (.string ((rd_T140 l0 x10_1).f1.f2))).setCell ⟨gb301, 4, none⟩ (.slice A300_4 ((rd_T140 l0 x10_1).f1.f3).length c300_4)) = w32 at n0_ n1_ ⊢
        have BK301 := n0_
        have HB := n1_
        clear n0_ n1_
        replace BK301 := Aside0.mk (blk_drew BK301.out)
        replace HB := Aside0.mk (below_drew1 HB.out)
        refine start_ (n := 25) (S := fun w' => w'.cell? ⟨gb301, 0, none⟩ = some (.string ((rd_T140 l0 x10_1).f0)) ∧ w'.cell? ⟨gb301, 1, none⟩ = some (.int .i64 ((rd_T140 l0 x10_1).f1.f0)) ∧ w'.cell? ⟨gb301, 2, none⟩ = some (.int .i64 ((rd_T140 l0 x10_1).f1.f1)) ∧ w'.cell? ⟨gb301, 3, none⟩ = some (.string ((rd_T140 l0 x10_1).f1.f2)) ∧ w'.cell? ⟨gb301, 4, none⟩ = some (.slice A300_4 ((rd_T140 l0 x10_1).f1.f3).length c300_4)) (ds := []) #[false, false, false, false, false, false, false, false, false, false, false, false, false, false, false, false, false, false, false, false, false, false, false, false, false] (by kernel_rfl) rfl rfl ⟨(blkc BK301 0), (blkc BK301 1), (blkc BK301 2), (blkc BK301 3), (blkc BK301 4)⟩ (fun hHeld => ?_); refine with_tabW impl_propsOk.tab6 impl_propsOk.bits6 (fun HT_ HW_ => ?_)
        generalize w32.drew = w33 at BK301 HB hHeld ⊢
        refine puA 0 (some 15) ?_
        refine taA 1 (some 16) ?_
        refine one_ (i := 2) (N := some 17) #[true, true, true, false, false, false, false, false, false, false, false, false, false, false, false, false, false, false, false, false, false, false, false, false, false] rfl rfl (one_of HT_.out (by kernel_rfl)) (by decide) (fun K hK => ?_)
        refine goes_ Try.func82 (by kernel_rfl) rfl #[.string ((rd_T140 l0 x10_1).f0)] (by rfl) rfl rfl ar_ ?_
        with_reducible refine (impl_NameOk.calls k1 ((rd_T140 l0 x10_1).f0) true _ A6.out).mono ?_
        rintro e w' ⟨rfl, ⟨nd, rfl⟩⟩
        refine ⟨_, rfl, ?_⟩
        refine hK.out _ _ ⟨(blkc BK301 0), (blkc BK301 1), (blkc BK301 2), (blkc BK301 3), (blkc BK301 4)⟩ (fun hHeld => ?_)
        clear hK K
        refine norm_ (a' := ?_) ?_ ?_
        rotate_left
        · show Act.put _ (some 17) _ = _
          simp only [Act.put, List.setIfInBounds_toArray, List.set_cons_zero, List.set_cons_succ, i64_w, i32_w]
          rfl
        refine puA 3 (some 18) ?_
        refine puA 4 (some 19) ?_
        refine puA 5 (some 20) ?_
        refine taA 6 (some 21) ?_
        refine one_ (i := 7) (N := some 22) #[true, true, true, true, true, true, true, true, false, false, false, false, false, false, false, false, false, false, false, false, false, false, false, false, false] rfl rfl (one_of HT_.out (by kernel_rfl)) (by decide) (fun K hK => ?_)
        refine goes_ Try.func130 (by kernel_rfl) rfl #[.agg #[.int .i64 ((rd_T140 l0 x10_1).f1.f0), .int .i64 ((rd_T140 l0 x10_1).f1.f1), .string ((rd_T140 l0 x10_1).f1.f2), .slice A300_4 ((rd_T140 l0 x10_1).f1.f3).length c300_4]] (by rfl) rfl rfl ar_ ?_
        with_reducible refine (impl_storable.calls k1 ((rd_T140 l0 x10_1).f1.f0) ((rd_T140 l0 x10_1).f1.f1) ((rd_T140 l0 x10_1).f1.f2) _ _ ((rd_T140 l0 x10_1).f1.f3) false _ ?side1 ?side2 A8.out).mono ?_
        (case side1 => repeat (first | exact (Kd.C_below HR300_4.out (bel_)) | (with_reducible refine Kd.C_alloc ?_ _) | (with_reducible refine Kd.C_drewN ?_ _) | (with_reducible refine Kd.C_drew ?_)))
        (case side2 => exact HC300_4.out)
        rintro e w34 ⟨rfl, hb⟩
        refine ⟨_, rfl, ?_⟩
        replace BK301 := bb_ BK301 hb
        replace HB := bs_ hb
        (try clear hb)
        (try clear hb2)
        (try clear hk)
        (try clear hi)
        refine hK.out _ _ ⟨(blkc BK301 0), (blkc BK301 1), (blkc BK301 2), (blkc BK301 3), (blkc BK301 4)⟩ (fun hHeld => ?_)
        clear hK K
        refine norm_ (a' := ?_) ?_ ?_
        rotate_left
        · show Act.put _ (some 22) _ = _
          simp only [Act.put, List.setIfInBounds_toArray, List.set_cons_zero, List.set_cons_succ, i64_w, i32_w]
          rfl
        refine puA 8 (some 23) ?_
        refine puA 9 (some 24) ?_
        refine puA 10 (some 25) ?_
        refine puX 11 (some 26) ?_
        refine puX 12 (some 27) ?_
        refine puX 13 (some 28) ?_
        refine puX 14 (some 29) ?_
        refine puX 15 (some 30) ?_
        refine puX 16 (some 31) ?_
        refine puX 17 (some 32) ?_
        refine puX 18 (some 33) ?_
        refine puX 19 (some 34) ?_
        refine puX 20 (some 35) ?_
        refine puX 21 (some 36) ?_
        refine puX 22 (some 37) ?_
        refine puX 23 (some 38) ?_
        refine puA 24 (some 39) ?_
        refine done_ (done_of HT_.out (by kernel_rfl)) ?_
        try go_wp2
        go_ret
        exact re_
      subst c9
      have H1 : (if x10_1 > 0 then (if 0 ≤ (wrap64 (x10_1 - 1)) then (if (wrap64 (x10_1 - 1)) < (l0.length : Int) then (if ((Op.bytesLess (((rd_T140 l0 (wrap64 (x10_1 - 1))).f0).toList) (((rd_T140 l0 x10_1).f0).toList)) = true) then (impl_propsOk.l0 k1 l0 l0 (l0.length : Int) (wrap64 (x10_1 + 1))) else (some false)) else (none)) else (none)) else (impl_propsOk.l0 k1 l0 l0 (l0.length : Int) (wrap64 (x10_1 + 1)))) = some r := by rw [if_pos rfl] at H; exact H
      clear H
      have H := H1
      clear H1
      by_cases c10 : x10_1 > 0
      rotate_left
      · rw [if_neg c10] at H
        have c10b0 : decide (0 < x10_1) = false := decide_eq_false c10
        clear c10
        have H' := Aside0.mk H
        clear H
        have p300 : 0 ≤ (x10_1 : Int) := od_
        have q300 : x10_1 < (l0.length : Int) := od_
        obtain ⟨ad300, A300_4, c300_4, e300, hx300_0, hx300_1, hx300_2, hx300_3, hx300_4, hl300_4, hi300_4⟩ := at_T140 HR0.out x10_1 p300 q300
        cases e300
        replace hx300_0 := mv_ HB hx300_0
        replace hx300_1 := mv_ HB hx300_1
        replace hx300_2 := mv_ HB hx300_2
        replace hx300_3 := mv_ HB hx300_3
        replace hx300_4 := mv_ HB hx300_4
        have HR300_4 := Aside0.mk hi300_4
        have HC300_4 := Aside0.mk hl300_4
        clear hi300_4 hl300_4
        replace p300 := eq_true p300
        replace q300 := eq_true q300
        try go_wp2_with (first | ((with_reducible refine gate_dst (N := 4) rfl ?_); refine bx_ 4 #[.string (⟨#[]⟩ : ByteArray), .int .i64 0, .int .i64 0, .string (⟨#[]⟩ : ByteArray), .slice none 0 0] 140 ?_; intro gb301 hg w25 hbox hb; have BK301 := Aside0.mk (hbox); have GW301 := gw_ hg; have GE301 := gw_ hg; replace HB := bs_ hb; clear hb hbox hg; obtain ⟨hcz26_0, hcz26_1, hcz26_2, hcz26_3, hcz26_4, hfz26_0, hfz26_1, hfz26_2, hfz26_3, hfz26_4⟩ := blk5 BK301))
        have n0_ : Aside0 ((((((w25.setCell ⟨gb301, 0, none⟩ (.string ((rd_T140 l0 x10_1).f0))).setCell ⟨gb301, 1, none⟩ (.int .i64 ((rd_T140 l0 x10_1).f1.f0))).setCell ⟨gb301, 2, none⟩ (.int .i64 ((rd_T140 l0 x10_1).f1.f1))).setCell ⟨gb301, 3, none⟩ (.string ((rd_T140 l0 x10_1).f1.f2))).setCell ⟨gb301, 4, none⟩ (.slice A300_4 ((rd_T140 l0 x10_1).f1.f3).length c300_4)).heap[gb301]? = some (.cells #[.string ((rd_T140 l0 x10_1).f0), .int .i64 ((rd_T140 l0 x10_1).f1.f0), .int .i64 ((rd_T140 l0 x10_1).f1.f1), .string ((rd_T140 l0 x10_1).f1.f2), .slice A300_4 ((rd_T140 l0 x10_1).f1.f3).length c300_4] 140 (0, 0))) := ⟨by refine pe_ ?_; refine blk_put (cs := #[.string ((rd_T140 l0 x10_1).f0), .int .i64 ((rd_T140 l0 x10_1).f1.f0), .int .i64 ((rd_T140 l0 x10_1).f1.f1), .string ((rd_T140 l0 x10_1).f1.f2), .slice none 0 0]) ?_ 4 _ rfl; refine pe_ ?_; refine blk_put (cs := #[.string ((rd_T140 l0 x10_1).f0), .int .i64 ((rd_T140 l0 x10_1).f1.f0), .int .i64 ((rd_T140 l0 x10_1).f1.f1), .string (⟨#[]⟩ : ByteArray), .slice none 0 0]) ?_ 3 _ rfl; refine pe_ ?_; refine blk_put (cs := #[.string ((rd_T140 l0 x10_1).f0), .int .i64 ((rd_T140 l0 x10_1).f1.f0), .int .i64 0, .string (⟨#[]⟩ : ByteArray), .slice none 0 0]) ?_ 2 _ rfl; refine pe_ ?_; refine blk_put (cs := #[.string ((rd_T140 l0 x10_1).f0), .int .i64 0, .int .i64 0, .string (⟨#[]⟩ : ByteArray), .slice none 0 0]) ?_ 1 _ rfl; refine pe_ ?_; refine blk_put (cs := #[.string (⟨#[]⟩ : ByteArray), .int .i64 0, .int .i64 0, .string (⟨#[]⟩ : ByteArray), .slice none 0 0]) ?_ 0 _ rfl; refine pe_ ?_; exact BK301.out⟩
        have n1_ : Aside0 (Below w.heap.size w (((((w25.setCell ⟨gb301, 0, none⟩ (.string ((rd_T140 l0 x10_1).f0))).setCell ⟨gb301, 1, none⟩ (.int .i64 ((rd_T140 l0 x10_1).f1.f0))).setCell ⟨gb301, 2, none⟩ (.int .i64 ((rd_T140 l0 x10_1).f1.f1))).setCell ⟨gb301, 3, none⟩ (.string ((rd_T140 l0 x10_1).f1.f2))).setCell ⟨gb301, 4, none⟩ (.slice A300_4 ((rd_T140 l0 x10_1).f1.f3).length c300_4))) := ⟨bel_⟩
        (try clear BK301)
        (try clear HB)
        generalize (((((w25.setCell ⟨gb301, 0, none⟩ (.string ((rd_T140 l0 x10_1).f0))).setCell ⟨gb301, 1, none⟩ (.int .i64 ((rd_T140 l0 x10_1).f1.f0))).setCell ⟨gb301, 2, none⟩ (.int .i64 ((rd_T140 l0 x10_1).f1.f1))).setCell ⟨gb301, 3, none⟩ (.string ((rd_T140 l0 x10_1).f1.f2))).setCell ⟨gb301, 4, none⟩ (.slice A300_4 ((rd_T140 l0 x10_1).f1.f3).length c300_4)) = w27 at n0_ n1_ ⊢
        have BK301 := n0_
        have HB := n1_
        clear n0_ n1_
        replace BK301 := Aside0.mk (blk_drew BK301.out)
        replace HB := Aside0.mk (below_drew1 HB.out)
        refine start_ (n := 25) (S := fun w' => w'.cell? ⟨gb301, 0, none⟩ = some (.string ((rd_T140 l0 x10_1).f0)) ∧ w'.cell? ⟨gb301, 1, none⟩ = some (.int .i64 ((rd_T140 l0 x10_1).f1.f0)) ∧ w'.cell? ⟨gb301, 2, none⟩ = some (.int .i64 ((rd_T140 l0 x10_1).f1.f1)) ∧ w'.cell? ⟨gb301, 3, none⟩ = some (.string ((rd_T140 l0 x10_1).f1.f2)) ∧ w'.cell? ⟨gb301, 4, none⟩ = some (.slice A300_4 ((rd_T140 l0 x10_1).f1.f3).length c300_4)) (ds := []) #[false, false, false, false, false, false, false, false, false, false, false, false, false, false, false, false, false, false, false, false, false, false, false, false, false] (by kernel_rfl) rfl rfl ⟨(blkc BK301 0), (blkc BK301 1), (blkc BK301 2), (blkc BK301 3), (blkc BK301 4)⟩ (fun hHeld => ?_); refine with_tabW impl_propsOk.tab6 impl_propsOk.bits6 (fun HT_ HW_ => ?_)
        generalize w27.drew = w28 at BK301 HB hHeld ⊢
        refine puA 0 (some 15) ?_
        refine taA 1 (some 16) ?_
        refine one_ (i := 2) (N := some 17) #[true, true, true, false, false, false, false, false, false, false, false, false, false, false, false, false, false, false, false, false, false, false, false, false, false] rfl rfl (one_of HT_.out (by kernel_rfl)) (by decide) (fun K hK => ?_)
        refine goes_ Try.func82 (by kernel_rfl) rfl #[.string ((rd_T140 l0 x10_1).f0)] (by rfl) rfl rfl ar_ ?_
        with_reducible refine (impl_NameOk.calls k1 ((rd_T140 l0 x10_1).f0) true _ A6.out).mono ?_
        rintro e w' ⟨rfl, ⟨nd, rfl⟩⟩
        refine ⟨_, rfl, ?_⟩
        refine hK.out _ _ ⟨(blkc BK301 0), (blkc BK301 1), (blkc BK301 2), (blkc BK301 3), (blkc BK301 4)⟩ (fun hHeld => ?_)
        clear hK K
        refine norm_ (a' := ?_) ?_ ?_
        rotate_left
        · show Act.put _ (some 17) _ = _
          simp only [Act.put, List.setIfInBounds_toArray, List.set_cons_zero, List.set_cons_succ, i64_w, i32_w]
          rfl
        refine puA 3 (some 18) ?_
        refine puA 4 (some 19) ?_
        refine puA 5 (some 20) ?_
        refine taA 6 (some 21) ?_
        refine one_ (i := 7) (N := some 22) #[true, true, true, true, true, true, true, true, false, false, false, false, false, false, false, false, false, false, false, false, false, false, false, false, false] rfl rfl (one_of HT_.out (by kernel_rfl)) (by decide) (fun K hK => ?_)
        refine goes_ Try.func130 (by kernel_rfl) rfl #[.agg #[.int .i64 ((rd_T140 l0 x10_1).f1.f0), .int .i64 ((rd_T140 l0 x10_1).f1.f1), .string ((rd_T140 l0 x10_1).f1.f2), .slice A300_4 ((rd_T140 l0 x10_1).f1.f3).length c300_4]] (by rfl) rfl rfl ar_ ?_
        with_reducible refine (impl_storable.calls k1 ((rd_T140 l0 x10_1).f1.f0) ((rd_T140 l0 x10_1).f1.f1) ((rd_T140 l0 x10_1).f1.f2) _ _ ((rd_T140 l0 x10_1).f1.f3) true _ ?side1 ?side2 A8.out).mono ?_
        (case side1 => repeat (first | exact (Kd.C_below HR300_4.out (bel_)) | (with_reducible refine Kd.C_alloc ?_ _) | (with_reducible refine Kd.C_drewN ?_ _) | (with_reducible refine Kd.C_drew ?_)))
        (case side2 => exact HC300_4.out)
        rintro e w29 ⟨rfl, hb⟩
        refine ⟨_, rfl, ?_⟩
        replace BK301 := bb_ BK301 hb
        replace HB := bs_ hb
        (try clear hb)
        (try clear hb2)
        (try clear hk)
        (try clear hi)
        refine hK.out _ _ ⟨(blkc BK301 0), (blkc BK301 1), (blkc BK301 2), (blkc BK301 3), (blkc BK301 4)⟩ (fun hHeld => ?_)
        clear hK K
        refine norm_ (a' := ?_) ?_ ?_
        rotate_left
        · show Act.put _ (some 22) _ = _
          simp only [Act.put, List.setIfInBounds_toArray, List.set_cons_zero, List.set_cons_succ, i64_w, i32_w]
          rfl
        refine puA 8 (some 23) ?_
        refine puA 9 (some 24) ?_
        refine puA 10 (some 25) ?_
        refine puA 11 (some 26) ?_
        refine puA 12 (some 27) ?_
        refine puA 13 (some 28) ?_
        refine puX 14 (some 29) ?_
        refine puX 15 (some 30) ?_
        refine puX 16 (some 31) ?_
        refine puX 17 (some 32) ?_
        refine puX 18 (some 33) ?_
        refine puX 19 (some 34) ?_
        refine puX 20 (some 35) ?_
        refine puX 21 (some 36) ?_
        refine puX 22 (some 37) ?_
        refine puA 23 (some 38) ?_
        refine puA 24 (some 39) ?_
        refine done_ (done_of HT_.out (by kernel_rfl)) ?_
        try go_wp2
        go_roundg k1
        case measure => have := HK1.out; omega
        case rel => exact ⟨(wrap64 (x10_1 + 1)), sm_, H', ⟨by have := HK1.out; omega⟩, ⟨bel_⟩⟩
      rw [if_pos c10] at H
      have c10b0 : decide (0 < x10_1) = true := decide_eq_true c10
      clear c10
      obtain ⟨ji11, hji11⟩ : ∃ j_ : Int, (wrap64 (x10_1 - 1)) = j_ := ⟨_, rfl⟩
      replace H : (if 0 ≤ (ji11) then (if (ji11) < (l0.length : Int) then (if ((Op.bytesLess (((rd_T140 l0 (ji11)).f0).toList) (((rd_T140 l0 x10_1).f0).toList)) = true) then (impl_propsOk.l0 k1 l0 l0 (l0.length : Int) (wrap64 (x10_1 + 1))) else (some false)) else (none)) else (none)) = some r := by first | (rw [hji11] at H; exact H) | (simp only [hji11] at H ⊢; exact H)
      (try rw [hji11] at A6)
      (try rw [hji11] at A8)
      have hji11w : (IntKind.i64.wrap (x10_1 - 1)) = ji11 := (i64_w _).trans hji11
      by_cases c12 : 0 ≤ (ji11)
      rotate_left
      · rw [if_neg c12] at H
        exact absurd H (by simp)
      rw [if_pos c12] at H
      have c12b0 : decide (0 ≤ (ji11)) = true := decide_eq_true c12
      clear c12
      by_cases c13 : (ji11) < (l0.length : Int)
      rotate_left
      · rw [if_neg c13] at H
        exact absurd H (by simp)
      rw [if_pos c13] at H
      have c13b0 : decide ((ji11) < (l0.length : Int)) = true := decide_eq_true c13
      clear c13
      by_cases c14 : ((Op.bytesLess (((rd_T140 l0 (ji11)).f0).toList) (((rd_T140 l0 x10_1).f0).toList)) = true)
      · rw [if_pos c14] at H
        have c14b0 : (Op.bytesLess (((rd_T140 l0 (ji11)).f0).toList) (((rd_T140 l0 x10_1).f0).toList)) = true := c14
        clear c14
        have H' := Aside0.mk H
        clear H
        have p300 : 0 ≤ (x10_1 : Int) := od_
        have q300 : x10_1 < (l0.length : Int) := od_
        obtain ⟨ad300, A300_4, c300_4, e300, hx300_0, hx300_1, hx300_2, hx300_3, hx300_4, hl300_4, hi300_4⟩ := at_T140 HR0.out x10_1 p300 q300
        cases e300
        replace hx300_0 := mv_ HB hx300_0
        replace hx300_1 := mv_ HB hx300_1
        replace hx300_2 := mv_ HB hx300_2
        replace hx300_3 := mv_ HB hx300_3
        replace hx300_4 := mv_ HB hx300_4
        have HR300_4 := Aside0.mk hi300_4
        have HC300_4 := Aside0.mk hl300_4
        clear hi300_4 hl300_4
        replace p300 := eq_true p300
        replace q300 := eq_true q300
        try go_wp2_with (first | ((with_reducible refine gate_dst (N := 4) rfl ?_); refine bx_ 4 #[.string (⟨#[]⟩ : ByteArray), .int .i64 0, .int .i64 0, .string (⟨#[]⟩ : ByteArray), .slice none 0 0] 140 ?_; intro gb301 hg w15 hbox hb; have BK301 := Aside0.mk (hbox); have GW301 := gw_ hg; have GE301 := gw_ hg; replace HB := bs_ hb; clear hb hbox hg; obtain ⟨hcz16_0, hcz16_1, hcz16_2, hcz16_3, hcz16_4, hfz16_0, hfz16_1, hfz16_2, hfz16_3, hfz16_4⟩ := blk5 BK301))
        have n0_ : Aside0 ((((((w15.setCell ⟨gb301, 0, none⟩ (.string ((rd_T140 l0 x10_1).f0))).setCell ⟨gb301, 1, none⟩ (.int .i64 ((rd_T140 l0 x10_1).f1.f0))).setCell ⟨gb301, 2, none⟩ (.int .i64 ((rd_T140 l0 x10_1).f1.f1))).setCell ⟨gb301, 3, none⟩ (.string ((rd_T140 l0 x10_1).f1.f2))).setCell ⟨gb301, 4, none⟩ (.slice A300_4 ((rd_T140 l0 x10_1).f1.f3).length c300_4)).heap[gb301]? = some (.cells #[.string ((rd_T140 l0 x10_1).f0), .int .i64 ((rd_T140 l0 x10_1).f1.f0), .int .i64 ((rd_T140 l0 x10_1).f1.f1), .string ((rd_T140 l0 x10_1).f1.f2), .slice A300_4 ((rd_T140 l0 x10_1).f1.f3).length c300_4] 140 (0, 0))) := ⟨by refine pe_ ?_; refine blk_put (cs := #[.string ((rd_T140 l0 x10_1).f0), .int .i64 ((rd_T140 l0 x10_1).f1.f0), .int .i64 ((rd_T140 l0 x10_1).f1.f1), .string ((rd_T140 l0 x10_1).f1.f2), .slice none 0 0]) ?_ 4 _ rfl; refine pe_ ?_; refine blk_put (cs := #[.string ((rd_T140 l0 x10_1).f0), .int .i64 ((rd_T140 l0 x10_1).f1.f0), .int .i64 ((rd_T140 l0 x10_1).f1.f1), .string (⟨#[]⟩ : ByteArray), .slice none 0 0]) ?_ 3 _ rfl; refine pe_ ?_; refine blk_put (cs := #[.string ((rd_T140 l0 x10_1).f0), .int .i64 ((rd_T140 l0 x10_1).f1.f0), .int .i64 0, .string (⟨#[]⟩ : ByteArray), .slice none 0 0]) ?_ 2 _ rfl; refine pe_ ?_; refine blk_put (cs := #[.string ((rd_T140 l0 x10_1).f0), .int .i64 0, .int .i64 0, .string (⟨#[]⟩ : ByteArray), .slice none 0 0]) ?_ 1 _ rfl; refine pe_ ?_; refine blk_put (cs := #[.string (⟨#[]⟩ : ByteArray), .int .i64 0, .int .i64 0, .string (⟨#[]⟩ : ByteArray), .slice none 0 0]) ?_ 0 _ rfl; refine pe_ ?_; exact BK301.out⟩
        have n1_ : Aside0 (Below w.heap.size w (((((w15.setCell ⟨gb301, 0, none⟩ (.string ((rd_T140 l0 x10_1).f0))).setCell ⟨gb301, 1, none⟩ (.int .i64 ((rd_T140 l0 x10_1).f1.f0))).setCell ⟨gb301, 2, none⟩ (.int .i64 ((rd_T140 l0 x10_1).f1.f1))).setCell ⟨gb301, 3, none⟩ (.string ((rd_T140 l0 x10_1).f1.f2))).setCell ⟨gb301, 4, none⟩ (.slice A300_4 ((rd_T140 l0 x10_1).f1.f3).length c300_4))) := ⟨bel_⟩
        (try clear BK301)
        (try clear HB)
        generalize (((((w15.setCell ⟨gb301, 0, none⟩ (.string ((rd_T140 l0 x10_1).f0))).setCell ⟨gb301, 1, none⟩ (.int .i64 ((rd_T140 l0 x10_1).f1.f0))).setCell ⟨gb301, 2, none⟩ (.int .i64 ((rd_T140 l0 x10_1).f1.f1))).setCell ⟨gb301, 3, none⟩ (.string ((rd_T140 l0 x10_1).f1.f2))).setCell ⟨gb301, 4, none⟩ (.slice A300_4 ((rd_T140 l0 x10_1).f1.f3).length c300_4)) = w17 at n0_ n1_ ⊢
        have BK301 := n0_
        have HB := n1_
        clear n0_ n1_
        replace BK301 := Aside0.mk (blk_drew BK301.out)
        replace HB := Aside0.mk (below_drew1 HB.out)
        have p304 : 0 ≤ ((ji11) : Int) := od_
        have q304 : (ji11) < (l0.length : Int) := od_
        obtain ⟨ad304, A304_4, c304_4, e304, hx304_0, hx304_1, hx304_2, hx304_3, hx304_4, hl304_4, hi304_4⟩ := at_T140 HR0.out (ji11) p304 q304
        have hw304_4 := hx304_4
        have hw304_3 := hx304_3
        have hw304_2 := hx304_2
        have hw304_1 := hx304_1
        have hw304_0 := hx304_0
        obtain rfl : ad300 = ad304 := (by injection e304)
        replace hx304_0 := mv_ HB hx304_0
        replace hx304_1 := mv_ HB hx304_1
        replace hx304_2 := mv_ HB hx304_2
        replace hx304_3 := mv_ HB hx304_3
        replace hx304_4 := mv_ HB hx304_4
        have HR304_4 := Aside0.mk hi304_4
        have HC304_4 := Aside0.mk hl304_4
        clear hi304_4 hl304_4
        replace p304 := eq_true p304
        replace q304 := eq_true q304
        refine start_ (n := 25) (S := fun w' => w'.cell? ⟨gb301, 0, none⟩ = some (.string ((rd_T140 l0 x10_1).f0)) ∧ w'.cell? ⟨gb301, 1, none⟩ = some (.int .i64 ((rd_T140 l0 x10_1).f1.f0)) ∧ w'.cell? ⟨gb301, 2, none⟩ = some (.int .i64 ((rd_T140 l0 x10_1).f1.f1)) ∧ w'.cell? ⟨gb301, 3, none⟩ = some (.string ((rd_T140 l0 x10_1).f1.f2)) ∧ w'.cell? ⟨gb301, 4, none⟩ = some (.slice A300_4 ((rd_T140 l0 x10_1).f1.f3).length c300_4) ∧ w'.cell? (ad300.add (((ji11)).toNat * 5)) = some (.string ((rd_T140 l0 (ji11)).f0)) ∧ w'.cell? ⟨(ad300.add (((ji11)).toNat * 5)).block, (ad300.add (((ji11)).toNat * 5)).off + 1, none⟩ = some (.int .i64 ((rd_T140 l0 (ji11)).f1.f0)) ∧ w'.cell? ⟨(ad300.add (((ji11)).toNat * 5)).block, (ad300.add (((ji11)).toNat * 5)).off + 2, none⟩ = some (.int .i64 ((rd_T140 l0 (ji11)).f1.f1)) ∧ w'.cell? ⟨(ad300.add (((ji11)).toNat * 5)).block, (ad300.add (((ji11)).toNat * 5)).off + 3, none⟩ = some (.string ((rd_T140 l0 (ji11)).f1.f2)) ∧ w'.cell? ⟨(ad300.add (((ji11)).toNat * 5)).block, (ad300.add (((ji11)).toNat * 5)).off + 4, none⟩ = some (.slice A304_4 ((rd_T140 l0 (ji11)).f1.f3).length c304_4)) (ds := []) #[false, false, false, false, false, false, false, false, false, false, false, false, false, false, false, false, false, false, false, false, false, false, false, false, false] (by kernel_rfl) rfl rfl ⟨(blkc BK301 0), (blkc BK301 1), (blkc BK301 2), (blkc BK301 3), (blkc BK301 4), (mv_ HB hw304_0 :), (mv_ HB hw304_1 :), (mv_ HB hw304_2 :), (mv_ HB hw304_3 :), (mv_ HB hw304_4 :)⟩ (fun hHeld => ?_); refine with_tabW impl_propsOk.tab6 impl_propsOk.bits6 (fun HT_ HW_ => ?_)
        generalize w17.drew = w18 at BK301 HB HR304_4 hx304_0 hx304_1 hx304_2 hx304_3 hx304_4 hHeld ⊢
        refine puA 0 (some 15) ?_
        refine taA 1 (some 16) ?_
        refine one_ (i := 2) (N := some 17) #[true, true, true, false, false, false, false, false, false, false, false, false, false, false, false, false, false, false, false, false, false, false, false, false, false] rfl rfl (one_of HT_.out (by kernel_rfl)) (by decide) (fun K hK => ?_)
        refine goes_ Try.func82 (by kernel_rfl) rfl #[.string ((rd_T140 l0 x10_1).f0)] (by rfl) rfl rfl ar_ ?_
        with_reducible refine (impl_NameOk.calls k1 ((rd_T140 l0 x10_1).f0) true _ A6.out).mono ?_
        rintro e w' ⟨rfl, ⟨nd, rfl⟩⟩
        refine ⟨_, rfl, ?_⟩
        refine hK.out _ _ ⟨(blkc BK301 0), (blkc BK301 1), (blkc BK301 2), (blkc BK301 3), (blkc BK301 4), (mv_ HB hw304_0 :), (mv_ HB hw304_1 :), (mv_ HB hw304_2 :), (mv_ HB hw304_3 :), (mv_ HB hw304_4 :)⟩ (fun hHeld => ?_)
        clear hK K
        refine norm_ (a' := ?_) ?_ ?_
        rotate_left
        · show Act.put _ (some 17) _ = _
          simp only [Act.put, List.setIfInBounds_toArray, List.set_cons_zero, List.set_cons_succ, i64_w, i32_w]
          rfl
        refine puA 3 (some 18) ?_
        refine puA 4 (some 19) ?_
        refine puA 5 (some 20) ?_
        refine taA 6 (some 21) ?_
        refine one_ (i := 7) (N := some 22) #[true, true, true, true, true, true, true, true, false, false, false, false, false, false, false, false, false, false, false, false, false, false, false, false, false] rfl rfl (one_of HT_.out (by kernel_rfl)) (by decide) (fun K hK => ?_)
        refine goes_ Try.func130 (by kernel_rfl) rfl #[.agg #[.int .i64 ((rd_T140 l0 x10_1).f1.f0), .int .i64 ((rd_T140 l0 x10_1).f1.f1), .string ((rd_T140 l0 x10_1).f1.f2), .slice A300_4 ((rd_T140 l0 x10_1).f1.f3).length c300_4]] (by rfl) rfl rfl ar_ ?_
        with_reducible refine (impl_storable.calls k1 ((rd_T140 l0 x10_1).f1.f0) ((rd_T140 l0 x10_1).f1.f1) ((rd_T140 l0 x10_1).f1.f2) _ _ ((rd_T140 l0 x10_1).f1.f3) true _ ?side1 ?side2 A8.out).mono ?_
        (case side1 => repeat (first | exact (Kd.C_below HR300_4.out (bel_)) | (with_reducible refine Kd.C_alloc ?_ _) | (with_reducible refine Kd.C_drewN ?_ _) | (with_reducible refine Kd.C_drew ?_)))
        (case side2 => exact HC300_4.out)
        rintro e w19 ⟨rfl, hb⟩
        refine ⟨_, rfl, ?_⟩
        replace BK301 := bb_ BK301 hb
        replace HB := bs_ hb
        (try clear hb)
        (try clear hb2)
        (try clear hk)
        (try clear hi)
        refine hK.out _ _ ⟨(blkc BK301 0), (blkc BK301 1), (blkc BK301 2), (blkc BK301 3), (blkc BK301 4), (mv_ HB hw304_0 :), (mv_ HB hw304_1 :), (mv_ HB hw304_2 :), (mv_ HB hw304_3 :), (mv_ HB hw304_4 :)⟩ (fun hHeld => ?_)
        clear hK K
        refine norm_ (a' := ?_) ?_ ?_
        rotate_left
        · show Act.put _ (some 22) _ = _
          simp only [Act.put, List.setIfInBounds_toArray, List.set_cons_zero, List.set_cons_succ, i64_w, i32_w]
          rfl
        refine puA 8 (some 23) ?_
        refine puA 9 (some 24) ?_
        refine puA 10 (some 25) ?_
        refine puA 11 (some 26) ?_
        refine puA 12 (some 27) ?_
        refine puA 13 (some 28) ?_
        refine puA 14 (some 29) ?_
        refine puA 15 (some 30) ?_
        refine puA 16 (some 31) ?_
        refine puA 17 (some 32) ?_
        refine puA 18 (some 33) ?_
        refine puA 20 (some 35) ?_
        refine taA 19 (some 34) ?_
        refine taA 21 (some 36) ?_
        refine puA 22 (some 37) ?_
        refine puA 23 (some 38) ?_
        refine puA 24 (some 39) ?_
        refine done_ (done_of HT_.out (by kernel_rfl)) ?_
        try go_wp2
        go_roundg k1
        case measure => have := HK1.out; omega
        case rel => exact ⟨(wrap64 (x10_1 + 1)), sm_, H', ⟨by have := HK1.out; omega⟩, ⟨bel_⟩⟩
      rw [if_neg c14] at H
      have c14b0 : (Op.bytesLess (((rd_T140 l0 (ji11)).f0).toList) (((rd_T140 l0 x10_1).f0).toList)) = false := by simpa using c14
      clear c14
      obtain rfl := Option.some.inj H
      have p300 : 0 ≤ (x10_1 : Int) := od_
      have q300 : x10_1 < (l0.length : Int) := od_
      obtain ⟨ad300, A300_4, c300_4, e300, hx300_0, hx300_1, hx300_2, hx300_3, hx300_4, hl300_4, hi300_4⟩ := at_T140 HR0.out x10_1 p300 q300
      cases e300
      replace hx300_0 := mv_ HB hx300_0
      replace hx300_1 := mv_ HB hx300_1
      replace hx300_2 := mv_ HB hx300_2
      replace hx300_3 := mv_ HB hx300_3
      replace hx300_4 := mv_ HB hx300_4
      have HR300_4 := Aside0.mk hi300_4
      have HC300_4 := Aside0.mk hl300_4
      clear hi300_4 hl300_4
      replace p300 := eq_true p300
      replace q300 := eq_true q300
      try go_wp2_with (first | ((with_reducible refine gate_dst (N := 4) rfl ?_); refine bx_ 4 #[.string (⟨#[]⟩ : ByteArray), .int .i64 0, .int .i64 0, .string (⟨#[]⟩ : ByteArray), .slice none 0 0] 140 ?_; intro gb301 hg w20 hbox hb; have BK301 := Aside0.mk (hbox); have GW301 := gw_ hg; have GE301 := gw_ hg; replace HB := bs_ hb; clear hb hbox hg; obtain ⟨hcz21_0, hcz21_1, hcz21_2, hcz21_3, hcz21_4, hfz21_0, hfz21_1, hfz21_2, hfz21_3, hfz21_4⟩ := blk5 BK301))
      have n0_ : Aside0 ((((((w20.setCell ⟨gb301, 0, none⟩ (.string ((rd_T140 l0 x10_1).f0))).setCell ⟨gb301, 1, none⟩ (.int .i64 ((rd_T140 l0 x10_1).f1.f0))).setCell ⟨gb301, 2, none⟩ (.int .i64 ((rd_T140 l0 x10_1).f1.f1))).setCell ⟨gb301, 3, none⟩ (.string ((rd_T140 l0 x10_1).f1.f2))).setCell ⟨gb301, 4, none⟩ (.slice A300_4 ((rd_T140 l0 x10_1).f1.f3).length c300_4)).heap[gb301]? = some (.cells #[.string ((rd_T140 l0 x10_1).f0), .int .i64 ((rd_T140 l0 x10_1).f1.f0), .int .i64 ((rd_T140 l0 x10_1).f1.f1), .string ((rd_T140 l0 x10_1).f1.f2), .slice A300_4 ((rd_T140 l0 x10_1).f1.f3).length c300_4] 140 (0, 0))) := ⟨by refine pe_ ?_; refine blk_put (cs := #[.string ((rd_T140 l0 x10_1).f0), .int .i64 ((rd_T140 l0 x10_1).f1.f0), .int .i64 ((rd_T140 l0 x10_1).f1.f1), .string ((rd_T140 l0 x10_1).f1.f2), .slice none 0 0]) ?_ 4 _ rfl; refine pe_ ?_; refine blk_put (cs := #[.string ((rd_T140 l0 x10_1).f0), .int .i64 ((rd_T140 l0 x10_1).f1.f0), .int .i64 ((rd_T140 l0 x10_1).f1.f1), .string (⟨#[]⟩ : ByteArray), .slice none 0 0]) ?_ 3 _ rfl; refine pe_ ?_; refine blk_put (cs := #[.string ((rd_T140 l0 x10_1).f0), .int .i64 ((rd_T140 l0 x10_1).f1.f0), .int .i64 0, .string (⟨#[]⟩ : ByteArray), .slice none 0 0]) ?_ 2 _ rfl; refine pe_ ?_; refine blk_put (cs := #[.string ((rd_T140 l0 x10_1).f0), .int .i64 0, .int .i64 0, .string (⟨#[]⟩ : ByteArray), .slice none 0 0]) ?_ 1 _ rfl; refine pe_ ?_; refine blk_put (cs := #[.string (⟨#[]⟩ : ByteArray), .int .i64 0, .int .i64 0, .string (⟨#[]⟩ : ByteArray), .slice none 0 0]) ?_ 0 _ rfl; refine pe_ ?_; exact BK301.out⟩
      have n1_ : Aside0 (Below w.heap.size w (((((w20.setCell ⟨gb301, 0, none⟩ (.string ((rd_T140 l0 x10_1).f0))).setCell ⟨gb301, 1, none⟩ (.int .i64 ((rd_T140 l0 x10_1).f1.f0))).setCell ⟨gb301, 2, none⟩ (.int .i64 ((rd_T140 l0 x10_1).f1.f1))).setCell ⟨gb301, 3, none⟩ (.string ((rd_T140 l0 x10_1).f1.f2))).setCell ⟨gb301, 4, none⟩ (.slice A300_4 ((rd_T140 l0 x10_1).f1.f3).length c300_4))) := ⟨bel_⟩
      (try clear BK301)
      (try clear HB)
      generalize (((((w20.setCell ⟨gb301, 0, none⟩ (.string ((rd_T140 l0 x10_1).f0))).setCell ⟨gb301, 1, none⟩ (.int .i64 ((rd_T140 l0 x10_1).f1.f0))).setCell ⟨gb301, 2, none⟩ (.int .i64 ((rd_T140 l0 x10_1).f1.f1))).setCell ⟨gb301, 3, none⟩ (.string ((rd_T140 l0 x10_1).f1.f2))).setCell ⟨gb301, 4, none⟩ (.slice A300_4 ((rd_T140 l0 x10_1).f1.f3).length c300_4)) = w22 at n0_ n1_ ⊢
      have BK301 := n0_
      have HB := n1_
      clear n0_ n1_
      replace BK301 := Aside0.mk (blk_drew BK301.out)
      replace HB := Aside0.mk (below_drew1 HB.out)
      have p304 : 0 ≤ ((ji11) : Int) := od_
      have q304 : (ji11) < (l0.length : Int) := od_
      obtain ⟨ad304, A304_4, c304_4, e304, hx304_0, hx304_1, hx304_2, hx304_3, hx304_4, hl304_4, hi304_4⟩ := at_T140 HR0.out (ji11) p304 q304
      have hw304_4 := hx304_4
      have hw304_3 := hx304_3
      have hw304_2 := hx304_2
      have hw304_1 := hx304_1
      have hw304_0 := hx304_0
      obtain rfl : ad300 = ad304 := (by injection e304)
      replace hx304_0 := mv_ HB hx304_0
      replace hx304_1 := mv_ HB hx304_1
      replace hx304_2 := mv_ HB hx304_2
      replace hx304_3 := mv_ HB hx304_3
      replace hx304_4 := mv_ HB hx304_4
      have HR304_4 := Aside0.mk hi304_4
      have HC304_4 := Aside0.mk hl304_4
      clear hi304_4 hl304_4
      replace p304 := eq_true p304
      replace q304 := eq_true q304
      refine start_ (n := 25) (S := fun w' => w'.cell? ⟨gb301, 0, none⟩ = some (.string ((rd_T140 l0 x10_1).f0)) ∧ w'.cell? ⟨gb301, 1, none⟩ = some (.int .i64 ((rd_T140 l0 x10_1).f1.f0)) ∧ w'.cell? ⟨gb301, 2, none⟩ = some (.int .i64 ((rd_T140 l0 x10_1).f1.f1)) ∧ w'.cell? ⟨gb301, 3, none⟩ = some (.string ((rd_T140 l0 x10_1).f1.f2)) ∧ w'.cell? ⟨gb301, 4, none⟩ = some (.slice A300_4 ((rd_T140 l0 x10_1).f1.f3).length c300_4) ∧ w'.cell? (ad300.add (((ji11)).toNat * 5)) = some (.string ((rd_T140 l0 (ji11)).f0)) ∧ w'.cell? ⟨(ad300.add (((ji11)).toNat * 5)).block, (ad300.add (((ji11)).toNat * 5)).off + 1, none⟩ = some (.int .i64 ((rd_T140 l0 (ji11)).f1.f0)) ∧ w'.cell? ⟨(ad300.add (((ji11)).toNat * 5)).block, (ad300.add (((ji11)).toNat * 5)).off + 2, none⟩ = some (.int .i64 ((rd_T140 l0 (ji11)).f1.f1)) ∧ w'.cell? ⟨(ad300.add (((ji11)).toNat * 5)).block, (ad300.add (((ji11)).toNat * 5)).off + 3, none⟩ = some (.string ((rd_T140 l0 (ji11)).f1.f2)) ∧ w'.cell? ⟨(ad300.add (((ji11)).toNat * 5)).block, (ad300.add (((ji11)).toNat * 5)).off + 4, none⟩ = some (.slice A304_4 ((rd_T140 l0 (ji11)).f1.f3).length c304_4)) (ds := []) #[false, false, false, false, false, false, false, false, false, false, false, false, false, false, false, false, false, false, false, false, false, false, false, false, false] (by kernel_rfl) rfl rfl ⟨(blkc BK301 0), (blkc BK301 1), (blkc BK301 2), (blkc BK301 3), (blkc BK301 4), (mv_ HB hw304_0 :), (mv_ HB hw304_1 :), (mv_ HB hw304_2 :), (mv_ HB hw304_3 :), (mv_ HB hw304_4 :)⟩ (fun hHeld => ?_); refine with_tabW impl_propsOk.tab6 impl_propsOk.bits6 (fun HT_ HW_ => ?_)
      generalize w22.drew = w23 at BK301 HB HR304_4 hx304_0 hx304_1 hx304_2 hx304_3 hx304_4 hHeld ⊢
      refine puA 0 (some 15) ?_
      refine taA 1 (some 16) ?_
      refine one_ (i := 2) (N := some 17) #[true, true, true, false, false, false, false, false, false, false, false, false, false, false, false, false, false, false, false, false, false, false, false, false, false] rfl rfl (one_of HT_.out (by kernel_rfl)) (by decide) (fun K hK => ?_)
      refine goes_ Try.func82 (by kernel_rfl) rfl #[.string ((rd_T140 l0 x10_1).f0)] (by rfl) rfl rfl ar_ ?_
      with_reducible refine (impl_NameOk.calls k1 ((rd_T140 l0 x10_1).f0) true _ A6.out).mono ?_
      rintro e w' ⟨rfl, ⟨nd, rfl⟩⟩
      refine ⟨_, rfl, ?_⟩
      refine hK.out _ _ ⟨(blkc BK301 0), (blkc BK301 1), (blkc BK301 2), (blkc BK301 3), (blkc BK301 4), (mv_ HB hw304_0 :), (mv_ HB hw304_1 :), (mv_ HB hw304_2 :), (mv_ HB hw304_3 :), (mv_ HB hw304_4 :)⟩ (fun hHeld => ?_)
      clear hK K
      refine norm_ (a' := ?_) ?_ ?_
      rotate_left
      · show Act.put _ (some 17) _ = _
        simp only [Act.put, List.setIfInBounds_toArray, List.set_cons_zero, List.set_cons_succ, i64_w, i32_w]
        rfl
      refine puA 3 (some 18) ?_
      refine puA 4 (some 19) ?_
      refine puA 5 (some 20) ?_
      refine taA 6 (some 21) ?_
      refine one_ (i := 7) (N := some 22) #[true, true, true, true, true, true, true, true, false, false, false, false, false, false, false, false, false, false, false, false, false, false, false, false, false] rfl rfl (one_of HT_.out (by kernel_rfl)) (by decide) (fun K hK => ?_)
      refine goes_ Try.func130 (by kernel_rfl) rfl #[.agg #[.int .i64 ((rd_T140 l0 x10_1).f1.f0), .int .i64 ((rd_T140 l0 x10_1).f1.f1), .string ((rd_T140 l0 x10_1).f1.f2), .slice A300_4 ((rd_T140 l0 x10_1).f1.f3).length c300_4]] (by rfl) rfl rfl ar_ ?_
      with_reducible refine (impl_storable.calls k1 ((rd_T140 l0 x10_1).f1.f0) ((rd_T140 l0 x10_1).f1.f1) ((rd_T140 l0 x10_1).f1.f2) _ _ ((rd_T140 l0 x10_1).f1.f3) true _ ?side1 ?side2 A8.out).mono ?_
      (case side1 => repeat (first | exact (Kd.C_below HR300_4.out (bel_)) | (with_reducible refine Kd.C_alloc ?_ _) | (with_reducible refine Kd.C_drewN ?_ _) | (with_reducible refine Kd.C_drew ?_)))
      (case side2 => exact HC300_4.out)
      rintro e w24 ⟨rfl, hb⟩
      refine ⟨_, rfl, ?_⟩
      replace BK301 := bb_ BK301 hb
      replace HB := bs_ hb
      (try clear hb)
      (try clear hb2)
      (try clear hk)
      (try clear hi)
      refine hK.out _ _ ⟨(blkc BK301 0), (blkc BK301 1), (blkc BK301 2), (blkc BK301 3), (blkc BK301 4), (mv_ HB hw304_0 :), (mv_ HB hw304_1 :), (mv_ HB hw304_2 :), (mv_ HB hw304_3 :), (mv_ HB hw304_4 :)⟩ (fun hHeld => ?_)
      clear hK K
      refine norm_ (a' := ?_) ?_ ?_
      rotate_left
      · show Act.put _ (some 22) _ = _
        simp only [Act.put, List.setIfInBounds_toArray, List.set_cons_zero, List.set_cons_succ, i64_w, i32_w]
        rfl
      refine puA 8 (some 23) ?_
      refine puA 9 (some 24) ?_
      refine puA 10 (some 25) ?_
      refine puA 11 (some 26) ?_
      refine puA 12 (some 27) ?_
      refine puA 13 (some 28) ?_
      refine puA 14 (some 29) ?_
      refine puA 15 (some 30) ?_
      refine puA 16 (some 31) ?_
      refine puA 17 (some 32) ?_
      refine puA 18 (some 33) ?_
      refine puA 20 (some 35) ?_
      refine taA 19 (some 34) ?_
      refine taA 21 (some 36) ?_
      refine puA 22 (some 37) ?_
      refine puA 23 (some 38) ?_
      refine puA 24 (some 39) ?_
      refine done_ (done_of HT_.out (by kernel_rfl)) ?_
      try go_wp2
      go_ret
      exact ⟨by first | rfl | (simp [errW_none, errW_some] <;> rfl) | (simp only [← hji11]; first | rfl | (simp [errW_none, errW_some] <;> rfl)) | (simp [*, errW_none, errW_some] <;> rfl), bel_⟩

end Go.Proofs.Ytcchmhmbjhgfdaa.G
