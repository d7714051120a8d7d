import Derived.Test.YtcchmhmbjhgfdaaY3
import Derived.Test.YtcchmhmbjhgfdaaY7
import Derived.Test.YtcchmhmbjhgfdaaY2
namespace Go.Proofs.Ytcchmhmbjhgfdaa.G
open Go.RowKit Go.Proofs.YtcchmhmbjhgfdaaW.PrintWords Go.Proofs.YtcchmhmbjhgfdaaW.PrintLast Go.Proofs.YtcchmhmbjhgfdaaW.PrintMore
attribute [local go_sem] max2_int min2_int max_two min_two max_three min_three max_four min_four Own.str_gtr Own.str_leq Own.str_geq Own.sto_fn   -- for this text's walks alone
open Own
set_option linter.unusedVariables false
set_option linter.unusedSimpArgs false
def laws_eqEdgeS.l0 : Nat → List (S104) → List (S104) → Int → Option (Bool)
  | 0, _, _, _ => none
  | k + 1, x0, x1, x5 => if x5 < (x0.length : Int) then (if 0 ≤ x5 then (if x5 < (x1.length : Int) then ((laws_eqEdge.f k ((rd_T104 x0 x5).f0) ((rd_T104 x0 x5).f1) ((rd_T104 x0 x5).f2) ((rd_T104 x0 x5).f3) ((rd_T104 x0 x5).f4) ((rd_T104 x1 x5).f0) ((rd_T104 x1 x5).f1) ((rd_T104 x1 x5).f2) ((rd_T104 x1 x5).f3) ((rd_T104 x1 x5).f4)).bind fun t103 => (if t103 = true then (laws_eqEdgeS.l0 k x0 x1 (wrap64 (x5 + 1))) else (some false))) else (none)) else (none)) else (some true)
def laws_eqEdgeS.f (k : Nat) (l0 : List (S104)) (l1 : List (S104)) : Option (Bool) := if (l0.length : Int) = (l1.length : Int) then (laws_eqEdgeS.l0 k l0 l1 0) else (some false)
def laws_eqEdgeS.T6 : Bool × List (List Nat × List Nat) := (true, [([], []), ([], []), ([0, 1], [0, 1]), ([2], [2]), ([], []), ([], []), ([4, 5], [4, 5]), ([6], [6]), ([3, 7], [3, 7]), ([8], [8])])
def laws_eqEdgeS.B6 : List Nat := [0, 0, 3, 7, 0, 0, 48, 112, 255, 511]
theorem laws_eqEdgeS.tab6 : rtab .any (opsOf Try.f85 6) = laws_eqEdgeS.T6 := by kernel_rfl
theorem laws_eqEdgeS.bits6 : waitsOk laws_eqEdgeS.T6.2 laws_eqEdgeS.B6 = true := by kernel_rfl
set_option maxHeartbeats 8000000 in
set_option maxRecDepth 100000 in
theorem laws_eqEdgeS.calls (k : Nat) (A0 : Option Addr) (c0 : Nat) (l0 : List (S104)) (A1 : Option Addr) (c1 : Nat) (l1 : List (S104)) (r : Bool) (w : World) (hr0 : Kd.C k104 w A0 l0.length l0) (hc0 : l0.length ≤ c0) (hr1 : Kd.C k104 w A1 l1.length l1) (hc1 : l1.length ≤ c1) (h : laws_eqEdgeS.f k l0 l1 = some r) :
    Calls Try.prog 85 #[.slice A0 l0.length c0, .slice A1 l1.length c1] w fun e w' => e = .returned (.bool r) ∧ Below w.heap.size w w' := by
  have hu104 := Try.underlying104; have HR0 := Aside0.mk hr0; have HC0 := Aside0.mk hc0; clear hr0 hc0; have HR1 := Aside0.mk hr1; have HC1 := Aside0.mk hc1; clear hr1 hc1; have HB := Aside0.mk (Below.refl w.heap.size w); have H : (if (l0.length : Int) = (l1.length : Int) then (laws_eqEdgeS.l0 k l0 l1 0) else (some false)) = some r := h; clear h; by_cases c3 : (l0.length : Int) = (l1.length : Int); rotate_left; rw [if_neg c3] at H; have c3b0 := bf_ c3; have c3b1 := nt_ c3
  have c3b2 : (l0.length == l1.length) = false := by first | simpa using c3 | (simp at c3 ⊢; omega)
  obtain rfl := Option.some.inj H; rotate_right; rw [if_pos c3] at H; have c3b0 := bt__ c3; have c3b1 := nf__ c3
  have c3b2 : (l0.length == l1.length) = true := by first | simpa using c3 | (simp at c3 ⊢; omega)
  clear c3; have H' := Aside0.mk H; clear H
  all_goals
    go_enter Try.func85, Try.ntmps85
    go_wp2
  rotate_left
  · go_ret; exact re_
  go_loopg [5] k (fun kq v5 w' => ∃ (x5_1 : Int), v5 = .int .i64 x5_1 ∧ Aside0 (laws_eqEdgeS.l0 kq l0 l1 x5_1 = some r) ∧ Aside0 (kq ≤ k) ∧ Aside0 (Below w.heap.size w w'))
  case atStart => exact ⟨(0), sm_, H', ⟨Nat.le_refl _⟩, ⟨bel_⟩⟩
  case round =>
    clear H'
    try clear c1
    try clear p2
    try clear c3
    try clear c3b0
    try clear c3b1
    try clear c3b2
    obtain ⟨x5_1, rfl, HA, HK1, HB⟩ := hrel
    cases gk with
    | zero => exact absurd HA.out (by simp [laws_eqEdgeS.l0])
    | succ k1 =>
      have H := HA.out; clear HA; simp only [laws_eqEdgeS.l0] at H; by_cases c4 : x5_1 < (l0.length : Int); rotate_left; rw [if_neg c4] at H; have c4b0 := df_ c4; clear c4; obtain rfl := Option.some.inj H; rotate_right; rw [if_pos c4] at H; have c4b0 := dt_ c4; clear c4; by_cases c5 : 0 ≤ x5_1; rotate_left
      · rw [if_neg c5] at H; exact absurd H (by simp)
      rotate_right; rw [if_pos c5] at H; have c5b0 := dt_ c5; clear c5; by_cases c6 : x5_1 < (l1.length : Int); rotate_left
      · rw [if_neg c6] at H; exact absurd H (by simp)
      rotate_right; rw [if_pos c6] at H; have c6b0 := dt_ c6; clear c6; replace H := ob_ H; obtain ⟨t103, A7, H⟩ := H; by_cases c8 : t103 = true; rotate_left; replace c8 := Bool.eq_false_iff.mpr c8; subst c8; rw [fe_] at H; obtain rfl := Option.some.inj H; rotate_right; subst c8; rw [if_pos rfl] at H; have H' := Aside0.mk H; clear H; rotate_left 2
      · go_wp2
        go_ret; exact re_
      all_goals
        try go_wp2
        replace HB := Aside0.mk (below_drew1 HB.out); have p101 : 0 ≤ (x5_1 : Int) := od_; have q101 : x5_1 < (l0.length : Int) := od_; obtain ⟨ad101, A101_4, c101_4, e101, hx101_0, hx101_1, hx101_2, hx101_3, hx101_4, hl101_4, hi101_4⟩ := at_T104 HR0.out x5_1 p101 q101; have hw101_4 := hx101_4; have hw101_3 := hx101_3; have hw101_2 := hx101_2; have hw101_1 := hx101_1; have hw101_0 := hx101_0
        cases e101
        replace hx101_0 := mv_ HB hx101_0; replace hx101_1 := mv_ HB hx101_1; replace hx101_2 := mv_ HB hx101_2; replace hx101_3 := mv_ HB hx101_3; replace hx101_4 := mv_ HB hx101_4; have HR101_4 := Aside0.mk hi101_4; have HC101_4 := Aside0.mk hl101_4; clear hi101_4 hl101_4; replace p101 := eq_true p101; replace q101 := eq_true q101; have p102 : 0 ≤ (x5_1 : Int) := od_; have q102 : x5_1 < (l1.length : Int) := od_; obtain ⟨ad102, A102_4, c102_4, e102, hx102_0, hx102_1, hx102_2, hx102_3, hx102_4, hl102_4, hi102_4⟩ := at_T104 HR1.out x5_1 p102 q102; have hw102_4 := hx102_4; have hw102_3 := hx102_3; have hw102_2 := hx102_2; have hw102_1 := hx102_1; have hw102_0 := hx102_0
        cases e102
        replace hx102_0 := mv_ HB hx102_0; replace hx102_1 := mv_ HB hx102_1; replace hx102_2 := mv_ HB hx102_2; replace hx102_3 := mv_ HB hx102_3; replace hx102_4 := mv_ HB hx102_4; have HR102_4 := Aside0.mk hi102_4; have HC102_4 := Aside0.mk hl102_4; clear hi102_4 hl102_4; replace p102 := eq_true p102; replace q102 := eq_true q102
        refine start_ (n := 10) (S := fun w' => w'.cell? (ad101.add ((x5_1).toNat * 5)) = some (.int .i64 ((rd_T104 l0 x5_1).f0)) ∧ w'.cell? ⟨(ad101.add ((x5_1).toNat * 5)).block, (ad101.add ((x5_1).toNat * 5)).off + 1, none⟩ = some (.string ((rd_T104 l0 x5_1).f1)) ∧ w'.cell? ⟨(ad101.add ((x5_1).toNat * 5)).block, (ad101.add ((x5_1).toNat * 5)).off + 2, none⟩ = some (.int .i64 ((rd_T104 l0 x5_1).f2)) ∧ w'.cell? ⟨(ad101.add ((x5_1).toNat * 5)).block, (ad101.add ((x5_1).toNat * 5)).off + 3, none⟩ = some (.int .i64 ((rd_T104 l0 x5_1).f3)) ∧ w'.cell? ⟨(ad101.add ((x5_1).toNat * 5)).block, (ad101.add ((x5_1).toNat * 5)).off + 4, none⟩ = some (.slice A101_4 ((rd_T104 l0 x5_1).f4).length c101_4) ∧ w'.cell? (ad102.add ((x5_1).toNat * 5)) = some (.int .i64 ((rd_T104 l1 x5_1).f0)) ∧ w'.cell? ⟨(ad102.add ((x5_1).toNat * 5)).block, (ad102.add ((x5_1).toNat * 5)).off + 1, none⟩ = some (.string ((rd_T104 l1 x5_1).f1)) ∧ w'.cell? ⟨(ad102.add ((x5_1).toNat * 5)).block, (ad102.add ((x5_1).toNat * 5)).off + 2, none⟩ = some (.int .i64 ((rd_T104 l1 x5_1).f2)) ∧ w'.cell? ⟨(ad102.add ((x5_1).toNat * 5)).block, (ad102.add ((x5_1).toNat * 5)).off + 3, none⟩ = some (.int .i64 ((rd_T104 l1 x5_1).f3)) ∧ w'.cell? ⟨(ad102.add ((x5_1).toNat * 5)).block, (ad102.add ((x5_1).toNat * 5)).off + 4, none⟩ = some (.slice A102_4 ((rd_T104 l1 x5_1).f4).length c102_4)) (ds := []) #[false, false, false, false, false, false, false, false, false, false] (by kernel_rfl) rfl rfl ⟨(mv_ HB hw101_0 :), (mv_ HB hw101_1 :), (mv_ HB hw101_2 :), (mv_ HB hw101_3 :), (mv_ HB hw101_4 :), (mv_ HB hw102_0 :), (mv_ HB hw102_1 :), (mv_ HB hw102_2 :), (mv_ HB hw102_3 :), (mv_ HB hw102_4 :)⟩ (fun hHeld => ?_); refine with_tabW laws_eqEdgeS.tab6 laws_eqEdgeS.bits6 (fun HT_ HW_ => ?_)
        generalize wr.drew = w9 at HB HR101_4 HR102_4 hx101_0 hx101_1 hx101_2 hx101_3 hx101_4 hx102_0 hx102_1 hx102_2 hx102_3 hx102_4 hHeld ⊢; refine puA 0 (some 17) ?_; refine puA 1 (some 18) ?_; refine puA 2 (some 19) ?_; refine puA 4 (some 21) ?_; refine puA 5 (some 22) ?_; refine puA 6 (some 23) ?_; refine taA 3 (some 20) ?_; refine taA 7 (some 24) ?_; refine one_ (i := 8) (N := some 25) #[true, true, true, true, true, true, true, true, true, false] rfl rfl (one_of HT_.out (by kernel_rfl)) (by decide) (fun K hK => ?_); refine goes_ Try.func159 (by kernel_rfl) rfl #[.agg #[.int .i64 ((rd_T104 l0 x5_1).f0), .string ((rd_T104 l0 x5_1).f1), .int .i64 ((rd_T104 l0 x5_1).f2), .int .i64 ((rd_T104 l0 x5_1).f3), .slice A101_4 ((rd_T104 l0 x5_1).f4).length c101_4], .agg #[.int .i64 ((rd_T104 l1 x5_1).f0), .string ((rd_T104 l1 x5_1).f1), .int .i64 ((rd_T104 l1 x5_1).f2), .int .i64 ((rd_T104 l1 x5_1).f3), .slice A102_4 ((rd_T104 l1 x5_1).f4).length c102_4]] (by rfl) rfl rfl ar_ ?_
        with_reducible refine (laws_eqEdge.calls k1 ((rd_T104 l0 x5_1).f0) ((rd_T104 l0 x5_1).f1) ((rd_T104 l0 x5_1).f2) ((rd_T104 l0 x5_1).f3) _ _ ((rd_T104 l0 x5_1).f4) ((rd_T104 l1 x5_1).f0) ((rd_T104 l1 x5_1).f1) ((rd_T104 l1 x5_1).f2) ((rd_T104 l1 x5_1).f3) _ _ ((rd_T104 l1 x5_1).f4) _ _ ?side1 ?side2 ?side3 ?side4 A7.out).mono ?_
        (case side1 => exact rdb_ HR101_4); (case side2 => exact HC101_4.out); (case side3 => exact rdb_ HR102_4); (case side4 => exact HC102_4.out); rintro e w10 ⟨rfl, hb⟩; refine ⟨_, rfl, ?_⟩; replace HB := bs_ hb; (try clear hb); (try clear hb2); (try clear hk); (try clear hi); refine hK.out _ _ ⟨(mv_ HB hw101_0 :), (mv_ HB hw101_1 :), (mv_ HB hw101_2 :), (mv_ HB hw101_3 :), (mv_ HB hw101_4 :), (mv_ HB hw102_0 :), (mv_ HB hw102_1 :), (mv_ HB hw102_2 :), (mv_ HB hw102_3 :), (mv_ HB hw102_4 :)⟩ (fun hHeld => ?_); clear hK K; refine norm_ (a' := ?_) ?_ ?_; rotate_left
        · show Act.put _ (some 25) _ = _
          simp only [Act.put, List.setIfInBounds_toArray, List.set_cons_zero, List.set_cons_succ, i64_w, i32_w]
          rfl
        refine puA 9 (some 26) ?_; refine done_ (done_of HT_.out (by kernel_rfl)) ?_
        try go_wp2
      rotate_left
      · go_ret; exact re_
      go_roundg k1
      case measure => have := HK1.out; omega
      case rel => exact ⟨(wrap64 (x5_1 + 1)), sm_, H', ⟨by have := HK1.out; omega⟩, ⟨bel_⟩⟩
def laws_eqGraph.f (k : Nat) (l0_0 : List (S99)) (l0_1 : List (S104)) (a0_2 : Int) (a0_3 : Int) (l1_0 : List (S99)) (l1_1 : List (S104)) (a1_2 : Int) (a1_3 : Int) : Option (Bool) := (laws_eqNodeS.f k l0_0 l1_0).bind fun t103 => (if t103 = true then ((laws_eqEdgeS.f k l0_1 l1_1).bind fun t104 => (if t104 = true then (if a0_2 = a1_2 then (if a0_3 = a1_3 then (some true) else (some false)) else (some false)) else (some false))) else (some false))
set_option maxHeartbeats 8000000 in
set_option maxRecDepth 100000 in
theorem laws_eqGraph.calls (k : Nat) (A0_0 : Option Addr) (c0_0 : Nat) (l0_0 : List (S99)) (A0_1 : Option Addr) (c0_1 : Nat) (l0_1 : List (S104)) (a0_2 : Int) (a0_3 : Int) (A1_0 : Option Addr) (c1_0 : Nat) (l1_0 : List (S99)) (A1_1 : Option Addr) (c1_1 : Nat) (l1_1 : List (S104)) (a1_2 : Int) (a1_3 : Int) (r : Bool) (w : World) (hr0_0 : Kd.C k99 w A0_0 l0_0.length l0_0) (hc0_0 : l0_0.length ≤ c0_0) (hr0_1 : Kd.C k104 w A0_1 l0_1.length l0_1) (hc0_1 : l0_1.length ≤ c0_1) (hr1_0 : Kd.C k99 w A1_0 l1_0.length l1_0) (hc1_0 : l1_0.length ≤ c1_0) (hr1_1 : Kd.C k104 w A1_1 l1_1.length l1_1) (hc1_1 : l1_1.length ≤ c1_1) (h : laws_eqGraph.f k l0_0 l0_1 a0_2 a0_3 l1_0 l1_1 a1_2 a1_3 = some r) :
    Calls Try.prog 19 #[.agg #[.slice A0_0 l0_0.length c0_0, .slice A0_1 l0_1.length c0_1, .int .i64 a0_2, .int .i64 a0_3], .agg #[.slice A1_0 l1_0.length c1_0, .slice A1_1 l1_1.length c1_1, .int .i64 a1_2, .int .i64 a1_3]] w fun e w' => e = .returned (.bool r) ∧ Below w.heap.size w w' := by
  have hu31 := Try.underlying31; have HR0_0 := Aside0.mk hr0_0; have HC0_0 := Aside0.mk hc0_0; clear hr0_0 hc0_0; have HR0_1 := Aside0.mk hr0_1; have HC0_1 := Aside0.mk hc0_1; clear hr0_1 hc0_1; have HR1_0 := Aside0.mk hr1_0; have HC1_0 := Aside0.mk hc1_0; clear hr1_0 hc1_0; have HR1_1 := Aside0.mk hr1_1; have HC1_1 := Aside0.mk hc1_1; clear hr1_1 hc1_1; have HB := Aside0.mk (Below.refl w.heap.size w); have H : ((laws_eqNodeS.f k l0_0 l1_0).bind fun t103 => (if t103 = true then ((laws_eqEdgeS.f k l0_1 l1_1).bind fun t104 => (if t104 = true then (if a0_2 = a1_2 then (if a0_3 = a1_3 then (some true) else (some false)) else (some false)) else (some false))) else (some false))) = some r := h; clear h; replace H := ob_ H; obtain ⟨t103, A3, H⟩ := H; by_cases c4 : t103 = true; rotate_left; replace c4 := Bool.eq_false_iff.mpr c4; subst c4; rw [fe_] at H; obtain rfl := Option.some.inj H; rotate_right; subst c4; rw [if_pos rfl] at H; replace H := ob_ H; obtain ⟨t104, A5, H⟩ := H; by_cases c6 : t104 = true
  · subst c6; rw [if_pos rfl] at H; by_cases c7 : a0_2 = a1_2; rotate_left; rw [if_neg c7] at H; have c7b0 := bf_ c7; have c7b1 := nt_ c7; obtain rfl := Option.some.inj H; rotate_right; rw [if_pos c7] at H; have c7b0 := bt__ c7; have c7b1 := nf__ c7; clear c7; by_cases c8 : a0_3 = a1_3; rotate_left; rw [if_neg c8] at H; have c8b0 := bf_ c8; have c8b1 := nt_ c8; obtain rfl := Option.some.inj H; rotate_right; rw [if_pos c8] at H; have c8b0 := bt__ c8; have c8b1 := nf__ c8; clear c8; obtain rfl := Option.some.inj H
    all_goals
      go_enter Try.func19, Try.ntmps19
      go_wp2_with (first | ((with_reducible refine gate_dst (N := 2) rfl ?_); refine bx_ 2 #[.slice A0_0 l0_0.length c0_0, .slice A0_1 l0_1.length c0_1, .int .i64 a0_2, .int .i64 a0_3] 31 ?_; intro gb101 hg w31 hbox hb; have BK101 := Aside0.mk (hbox); have GW101 := gw_ hg; have GE101 := gw_ hg; replace HB := bs_ hb; clear hb hbox hg) | ((with_reducible refine gate_dst (N := 3) rfl ?_); refine bx_ 3 #[.slice A1_0 l1_0.length c1_0, .slice A1_1 l1_1.length c1_1, .int .i64 a1_2, .int .i64 a1_3] 31 ?_; intro gb102 hg w32 hbox hb; have BK102 := Aside0.mk (hbox); have GW102 := gw_ hg; have GE102 := gw_ hg; have NB101_102 := nlt_ hg BK101; have NB102_101 := ngt_ hg BK101; replace BK101 := bb_ BK101 hb; replace HB := bs_ hb; clear hb hbox hg; have hnb33 := NB101_102.out; have hnc33 := NB102_101.out; obtain ⟨hcz34_0, hcz34_1, hcz34_2, hcz34_3, hfz34_0, hfz34_1, hfz34_2, hfz34_3⟩ := blk4 BK101; obtain ⟨hcz35_0, hcz35_1, hcz35_2, hcz35_3, hfz35_0, hfz35_1, hfz35_2, hfz35_3⟩ := blk4 BK102) | ((with_reducible refine gate_callee (f := 84) rfl ?_); refine goesL_ (some 9) rfl rfl Try.func84 (by kernel_rfl) rfl #[.slice A0_0 l0_0.length c0_0, .slice A1_0 l1_0.length c1_0] rfl ar_ ?_; (with_reducible refine (laws_eqNodeS.calls k _ _ l0_0 _ _ l1_0 true _ ?side1 ?side2 ?side3 ?side4 A3.out).mono ?_); (case side1 => exact rdb_ HR0_0); (case side2 => exact HC0_0.out); (case side3 => exact rdb_ HR1_0); (case side4 => exact HC1_0.out); rintro e w36 ⟨rfl, hb⟩; refine ⟨_, rfl, ?_⟩; replace BK101 := bb_ BK101 hb; replace BK102 := bb_ BK102 hb; replace HB := bs_ hb; (try clear hb); (try clear hb2); (try clear hk); (try clear hi); obtain ⟨hcz37_0, hcz37_1, hcz37_2, hcz37_3, hfz37_0, hfz37_1, hfz37_2, hfz37_3⟩ := blk4 BK101; obtain ⟨hcz38_0, hcz38_1, hcz38_2, hcz38_3, hfz38_0, hfz38_1, hfz38_2, hfz38_3⟩ := blk4 BK102) | ((with_reducible refine gate_callee (f := 85) rfl ?_); refine goesL_ (some 15) rfl rfl Try.func85 (by kernel_rfl) rfl #[.slice A0_1 l0_1.length c0_1, .slice A1_1 l1_1.length c1_1] rfl ar_ ?_; (with_reducible refine (laws_eqEdgeS.calls k _ _ l0_1 _ _ l1_1 true _ ?side1 ?side2 ?side3 ?side4 A5.out).mono ?_); (case side1 => exact rdb_ HR0_1); (case side2 => exact HC0_1.out); (case side3 => exact rdb_ HR1_1); (case side4 => exact HC1_1.out); rintro e w39 ⟨rfl, hb⟩; refine ⟨_, rfl, ?_⟩; replace BK101 := bb_ BK101 hb; replace BK102 := bb_ BK102 hb; replace HB := bs_ hb; (try clear hb); (try clear hb2); (try clear hk); (try clear hi); obtain ⟨hcz40_0, hcz40_1, hcz40_2, hcz40_3, hfz40_0, hfz40_1, hfz40_2, hfz40_3⟩ := blk4 BK101; obtain ⟨hcz41_0, hcz41_1, hcz41_2, hcz41_3, hfz41_0, hfz41_1, hfz41_2, hfz41_3⟩ := blk4 BK102))
      go_ret; exact re_
  replace c6 := Bool.eq_false_iff.mpr c6; subst c6; rw [fe_] at H; obtain rfl := Option.some.inj H
  all_goals
    go_enter Try.func19, Try.ntmps19
  · go_wp2_with (first | ((with_reducible refine gate_dst (N := 2) rfl ?_); refine bx_ 2 #[.slice A0_0 l0_0.length c0_0, .slice A0_1 l0_1.length c0_1, .int .i64 a0_2, .int .i64 a0_3] 31 ?_; intro gb7101 hg w42 hbox hb; have BK7101 := Aside0.mk (hbox); have GW7101 := gw_ hg; have GE7101 := gw_ hg; replace HB := bs_ hb; clear hb hbox hg) | ((with_reducible refine gate_dst (N := 3) rfl ?_); refine bx_ 3 #[.slice A1_0 l1_0.length c1_0, .slice A1_1 l1_1.length c1_1, .int .i64 a1_2, .int .i64 a1_3] 31 ?_; intro gb7102 hg w43 hbox hb; have BK7102 := Aside0.mk (hbox); have GW7102 := gw_ hg; have GE7102 := gw_ hg; have NB7101_102 := nlt_ hg BK7101; have NB7102_101 := ngt_ hg BK7101; replace BK7101 := bb_ BK7101 hb; replace HB := bs_ hb; clear hb hbox hg; have hnb44 := NB7101_102.out; have hnc44 := NB7102_101.out; obtain ⟨hcz45_0, hcz45_1, hcz45_2, hcz45_3, hfz45_0, hfz45_1, hfz45_2, hfz45_3⟩ := blk4 BK7101; obtain ⟨hcz46_0, hcz46_1, hcz46_2, hcz46_3, hfz46_0, hfz46_1, hfz46_2, hfz46_3⟩ := blk4 BK7102) | ((with_reducible refine gate_callee (f := 84) rfl ?_); refine goesL_ (some 9) rfl rfl Try.func84 (by kernel_rfl) rfl #[.slice A0_0 l0_0.length c0_0, .slice A1_0 l1_0.length c1_0] rfl ar_ ?_; (with_reducible refine (laws_eqNodeS.calls k _ _ l0_0 _ _ l1_0 true _ ?side1 ?side2 ?side3 ?side4 A3.out).mono ?_); (case side1 => exact rdb_ HR0_0); (case side2 => exact HC0_0.out); (case side3 => exact rdb_ HR1_0); (case side4 => exact HC1_0.out); rintro e w47 ⟨rfl, hb⟩; refine ⟨_, rfl, ?_⟩; replace BK7101 := bb_ BK7101 hb; replace BK7102 := bb_ BK7102 hb; replace HB := bs_ hb; (try clear hb); (try clear hb2); (try clear hk); (try clear hi); obtain ⟨hcz48_0, hcz48_1, hcz48_2, hcz48_3, hfz48_0, hfz48_1, hfz48_2, hfz48_3⟩ := blk4 BK7101; obtain ⟨hcz49_0, hcz49_1, hcz49_2, hcz49_3, hfz49_0, hfz49_1, hfz49_2, hfz49_3⟩ := blk4 BK7102) | ((with_reducible refine gate_callee (f := 85) rfl ?_); refine goesL_ (some 15) rfl rfl Try.func85 (by kernel_rfl) rfl #[.slice A0_1 l0_1.length c0_1, .slice A1_1 l1_1.length c1_1] rfl ar_ ?_; (with_reducible refine (laws_eqEdgeS.calls k _ _ l0_1 _ _ l1_1 false _ ?side1 ?side2 ?side3 ?side4 A5.out).mono ?_); (case side1 => exact rdb_ HR0_1); (case side2 => exact HC0_1.out); (case side3 => exact rdb_ HR1_1); (case side4 => exact HC1_1.out); rintro e w50 ⟨rfl, hb⟩; refine ⟨_, rfl, ?_⟩; replace BK7101 := bb_ BK7101 hb; replace BK7102 := bb_ BK7102 hb; replace HB := bs_ hb; (try clear hb); (try clear hb2); (try clear hk); (try clear hi)))
    go_ret; exact re_
  go_wp2_with (first | ((with_reducible refine gate_dst (N := 2) rfl ?_); refine bx_ 2 #[.slice A0_0 l0_0.length c0_0, .slice A0_1 l0_1.length c0_1, .int .i64 a0_2, .int .i64 a0_3] 31 ?_; intro gb101 hg w51 hbox hb; have BK101 := Aside0.mk (hbox); have GW101 := gw_ hg; have GE101 := gw_ hg; replace HB := bs_ hb; clear hb hbox hg) | ((with_reducible refine gate_dst (N := 3) rfl ?_); refine bx_ 3 #[.slice A1_0 l1_0.length c1_0, .slice A1_1 l1_1.length c1_1, .int .i64 a1_2, .int .i64 a1_3] 31 ?_; intro gb102 hg w52 hbox hb; have BK102 := Aside0.mk (hbox); have GW102 := gw_ hg; have GE102 := gw_ hg; have NB101_102 := nlt_ hg BK101; have NB102_101 := ngt_ hg BK101; replace BK101 := bb_ BK101 hb; replace HB := bs_ hb; clear hb hbox hg; have hnb53 := NB101_102.out; have hnc53 := NB102_101.out; obtain ⟨hcz54_0, hcz54_1, hcz54_2, hcz54_3, hfz54_0, hfz54_1, hfz54_2, hfz54_3⟩ := blk4 BK101; obtain ⟨hcz55_0, hcz55_1, hcz55_2, hcz55_3, hfz55_0, hfz55_1, hfz55_2, hfz55_3⟩ := blk4 BK102) | ((with_reducible refine gate_callee (f := 84) rfl ?_); refine goesL_ (some 9) rfl rfl Try.func84 (by kernel_rfl) rfl #[.slice A0_0 l0_0.length c0_0, .slice A1_0 l1_0.length c1_0] rfl ar_ ?_; (with_reducible refine (laws_eqNodeS.calls k _ _ l0_0 _ _ l1_0 false _ ?side1 ?side2 ?side3 ?side4 A3.out).mono ?_); (case side1 => exact rdb_ HR0_0); (case side2 => exact HC0_0.out); (case side3 => exact rdb_ HR1_0); (case side4 => exact HC1_0.out); rintro e w56 ⟨rfl, hb⟩; refine ⟨_, rfl, ?_⟩; replace BK101 := bb_ BK101 hb; replace BK102 := bb_ BK102 hb; replace HB := bs_ hb; (try clear hb); (try clear hb2); (try clear hk); (try clear hi)))
  go_ret; exact re_
def laws_eqIntS.l0 : Nat → List Int → List Int → Int → Option (Bool)
  | 0, _, _, _ => none
  | k + 1, x0, x1, x5 => if x5 < (x0.length : Int) then (if 0 ≤ x5 then (if x5 < (x1.length : Int) then (if (rd x0 x5) = (rd x1 x5) then (laws_eqIntS.l0 k x0 x1 (wrap64 (x5 + 1))) else (some false)) else (none)) else (none)) else (some true)
def laws_eqIntS.f (k : Nat) (l0 : List Int) (l1 : List Int) : Option (Bool) := if (l0.length : Int) = (l1.length : Int) then (laws_eqIntS.l0 k l0 l1 0) else (some false)
set_option maxHeartbeats 8000000 in
set_option maxRecDepth 100000 in
theorem laws_eqIntS.calls (k : Nat) (A0 : Option Addr) (c0 : Nat) (l0 : List Int) (A1 : Option Addr) (c1 : Nat) (l1 : List Int) (r : Bool) (w : World) (hr0 : Kd.C (Kd.int .i64) w A0 l0.length l0) (hc0 : l0.length ≤ c0) (hr1 : Kd.C (Kd.int .i64) w A1 l1.length l1) (hc1 : l1.length ≤ c1) (h : laws_eqIntS.f k l0 l1 = some r) :
    Calls Try.prog 22 #[.slice A0 l0.length c0, .slice A1 l1.length c1] w fun e w' => e = .returned (.bool r) ∧ Drawn0 w w' := by
  have HR0 := Aside0.mk hr0; have HC0 := Aside0.mk hc0; clear hr0 hc0; have HR1 := Aside0.mk hr1; have HC1 := Aside0.mk hc1; clear hr1 hc1; have H : (if (l0.length : Int) = (l1.length : Int) then (laws_eqIntS.l0 k l0 l1 0) else (some false)) = some r := h; clear h; by_cases c3 : (l0.length : Int) = (l1.length : Int); rotate_left; rw [if_neg c3] at H; have c3b0 := bf_ c3; have c3b1 := nt_ c3
  have c3b2 : (l0.length == l1.length) = false := by first | simpa using c3 | (simp at c3 ⊢; omega)
  obtain rfl := Option.some.inj H; rotate_right; rw [if_pos c3] at H; have c3b0 := bt__ c3; have c3b1 := nf__ c3
  have c3b2 : (l0.length == l1.length) = true := by first | simpa using c3 | (simp at c3 ⊢; omega)
  clear c3; have H' := Aside0.mk H; clear H
  all_goals
    go_enter Try.func22, Try.ntmps22
    go_wp2
    repeat (go_quiet (fail); try go_wp2)
  rotate_left
  · go_ret; exact rd_
  go_loopg [5] k (fun kq v5 w' => ∃ (x5_1 : Int), v5 = .int .i64 x5_1 ∧ Aside0 (laws_eqIntS.l0 kq l0 l1 x5_1 = some r) ∧ Aside0 (kq ≤ k) ∧ Drawn0 w w')
  case atStart => exact ⟨(0), sm_, H', ⟨Nat.le_refl _⟩, by repeat (first | exact Drawn0.refl _ | apply Drawn0.step)⟩
  case round =>
    clear H'
    try clear c1
    try clear c2
    try clear p2
    try clear c3
    try clear c3b0
    try clear c3b1
    try clear c3b2
    obtain ⟨x5_1, rfl, HA, HK1, ⟨m1, rfl⟩⟩ := hrel
    cases gk with
    | zero => exact absurd HA.out (by simp [laws_eqIntS.l0])
    | succ k1 =>
      have H := HA.out; clear HA; simp only [laws_eqIntS.l0] at H; by_cases c4 : x5_1 < (l0.length : Int); rotate_left; rw [if_neg c4] at H; have c4b0 := df_ c4; clear c4; obtain rfl := Option.some.inj H; rotate_right; rw [if_pos c4] at H; have c4b0 := dt_ c4; clear c4; by_cases c5 : 0 ≤ x5_1; rotate_left
      · rw [if_neg c5] at H; exact absurd H (by simp)
      rotate_right; rw [if_pos c5] at H; have c5b0 := dt_ c5; clear c5; by_cases c6 : x5_1 < (l1.length : Int); rotate_left
      · rw [if_neg c6] at H; exact absurd H (by simp)
      rotate_right; rw [if_pos c6] at H; have c6b0 := dt_ c6; clear c6; by_cases c7 : (rd l0 x5_1) = (rd l1 x5_1); rotate_left; rw [if_neg c7] at H; have c7b0 := bf_ c7; have c7b1 := nt_ c7; obtain rfl := Option.some.inj H; rotate_right; rw [if_pos c7] at H; have c7b0 := bt__ c7; have c7b1 := nf__ c7; clear c7; have H' := Aside0.mk H; clear H; rotate_left 2
      · go_wp2
        repeat (go_quiet (fail); try go_wp2)
        go_ret; exact rd_
      all_goals
        have p101 : 0 ≤ (x5_1 : Int) := od_; have q101 : x5_1 < (l0.length : Int) := od_; obtain ⟨ad101, e101, hx101_0⟩ := Kd.at_int HR0.out x5_1 p101 q101
        cases e101
        replace p101 := eq_true p101; replace q101 := eq_true q101; have p102 : 0 ≤ (x5_1 : Int) := od_; have q102 : x5_1 < (l1.length : Int) := od_; obtain ⟨ad102, e102, hx102_0⟩ := Kd.at_int HR1.out x5_1 p102 q102
        cases e102
        replace p102 := eq_true p102; replace q102 := eq_true q102
        go_wp2
        repeat (go_quiet (fail); try go_wp2)
      rotate_left
      · go_ret; exact rd_
      go_roundg k1
      case measure => have := HK1.out; omega
      case rel => exact ⟨(wrap64 (x5_1 + 1)), sm_, H', ⟨by have := HK1.out; omega⟩, by repeat (first | exact Drawn0.refl _ | apply Drawn0.step)⟩
def laws_markText.l0 : Nat → Int → ByteArray → Option (ByteArray)
  | 0, _, _ => none
  | k + 1, x0, x3 => if x0 > 0 then ((some (([(wrap64 (48 + (Int.tmod x0 10))) % 256] : List Int) : List Int)).bind fun y101 => (if (strOfNums y101).size + x3.size ≤ 9223372036854775807 then (laws_markText.l0 k (wrap64 (Int.tdiv x0 10)) ((strOfNums y101) ++ x3)) else (none))) else (if 1 + x3.size ≤ 9223372036854775807 then (some ((⟨#[109]⟩ : ByteArray) ++ x3)) else (none))
def laws_markText.f (k : Nat) (a0 : Int) : Option (ByteArray) := if a0 ≤ 0 then (some (⟨#[109, 48]⟩ : ByteArray)) else (laws_markText.l0 k a0 (⟨#[]⟩ : ByteArray))
set_option maxHeartbeats 8000000 in
set_option maxRecDepth 100000 in
theorem laws_markText.calls (k : Nat) (a0 : Int) (r : ByteArray) (w : World) (h : laws_markText.f k a0 = some r) :
    Calls Try.prog 114 #[.int .i64 a0] w fun e w' => e = .returned (.string r) ∧ Below w.heap.size w w' := by
  have HB := Aside0.mk (Below.refl w.heap.size w); have H : (if a0 ≤ 0 then (some (⟨#[109, 48]⟩ : ByteArray)) else (laws_markText.l0 k a0 (⟨#[]⟩ : ByteArray))) = some r := h; clear h; by_cases c2 : a0 ≤ 0; rotate_left; rw [if_neg c2] at H; have c2b0 := df_ c2; clear c2; have H' := Aside0.mk H; clear H; rotate_right; rw [if_pos c2] at H; have c2b0 := dt_ c2; clear c2; obtain rfl := Option.some.inj H
  all_goals
    go_enter Try.func114, Try.ntmps114
    go_wp2
  · go_ret; exact re_
  go_loopg [0, 3] k (fun kq v0 v3 w' => ∃ (x0_1 : Int) (x3_1 : ByteArray), v0 = .int .i64 x0_1 ∧ v3 = .string x3_1 ∧ Aside0 (laws_markText.l0 kq x0_1 x3_1 = some r) ∧ Aside0 (kq ≤ k) ∧ Aside0 (Below w.heap.size w w'))
  case atStart => exact ⟨(a0), ((⟨#[]⟩ : ByteArray)), sm_, sm_, H', ⟨Nat.le_refl _⟩, ⟨bel_⟩⟩
  case round =>
    clear H'
    try clear c1
    try clear c2
    try clear c2b0
    try clear p2
    obtain ⟨x0_1, x3_1, rfl, rfl, HA, HK1, HB⟩ := hrel
    cases gk with
    | zero => exact absurd HA.out (by simp [laws_markText.l0])
    | succ k1 =>
      have H := HA.out; clear HA; simp only [laws_markText.l0] at H; by_cases c3 : x0_1 > 0
      · rw [if_pos c3] at H; have c3b0 : decide (0 < x0_1) = true := decide_eq_true c3; clear c3; obtain ⟨y101, hy101⟩ : ∃ y_ : List Int, y_ = (([(wrap64 (48 + (Int.tmod x0_1 10))) % 256] : List Int)) := ⟨_, rfl⟩
        replace H : (if (strOfNums y101).size + x3_1.size ≤ 9223372036854775807 then (laws_markText.l0 k1 (wrap64 (Int.tdiv x0_1 10)) ((strOfNums y101) ++ x3_1)) else (none)) = some r := by first | (rw [hy101]; with_reducible exact H) | (have H2_ := (Option.bind_some _ _).symm.trans H; rw [hy101]; with_reducible exact H2_) | (have H2_ := (Option.bind_some _ _).symm.trans H; with_reducible exact H2_) | with_reducible exact H | (rw [hy101]; exact H) | exact H
        have Ny101 := Aside0.mk hy101; clear hy101; by_cases c4 : (strOfNums y101).size + x3_1.size ≤ 9223372036854775807; rotate_left
        · rw [if_neg c4] at H; exact absurd H (by simp)
        rw [if_pos c4] at H; have c4b0 := eq_true c4; have c4b1 := dt_ c4
        try have c4b2 : (9223372036854775807 < (strOfNums y101).size + x3_1.size) = False := eq_false (Nat.not_lt.2 c4)
        have H' := Aside0.mk H; clear H
        go_wp2_with (first | ((with_reducible refine gate_dst (N := 12) rfl ?_); refine Kd.R_lit (Kd.int .u8) _ 5 ?hg (N := 12) ?hd (xs := ([(wrap64 (48 + (Int.tmod x0_1 10))) % 256] : List Int)) (inner := [.int .u8 ((wrap64 (48 + (Int.tmod x0_1 10))) % 256)]) (ok := fun _ => True) (okp := fun _ => True) ?hr ?hp (fun _ hk => hk) trivial (Below.refl _ _) (Nat.le_refl _) (by simp) ?_; (case hd => rfl); (case hg => rfl); (case hr => first | (go_simp; done) | (go_simp; rfl)); (case hp => exact (Reps.one (show Kd.M (Kd.int .u8) _ _ _ ((wrap64 (48 + (Int.tmod x0_1 10))) % 256) [.int .u8 ((wrap64 (48 + (Int.tmod x0_1 10))) % 256)] from rfl) (Reps.none _ _))); intro v102 w5 ho6 hb hg_ hnew_; clear hg_ hnew_; (first | rw [← Ny101.out] at ho6 | (simp only [Int.reduceToNat] at ho6; rw [← Ny101.out] at ho6)); have HO103 := Aside0.mk (Kd.R_lower ho6 (below_size (bel_))); replace HB := bs_ hb; clear hb ho6; have hcv7 := own_string (P := Try.prog) Try.underlying186 Try.underlying5 Try.underlying9 (Kd.own_of_R HO103.out)))
        go_roundg k1
        case measure => have := HK1.out; omega
        case rel => exact ⟨(wrap64 (Int.tdiv x0_1 10)), ((strOfNums y101) ++ x3_1), sm_, sm_, H', ⟨by have := HK1.out; omega⟩, ⟨bel_⟩⟩
      rw [if_neg c3] at H; have c3b0 : decide (0 < x0_1) = false := decide_eq_false c3; clear c3; by_cases c8 : 1 + x3_1.size ≤ 9223372036854775807
      · rw [if_pos c8] at H; have c8b0 := eq_true c8; have c8b1 := dt_ c8
        try have c8b2 : (9223372036854775807 < 1 + x3_1.size) = False := eq_false (Nat.not_lt.2 c8)
        obtain rfl := Option.some.inj H
        go_wp2
        go_ret; exact re_
      rw [if_neg c8] at H; exact absurd H (by simp)
def laws_markStringS.l0 : Nat → List ByteArray → Int → Int → Option (Int × List ByteArray)
  | 0, _, _, _ => none
  | k + 1, x0, x1, x5 => if x5 < (x0.length : Int) then ((laws_markText.f k x1).bind fun t101 => (if 0 ≤ x5 then (laws_markStringS.l0 k (x0.set (x5 : Int).toNat t101) (wrap64 (x1 + 1)) (wrap64 (x5 + 1))) else (none))) else (some (x1, x0))
def laws_markStringS.f (k : Nat) (l0 : List ByteArray) (a1 : Int) : Option (Int × List ByteArray) := laws_markStringS.l0 k l0 a1 0
end Go.Proofs.Ytcchmhmbjhgfdaa.G
namespace Go.Proofs.Ytcchmhmbjhgfdaa.Mk
open Go.RowKit Go.Proofs.Ytcchmhmbjhgfdaa.G Go.Proofs.YtcchmhmbjhgfdaaW.PrintWords Go.Proofs.YtcchmhmbjhgfdaaW.PrintLast Go.Proofs.YtcchmhmbjhgfdaaW.PrintMore
open Own
set_option linter.unusedVariables false
set_option linter.unusedSimpArgs false
abbrev MV := S49
def cntV : MV → Nat
  | ⟨a, b, c, l⟩ => 3 + (l.attach.map fun x => cntV x.1).sum
termination_by x => SizeOf.sizeOf x
decreasing_by
  have := List.sizeOf_lt_of_mem x.2
  simp
  omega
theorem cntV_eq (x : MV) : cntV x = 3 + (x.f3.map cntV).sum := by
  obtain ⟨a, b, c, l⟩ := x
  rw [cntV]
  simp
def cntVs (l : List MV) : Nat := (l.map cntV).sum
theorem cntVs_take {l : List MV} {i : Nat} (h : i < l.length) : cntVs (l.take (i + 1)) = cntVs (l.take i) + (3 + cntVs l[i].f3) := by
  unfold cntVs
  rw [List.take_succ_eq_append_getElem h, List.map_append, List.sum_append]
  simp only [List.map_cons, List.map_nil, List.sum_cons, List.sum_nil, Nat.add_zero]
  rw [cntV_eq l[i]]
theorem cntVs_take_le (l : List MV) (i : Nat) : cntVs (l.take i) ≤ cntVs l := by
  have h : cntVs l = cntVs (l.take i) + cntVs (l.drop i) := by
    unfold cntVs
    rw [← List.sum_append, ← List.map_append, List.take_append_drop]
  omega
theorem w64 {x : Int} (h0 : -9223372036854775808 ≤ x) (h1 : x ≤ 9223372036854775807) : wrap64 x = x := by unfold wrap64; omega
theorem markText_l0 : ∀ (n : Nat) (a : Int) (s : ByteArray), 0 ≤ a → a ≤ 4611686018427387904 → a < 10 ^ n → s.size + n ≤ 1000 → ∃ r, ∀ k, n < k → laws_markText.l0 k a s = some r := by
  intro n
  induction n with
  | zero =>
    intro a s h0 h2 h1 hs
    refine ⟨(⟨#[109]⟩ : ByteArray) ++ s, fun k hk => ?_⟩
    obtain ⟨k, rfl⟩ : ∃ m, k = m + 1 := ⟨k - 1, by omega⟩
    simp only [laws_markText.l0]
    rw [if_neg (by simp at h1; omega), if_pos (by omega)]
  | succ n ih =>
    intro a s h0 h2 h1 hs
    by_cases h : a > 0
    · have hq : Int.tdiv a 10 = a / 10 := Int.tdiv_eq_ediv_of_nonneg h0
      have hb : ∀ y : List Int, y.length = 1 → (strOfNums y).size = 1 := by
        intro y hy
        obtain ⟨z, rfl⟩ := List.length_eq_one_iff.1 hy
        simp [strOfNums, ByteArray.size]
      have h3 : a / 10 < 10 ^ n := by
        rw [Int.pow_succ] at h1
        omega
      obtain ⟨r, hr⟩ := ih (a / 10) (strOfNums [(wrap64 (48 + (Int.tmod a 10))) % 256] ++ s) (by omega) (by omega) h3 (by rw [ByteArray.size_append, hb _ rfl]; omega)
      refine ⟨r, fun k hk => ?_⟩
      obtain ⟨k, rfl⟩ : ∃ m, k = m + 1 := ⟨k - 1, by omega⟩
      simp only [laws_markText.l0]
      rw [if_pos h, Option.bind_some, if_pos (by rw [hb _ rfl]; omega), hq, w64 (by omega) (by omega)]
      exact hr k (by omega)
    · refine ⟨(⟨#[109]⟩ : ByteArray) ++ s, fun k hk => ?_⟩
      obtain ⟨k, rfl⟩ : ∃ m, k = m + 1 := ⟨k - 1, by omega⟩
      simp only [laws_markText.l0]
      rw [if_neg h, if_pos (by omega)]
theorem markText_some (a : Int) (h0 : 0 < a) (h1 : a ≤ 4611686018427387904) : ∃ k r, laws_markText.f k a = some r := by
  obtain ⟨r, hr⟩ := markText_l0 19 a (⟨#[]⟩ : ByteArray) (by omega) h1 (by omega) (by decide)
  exact ⟨20, r, by unfold laws_markText.f; rw [if_neg (by omega)]; exact hr 20 (by decide)⟩
theorem markValueS_calls (W : World) (base : Nat) (P : Nat → Prop) : ∀ (n : Nat) (xs : List MV) (v : Value) (a : Int) (w : World), SizeOf.sizeOf xs ≤ n → Kd.R k49 49 W base P v xs → Shaped P W w → 0 < a → a + cntVs xs ≤ 4611686018427387904 →
    Calls Try.prog 101 #[v, .int .i64 a] w fun e w' => e = .returned (.int .i64 (a + cntVs xs)) ∧ Shaped P w w' := by
  intro n
  induction n using Nat.strongRecOn with
  | _ n ih =>
  intro xs v a w hn hR hS h0 h1
  obtain ⟨A, c, rfl⟩ := Kd.R_slice hR
  have HR := Aside0.mk hR
  have HS := Aside0.mk hS
  have IH := Aside0.mk ih
  have HN := Aside0.mk hn
  have HA := Aside0.mk h0
  have HZ := Aside0.mk h1
  clear hR hS ih hn h0 h1
  go_enter Try.func101, Try.ntmps101
  go_wp2
  go_loopg [1, 5] xs.length (fun kq v1 v5 w' => ∃ (K i : Int), v1 = .int .i64 K ∧ v5 = .int .i64 i ∧ Aside0 (0 ≤ i ∧ i ≤ xs.length ∧ (kq : Int) + i = xs.length ∧ K = a + cntVs (xs.take i.toNat)) ∧ Aside0 (Shaped P w w'))
  case atStart => exact ⟨a, 0, rfl, rfl, ⟨by omega, by omega, by omega, by simp [cntVs]⟩, ⟨Shaped.refl P w⟩⟩
  case round =>
    try clear p2
    obtain ⟨K, i, rfl, rfl, HI, HS1⟩ := hrel
    by_cases hlt : i < (xs.length : Int)
    · obtain ⟨k1, rfl⟩ : ∃ m, gk = m + 1 := ⟨gk - 1, by have := HI.out; omega⟩
      obtain ⟨gg, cap, cc, ev, hg, hcl, hM, HX⟩ := row_at HR.out z49 i HI.out.1 hlt
      have hin : i.toNat < xs.length := by have := HI.out.1; omega
      obtain ⟨x, hx⟩ : ∃ x, x = xs.getD i.toNat z49 := ⟨_, rfl⟩
      rw [← hx] at hM
      have hel : x = xs[i.toNat] := by rw [hx, List.getD_eq_getElem?_getD, List.getElem?_eq_getElem hin]; rfl
      obtain ⟨v3, rfl, g3⟩ := k49_openM hM
      obtain ⟨A3, c3, rfl⟩ := Kd.R_slice g3
      injection ev with ea _ ec
      subst ea ec
      have GG := Aside0.mk hg
      have G3 := Aside0.mk g3
      have HX' := Aside0.mk HX
      have c3b0 : decide (i < (xs.length : Int)) = true := decide_eq_true hlt
      have c4b0 : decide (0 ≤ i) = true := decide_eq_true HI.out.1
      have p6 : (0 ≤ i) = True := eq_true HI.out.1
      have q6 : (i < (xs.length : Int)) = True := eq_true hlt
      have hcz := (HX wr (HS.out.trans HS1.out)).1
      have hfz := (HX wr (HS.out.trans HS1.out)).2
      obtain ⟨u0, x0, e0⟩ := hcz 0 _ rfl
      obtain ⟨b0, rfl⟩ := er_int e0
      have hx0 : wr.cell? ⟨gg, i.toNat * 4, none⟩ = some (.int .i64 b0) := x0
      have hf0 : wr.frozen? ⟨gg, i.toNat * 4, none⟩ = false := hfz 0
      have hct := cntVs_take hin
      have hle := cntVs_take_le xs (i.toNat + 1)
      have HE := Aside0.mk (show K = a + cntVs (xs.take i.toNat) ∧ cntVs (xs.take (i.toNat + 1)) = cntVs (xs.take i.toNat) + (3 + cntVs x.f3) ∧ cntVs (xs.take (i.toNat + 1)) ≤ cntVs xs from ⟨HI.out.2.2.2, by rw [hel]; exact hct, hle⟩)
      have e3 : wrap64 ((wrap64 ((wrap64 (K + 1)) + 1)) + 1) = K + 3 := by
        have := HE.out; have := HA.out; have := HZ.out
        rw [w64 (x := K + 1) (by omega) (by omega), w64 (x := K + 1 + 1) (by omega) (by omega), w64 (by omega) (by omega)]; omega
      have e2' : wrap64 ((wrap64 (K + 1)) + 1) = K + 2 := by
        have := HE.out; have := HA.out; have := HZ.out
        rw [w64 (x := K + 1) (by omega) (by omega), w64 (by omega) (by omega)]; omega
      obtain ⟨kt, rt, ht⟩ := markText_some (wrap64 ((wrap64 (K + 1)) + 1)) (by have := HE.out; have := HA.out; omega) (by have := HE.out; have := HZ.out; omega)
      have HT := Aside0.mk ht
      have HM := Aside0.mk (fun w5 hs5 => IH.out (SizeOf.sizeOf x.f3) (by have h1 := HN.out; have h2 := List.sizeOf_lt_of_mem (List.getElem_mem hin); rw [hel]; have h3 : SizeOf.sizeOf xs[i.toNat].f3 < SizeOf.sizeOf xs[i.toNat] := (by cases xs[i.toNat]; simp; omega); omega) _ _ (wrap64 ((wrap64 ((wrap64 (K + 1)) + 1)) + 1)) w5 (Nat.le_refl _) G3.out hs5 (by have := HE.out; have := HA.out; omega) (by have := HE.out; have := HZ.out; omega))
      have E3 := Aside0.mk e3
      clear hcz hfz x0 e0 HX hM hcl g3 hg hlt hx hin hel hct hle e3 e2' ht
      go_wp2_with (first
        | ((with_reducible refine gate_store (t := 3) (p := 16) rfl ?_); refine store_event (t := 3) (p := 16) (v := ?vo1) (w1 := (wr.setCell ⟨gg, i.toNat * 4, none⟩ (.int .i64 K))) ?hg ?ho ?hn ?hr ?_; (case ho => rfl); (case hg => rfl); (case hn => rfl); (case hr => first | (go_simp; done) | (go_simp; rfl)); intro w2 hw; have HS2 := Aside0.mk (show Shaped P w w2 by rw [hw]; exact HS1.out.set GG.out hx0 rfl); clear hx0 hf0 hw; have hx1 := (HX'.out w2 (HS.out.trans HS2.out)).1 1 _ rfl; have hf1 : w2.frozen? ⟨gg, i.toNat * 4 + 1, none⟩ = false := (HX'.out w2 (HS.out.trans HS2.out)).2 1; obtain ⟨u1, x1, e1⟩ := hx1; obtain ⟨b1, rfl⟩ := er_int e1; have hx1 : w2.cell? ⟨gg, i.toNat * 4 + 1, none⟩ = some (.int .i64 b1) := x1; clear x1 e1)
        | ((with_reducible refine gate_store (t := 3) (p := 23) rfl ?_); refine store_event (t := 3) (p := 23) (v := ?vo2) (w1 := (w2.setCell ⟨gg, i.toNat * 4 + 1, none⟩ (.int .i64 (wrap64 (K + 1))))) ?hg ?ho ?hn ?hr ?_; (case ho => rfl); (case hg => rfl); (case hn => rfl); (case hr => first | (go_simp; done) | (go_simp; rfl)); intro w3 hw; have HS3 := Aside0.mk (show Shaped P w w3 by rw [hw]; exact HS2.out.set GG.out hx1 rfl); clear hx1 hf1 hw)
        | ((with_reducible refine gate_callee (f := 114) rfl ?_); refine goesL_ (some 29) rfl rfl Try.func114 (by kernel_rfl) rfl #[.int .i64 (wrap64 ((wrap64 (K + 1)) + 1))] rfl ar_ ?_; (with_reducible refine (laws_markText.calls kt (wrap64 ((wrap64 (K + 1)) + 1)) rt _ HT.out).mono ?_); rintro e w4 ⟨rfl, hb⟩; refine ⟨_, rfl, ?_⟩; have HS4 := Aside0.mk (HS3.out.below hb); clear hb; have hx2 := (HX'.out w4 (HS.out.trans HS4.out)).1 2 _ rfl; have hf2 : w4.frozen? ⟨gg, i.toNat * 4 + 2, none⟩ = false := (HX'.out w4 (HS.out.trans HS4.out)).2 2; obtain ⟨u2, x2, e2⟩ := hx2; obtain ⟨b2, rfl⟩ := er_string e2; have hx2 : w4.cell? ⟨gg, i.toNat * 4 + 2, none⟩ = some (.string b2) := x2; clear x2 e2)
        | ((with_reducible refine gate_store (t := 9) (p := 31) rfl ?_); refine store_event (t := 9) (p := 31) (v := ?vo3) (w1 := (w4.setCell ⟨gg, i.toNat * 4 + 2, none⟩ (.string rt))) ?hg ?ho ?hn ?hr ?_; (case ho => rfl); (case hg => rfl); (case hn => rfl); (case hr => first | (go_simp; done) | (go_simp; rfl)); intro w5 hw; have HS5 := Aside0.mk (show Shaped P w w5 by rw [hw]; exact HS4.out.set GG.out hx2 rfl); clear hx2 hf2 hw; have hx3 := (HX'.out w5 (HS.out.trans HS5.out)).1 3 _ rfl; obtain ⟨u3, x3, e3⟩ := hx3; obtain rfl := er_slice e3; have hx3 : w5.cell? ⟨gg, i.toNat * 4 + 3, none⟩ = some (.slice A3 x.f3.length c3) := x3; clear x3 e3)
        | ((with_reducible refine gate_callee (f := 101) rfl ?_); refine goesL_ (some 40) rfl rfl Try.func101 (by kernel_rfl) rfl #[.slice A3 x.f3.length c3, .int .i64 (wrap64 ((wrap64 ((wrap64 (K + 1)) + 1)) + 1))] rfl ar_ ?_; (with_reducible refine (HM.out _ (HS.out.trans HS5.out)).mono ?_); rintro e w6 ⟨rfl, hs6⟩; refine ⟨_, rfl, ?_⟩; have HS6 := Aside0.mk (HS5.out.trans hs6); clear hs6))
      go_roundg k1
      case measure => omega
      case rel => exact ⟨_, _, rfl, rfl, ⟨by
        have h1 := HI.out
        have h2 := HE.out
        have h3 := E3.out
        have hl : (xs.length : Int) ≤ 9223372036854775807 := by have := (Kd.R_reads HR.out); obtain ⟨_, _, _, _, hC⟩ := this; have := hC.2.1; omega
        have hq : i < (xs.length : Int) := of_eq_true q6
        rw [h3, w64 (x := i + 1) (by omega) (by omega)]
        have e : (i + 1).toNat = i.toNat + 1 := by omega
        rw [e]
        refine ⟨by omega, by omega, by omega, by omega⟩⟩, HS6⟩
    · have c3b0 : decide (i < (xs.length : Int)) = false := decide_eq_false hlt
      have hi : i.toNat = xs.length := by have := HI.out; omega
      have hK : K = a + cntVs xs := by have := HI.out.2.2.2; rw [hi, List.take_length] at this; exact this
      subst hK
      clear hi hlt
      go_wp2
      go_ret
      exact ⟨rfl, HS1.out⟩
end Go.Proofs.Ytcchmhmbjhgfdaa.Mk
