import Derived.Test.YtcchmhmbjhgfdaaY3
import Derived.Test.YtcchmhmbjhgfdaaY17
import Derived.Test.YtcchmhmbjhgfdaaY19
namespace Go.Proofs.Ytcchmhmbjhgfdaa.G
open Go.RowKit Go.Proofs.YtcchmhmbjhgfdaaW.PrintWords Go.Proofs.YtcchmhmbjhgfdaaW.PrintLast Go.Proofs.YtcchmhmbjhgfdaaW.PrintMore
attribute [local go_sem] max2_int min2_int max_two min_two max_three min_three max_four min_four Own.str_gtr Own.str_leq Own.str_geq Own.sto_fn   -- for this text's walks alone
open Own
set_option linter.unusedVariables false
set_option linter.unusedSimpArgs false
mutual
def impl_GraphOk.j0 : Nat → Bool → List (S99) → List (S104) → Int → Int → Option (Bool)
  | 0, _, _, _, _, _ => none
  | k + 1, x25, x102000, x102001, x102002, x102003 => if x25 = true then (some false) else (if (x102000.length : Int) > 12 then (impl_GraphOk.j1 k true x102000 x102001 x102002 x102003) else (impl_GraphOk.j1 k (decide ((x102001.length : Int) > 16)) x102000 x102001 x102002 x102003))
def impl_GraphOk.j1 : Nat → Bool → List (S99) → List (S104) → Int → Int → Option (Bool)
  | 0, _, _, _, _, _ => none
  | k + 1, x35, x102000, x102001, x102002, x102003 => if x35 = true then (some false) else ((impl_nodesOf.f x102000 x102001 x102002 x102003).bind fun bt102 => ((impl_Node_ascend.f k bt102.1 bt102.2 x102002).bind fun t107 => (if t107 = true then ((impl_edgesIn.f x102000 x102001 x102002 x102003).bind fun bt108 => ((impl_Edge_ascend.f k bt108.1 bt108.2 x102003).bind fun t112 => (impl_GraphOk.j2 k (!t112) x102000 x102001 x102002 x102003 bt102.1 bt102.2))) else (impl_GraphOk.j2 k true x102000 x102001 x102002 x102003 bt102.1 bt102.2))))
def impl_GraphOk.j2 : Nat → Bool → List (S99) → List (S104) → Int → Int → List (S99) → Bool → Option (Bool)
  | 0, _, _, _, _, _, _, _ => none
  | k + 1, x50, x102000, x102001, x102002, x102003, x107000, x107001 => if x50 = true then (some false) else (impl_GraphOk.l0 k x102000 (x102000.length : Int) 0 x102000 x102001 x102002 x102003 x107000 x107001)
def impl_GraphOk.l0 : Nat → List (S99) → Int → Int → List (S99) → List (S104) → Int → Int → List (S99) → Bool → Option (Bool)
  | 0, _, _, _, _, _, _, _, _, _ => none
  | k + 1, x52, x53, x54, x102000, x102001, x102002, x102003, x107000, x107001 => if x54 < x53 then (if 0 ≤ x54 then (if x54 < (x52.length : Int) then ((impl_labelsOk.f k ((rd_T99 x52 x54).f1)).bind fun t115 => (if t115 = true then ((impl_propsOk.f k ((rd_T99 x52 x54).f2)).bind fun t116 => (if t116 = true then (impl_GraphOk.l0 k x52 x53 (wrap64 (x54 + 1)) x102000 x102001 x102002 x102003 x107000 x107001) else (some false))) else (some false))) else (none)) else (none)) else (impl_GraphOk.l1 k x102001 (x102001.length : Int) 0 x107000 x107001)
def impl_GraphOk.l1 : Nat → List (S104) → Int → Int → List (S99) → Bool → Option (Bool)
  | 0, _, _, _, _, _ => none
  | k + 1, x70, x71, x72, x107000, x107001 => if x72 < x71 then (if 0 ≤ x72 then (if x72 < (x70.length : Int) then ((impl_NameOk.f k ((rd_T104 x70 x72).f1)).bind fun t119 => (if t119 = true then ((impl_propsOk.f k ((rd_T104 x70 x72).f4)).bind fun t120 => (if t120 = true then ((impl_Node_place.f k x107000 x107001 ((rd_T104 x70 x72).f2)).bind fun t121 => (if t121 < 0 then (some false) else ((impl_Node_place.f k x107000 x107001 ((rd_T104 x70 x72).f3)).bind fun t122 => (if t122 < 0 then (some false) else (impl_GraphOk.l1 k x70 x71 (wrap64 (x72 + 1)) x107000 x107001))))) else (some false))) else (some false))) else (none)) else (none)) else (some true)
end
def impl_GraphOk.f (k : Nat) (l0_0 : List (S99)) (l0_1 : List (S104)) (a0_2 : Int) (a0_3 : Int) : Option (Bool) := if a0_2 < 0 then (impl_GraphOk.j0 k true l0_0 l0_1 a0_2 a0_3) else (if a0_2 > 1000000000 then (impl_GraphOk.j0 k true l0_0 l0_1 a0_2 a0_3) else (if a0_3 < 0 then (impl_GraphOk.j0 k true l0_0 l0_1 a0_2 a0_3) else (impl_GraphOk.j0 k (decide (a0_3 > 1000000000)) l0_0 l0_1 a0_2 a0_3)))
def impl_GraphOk.T6 : Bool × List (List Nat × List Nat) := (true, [([], []), ([], []), ([1], [1]), ([0, 2], [0, 2]), ([3], [3]), ([4, 3], [4]), ([5], [5]), ([6, 5, 5], [5, 6]), ([5], [5]), ([8, 5], [5, 8]), ([7, 9, 7, 5], [5, 7, 9]), ([10, 5], [5, 10]), ([5, 11], [5, 11])])
def impl_GraphOk.B6 : List Nat := [0, 0, 2, 7, 15, 31, 63, 127, 63, 319, 1023, 2047, 4095]
theorem impl_GraphOk.tab6 : rtab .any (opsOf Try.f18 6) = impl_GraphOk.T6 := by kernel_rfl
theorem impl_GraphOk.bits6 : waitsOk impl_GraphOk.T6.2 impl_GraphOk.B6 = true := by kernel_rfl
set_option maxHeartbeats 8000000 in
set_option maxRecDepth 100000 in
theorem impl_GraphOk.calls (k : Nat) (A0_0 : Option Addr) (c0_0 : Nat) (l0_0 : List (S99)) (A0_1 : Option Addr) (c0_1 : Nat) (l0_1 : List (S104)) (a0_2 : Int) (a0_3 : Int) (r : Bool) (w : World) (hr0_0 : Kd.C k99 w A0_0 l0_0.length l0_0) (hc0_0 : l0_0.length ≤ c0_0) (hr0_1 : Kd.C k104 w A0_1 l0_1.length l0_1) (hc0_1 : l0_1.length ≤ c0_1) (h : impl_GraphOk.f k l0_0 l0_1 a0_2 a0_3 = some r) :
    Calls Try.prog 18 #[.agg #[.slice A0_0 l0_0.length c0_0, .slice A0_1 l0_1.length c0_1, .int .i64 a0_2, .int .i64 a0_3]] w fun e w' => e = .returned (.bool r) ∧ Below w.heap.size w w' := by
  have hu31 := Try.underlying31; have hu110 := Try.underlying110; have hu99 := Try.underlying99; have hu104 := Try.underlying104; have HR0_0 := Aside0.mk hr0_0; have HC0_0 := Aside0.mk hc0_0; clear hr0_0 hc0_0; have HR0_1 := Aside0.mk hr0_1; have HC0_1 := Aside0.mk hc0_1; clear hr0_1 hc0_1; have HB := Aside0.mk (Below.refl w.heap.size w); have H : (if a0_2 < 0 then (impl_GraphOk.j0 k true l0_0 l0_1 a0_2 a0_3) else (if a0_2 > 1000000000 then (impl_GraphOk.j0 k true l0_0 l0_1 a0_2 a0_3) else (if a0_3 < 0 then (impl_GraphOk.j0 k true l0_0 l0_1 a0_2 a0_3) else (impl_GraphOk.j0 k (decide (a0_3 > 1000000000)) l0_0 l0_1 a0_2 a0_3)))) = some r := h; clear h; have HC2 := Aside0.mk H; clear H
  go_enter Try.func18, Try.ntmps18
  go_upto_region 1 with (first | ((with_reducible refine gate_dst (N := 1) rfl ?_); (try (refine gate_guard (by rfl) ?_; dsimp only)); refine box_event ?hg (N := 1) ?hd (cs := #[.slice A0_0 l0_0.length c0_0, .slice A0_1 l0_1.length c0_1, .int .i64 a0_2, .int .i64 a0_3]) (t := 31) ?hr ?_; (case hd => rfl); (case hg => rfl); (case hr => first | (go_simp; done) | (go_simp; rfl)); intro gb101 hg w3 hbox hb; have BK101 := Aside0.mk (hbox); have GW101 := gw_ hg; have GE101 := gw_ hg; replace HB := bs_ hb; clear hb hbox hg))
  (try simp only [Act.put, List.setIfInBounds_toArray, List.set_cons_zero, List.set_cons_succ])
  go_cut [25] (fun v25 wc => ∃ (kq : Nat) (x25_1 : Bool), v25 = .bool x25_1 ∧ Aside0 (impl_GraphOk.j0 kq x25_1 l0_0 l0_1 a0_2 a0_3 = some r) ∧ Aside0 (kq ≤ k) ∧ Aside0 (wc.heap[gb101]? = some (.cells #[(.slice A0_0 l0_0.length c0_0), (.slice A0_1 l0_1.length c0_1), .int .i64 a0_2, .int .i64 a0_3] 31 (0, 0))) ∧ Aside0 (Below w.heap.size w wc))
  case first =>
    have H := HC2.out; clear HC2; by_cases c4 : a0_2 < 0
    · rw [if_pos c4] at H; have c4b0 := dt_ c4; clear c4
      (first | rw [c4b0] | (simp only [i64_w, i32_w]; rw [c4b0]) | skip)
      have H' := Aside0.mk H; clear H; obtain ⟨hcz5_0, hcz5_1, hcz5_2, hcz5_3, hfz5_0, hfz5_1, hfz5_2, hfz5_3⟩ := blk4 BK101
      go_wp2
      go_meet
      case rel => exact ⟨_, (true), sm_, H', ⟨by first | omega | exact Nat.le_refl _⟩, ⟨by refine pe_ ?_; exact BK101.out⟩, ⟨bel_⟩⟩
    rw [if_neg c4] at H; have c4b0 := df_ c4; clear c4
    (first | rw [c4b0] | (simp only [i64_w, i32_w]; rw [c4b0]) | skip)
    by_cases c6 : a0_2 > 1000000000; rotate_left; rw [if_neg c6] at H; have c6b0 : decide (1000000000 < a0_2) = false := decide_eq_false c6; clear c6; by_cases c8 : a0_3 < 0; rotate_left; rw [if_neg c8] at H; have c8b0 := df_ c8; clear c8; have H' := Aside0.mk H; clear H; rotate_right; rw [if_pos c8] at H; have c8b0 := dt_ c8; clear c8; have H' := Aside0.mk H; clear H; rotate_right; rw [if_pos c6] at H; have c6b0 : decide (1000000000 < a0_2) = true := decide_eq_true c6; clear c6; have H' := Aside0.mk H; clear H
    all_goals
      obtain ⟨hcz10_0, hcz10_1, hcz10_2, hcz10_3, hfz10_0, hfz10_1, hfz10_2, hfz10_3⟩ := blk4 BK101
      go_wp2
      go_meet
    rotate_left
    · case rel => exact ⟨_, (true), sm_, H', ⟨by first | omega | exact Nat.le_refl _⟩, ⟨by refine pe_ ?_; exact BK101.out⟩, ⟨bel_⟩⟩
    rotate_right
    · case rel => exact ⟨_, (true), sm_, H', ⟨by first | omega | exact Nat.le_refl _⟩, ⟨by refine pe_ ?_; exact BK101.out⟩, ⟨bel_⟩⟩
    case rel => exact ⟨_, (decide (a0_3 > 1000000000)), sm_, H', ⟨by first | omega | exact Nat.le_refl _⟩, ⟨by refine pe_ ?_; exact BK101.out⟩, ⟨bel_⟩⟩
  case rest =>
    clear HC2
    try clear c1
    try clear p2
    try clear c4
    try clear c4b0
    try clear c6
    try clear c6b0
    try clear c8
    try clear c8b0
    try clear hcz10_0 hcz10_1 hcz10_2 hcz10_3
    try clear hcz5_0 hcz5_1 hcz5_2 hcz5_3
    try clear hcz7_0 hcz7_1 hcz7_2 hcz7_3
    try clear hcz9_0 hcz9_1 hcz9_2 hcz9_3
    try clear hfz10_0 hfz10_1 hfz10_2 hfz10_3
    try clear hfz5_0 hfz5_1 hfz5_2 hfz5_3
    try clear hfz7_0 hfz7_1 hfz7_2 hfz7_3
    try clear hfz9_0 hfz9_1 hfz9_2 hfz9_3
    obtain ⟨kq, x25_1, rfl, HA, HJ1, BK101, HB⟩ := hcut
    cases kq with
    | zero => exact absurd HA.out (by simp [impl_GraphOk.j0])
    | succ kj1 =>
      have H := HA.out; clear HA; simp only [impl_GraphOk.j0] at H; by_cases c11 : x25_1 = true; rotate_left; replace c11 := Bool.eq_false_iff.mpr c11; subst c11; rw [fe_] at H; have HC12 := Aside0.mk H; clear H; rotate_right; subst c11; rw [if_pos rfl] at H; obtain rfl := Option.some.inj H
      · go_wp2
        go_ret; exact re_
      go_upto_region 3 with (fail)
      go_cut [35] (fun v35 wc => ∃ (kq : Nat) (x35_11 : Bool), v35 = .bool x35_11 ∧ Aside0 (impl_GraphOk.j1 kq x35_11 l0_0 l0_1 a0_2 a0_3 = some r) ∧ Aside0 (kq ≤ kj1) ∧ Aside0 (wc.heap[gb101]? = some (.cells #[(.slice A0_0 l0_0.length c0_0), (.slice A0_1 l0_1.length c0_1), .int .i64 a0_2, .int .i64 a0_3] 31 (0, 0))) ∧ Aside0 (Below w.heap.size w wc))
      case first =>
        have H := HC12.out; clear HC12; by_cases c13 : (l0_0.length : Int) > 12; rotate_left; rw [if_neg c13] at H; have c13b0 : decide (12 < (l0_0.length : Int)) = false := decide_eq_false c13; have c13b1 : decide (12 < l0_0.length) = false := decide_eq_false (by omega); clear c13; rotate_right; rw [if_pos c13] at H; have c13b0 : decide (12 < (l0_0.length : Int)) = true := decide_eq_true c13; have c13b1 : decide (12 < l0_0.length) = true := decide_eq_true (by omega); clear c13
        all_goals
          (first | rw [c13b0] | (simp only [i64_w, i32_w]; rw [c13b0]) | skip)
          have H' := Aside0.mk H; clear H; obtain ⟨hcz15_0, hcz15_1, hcz15_2, hcz15_3, hfz15_0, hfz15_1, hfz15_2, hfz15_3⟩ := blk4 BK101
          go_wp2
          go_meet
        · case rel => exact ⟨_, (true), sm_, H', ⟨by have := HJ1.out; first | omega | exact Nat.le_refl _⟩, ⟨by refine pe_ ?_; exact BK101.out⟩, ⟨bel_⟩⟩
        case rel => exact ⟨_, (decide ((l0_1.length : Int) > 16)), sm_, H', ⟨by have := HJ1.out; first | omega | exact Nat.le_refl _⟩, ⟨by refine pe_ ?_; exact BK101.out⟩, ⟨bel_⟩⟩
      case rest =>
        clear HC12
        try clear c1
        try clear p2
        try clear c4
        try clear c4b0
        try clear c6
        try clear c6b0
        try clear c8
        try clear c8b0
        try clear c11
        try clear c13
        try clear c13b0
        try clear c13b1
        try clear hcz10_0 hcz10_1 hcz10_2 hcz10_3
        try clear hcz14_0 hcz14_1 hcz14_2 hcz14_3
        try clear hcz15_0 hcz15_1 hcz15_2 hcz15_3
        try clear hcz5_0 hcz5_1 hcz5_2 hcz5_3
        try clear hcz7_0 hcz7_1 hcz7_2 hcz7_3
        try clear hcz9_0 hcz9_1 hcz9_2 hcz9_3
        try clear hfz10_0 hfz10_1 hfz10_2 hfz10_3
        try clear hfz14_0 hfz14_1 hfz14_2 hfz14_3
        try clear hfz15_0 hfz15_1 hfz15_2 hfz15_3
        try clear hfz5_0 hfz5_1 hfz5_2 hfz5_3
        try clear hfz7_0 hfz7_1 hfz7_2 hfz7_3
        try clear hfz9_0 hfz9_1 hfz9_2 hfz9_3
        try clear p2
        obtain ⟨kq, x35_11, rfl, HA, HJ11, BK101, HB⟩ := hcut
        cases kq with
        | zero => exact absurd HA.out (by simp [impl_GraphOk.j1])
        | succ kj11 =>
          have H := HA.out; clear HA; simp only [impl_GraphOk.j1] at H; by_cases c16 : x35_11 = true; rotate_left; replace c16 := Bool.eq_false_iff.mpr c16; subst c16; rw [fe_] at H; replace H := ob_ H; obtain ⟨⟨t102, t105⟩, A17, H⟩ := H; have HC18 := Aside0.mk H; clear H; rotate_right; subst c16; rw [if_pos rfl] at H; obtain rfl := Option.some.inj H
          · go_wp2
            go_ret; exact re_
          obtain ⟨hcz19_0, hcz19_1, hcz19_2, hcz19_3, hfz19_0, hfz19_1, hfz19_2, hfz19_3⟩ := blk4 BK101
          go_upto_region 6 with (first | ((with_reducible refine gate_callee (f := 76) rfl ?_); refine goesL_ (some 37) rfl rfl Try.func76 (by kernel_rfl) rfl #[.agg #[.slice A0_0 l0_0.length c0_0, .slice A0_1 l0_1.length c0_1, .int .i64 a0_2, .int .i64 a0_3]] rfl ar_ ?_; (with_reducible refine (impl_nodesOf.calls (fun k_ => k_ < w.heap.size) _ _ l0_0 _ _ l0_1 a0_2 a0_3 t102 t105 _ ?side1 ?side2 ?side3 A17.out).mono ?_); (case side1 => exact Kd.V_mk HC0_0.out (Kd.F_below (Kd.C_F k99_heap HR0_0.out) (bel_))); (case side2 => exact rdb_ HR0_1); (case side3 => exact HC0_1.out); rintro e w20 ⟨v103, rfl, ho0, hb⟩; refine ⟨_, rfl, ?_⟩; have HO104 := Aside0.mk (Kd.V_lower (Kd.V_mono (ok' := fun k_ => k_ ≠ gb101) ho0 (fun k_ hk_ => Or.elim hk_ (fun hs_ => fun e_ => Nat.not_le.2 hs_ (by rw [e_]; exact GW101.out)) (fun hn_ => (Kd.freshB (g := gb101) (o := .cells #[.slice A0_0 l0_0.length c0_0, .slice A0_1 l0_1.length c0_1, .int .i64 a0_2, .int .i64 a0_3] 31 (0, 0)) (bk_ BK101) k_ hn_)))) (below_size (bel_))); replace BK101 := bb_ BK101 hb; replace HB := bs_ hb; (try clear hb); (try clear hb2); (try clear hk); (try clear hi); (try clear ho0)) | ((with_reducible refine gate_dst (N := 3) rfl ?_); (try (refine gate_guard (by rfl) ?_; dsimp only)); refine box_event ?hg (N := 3) ?hd (cs := #[.slice none 0 0, .nilFunc]) (t := 110) ?hr ?_; (case hd => rfl); (case hg => rfl); (case hr => first | (go_simp; done) | (go_simp; rfl)); intro gb106 hg w21 hbox hb; have BK106 := Aside0.mk (hbox); have GW106 := gw_ hg; have GE106 := gw_ hg; have NB101_106 := nlt_ hg BK101; have NB106_101 := ngt_ hg BK101; replace HO104 := Aside0.mk (Kd.V_below (Kd.V_elderB (by (with_reducible repeat (first | apply Kd.V_alloc | apply Kd.V_drewN | apply Kd.V_drew)); first | exact HO104.out | exact Kd.V_mono (HO104.out) (fun _ h_ => by simpa only [and_assoc, and_comm, and_left_comm] using h_)) gb106 (Nat.le_of_eq hg.symm)) hb); replace BK101 := bb_ BK101 hb; replace HB := bs_ hb; clear hb hbox hg; obtain ⟨Ao22, co22, eo22⟩ := Kd.V_slice HO104.out; subst eo22; have hnb23 := NB106_101.out; have hnc23 := NB101_106.out; obtain ⟨hcz24_0, hcz24_1, hfz24_0, hfz24_1⟩ := blk2 BK106))
          (try simp only [Act.put, List.setIfInBounds_toArray, List.set_cons_zero, List.set_cons_succ])
          go_cut [50] (fun v50 wc => ∃ (kq : Nat) (x50_17 : Bool), v50 = .bool x50_17 ∧ Aside0 (impl_GraphOk.j2 kq x50_17 l0_0 l0_1 a0_2 a0_3 t102 t105 = some r) ∧ Aside0 (kq ≤ kj11) ∧ Aside0 (Kd.V k99 99 wc w.heap.size (fun k_ => k_ ≠ gb101 ∧ k_ ≠ gb106) (.slice Ao22 t102.length co22) t102) ∧ Aside0 (wc.heap[gb101]? = some (.cells #[(.slice A0_0 l0_0.length c0_0), (.slice A0_1 l0_1.length c0_1), .int .i64 a0_2, .int .i64 a0_3] 31 (0, 0))) ∧ Aside0 (wc.heap[gb106]? = some (.cells #[(.slice Ao22 t102.length co22), .func (.func 154) #[] #[]] 110 (0, 0))) ∧ Aside0 (Below w.heap.size w wc))
          case first =>
            have H := HC18.out; clear HC18; replace H := ob_ H; obtain ⟨t107, A25, H⟩ := H; by_cases c26 : t107 = true; rotate_left; replace c26 := Bool.eq_false_iff.mpr c26; subst c26; rw [fe_] at H; have H' := Aside0.mk H; clear H; rotate_right; subst c26; rw [if_pos rfl] at H; replace H := ob_ H; obtain ⟨⟨t108, t111⟩, A27, H⟩ := H; replace H := ob_ H; obtain ⟨t112, A28, H⟩ := H; have H' := Aside0.mk H; clear H
            all_goals
              try go_wp2
              have n0_ : Aside0 (Kd.V k99 99 ((w21.setCell ⟨gb106, 0, none⟩ (.slice Ao22 t102.length co22)).setCell ⟨gb106, 1, none⟩ (.func (.func 154) #[] #[])) w.heap.size (fun k_ => k_ ≠ gb101 ∧ k_ ≠ gb106) (.slice Ao22 t102.length co22) t102) := ⟨by (with_reducible repeat (first | apply Kd.V_alloc | apply Kd.V_drewN | apply Kd.V_drew)); first | exact Kd.V_mono (Kd.V_far (p := ⟨gb106, 1, none⟩) (Kd.V_far (p := ⟨gb106, 0, none⟩) (Kd.V_mono HO104.out (fun k_ hk => (⟨hk, hk.2⟩ : _ ∧ k_ ≠ gb106))) (fun _ hk => hk.2) (.slice Ao22 t102.length co22)) (fun _ hk => hk.2) (.func (.func 154) #[] #[])) (fun _ hk => ⟨hk.1.1, hk.1.2⟩) | exact Kd.V_mono (Kd.V_mono (Kd.V_far (p := ⟨gb106, 1, none⟩) (Kd.V_far (p := ⟨gb106, 0, none⟩) (Kd.V_mono HO104.out (fun k_ hk => (⟨hk, hk.2⟩ : _ ∧ k_ ≠ gb106))) (fun _ hk => hk.2) (.slice Ao22 t102.length co22)) (fun _ hk => hk.2) (.func (.func 154) #[] #[])) (fun _ hk => ⟨hk.1.1, hk.1.2⟩)) (fun _ h_ => by simpa only [and_assoc, and_comm, and_left_comm] using h_)⟩; have n1_ : Aside0 (((w21.setCell ⟨gb106, 0, none⟩ (.slice Ao22 t102.length co22)).setCell ⟨gb106, 1, none⟩ (.func (.func 154) #[] #[])).heap[gb101]? = some (.cells #[.slice A0_0 l0_0.length c0_0, .slice A0_1 l0_1.length c0_1, .int .i64 a0_2, .int .i64 a0_3] 31 (0, 0))) := ⟨by refine pe_ ?_; refine blk_far ?_ NB101_106.out _; refine pe_ ?_; refine blk_far ?_ NB101_106.out _; refine pe_ ?_; exact BK101.out⟩
              have n2_ : Aside0 (((w21.setCell ⟨gb106, 0, none⟩ (.slice Ao22 t102.length co22)).setCell ⟨gb106, 1, none⟩ (.func (.func 154) #[] #[])).heap[gb106]? = some (.cells #[.slice Ao22 t102.length co22, .func (.func 154) #[] #[]] 110 (0, 0))) := ⟨by refine pe_ ?_; refine blk_put (cs := #[.slice Ao22 t102.length co22, .nilFunc]) ?_ 1 _ rfl; refine pe_ ?_; refine blk_put (cs := #[.slice none 0 0, .nilFunc]) ?_ 0 _ rfl; refine pe_ ?_; exact BK106.out⟩; have n3_ : Aside0 (Below w.heap.size w ((w21.setCell ⟨gb106, 0, none⟩ (.slice Ao22 t102.length co22)).setCell ⟨gb106, 1, none⟩ (.func (.func 154) #[] #[]))) := ⟨bel_⟩; (try clear HO104); (try clear BK101); (try clear BK106); (try clear HB); generalize ((w21.setCell ⟨gb106, 0, none⟩ (.slice Ao22 t102.length co22)).setCell ⟨gb106, 1, none⟩ (.func (.func 154) #[] #[])) = w29 at n0_ n1_ n2_ n3_ ⊢; have HO104 := n0_; have BK101 := n1_; have BK106 := n2_; have HB := n3_; clear n0_ n1_ n2_ n3_; replace HO104 := Aside0.mk (Kd.V_drew HO104.out); replace BK101 := Aside0.mk (blk_drew BK101.out); replace BK106 := Aside0.mk (blk_drew BK106.out); replace HB := Aside0.mk (below_drew1 HB.out)
              refine start_ (n := 13) (S := fun w' => w'.cell? ⟨gb106, 0, none⟩ = some (.slice Ao22 t102.length co22) ∧ w'.cell? ⟨gb106, 1, none⟩ = some (.func (.func 154) #[] #[]) ∧ w'.cell? ⟨gb101, 0, none⟩ = some (.slice A0_0 l0_0.length c0_0) ∧ w'.cell? ⟨gb101, 1, none⟩ = some (.slice A0_1 l0_1.length c0_1) ∧ w'.cell? ⟨gb101, 2, none⟩ = some (.int .i64 a0_2) ∧ w'.cell? ⟨gb101, 3, none⟩ = some (.int .i64 a0_3)) (ds := []) #[false, false, false, false, false, false, false, false, false, false, false, false, false] (by kernel_rfl) rfl rfl ⟨(blkc BK106 0), (blkc BK106 1), (blkc BK101 0), (blkc BK101 1), (blkc BK101 2), (blkc BK101 3)⟩ (fun hHeld => ?_); refine with_tabW impl_GraphOk.tab6 impl_GraphOk.bits6 (fun HT_ HW_ => ?_); generalize w29.drew = w30 at HO104 BK101 BK106 HB hHeld ⊢; refine puA 1 (some 39) ?_; refine taA 0 (some 38) ?_; refine taA 2 (some 40) ?_; refine one_ (i := 3) (N := some 41) #[true, true, true, true, false, false, false, false, false, false, false, false, false] rfl rfl (one_of HT_.out (by kernel_rfl)) (by decide) (fun K hK => ?_); refine goes_ Try.func77 (by kernel_rfl) rfl #[.agg #[.slice Ao22 t102.length co22, .func (.func 154) #[] #[]], .int .i64 a0_2] (by rfl) rfl rfl ar_ ?_
              with_reducible refine (impl_Node_ascend.calls kj11 _ _ t102 t105 a0_2 _ _ ?side1 ?side2 A25.out).mono ?_
              (case side1 => repeat (first | exact (Kd.V_reads' HO104.out).2.2 | (with_reducible refine Kd.C_alloc ?_ _) | (with_reducible refine Kd.C_drewN ?_ _) | (with_reducible refine Kd.C_drew ?_))); (case side2 => exact (Kd.V_reads' HO104.out).2.1); rintro e w31 ⟨rfl, hb⟩; refine ⟨_, rfl, ?_⟩; replace HO104 := Aside0.mk (Kd.V_below (by (with_reducible repeat (first | apply Kd.V_alloc | apply Kd.V_drewN | apply Kd.V_drew)); first | exact HO104.out | exact Kd.V_mono (HO104.out) (fun _ h_ => by simpa only [and_assoc, and_comm, and_left_comm] using h_)) hb); replace BK101 := bb_ BK101 hb; replace BK106 := bb_ BK106 hb; replace HB := bs_ hb; (try clear hb); (try clear hb2); (try clear hk); (try clear hi); refine hK.out _ _ ⟨(blkc BK106 0), (blkc BK106 1), (blkc BK101 0), (blkc BK101 1), (blkc BK101 2), (blkc BK101 3)⟩ (fun hHeld => ?_); clear hK K; refine norm_ (a' := ?_) ?_ ?_; rotate_left
              · show Act.put _ (some 41) _ = _
                simp only [Act.put, List.setIfInBounds_toArray, List.set_cons_zero, List.set_cons_succ, i64_w, i32_w]
                rfl
              refine puA 4 (some 42) ?_; refine puA 5 (some 43) ?_
            rotate_left
            · refine puX 6 (some 44) ?_; refine puX 7 (some 45) ?_; refine puX 8 (some 46) ?_; refine puX 9 (some 47) ?_; refine puX 10 (some 48) ?_; refine puX 11 (some 49) ?_; refine puA 12 (some 50) ?_; refine done_ (done_of HT_.out (by kernel_rfl)) ?_
              try go_wp2
              go_meet
              case rel => exact ⟨_, (true), sm_, H', ⟨by have := HJ1.out; have := HJ11.out; first | omega | exact Nat.le_refl _⟩, ⟨by (with_reducible repeat (first | apply Kd.V_alloc | apply Kd.V_drewN | apply Kd.V_drew)); first | exact HO104.out | exact Kd.V_mono (HO104.out) (fun _ h_ => by simpa only [and_assoc, and_comm, and_left_comm] using h_)⟩, ⟨by refine pe_ ?_; exact BK101.out⟩, ⟨by refine pe_ ?_; exact BK106.out⟩, ⟨bel_⟩⟩
            refine puA 8 (some 46) ?_; refine taA 6 (some 44) ?_; refine taA 9 (some 47) ?_; refine one_ (i := 7) (N := some 45) #[true, true, true, true, true, true, true, true, true, true, false, false, false] rfl rfl (one_of HT_.out (by kernel_rfl)) (by decide) (fun K hK => ?_); refine goes_ Try.func78 (by kernel_rfl) rfl #[.agg #[.slice A0_0 l0_0.length c0_0, .slice A0_1 l0_1.length c0_1, .int .i64 a0_2, .int .i64 a0_3]] (by rfl) rfl rfl ar_ ?_
            with_reducible refine (impl_edgesIn.calls _ _ l0_0 (fun k_ => k_ < w.heap.size) _ _ l0_1 a0_2 a0_3 t108 t111 _ ?side1 ?side2 ?side3 A27.out).mono ?_
            (case side1 => exact rdb_ HR0_0); (case side2 => exact HC0_0.out); (case side3 => exact Kd.V_mk HC0_1.out (Kd.F_below (Kd.C_F k104_heap HR0_1.out) (bel_))); rintro e w32 ⟨v109, rfl, ho0, hb⟩; refine ⟨_, rfl, ?_⟩; have HO110 := Aside0.mk (Kd.V_lower (Kd.V_mono (ok' := fun k_ => k_ ≠ gb101 ∧ k_ ≠ gb106) ho0 (fun k_ hk_ => ⟨Or.elim hk_ (fun hs_ => fun e_ => Nat.not_le.2 hs_ (by rw [e_]; exact GW101.out)) (fun hn_ => (Kd.freshB (g := gb101) (o := .cells #[.slice A0_0 l0_0.length c0_0, .slice A0_1 l0_1.length c0_1, .int .i64 a0_2, .int .i64 a0_3] 31 (0, 0)) (bk_ BK101) k_ hn_)), Or.elim hk_ (fun hs_ => fun e_ => Nat.not_le.2 hs_ (by rw [e_]; exact GW106.out)) (fun hn_ => (Kd.freshB (g := gb106) (o := .cells #[.slice Ao22 t102.length co22, .func (.func 154) #[] #[]] 110 (0, 0)) (bk_ BK106) k_ hn_))⟩)) (below_size (bel_))); replace HO104 := Aside0.mk (Kd.V_below (by (with_reducible repeat (first | apply Kd.V_alloc | apply Kd.V_drewN | apply Kd.V_drew)); first | exact HO104.out | exact Kd.V_mono (HO104.out) (fun _ h_ => by simpa only [and_assoc, and_comm, and_left_comm] using h_)) hb); replace BK101 := bb_ BK101 hb; replace BK106 := bb_ BK106 hb; replace HB := bs_ hb; (try clear hb); (try clear hb2); (try clear hk); (try clear hi); (try clear ho0); obtain ⟨Ao33, co33, eo33⟩ := Kd.V_slice HO110.out
            (first | subst eo33 | (injection eo33 with f1_ f2_ f3_; have f4_ := f1_.symm; have f5_ := f3_.symm; clear f1_ f2_ f3_; subst f4_; subst f5_))
            refine hK.out _ _ ⟨(blkc BK106 0), (blkc BK106 1), (blkc BK101 0), (blkc BK101 1), (blkc BK101 2), (blkc BK101 3)⟩ (fun hHeld => ?_); clear hK K; refine norm_ (a' := ?_) ?_ ?_; rotate_left
            · show Act.put _ (some 45) _ = _
              simp only [Act.put, List.setIfInBounds_toArray, List.set_cons_zero, List.set_cons_succ, i64_w, i32_w]
              rfl
            refine one_ (i := 10) (N := some 48) #[true, true, true, true, true, true, true, true, true, true, true, false, false] rfl rfl (one_of HT_.out (by kernel_rfl)) (by decide) (fun K hK => ?_); refine goes_ Try.func79 (by kernel_rfl) rfl #[.agg #[.slice Ao33 t108.length co33, .func (.func 155) #[] #[]], .int .i64 a0_3] (by rfl) rfl rfl ar_ ?_
            with_reducible refine (impl_Edge_ascend.calls kj11 _ _ t108 t111 a0_3 t112 _ ?side1 ?side2 A28.out).mono ?_
            (case side1 => repeat (first | exact (Kd.V_reads' HO110.out).2.2 | (with_reducible refine Kd.C_alloc ?_ _) | (with_reducible refine Kd.C_drewN ?_ _) | (with_reducible refine Kd.C_drew ?_))); (case side2 => exact (Kd.V_reads' HO110.out).2.1); rintro e w34 ⟨rfl, hb⟩; refine ⟨_, rfl, ?_⟩; replace HO104 := Aside0.mk (Kd.V_below (by (with_reducible repeat (first | apply Kd.V_alloc | apply Kd.V_drewN | apply Kd.V_drew)); first | exact HO104.out | exact Kd.V_mono (HO104.out) (fun _ h_ => by simpa only [and_assoc, and_comm, and_left_comm] using h_)) hb); replace HO110 := Aside0.mk (Kd.V_below (by (with_reducible repeat (first | apply Kd.V_alloc | apply Kd.V_drewN | apply Kd.V_drew)); first | exact HO110.out | exact Kd.V_mono (HO110.out) (fun _ h_ => by simpa only [and_assoc, and_comm, and_left_comm] using h_)) hb); replace BK101 := bb_ BK101 hb; replace BK106 := bb_ BK106 hb; replace HB := bs_ hb; (try clear hb); (try clear hb2); (try clear hk); (try clear hi); refine hK.out _ _ ⟨(blkc BK106 0), (blkc BK106 1), (blkc BK101 0), (blkc BK101 1), (blkc BK101 2), (blkc BK101 3)⟩ (fun hHeld => ?_); clear hK K; refine norm_ (a' := ?_) ?_ ?_; rotate_left
            · show Act.put _ (some 48) _ = _
              simp only [Act.put, List.setIfInBounds_toArray, List.set_cons_zero, List.set_cons_succ, i64_w, i32_w]
              rfl
            refine puA 11 (some 49) ?_; refine puA 12 (some 50) ?_; refine done_ (done_of HT_.out (by kernel_rfl)) ?_
            try go_wp2
            go_meet
            case rel => exact ⟨_, (!t112), sm_, H', ⟨by have := HJ1.out; have := HJ11.out; first | omega | exact Nat.le_refl _⟩, ⟨by (with_reducible repeat (first | apply Kd.V_alloc | apply Kd.V_drewN | apply Kd.V_drew)); first | exact HO104.out | exact Kd.V_mono (HO104.out) (fun _ h_ => by simpa only [and_assoc, and_comm, and_left_comm] using h_)⟩, ⟨by refine pe_ ?_; exact BK101.out⟩, ⟨by refine pe_ ?_; exact BK106.out⟩, ⟨bel_⟩⟩
          case rest =>
            clear HC18
            try clear c1
            try clear c2
            try clear p2
            try clear c4
            try clear c4b0
            try clear c6
            try clear c6b0
            try clear c7
            try clear c8
            try clear c8b0
            try clear c11
            try clear c13
            try clear c13b0
            try clear c13b1
            try clear c16
            try clear c23
            try clear c26
            try clear hcz10_0 hcz10_1 hcz10_2 hcz10_3
            try clear hcz14_0 hcz14_1 hcz14_2 hcz14_3
            try clear hcz15_0 hcz15_1 hcz15_2 hcz15_3
            try clear hcz19_0 hcz19_1 hcz19_2 hcz19_3
            try clear hcz24_0 hcz24_1
            try clear hcz5_0 hcz5_1 hcz5_2 hcz5_3
            try clear hcz7_0 hcz7_1 hcz7_2 hcz7_3
            try clear hcz9_0 hcz9_1 hcz9_2 hcz9_3
            try clear hfz10_0 hfz10_1 hfz10_2 hfz10_3
            try clear hfz14_0 hfz14_1 hfz14_2 hfz14_3
            try clear hfz15_0 hfz15_1 hfz15_2 hfz15_3
            try clear hfz19_0 hfz19_1 hfz19_2 hfz19_3
            try clear hfz24_0 hfz24_1
            try clear hfz5_0 hfz5_1 hfz5_2 hfz5_3
            try clear hfz7_0 hfz7_1 hfz7_2 hfz7_3
            try clear hfz9_0 hfz9_1 hfz9_2 hfz9_3
            try clear p2
            obtain ⟨kq, x50_17, rfl, HA, HJ17, HO_107000, BK101, BK106, HB⟩ := hcut
            cases kq with
            | zero => exact absurd HA.out (by simp [impl_GraphOk.j2])
            | succ kj17 =>
              have H := HA.out; clear HA; simp only [impl_GraphOk.j2] at H; by_cases c38 : x50_17 = true; rotate_left; replace c38 := Bool.eq_false_iff.mpr c38; subst c38; rw [fe_] at H; have H' := Aside0.mk H; clear H; have hnb39 := NB101_106.out; have hnc39 := NB106_101.out; rotate_right; subst c38; rw [if_pos rfl] at H; obtain rfl := Option.some.inj H
              · go_wp2
                go_ret; exact re_
              obtain ⟨hcz40_0, hcz40_1, hcz40_2, hcz40_3, hfz40_0, hfz40_1, hfz40_2, hfz40_3⟩ := blk4 BK101
              go_wp2
              go_loopg [54] kj17 (fun kq v54 w' => ∃ (x54_4 : Int), v54 = .int .i64 x54_4 ∧ Aside0 (impl_GraphOk.l0 kq l0_0 (l0_0.length : Int) x54_4 l0_0 l0_1 a0_2 a0_3 t102 t105 = some r) ∧ Aside0 (kq ≤ kj17) ∧ Aside0 (Kd.V k99 99 w' w.heap.size (fun k_ => k_ ≠ gb101 ∧ k_ ≠ gb106) (.slice Ao22 t102.length co22) t102) ∧ Aside0 (w'.heap[gb101]? = some (.cells #[(.slice A0_0 l0_0.length c0_0), (.slice A0_1 l0_1.length c0_1), .int .i64 a0_2, .int .i64 a0_3] 31 (0, 0))) ∧ Aside0 (w'.heap[gb106]? = some (.cells #[(.slice Ao22 t102.length co22), .func (.func 154) #[] #[]] 110 (0, 0))) ∧ Aside0 (Below w.heap.size w w'))
              case atStart => exact ⟨(0), sm_, H', ⟨Nat.le_refl _⟩, ⟨by (with_reducible repeat (first | apply Kd.V_alloc | apply Kd.V_drewN | apply Kd.V_drew)); first | exact HO_107000.out | exact Kd.V_mono (HO_107000.out) (fun _ h_ => by simpa only [and_assoc, and_comm, and_left_comm] using h_)⟩, ⟨by refine pe_ ?_; exact BK101.out⟩, ⟨by refine pe_ ?_; exact BK106.out⟩, ⟨bel_⟩⟩
              case round =>
                clear H'
                try clear c1
                try clear c2
                try clear p2
                try clear c3
                try clear c4
                try clear c4b0
                try clear c6
                try clear c6b0
                try clear c7
                try clear c8
                try clear c8b0
                try clear c11
                try clear c13
                try clear c13b0
                try clear c13b1
                try clear c16
                try clear c23
                try clear c26
                try clear c38
                try clear c39
                try clear hcz10_0 hcz10_1 hcz10_2 hcz10_3
                try clear hcz14_0 hcz14_1 hcz14_2 hcz14_3
                try clear hcz15_0 hcz15_1 hcz15_2 hcz15_3
                try clear hcz19_0 hcz19_1 hcz19_2 hcz19_3
                try clear hcz24_0 hcz24_1
                try clear hcz40_0 hcz40_1 hcz40_2 hcz40_3
                try clear hcz5_0 hcz5_1 hcz5_2 hcz5_3
                try clear hcz7_0 hcz7_1 hcz7_2 hcz7_3
                try clear hcz9_0 hcz9_1 hcz9_2 hcz9_3
                try clear hfz10_0 hfz10_1 hfz10_2 hfz10_3
                try clear hfz14_0 hfz14_1 hfz14_2 hfz14_3
                try clear hfz15_0 hfz15_1 hfz15_2 hfz15_3
                try clear hfz19_0 hfz19_1 hfz19_2 hfz19_3
                try clear hfz24_0 hfz24_1
                try clear hfz40_0 hfz40_1 hfz40_2 hfz40_3
                try clear hfz5_0 hfz5_1 hfz5_2 hfz5_3
                try clear hfz7_0 hfz7_1 hfz7_2 hfz7_3
                try clear hfz9_0 hfz9_1 hfz9_2 hfz9_3
                try clear p2
                obtain ⟨x54_4, rfl, HA, HK4, HO_107000, BK101, BK106, HB⟩ := hrel
                cases gk with
                | zero => exact absurd HA.out (by simp [impl_GraphOk.l0])
                | succ k4 =>
                  have H := HA.out; clear HA; simp only [impl_GraphOk.l0] at H; by_cases c41 : x54_4 < (l0_0.length : Int)
                  · rw [if_pos c41] at H; have c41b0 := dt_ c41; clear c41; by_cases c42 : 0 ≤ x54_4; rotate_left
                    · rw [if_neg c42] at H; exact absurd H (by simp)
                    rotate_right; rw [if_pos c42] at H; have c42b0 := dt_ c42; clear c42; by_cases c43 : x54_4 < (l0_0.length : Int); rotate_left
                    · rw [if_neg c43] at H; exact absurd H (by simp)
                    rotate_right; rw [if_pos c43] at H; have c43b0 := dt_ c43; clear c43; replace H := ob_ H; obtain ⟨t115, A44, H⟩ := H; by_cases c45 : t115 = true; rotate_left; replace c45 := Bool.eq_false_iff.mpr c45; subst c45; rw [fe_] at H; obtain rfl := Option.some.inj H; rotate_right; subst c45; rw [if_pos rfl] at H; replace H := ob_ H; obtain ⟨t116, A46, H⟩ := H; by_cases c47 : t116 = true; rotate_left; replace c47 := Bool.eq_false_iff.mpr c47; subst c47; rw [fe_] at H; obtain rfl := Option.some.inj H; rotate_right; subst c47; rw [if_pos rfl] at H; have H' := Aside0.mk H; clear H
                    all_goals
                      have p113 : 0 ≤ (x54_4 : Int) := od_; have q113 : x54_4 < (l0_0.length : Int) := od_; obtain ⟨ad113, A113_1, c113_1, A113_2, c113_2, e113, hx113_0, hx113_1, hx113_2, hl113_1, hi113_1, hl113_2, hi113_2⟩ := at_T99 HR0_0.out x54_4 p113 q113
                      cases e113
                      replace hx113_0 := mv_ HB hx113_0; replace hx113_1 := mv_ HB hx113_1; replace hx113_2 := mv_ HB hx113_2; have HR113_1 := Aside0.mk hi113_1; have HC113_1 := Aside0.mk hl113_1; clear hi113_1 hl113_1; have HR113_2 := Aside0.mk hi113_2; have HC113_2 := Aside0.mk hl113_2; clear hi113_2 hl113_2; replace p113 := eq_true p113; replace q113 := eq_true q113
                      go_wp2_with (first | ((with_reducible refine gate_dst (N := 5) rfl ?_); (try (refine gate_guard (by rfl) ?_; dsimp only)); refine box_event ?hg (N := 5) ?hd (cs := #[.int .i64 0, .slice none 0 0, .slice none 0 0]) (t := 99) ?hr ?_; (case hd => rfl); (case hg => rfl); (case hr => first | (go_simp; done) | (go_simp; rfl)); intro gb114 hg w48 hbox hb; have BK114 := Aside0.mk (hbox); have GW114 := gw_ hg; have GE114 := gw_ hg; have NB101_114 := nlt_ hg BK101; have NB114_101 := ngt_ hg BK101; have NB106_114 := nlt_ hg BK106; have NB114_106 := ngt_ hg BK106; replace HO_107000 := Aside0.mk (Kd.V_below (Kd.V_elderB (by (with_reducible repeat (first | apply Kd.V_alloc | apply Kd.V_drewN | apply Kd.V_drew)); first | exact HO_107000.out | exact Kd.V_mono (HO_107000.out) (fun _ h_ => by simpa only [and_assoc, and_comm, and_left_comm] using h_)) gb114 (Nat.le_of_eq hg.symm)) hb); replace BK101 := bb_ BK101 hb; replace BK106 := bb_ BK106 hb; replace HB := bs_ hb; clear hb hbox hg; have hnb49 := NB114_101.out; have hnc49 := NB101_114.out; have hnb50 := NB114_106.out; have hnc50 := NB106_114.out; obtain ⟨hcz51_0, hcz51_1, hcz51_2, hfz51_0, hfz51_1, hfz51_2⟩ := blk3 BK114) | ((with_reducible refine gate_callee (f := 80) rfl ?_); refine goesL_ (some 60) rfl rfl Try.func80 (by kernel_rfl) rfl #[.slice A113_1 ((rd_T99 l0_0 x54_4).f1).length c113_1] rfl ar_ ?_; (with_reducible refine (impl_labelsOk.calls k4 _ _ ((rd_T99 l0_0 x54_4).f1) _ _ ?side1 ?side2 A44.out).mono ?_); (case side1 => exact Kd.C_below HR113_1.out (bel_)); (case side2 => exact HC113_1.out); rintro e w' ⟨rfl, ⟨nd, rfl⟩⟩; refine ⟨_, rfl, ?_⟩) | (go_at_call 81; (with_reducible refine (impl_propsOk.calls k4 _ _ ((rd_T99 l0_0 x54_4).f2) _ _ ?side1 ?side2 A46.out).mono ?_); (case side1 => exact Kd.C_below HR113_2.out (bel_)); (case side2 => exact HC113_2.out); rintro e w52 ⟨rfl, hb⟩; replace HO_107000 := Aside0.mk (Kd.V_below (by (with_reducible repeat (first | apply Kd.V_alloc | apply Kd.V_drewN | apply Kd.V_drew)); first | exact (Kd.V_mono (Kd.V_far (p := ⟨gb114, 2, none⟩) (Kd.V_far (p := ⟨gb114, 1, none⟩) (Kd.V_far (p := ⟨gb114, 0, none⟩) (Kd.V_mono HO_107000.out (fun k_ hk => (⟨hk, hk.2⟩ : _ ∧ k_ ≠ gb114))) (fun _ hk => hk.2) (.int .i64 ((rd_T99 l0_0 x54_4).f0))) (fun _ hk => hk.2) (.slice A113_1 ((rd_T99 l0_0 x54_4).f1).length c113_1)) (fun _ hk => hk.2) (.slice A113_2 ((rd_T99 l0_0 x54_4).f2).length c113_2)) (fun _ h_ => h_.1)) | exact Kd.V_mono ((Kd.V_mono (Kd.V_far (p := ⟨gb114, 2, none⟩) (Kd.V_far (p := ⟨gb114, 1, none⟩) (Kd.V_far (p := ⟨gb114, 0, none⟩) (Kd.V_mono HO_107000.out (fun k_ hk => (⟨hk, hk.2⟩ : _ ∧ k_ ≠ gb114))) (fun _ hk => hk.2) (.int .i64 ((rd_T99 l0_0 x54_4).f0))) (fun _ hk => hk.2) (.slice A113_1 ((rd_T99 l0_0 x54_4).f1).length c113_1)) (fun _ hk => hk.2) (.slice A113_2 ((rd_T99 l0_0 x54_4).f2).length c113_2)) (fun _ h_ => h_.1))) (fun _ h_ => by simpa only [and_assoc, and_comm, and_left_comm] using h_)) hb); replace BK101 := Aside0.mk (blk_below (g := gb101) (o := .cells #[.slice (some ad113) l0_0.length c0_0, .slice A0_1 l0_1.length c0_1, .int .i64 a0_2, .int .i64 a0_3] 31 (0, 0)) (by refine pe_ ?_; refine blk_far ?_ NB101_114.out _; refine pe_ ?_; refine blk_far ?_ NB101_114.out _; refine pe_ ?_; refine blk_far ?_ NB101_114.out _; refine pe_ ?_; exact BK101.out) hb); replace BK106 := Aside0.mk (blk_below (g := gb106) (o := .cells #[.slice Ao22 t102.length co22, .func (.func 154) #[] #[]] 110 (0, 0)) (by refine pe_ ?_; refine blk_far ?_ NB106_114.out _; refine pe_ ?_; refine blk_far ?_ NB106_114.out _; refine pe_ ?_; refine blk_far ?_ NB106_114.out _; refine pe_ ?_; exact BK106.out) hb); replace BK114 := Aside0.mk (blk_below (g := gb114) (o := .cells #[.int .i64 ((rd_T99 l0_0 x54_4).f0), .slice A113_1 ((rd_T99 l0_0 x54_4).f1).length c113_1, .slice A113_2 ((rd_T99 l0_0 x54_4).f2).length c113_2] 99 (0, 0)) (by refine pe_ ?_; refine blk_put (cs := #[.int .i64 ((rd_T99 l0_0 x54_4).f0), .slice A113_1 ((rd_T99 l0_0 x54_4).f1).length c113_1, .slice none 0 0]) ?_ 2 _ rfl; refine pe_ ?_; refine blk_put (cs := #[.int .i64 ((rd_T99 l0_0 x54_4).f0), .slice none 0 0, .slice none 0 0]) ?_ 1 _ rfl; refine pe_ ?_; refine blk_put (cs := #[.int .i64 0, .slice none 0 0, .slice none 0 0]) ?_ 0 _ rfl; refine pe_ ?_; exact BK114.out) hb); replace HB := bs_ hb; (try clear hb); (try clear hb2); (try clear hk); (try clear hi)))
                    rotate_left 2
                    · go_ret; exact re_
                    rotate_left
                    · go_ret; exact re_
                    go_roundg k4
                    case measure => have := HJ1.out; have := HJ11.out; have := HJ17.out; have := HK4.out; omega
                    case rel => exact ⟨(wrap64 (x54_4 + 1)), sm_, H', ⟨by have := HJ1.out; have := HJ11.out; have := HJ17.out; have := HK4.out; omega⟩, ⟨by (with_reducible repeat (first | apply Kd.V_alloc | apply Kd.V_drewN | apply Kd.V_drew)); first | exact Kd.V_mono HO_107000.out (fun _ hk => ⟨hk.1.1, hk.1.2⟩) | exact Kd.V_mono (Kd.V_mono HO_107000.out (fun _ hk => ⟨hk.1.1, hk.1.2⟩)) (fun _ h_ => by simpa only [and_assoc, and_comm, and_left_comm] using h_)⟩, ⟨by refine pe_ ?_; exact BK101.out⟩, ⟨by refine pe_ ?_; exact BK106.out⟩, ⟨bel_⟩⟩
                  rw [if_neg c41] at H; have c41b0 := df_ c41; clear c41; have H' := Aside0.mk H; clear H; have hnb62 := NB101_106.out; have hnc62 := NB106_101.out; obtain ⟨hcz63_0, hcz63_1, hcz63_2, hcz63_3, hfz63_0, hfz63_1, hfz63_2, hfz63_3⟩ := blk4 BK101
                  go_wp2
                  go_loopg [72] k4 (fun kq v72 w' => ∃ (x72_5 : Int), v72 = .int .i64 x72_5 ∧ Aside0 (impl_GraphOk.l1 kq l0_1 (l0_1.length : Int) x72_5 t102 t105 = some r) ∧ Aside0 (kq ≤ k4) ∧ Aside0 (Kd.V k99 99 w' w.heap.size (fun k_ => k_ ≠ gb101 ∧ k_ ≠ gb106) (.slice Ao22 t102.length co22) t102) ∧ Aside0 (w'.heap[gb101]? = some (.cells #[(.slice A0_0 l0_0.length c0_0), (.slice A0_1 l0_1.length c0_1), .int .i64 a0_2, .int .i64 a0_3] 31 (0, 0))) ∧ Aside0 (w'.heap[gb106]? = some (.cells #[(.slice Ao22 t102.length co22), .func (.func 154) #[] #[]] 110 (0, 0))) ∧ Aside0 (Below w.heap.size w w'))
                  case atStart => exact ⟨(0), sm_, H', ⟨Nat.le_refl _⟩, ⟨by (with_reducible repeat (first | apply Kd.V_alloc | apply Kd.V_drewN | apply Kd.V_drew)); first | exact HO_107000.out | exact Kd.V_mono (HO_107000.out) (fun _ h_ => by simpa only [and_assoc, and_comm, and_left_comm] using h_)⟩, ⟨by refine pe_ ?_; exact BK101.out⟩, ⟨by refine pe_ ?_; exact BK106.out⟩, ⟨bel_⟩⟩
                  case round =>
                    clear H'
                    try clear c1
                    try clear p1
                    try clear q1
                    try clear hx1
                    try clear c2
                    try clear p2
                    try clear c3
                    try clear c4
                    try clear c4b0
                    try clear c5
                    try clear c6
                    try clear c6b0
                    try clear p6
                    try clear c7
                    try clear c8
                    try clear c8b0
                    try clear c11
                    try clear p11
                    try clear q11
                    try clear hx11
                    try clear c13
                    try clear c13b0
                    try clear c13b1
                    try clear c16
                    try clear c23
                    try clear c26
                    try clear c38
                    try clear c39
                    try clear c41
                    try clear c41b0
                    try clear c42
                    try clear c42b0
                    try clear c43
                    try clear c43b0
                    try clear c45
                    try clear c47
                    try clear c49
                    try clear c50
                    try clear c54
                    try clear c55
                    try clear c59
                    try clear c60
                    try clear c62
                    try clear hcz10_0 hcz10_1 hcz10_2 hcz10_3
                    try clear hcz14_0 hcz14_1 hcz14_2 hcz14_3
                    try clear hcz15_0 hcz15_1 hcz15_2 hcz15_3
                    try clear hcz19_0 hcz19_1 hcz19_2 hcz19_3
                    try clear hcz24_0 hcz24_1
                    try clear hcz40_0 hcz40_1 hcz40_2 hcz40_3
                    try clear hcz51_0 hcz51_1 hcz51_2
                    try clear hcz56_0 hcz56_1 hcz56_2
                    try clear hcz5_0 hcz5_1 hcz5_2 hcz5_3
                    try clear hcz61_0 hcz61_1 hcz61_2
                    try clear hcz63_0 hcz63_1 hcz63_2 hcz63_3
                    try clear hcz7_0 hcz7_1 hcz7_2 hcz7_3
                    try clear hcz9_0 hcz9_1 hcz9_2 hcz9_3
                    try clear hfz10_0 hfz10_1 hfz10_2 hfz10_3
                    try clear hfz14_0 hfz14_1 hfz14_2 hfz14_3
                    try clear hfz15_0 hfz15_1 hfz15_2 hfz15_3
                    try clear hfz19_0 hfz19_1 hfz19_2 hfz19_3
                    try clear hfz24_0 hfz24_1
                    try clear hfz40_0 hfz40_1 hfz40_2 hfz40_3
                    try clear hfz51_0 hfz51_1 hfz51_2
                    try clear hfz56_0 hfz56_1 hfz56_2
                    try clear hfz5_0 hfz5_1 hfz5_2 hfz5_3
                    try clear hfz61_0 hfz61_1 hfz61_2
                    try clear hfz63_0 hfz63_1 hfz63_2 hfz63_3
                    try clear hfz7_0 hfz7_1 hfz7_2 hfz7_3
                    try clear hfz9_0 hfz9_1 hfz9_2 hfz9_3
                    try clear hx113_0
                    try clear hx113_1
                    try clear hx113_2
                    try clear p113
                    try clear p2
                    try clear q113
                    obtain ⟨x72_5, rfl, HA, HK5, HO_107000, BK101, BK106, HB⟩ := hrel
                    cases gk with
                    | zero => exact absurd HA.out (by simp [impl_GraphOk.l1])
                    | succ k5 =>
                      have H := HA.out; clear HA; simp only [impl_GraphOk.l1] at H; by_cases c64 : x72_5 < (l0_1.length : Int); rotate_left; rw [if_neg c64] at H; have c64b0 := df_ c64; clear c64; obtain rfl := Option.some.inj H; rotate_right; rw [if_pos c64] at H; have c64b0 := dt_ c64; clear c64; by_cases c65 : 0 ≤ x72_5; rotate_left
                      · rw [if_neg c65] at H; exact absurd H (by simp)
                      rotate_right; rw [if_pos c65] at H; have c65b0 := dt_ c65; clear c65; by_cases c66 : x72_5 < (l0_1.length : Int); rotate_left
                      · rw [if_neg c66] at H; exact absurd H (by simp)
                      rotate_right; rw [if_pos c66] at H; have c66b0 := dt_ c66; clear c66; replace H := ob_ H; obtain ⟨t119, A67, H⟩ := H; by_cases c68 : t119 = true; rotate_left; replace c68 := Bool.eq_false_iff.mpr c68; subst c68; rw [fe_] at H; obtain rfl := Option.some.inj H; rotate_right; subst c68; rw [if_pos rfl] at H; replace H := ob_ H; obtain ⟨t120, A69, H⟩ := H; by_cases c70 : t120 = true; rotate_left; replace c70 := Bool.eq_false_iff.mpr c70; subst c70; rw [fe_] at H; obtain rfl := Option.some.inj H; rotate_right; subst c70; rw [if_pos rfl] at H; replace H := ob_ H; obtain ⟨t121, A71, H⟩ := H; by_cases c72 : t121 < 0; rotate_left; rw [if_neg c72] at H; have c72b0 := df_ c72; clear c72; replace H := ob_ H; obtain ⟨t122, A82, H⟩ := H; by_cases c83 : t122 < 0; rotate_left; rw [if_neg c83] at H; have c83b0 := df_ c83; clear c83; have H' := Aside0.mk H; clear H; rotate_right; rw [if_pos c83] at H; have c83b0 := dt_ c83; clear c83; obtain rfl := Option.some.inj H; rotate_right; rw [if_pos c72] at H; have c72b0 := dt_ c72; clear c72; obtain rfl := Option.some.inj H; rotate_left 5
                      · go_wp2
                        go_ret; exact re_
                      all_goals
                        have p117 : 0 ≤ (x72_5 : Int) := od_; have q117 : x72_5 < (l0_1.length : Int) := od_; obtain ⟨ad117, A117_4, c117_4, e117, hx117_0, hx117_1, hx117_2, hx117_3, hx117_4, hl117_4, hi117_4⟩ := at_T104 HR0_1.out x72_5 p117 q117
                        cases e117
                        replace hx117_0 := mv_ HB hx117_0; replace hx117_1 := mv_ HB hx117_1; replace hx117_2 := mv_ HB hx117_2; replace hx117_3 := mv_ HB hx117_3; replace hx117_4 := mv_ HB hx117_4; have HR117_4 := Aside0.mk hi117_4; have HC117_4 := Aside0.mk hl117_4; clear hi117_4 hl117_4; replace p117 := eq_true p117; replace q117 := eq_true q117
                      rotate_left 3
                      · go_wp2_with (first | ((with_reducible refine gate_dst (N := 7) rfl ?_); (try (refine gate_guard (by rfl) ?_; dsimp only)); refine box_event ?hg (N := 7) ?hd (cs := #[.int .i64 0, .string (⟨#[]⟩ : ByteArray), .int .i64 0, .int .i64 0, .slice none 0 0]) (t := 104) ?hr ?_; (case hd => rfl); (case hg => rfl); (case hr => first | (go_simp; done) | (go_simp; rfl)); intro gb7118 hg w108 hbox hb; have BK7118 := Aside0.mk (hbox); have GW7118 := gw_ hg; have GE7118 := gw_ hg; have NB7101_118 := nlt_ hg BK101; have NB7118_101 := ngt_ hg BK101; have NB7106_118 := nlt_ hg BK106; have NB7118_106 := ngt_ hg BK106; replace HO_107000 := Aside0.mk (Kd.V_below (Kd.V_elderB (by (with_reducible repeat (first | apply Kd.V_alloc | apply Kd.V_drewN | apply Kd.V_drew)); first | exact HO_107000.out | exact Kd.V_mono (HO_107000.out) (fun _ h_ => by simpa only [and_assoc, and_comm, and_left_comm] using h_)) gb7118 (Nat.le_of_eq hg.symm)) hb); replace BK101 := bb_ BK101 hb; replace BK106 := bb_ BK106 hb; replace HB := bs_ hb; clear hb hbox hg; have hnb109 := NB7118_101.out; have hnc109 := NB7101_118.out; have hnb110 := NB7118_106.out; have hnc110 := NB7106_118.out; obtain ⟨hcz111_0, hcz111_1, hcz111_2, hcz111_3, hcz111_4, hfz111_0, hfz111_1, hfz111_2, hfz111_3, hfz111_4⟩ := blk5 BK7118) | ((with_reducible refine gate_callee (f := 82) rfl ?_); refine goesL_ (some 78) rfl rfl Try.func82 (by kernel_rfl) rfl #[.string ((rd_T104 l0_1 x72_5).f1)] rfl ar_ ?_; (with_reducible refine (impl_NameOk.calls k5 ((rd_T104 l0_1 x72_5).f1) true _ A67.out).mono ?_); rintro e w' ⟨rfl, ⟨nd, rfl⟩⟩; refine ⟨_, rfl, ?_⟩) | (go_at_call 81; (with_reducible refine (impl_propsOk.calls k5 _ _ ((rd_T104 l0_1 x72_5).f4) false _ ?side1 ?side2 A69.out).mono ?_); (case side1 => exact Kd.C_below HR117_4.out (bel_)); (case side2 => exact HC117_4.out); rintro e w112 ⟨rfl, hb⟩; replace HO_107000 := Aside0.mk (Kd.V_below (by (with_reducible repeat (first | apply Kd.V_alloc | apply Kd.V_drewN | apply Kd.V_drew)); first | exact (Kd.V_mono (Kd.V_far (p := ⟨gb7118, 4, none⟩) (Kd.V_far (p := ⟨gb7118, 3, none⟩) (Kd.V_far (p := ⟨gb7118, 2, none⟩) (Kd.V_far (p := ⟨gb7118, 1, none⟩) (Kd.V_far (p := ⟨gb7118, 0, none⟩) (Kd.V_mono HO_107000.out (fun k_ hk => (⟨hk, hk.2⟩ : _ ∧ k_ ≠ gb7118))) (fun _ hk => hk.2) (.int .i64 ((rd_T104 l0_1 x72_5).f0))) (fun _ hk => hk.2) (.string ((rd_T104 l0_1 x72_5).f1))) (fun _ hk => hk.2) (.int .i64 ((rd_T104 l0_1 x72_5).f2))) (fun _ hk => hk.2) (.int .i64 ((rd_T104 l0_1 x72_5).f3))) (fun _ hk => hk.2) (.slice A117_4 ((rd_T104 l0_1 x72_5).f4).length c117_4)) (fun _ h_ => h_.1)) | exact Kd.V_mono ((Kd.V_mono (Kd.V_far (p := ⟨gb7118, 4, none⟩) (Kd.V_far (p := ⟨gb7118, 3, none⟩) (Kd.V_far (p := ⟨gb7118, 2, none⟩) (Kd.V_far (p := ⟨gb7118, 1, none⟩) (Kd.V_far (p := ⟨gb7118, 0, none⟩) (Kd.V_mono HO_107000.out (fun k_ hk => (⟨hk, hk.2⟩ : _ ∧ k_ ≠ gb7118))) (fun _ hk => hk.2) (.int .i64 ((rd_T104 l0_1 x72_5).f0))) (fun _ hk => hk.2) (.string ((rd_T104 l0_1 x72_5).f1))) (fun _ hk => hk.2) (.int .i64 ((rd_T104 l0_1 x72_5).f2))) (fun _ hk => hk.2) (.int .i64 ((rd_T104 l0_1 x72_5).f3))) (fun _ hk => hk.2) (.slice A117_4 ((rd_T104 l0_1 x72_5).f4).length c117_4)) (fun _ h_ => h_.1))) (fun _ h_ => by simpa only [and_assoc, and_comm, and_left_comm] using h_)) hb); replace BK101 := Aside0.mk (blk_below (g := gb101) (o := .cells #[.slice A0_0 l0_0.length c0_0, .slice (some ad117) l0_1.length c0_1, .int .i64 a0_2, .int .i64 a0_3] 31 (0, 0)) (by refine pe_ ?_; refine blk_far ?_ NB7101_118.out _; refine pe_ ?_; refine blk_far ?_ NB7101_118.out _; refine pe_ ?_; refine blk_far ?_ NB7101_118.out _; refine pe_ ?_; refine blk_far ?_ NB7101_118.out _; refine pe_ ?_; refine blk_far ?_ NB7101_118.out _; refine pe_ ?_; exact BK101.out) hb); replace BK106 := Aside0.mk (blk_below (g := gb106) (o := .cells #[.slice Ao22 t102.length co22, .func (.func 154) #[] #[]] 110 (0, 0)) (by refine pe_ ?_; refine blk_far ?_ NB7106_118.out _; refine pe_ ?_; refine blk_far ?_ NB7106_118.out _; refine pe_ ?_; refine blk_far ?_ NB7106_118.out _; refine pe_ ?_; refine blk_far ?_ NB7106_118.out _; refine pe_ ?_; refine blk_far ?_ NB7106_118.out _; refine pe_ ?_; exact BK106.out) hb); replace BK7118 := Aside0.mk (blk_below (g := gb7118) (o := .cells #[.int .i64 ((rd_T104 l0_1 x72_5).f0), .string ((rd_T104 l0_1 x72_5).f1), .int .i64 ((rd_T104 l0_1 x72_5).f2), .int .i64 ((rd_T104 l0_1 x72_5).f3), .slice A117_4 ((rd_T104 l0_1 x72_5).f4).length c117_4] 104 (0, 0)) (by refine pe_ ?_; refine blk_put (cs := #[.int .i64 ((rd_T104 l0_1 x72_5).f0), .string ((rd_T104 l0_1 x72_5).f1), .int .i64 ((rd_T104 l0_1 x72_5).f2), .int .i64 ((rd_T104 l0_1 x72_5).f3), .slice none 0 0]) ?_ 4 _ rfl; refine pe_ ?_; refine blk_put (cs := #[.int .i64 ((rd_T104 l0_1 x72_5).f0), .string ((rd_T104 l0_1 x72_5).f1), .int .i64 ((rd_T104 l0_1 x72_5).f2), .int .i64 0, .slice none 0 0]) ?_ 3 _ rfl; refine pe_ ?_; refine blk_put (cs := #[.int .i64 ((rd_T104 l0_1 x72_5).f0), .string ((rd_T104 l0_1 x72_5).f1), .int .i64 0, .int .i64 0, .slice none 0 0]) ?_ 2 _ rfl; refine pe_ ?_; refine blk_put (cs := #[.int .i64 ((rd_T104 l0_1 x72_5).f0), .string (⟨#[]⟩ : ByteArray), .int .i64 0, .int .i64 0, .slice none 0 0]) ?_ 1 _ rfl; refine pe_ ?_; refine blk_put (cs := #[.int .i64 0, .string (⟨#[]⟩ : ByteArray), .int .i64 0, .int .i64 0, .slice none 0 0]) ?_ 0 _ rfl; refine pe_ ?_; exact BK7118.out) hb); replace HB := bs_ hb; (try clear hb); (try clear hb2); (try clear hk); (try clear hi)))
                        go_ret; exact re_
                      rotate_right 3
                      · go_wp2_with (first | ((with_reducible refine gate_dst (N := 7) rfl ?_); (try (refine gate_guard (by rfl) ?_; dsimp only)); refine box_event ?hg (N := 7) ?hd (cs := #[.int .i64 0, .string (⟨#[]⟩ : ByteArray), .int .i64 0, .int .i64 0, .slice none 0 0]) (t := 104) ?hr ?_; (case hd => rfl); (case hg => rfl); (case hr => first | (go_simp; done) | (go_simp; rfl)); intro gb7118 hg w73 hbox hb; have BK7118 := Aside0.mk (hbox); have GW7118 := gw_ hg; have GE7118 := gw_ hg; have NB7101_118 := nlt_ hg BK101; have NB7118_101 := ngt_ hg BK101; have NB7106_118 := nlt_ hg BK106; have NB7118_106 := ngt_ hg BK106; replace HO_107000 := Aside0.mk (Kd.V_below (Kd.V_elderB (by (with_reducible repeat (first | apply Kd.V_alloc | apply Kd.V_drewN | apply Kd.V_drew)); first | exact HO_107000.out | exact Kd.V_mono (HO_107000.out) (fun _ h_ => by simpa only [and_assoc, and_comm, and_left_comm] using h_)) gb7118 (Nat.le_of_eq hg.symm)) hb); replace BK101 := bb_ BK101 hb; replace BK106 := bb_ BK106 hb; replace HB := bs_ hb; clear hb hbox hg; have hnb74 := NB7118_101.out; have hnc74 := NB7101_118.out; have hnb75 := NB7118_106.out; have hnc75 := NB7106_118.out; obtain ⟨hcz76_0, hcz76_1, hcz76_2, hcz76_3, hcz76_4, hfz76_0, hfz76_1, hfz76_2, hfz76_3, hfz76_4⟩ := blk5 BK7118) | ((with_reducible refine gate_callee (f := 82) rfl ?_); refine goesL_ (some 78) rfl rfl Try.func82 (by kernel_rfl) rfl #[.string ((rd_T104 l0_1 x72_5).f1)] rfl ar_ ?_; (with_reducible refine (impl_NameOk.calls k5 ((rd_T104 l0_1 x72_5).f1) true _ A67.out).mono ?_); rintro e w' ⟨rfl, ⟨nd, rfl⟩⟩; refine ⟨_, rfl, ?_⟩) | (go_at_call 81; (with_reducible refine (impl_propsOk.calls k5 _ _ ((rd_T104 l0_1 x72_5).f4) true _ ?side1 ?side2 A69.out).mono ?_); (case side1 => exact Kd.C_below HR117_4.out (bel_)); (case side2 => exact HC117_4.out); rintro e w77 ⟨rfl, hb⟩; replace HO_107000 := Aside0.mk (Kd.V_below (by (with_reducible repeat (first | apply Kd.V_alloc | apply Kd.V_drewN | apply Kd.V_drew)); first | exact (Kd.V_mono (Kd.V_far (p := ⟨gb7118, 4, none⟩) (Kd.V_far (p := ⟨gb7118, 3, none⟩) (Kd.V_far (p := ⟨gb7118, 2, none⟩) (Kd.V_far (p := ⟨gb7118, 1, none⟩) (Kd.V_far (p := ⟨gb7118, 0, none⟩) (Kd.V_mono HO_107000.out (fun k_ hk => (⟨hk, hk.2⟩ : _ ∧ k_ ≠ gb7118))) (fun _ hk => hk.2) (.int .i64 ((rd_T104 l0_1 x72_5).f0))) (fun _ hk => hk.2) (.string ((rd_T104 l0_1 x72_5).f1))) (fun _ hk => hk.2) (.int .i64 ((rd_T104 l0_1 x72_5).f2))) (fun _ hk => hk.2) (.int .i64 ((rd_T104 l0_1 x72_5).f3))) (fun _ hk => hk.2) (.slice A117_4 ((rd_T104 l0_1 x72_5).f4).length c117_4)) (fun _ h_ => h_.1)) | exact Kd.V_mono ((Kd.V_mono (Kd.V_far (p := ⟨gb7118, 4, none⟩) (Kd.V_far (p := ⟨gb7118, 3, none⟩) (Kd.V_far (p := ⟨gb7118, 2, none⟩) (Kd.V_far (p := ⟨gb7118, 1, none⟩) (Kd.V_far (p := ⟨gb7118, 0, none⟩) (Kd.V_mono HO_107000.out (fun k_ hk => (⟨hk, hk.2⟩ : _ ∧ k_ ≠ gb7118))) (fun _ hk => hk.2) (.int .i64 ((rd_T104 l0_1 x72_5).f0))) (fun _ hk => hk.2) (.string ((rd_T104 l0_1 x72_5).f1))) (fun _ hk => hk.2) (.int .i64 ((rd_T104 l0_1 x72_5).f2))) (fun _ hk => hk.2) (.int .i64 ((rd_T104 l0_1 x72_5).f3))) (fun _ hk => hk.2) (.slice A117_4 ((rd_T104 l0_1 x72_5).f4).length c117_4)) (fun _ h_ => h_.1))) (fun _ h_ => by simpa only [and_assoc, and_comm, and_left_comm] using h_)) hb); replace BK101 := Aside0.mk (blk_below (g := gb101) (o := .cells #[.slice A0_0 l0_0.length c0_0, .slice (some ad117) l0_1.length c0_1, .int .i64 a0_2, .int .i64 a0_3] 31 (0, 0)) (by refine pe_ ?_; refine blk_far ?_ NB7101_118.out _; refine pe_ ?_; refine blk_far ?_ NB7101_118.out _; refine pe_ ?_; refine blk_far ?_ NB7101_118.out _; refine pe_ ?_; refine blk_far ?_ NB7101_118.out _; refine pe_ ?_; refine blk_far ?_ NB7101_118.out _; refine pe_ ?_; exact BK101.out) hb); replace BK106 := Aside0.mk (blk_below (g := gb106) (o := .cells #[.slice Ao22 t102.length co22, .func (.func 154) #[] #[]] 110 (0, 0)) (by refine pe_ ?_; refine blk_far ?_ NB7106_118.out _; refine pe_ ?_; refine blk_far ?_ NB7106_118.out _; refine pe_ ?_; refine blk_far ?_ NB7106_118.out _; refine pe_ ?_; refine blk_far ?_ NB7106_118.out _; refine pe_ ?_; refine blk_far ?_ NB7106_118.out _; refine pe_ ?_; exact BK106.out) hb); replace BK7118 := Aside0.mk (blk_below (g := gb7118) (o := .cells #[.int .i64 ((rd_T104 l0_1 x72_5).f0), .string ((rd_T104 l0_1 x72_5).f1), .int .i64 ((rd_T104 l0_1 x72_5).f2), .int .i64 ((rd_T104 l0_1 x72_5).f3), .slice A117_4 ((rd_T104 l0_1 x72_5).f4).length c117_4] 104 (0, 0)) (by refine pe_ ?_; refine blk_put (cs := #[.int .i64 ((rd_T104 l0_1 x72_5).f0), .string ((rd_T104 l0_1 x72_5).f1), .int .i64 ((rd_T104 l0_1 x72_5).f2), .int .i64 ((rd_T104 l0_1 x72_5).f3), .slice none 0 0]) ?_ 4 _ rfl; refine pe_ ?_; refine blk_put (cs := #[.int .i64 ((rd_T104 l0_1 x72_5).f0), .string ((rd_T104 l0_1 x72_5).f1), .int .i64 ((rd_T104 l0_1 x72_5).f2), .int .i64 0, .slice none 0 0]) ?_ 3 _ rfl; refine pe_ ?_; refine blk_put (cs := #[.int .i64 ((rd_T104 l0_1 x72_5).f0), .string ((rd_T104 l0_1 x72_5).f1), .int .i64 0, .int .i64 0, .slice none 0 0]) ?_ 2 _ rfl; refine pe_ ?_; refine blk_put (cs := #[.int .i64 ((rd_T104 l0_1 x72_5).f0), .string (⟨#[]⟩ : ByteArray), .int .i64 0, .int .i64 0, .slice none 0 0]) ?_ 1 _ rfl; refine pe_ ?_; refine blk_put (cs := #[.int .i64 0, .string (⟨#[]⟩ : ByteArray), .int .i64 0, .int .i64 0, .slice none 0 0]) ?_ 0 _ rfl; refine pe_ ?_; exact BK7118.out) hb); replace HB := bs_ hb; (try clear hb); (try clear hb2); (try clear hk); (try clear hi); have hnb78 := NB106_101.out; have hnc78 := NB101_106.out; obtain ⟨hcz79_0, hcz79_1, hfz79_0, hfz79_1⟩ := blk2 BK106; obtain ⟨hcz80_0, hcz80_1, hcz80_2, hcz80_3, hcz80_4, hfz80_0, hfz80_1, hfz80_2, hfz80_3, hfz80_4⟩ := blk5 BK7118) | (go_at_call 83; (with_reducible refine (impl_Node_place.calls k5 _ _ t102 t105 ((rd_T104 l0_1 x72_5).f2) t121 _ ?side1 ?side2 A71.out).mono ?_); (case side1 => repeat (first | exact (Kd.V_reads' HO_107000.out).2.2 | (with_reducible refine Kd.C_alloc ?_ _) | (with_reducible refine Kd.C_drewN ?_ _) | (with_reducible refine Kd.C_drew ?_))); (case side2 => exact (Kd.V_reads' HO_107000.out).2.1); rintro e w81 ⟨rfl, hb⟩; replace HO_107000 := Aside0.mk (Kd.V_below (by (with_reducible repeat (first | apply Kd.V_alloc | apply Kd.V_drewN | apply Kd.V_drew)); first | exact HO_107000.out | exact Kd.V_mono (HO_107000.out) (fun _ h_ => by simpa only [and_assoc, and_comm, and_left_comm] using h_)) hb); replace BK101 := bb_ BK101 hb; replace BK106 := bb_ BK106 hb; replace BK7118 := bb_ BK7118 hb; replace HB := bs_ hb; (try clear hb); (try clear hb2); (try clear hk); (try clear hi)))
                        go_ret; exact re_
                      all_goals
                        go_wp2_with (first | ((with_reducible refine gate_dst (N := 7) rfl ?_); (try (refine gate_guard (by rfl) ?_; dsimp only)); refine box_event ?hg (N := 7) ?hd (cs := #[.int .i64 0, .string (⟨#[]⟩ : ByteArray), .int .i64 0, .int .i64 0, .slice none 0 0]) (t := 104) ?hr ?_; (case hd => rfl); (case hg => rfl); (case hr => first | (go_simp; done) | (go_simp; rfl)); intro gb118 hg w96 hbox hb; have BK118 := Aside0.mk (hbox); have GW118 := gw_ hg; have GE118 := gw_ hg; have NB101_118 := nlt_ hg BK101; have NB118_101 := ngt_ hg BK101; have NB106_118 := nlt_ hg BK106; have NB118_106 := ngt_ hg BK106; replace HO_107000 := Aside0.mk (Kd.V_below (Kd.V_elderB (by (with_reducible repeat (first | apply Kd.V_alloc | apply Kd.V_drewN | apply Kd.V_drew)); first | exact HO_107000.out | exact Kd.V_mono (HO_107000.out) (fun _ h_ => by simpa only [and_assoc, and_comm, and_left_comm] using h_)) gb118 (Nat.le_of_eq hg.symm)) hb); replace BK101 := bb_ BK101 hb; replace BK106 := bb_ BK106 hb; replace HB := bs_ hb; clear hb hbox hg; have hnb97 := NB118_101.out; have hnc97 := NB101_118.out; have hnb98 := NB118_106.out; have hnc98 := NB106_118.out; obtain ⟨hcz99_0, hcz99_1, hcz99_2, hcz99_3, hcz99_4, hfz99_0, hfz99_1, hfz99_2, hfz99_3, hfz99_4⟩ := blk5 BK118) | ((with_reducible refine gate_callee (f := 82) rfl ?_); refine goesL_ (some 78) rfl rfl Try.func82 (by kernel_rfl) rfl #[.string ((rd_T104 l0_1 x72_5).f1)] rfl ar_ ?_; (with_reducible refine (impl_NameOk.calls k5 ((rd_T104 l0_1 x72_5).f1) _ _ A67.out).mono ?_); rintro e w' ⟨rfl, ⟨nd, rfl⟩⟩; refine ⟨_, rfl, ?_⟩) | (go_at_call 81; (with_reducible refine (impl_propsOk.calls k5 _ _ ((rd_T104 l0_1 x72_5).f4) true _ ?side1 ?side2 A69.out).mono ?_); (case side1 => exact Kd.C_below HR117_4.out (bel_)); (case side2 => exact HC117_4.out); rintro e w100 ⟨rfl, hb⟩; replace HO_107000 := Aside0.mk (Kd.V_below (by (with_reducible repeat (first | apply Kd.V_alloc | apply Kd.V_drewN | apply Kd.V_drew)); first | exact (Kd.V_mono (Kd.V_far (p := ⟨gb118, 4, none⟩) (Kd.V_far (p := ⟨gb118, 3, none⟩) (Kd.V_far (p := ⟨gb118, 2, none⟩) (Kd.V_far (p := ⟨gb118, 1, none⟩) (Kd.V_far (p := ⟨gb118, 0, none⟩) (Kd.V_mono HO_107000.out (fun k_ hk => (⟨hk, hk.2⟩ : _ ∧ k_ ≠ gb118))) (fun _ hk => hk.2) (.int .i64 ((rd_T104 l0_1 x72_5).f0))) (fun _ hk => hk.2) (.string ((rd_T104 l0_1 x72_5).f1))) (fun _ hk => hk.2) (.int .i64 ((rd_T104 l0_1 x72_5).f2))) (fun _ hk => hk.2) (.int .i64 ((rd_T104 l0_1 x72_5).f3))) (fun _ hk => hk.2) (.slice A117_4 ((rd_T104 l0_1 x72_5).f4).length c117_4)) (fun _ h_ => h_.1)) | exact Kd.V_mono ((Kd.V_mono (Kd.V_far (p := ⟨gb118, 4, none⟩) (Kd.V_far (p := ⟨gb118, 3, none⟩) (Kd.V_far (p := ⟨gb118, 2, none⟩) (Kd.V_far (p := ⟨gb118, 1, none⟩) (Kd.V_far (p := ⟨gb118, 0, none⟩) (Kd.V_mono HO_107000.out (fun k_ hk => (⟨hk, hk.2⟩ : _ ∧ k_ ≠ gb118))) (fun _ hk => hk.2) (.int .i64 ((rd_T104 l0_1 x72_5).f0))) (fun _ hk => hk.2) (.string ((rd_T104 l0_1 x72_5).f1))) (fun _ hk => hk.2) (.int .i64 ((rd_T104 l0_1 x72_5).f2))) (fun _ hk => hk.2) (.int .i64 ((rd_T104 l0_1 x72_5).f3))) (fun _ hk => hk.2) (.slice A117_4 ((rd_T104 l0_1 x72_5).f4).length c117_4)) (fun _ h_ => h_.1))) (fun _ h_ => by simpa only [and_assoc, and_comm, and_left_comm] using h_)) hb); replace BK101 := Aside0.mk (blk_below (g := gb101) (o := .cells #[.slice A0_0 l0_0.length c0_0, .slice (some ad117) l0_1.length c0_1, .int .i64 a0_2, .int .i64 a0_3] 31 (0, 0)) (by refine pe_ ?_; refine blk_far ?_ NB101_118.out _; refine pe_ ?_; refine blk_far ?_ NB101_118.out _; refine pe_ ?_; refine blk_far ?_ NB101_118.out _; refine pe_ ?_; refine blk_far ?_ NB101_118.out _; refine pe_ ?_; refine blk_far ?_ NB101_118.out _; refine pe_ ?_; exact BK101.out) hb); replace BK106 := Aside0.mk (blk_below (g := gb106) (o := .cells #[.slice Ao22 t102.length co22, .func (.func 154) #[] #[]] 110 (0, 0)) (by refine pe_ ?_; refine blk_far ?_ NB106_118.out _; refine pe_ ?_; refine blk_far ?_ NB106_118.out _; refine pe_ ?_; refine blk_far ?_ NB106_118.out _; refine pe_ ?_; refine blk_far ?_ NB106_118.out _; refine pe_ ?_; refine blk_far ?_ NB106_118.out _; refine pe_ ?_; exact BK106.out) hb); replace BK118 := Aside0.mk (blk_below (g := gb118) (o := .cells #[.int .i64 ((rd_T104 l0_1 x72_5).f0), .string ((rd_T104 l0_1 x72_5).f1), .int .i64 ((rd_T104 l0_1 x72_5).f2), .int .i64 ((rd_T104 l0_1 x72_5).f3), .slice A117_4 ((rd_T104 l0_1 x72_5).f4).length c117_4] 104 (0, 0)) (by refine pe_ ?_; refine blk_put (cs := #[.int .i64 ((rd_T104 l0_1 x72_5).f0), .string ((rd_T104 l0_1 x72_5).f1), .int .i64 ((rd_T104 l0_1 x72_5).f2), .int .i64 ((rd_T104 l0_1 x72_5).f3), .slice none 0 0]) ?_ 4 _ rfl; refine pe_ ?_; refine blk_put (cs := #[.int .i64 ((rd_T104 l0_1 x72_5).f0), .string ((rd_T104 l0_1 x72_5).f1), .int .i64 ((rd_T104 l0_1 x72_5).f2), .int .i64 0, .slice none 0 0]) ?_ 3 _ rfl; refine pe_ ?_; refine blk_put (cs := #[.int .i64 ((rd_T104 l0_1 x72_5).f0), .string ((rd_T104 l0_1 x72_5).f1), .int .i64 0, .int .i64 0, .slice none 0 0]) ?_ 2 _ rfl; refine pe_ ?_; refine blk_put (cs := #[.int .i64 ((rd_T104 l0_1 x72_5).f0), .string (⟨#[]⟩ : ByteArray), .int .i64 0, .int .i64 0, .slice none 0 0]) ?_ 1 _ rfl; refine pe_ ?_; refine blk_put (cs := #[.int .i64 0, .string (⟨#[]⟩ : ByteArray), .int .i64 0, .int .i64 0, .slice none 0 0]) ?_ 0 _ rfl; refine pe_ ?_; exact BK118.out) hb); replace HB := bs_ hb; (try clear hb); (try clear hb2); (try clear hk); (try clear hi); have hnb101 := NB106_101.out; have hnc101 := NB101_106.out; obtain ⟨hcz102_0, hcz102_1, hfz102_0, hfz102_1⟩ := blk2 BK106; obtain ⟨hcz103_0, hcz103_1, hcz103_2, hcz103_3, hcz103_4, hfz103_0, hfz103_1, hfz103_2, hfz103_3, hfz103_4⟩ := blk5 BK118) | (go_at_call 83; (with_reducible refine (impl_Node_place.calls k5 _ _ t102 t105 ((rd_T104 l0_1 x72_5).f2) t121 _ ?side1 ?side2 A71.out).mono ?_); (case side1 => repeat (first | exact (Kd.V_reads' HO_107000.out).2.2 | (with_reducible refine Kd.C_alloc ?_ _) | (with_reducible refine Kd.C_drewN ?_ _) | (with_reducible refine Kd.C_drew ?_))); (case side2 => exact (Kd.V_reads' HO_107000.out).2.1); rintro e w104 ⟨rfl, hb⟩; replace HO_107000 := Aside0.mk (Kd.V_below (by (with_reducible repeat (first | apply Kd.V_alloc | apply Kd.V_drewN | apply Kd.V_drew)); first | exact HO_107000.out | exact Kd.V_mono (HO_107000.out) (fun _ h_ => by simpa only [and_assoc, and_comm, and_left_comm] using h_)) hb); replace BK101 := bb_ BK101 hb; replace BK106 := bb_ BK106 hb; replace BK118 := bb_ BK118 hb; replace HB := bs_ hb; (try clear hb); (try clear hb2); (try clear hk); (try clear hi); obtain ⟨hcz105_0, hcz105_1, hfz105_0, hfz105_1⟩ := blk2 BK106; obtain ⟨hcz106_0, hcz106_1, hcz106_2, hcz106_3, hcz106_4, hfz106_0, hfz106_1, hfz106_2, hfz106_3, hfz106_4⟩ := blk5 BK118) | (go_at_call 83; (with_reducible refine (impl_Node_place.calls k5 _ _ t102 t105 ((rd_T104 l0_1 x72_5).f3) t122 _ ?side1 ?side2 A82.out).mono ?_); (case side1 => repeat (first | exact (Kd.V_reads' HO_107000.out).2.2 | (with_reducible refine Kd.C_alloc ?_ _) | (with_reducible refine Kd.C_drewN ?_ _) | (with_reducible refine Kd.C_drew ?_))); (case side2 => exact (Kd.V_reads' HO_107000.out).2.1); rintro e w107 ⟨rfl, hb⟩; replace HO_107000 := Aside0.mk (Kd.V_below (by (with_reducible repeat (first | apply Kd.V_alloc | apply Kd.V_drewN | apply Kd.V_drew)); first | exact HO_107000.out | exact Kd.V_mono (HO_107000.out) (fun _ h_ => by simpa only [and_assoc, and_comm, and_left_comm] using h_)) hb); replace BK101 := bb_ BK101 hb; replace BK106 := bb_ BK106 hb; replace BK118 := bb_ BK118 hb; replace HB := bs_ hb; (try clear hb); (try clear hb2); (try clear hk); (try clear hi)))
                      rotate_left 2
                      · go_ret; exact re_
                      · go_ret; exact re_
                      go_roundg k5
                      case measure => have := HJ1.out; have := HJ11.out; have := HJ17.out; have := HK4.out; have := HK5.out; omega
                      case rel => exact ⟨(wrap64 (x72_5 + 1)), sm_, H', ⟨by have := HJ1.out; have := HJ11.out; have := HJ17.out; have := HK4.out; have := HK5.out; omega⟩, ⟨by (with_reducible repeat (first | apply Kd.V_alloc | apply Kd.V_drewN | apply Kd.V_drew)); first | exact Kd.V_mono HO_107000.out (fun _ hk => ⟨hk.1.1, hk.1.2⟩) | exact Kd.V_mono (Kd.V_mono HO_107000.out (fun _ hk => ⟨hk.1.1, hk.1.2⟩)) (fun _ h_ => by simpa only [and_assoc, and_comm, and_left_comm] using h_)⟩, ⟨by refine pe_ ?_; exact BK101.out⟩, ⟨by refine pe_ ?_; exact BK106.out⟩, ⟨bel_⟩⟩
end Go.Proofs.Ytcchmhmbjhgfdaa.G
