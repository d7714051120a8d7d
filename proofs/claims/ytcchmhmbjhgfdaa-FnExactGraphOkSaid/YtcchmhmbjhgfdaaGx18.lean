-- Printed by a program of this claim's writer (wip/gen), out of the translation. Lean checks it.
import Derived.Test.YtcchmhmbjhgfdaaGx0
import Derived.Test.YtcchmhmbjhgfdaaGx11
import Derived.Test.YtcchmhmbjhgfdaaGx12
import Derived.Test.YtcchmhmbjhgfdaaGx13
import Derived.Test.YtcchmhmbjhgfdaaGx16
import Derived.Test.YtcchmhmbjhgfdaaGx17
namespace Go.Proofs.Ytcchmhmbjhgfdaa.G
open Go.RowKit Go.Proofs.YtcchmhmbjhgfdaaW.PrintWords Go.Proofs.YtcchmhmbjhgfdaaW.PrintLast Go.Proofs.YtcchmhmbjhgfdaaW.PrintMore
attribute [local go_sem] max2_int min2_int max_two min_two max_three min_three max_four min_four Own.str_gtr Own.str_leq Own.str_geq Own.sto_fn   -- for this text's walks alone
open Own
set_option linter.unusedVariables false
set_option linter.unusedSimpArgs false

/-! ### impl_GraphOk: function 18 -/
mutual
def impl_GraphOk.j0 : Nat → Bool → List (S99) → List (S104) → Int → Int → Option (Bool)
  | 0, _, _, _, _, _ => none
  | k + 1, x25, x310000, x310001, x310002, x310003 => if x25 = true then (some false) else (if (x310000.length : Int) > 12 then (impl_GraphOk.j1 k true x310000 x310001 x310002 x310003) else (impl_GraphOk.j1 k (decide ((x310001.length : Int) > 16)) x310000 x310001 x310002 x310003))
def impl_GraphOk.j1 : Nat → Bool → List (S99) → List (S104) → Int → Int → Option (Bool)
  | 0, _, _, _, _, _ => none
  | k + 1, x35, x310000, x310001, x310002, x310003 => if x35 = true then (some false) else ((impl_nodesOf.f x310000 x310001 x310002 x310003).bind fun bt310 => ((impl_Node_ascend.f k bt310.1 bt310.2 x310002).bind fun t315 => (if t315 = true then ((impl_edgesIn.f x310000 x310001 x310002 x310003).bind fun bt316 => ((impl_Edge_ascend.f k bt316.1 bt316.2 x310003).bind fun t320 => (impl_GraphOk.j2 k (!t320) x310000 x310001 x310002 x310003 bt310.1 bt310.2))) else (impl_GraphOk.j2 k true x310000 x310001 x310002 x310003 bt310.1 bt310.2))))
def impl_GraphOk.j2 : Nat → Bool → List (S99) → List (S104) → Int → Int → List (S99) → Bool → Option (Bool)
  | 0, _, _, _, _, _, _, _ => none
  | k + 1, x50, x310000, x310001, x310002, x310003, x315000, x315001 => if x50 = true then (some false) else (impl_GraphOk.l0 k x310000 (x310000.length : Int) 0 x310000 x310001 x310002 x310003 x315000 x315001)
def impl_GraphOk.l0 : Nat → List (S99) → Int → Int → List (S99) → List (S104) → Int → Int → List (S99) → Bool → Option (Bool)
  | 0, _, _, _, _, _, _, _, _, _ => none
  | k + 1, x52, x53, x54, x310000, x310001, x310002, x310003, x315000, x315001 => if x54 < x53 then (if 0 ≤ x54 then (if x54 < (x52.length : Int) then ((impl_labelsOk.f k ((rd_T99 x52 x54).f1)).bind fun t323 => (if t323 = true then ((impl_propsOk.f k ((rd_T99 x52 x54).f2)).bind fun t324 => (if t324 = true then (impl_GraphOk.l0 k x52 x53 (wrap64 (x54 + 1)) x310000 x310001 x310002 x310003 x315000 x315001) else (some false))) else (some false))) else (none)) else (none)) else (impl_GraphOk.l1 k x310001 (x310001.length : Int) 0 x315000 x315001)
def impl_GraphOk.l1 : Nat → List (S104) → Int → Int → List (S99) → Bool → Option (Bool)
  | 0, _, _, _, _, _ => none
  | k + 1, x70, x71, x72, x315000, x315001 => if x72 < x71 then (if 0 ≤ x72 then (if x72 < (x70.length : Int) then ((impl_NameOk.f k ((rd_T104 x70 x72).f1)).bind fun t327 => (if t327 = true then ((impl_propsOk.f k ((rd_T104 x70 x72).f4)).bind fun t328 => (if t328 = true then ((impl_Node_place.f k x315000 x315001 ((rd_T104 x70 x72).f2)).bind fun t329 => (if t329 < 0 then (some false) else ((impl_Node_place.f k x315000 x315001 ((rd_T104 x70 x72).f3)).bind fun t330 => (if t330 < 0 then (some false) else (impl_GraphOk.l1 k x70 x71 (wrap64 (x72 + 1)) x315000 x315001))))) else (some false))) else (some false))) else (none)) else (none)) else (some true)
end
def impl_GraphOk.f (k : Nat) (l0_0 : List (S99)) (l0_1 : List (S104)) (a0_2 : Int) (a0_3 : Int) : Option (Bool) := if a0_2 < 0 then (impl_GraphOk.j0 k true l0_0 l0_1 a0_2 a0_3) else (if a0_2 > 1000000000 then (impl_GraphOk.j0 k true l0_0 l0_1 a0_2 a0_3) else (if a0_3 < 0 then (impl_GraphOk.j0 k true l0_0 l0_1 a0_2 a0_3) else (impl_GraphOk.j0 k (decide (a0_3 > 1000000000)) l0_0 l0_1 a0_2 a0_3)))
def impl_GraphOk.T6 : Bool × List (List Nat × List Nat) := (true, [([], []), ([], []), ([1], [1]), ([0, 2], [0, 2]), ([3], [3]), ([4, 3], [4]), ([5], [5]), ([6, 5, 5], [5, 6]), ([5], [5]), ([8, 5], [5, 8]), ([7, 9, 7, 5], [5, 7, 9]), ([10, 5], [5, 10]), ([5, 11], [5, 11])])
def impl_GraphOk.B6 : List Nat := [0, 0, 2, 7, 15, 31, 63, 127, 63, 319, 1023, 2047, 4095]
theorem impl_GraphOk.tab6 : rtab .any (opsOf Try.f18 6) = impl_GraphOk.T6 := by kernel_rfl
theorem impl_GraphOk.bits6 : waitsOk impl_GraphOk.T6.2 impl_GraphOk.B6 = true := by kernel_rfl
set_option maxHeartbeats 8000000 in
set_option maxRecDepth 100000 in
theorem impl_GraphOk.calls (k : Nat) (A0_0 : Option Addr) (c0_0 : Nat) (l0_0 : List (S99)) (A0_1 : Option Addr) (c0_1 : Nat) (l0_1 : List (S104)) (a0_2 : Int) (a0_3 : Int) (r : Bool) (w : World) (hr0_0 : Kd.C k99 w A0_0 l0_0.length l0_0) (hc0_0 : l0_0.length ≤ c0_0) (hr0_1 : Kd.C k104 w A0_1 l0_1.length l0_1) (hc0_1 : l0_1.length ≤ c0_1) (h : impl_GraphOk.f k l0_0 l0_1 a0_2 a0_3 = some r) :
    Calls Try.prog 18 #[.agg #[.slice A0_0 l0_0.length c0_0, .slice A0_1 l0_1.length c0_1, .int .i64 a0_2, .int .i64 a0_3]] w fun e w' => e = .returned (.bool r) ∧ Below w.heap.size w w' := by
  have hu31 := Try.underlying31
  have hu110 := Try.underlying110
  have hu99 := Try.underlying99
  have hu104 := Try.underlying104
  have HR0_0 := Aside0.mk hr0_0
  have HC0_0 := Aside0.mk hc0_0
  clear hr0_0 hc0_0
  have HR0_1 := Aside0.mk hr0_1
  have HC0_1 := Aside0.mk hc0_1
  clear hr0_1 hc0_1
  have HB := Aside0.mk (Below.refl w.heap.size w)
  have H : (if a0_2 < 0 then (impl_GraphOk.j0 k true l0_0 l0_1 a0_2 a0_3) else (if a0_2 > 1000000000 then (impl_GraphOk.j0 k true l0_0 l0_1 a0_2 a0_3) else (if a0_3 < 0 then (impl_GraphOk.j0 k true l0_0 l0_1 a0_2 a0_3) else (impl_GraphOk.j0 k (decide (a0_3 > 1000000000)) l0_0 l0_1 a0_2 a0_3)))) = some r := h
  clear h
  have HC2 := Aside0.mk H
  clear H
  go_enter Try.func18, Try.ntmps18
  go_upto_region 1 with (first | ((with_reducible refine gate_dst (N := 1) rfl ?_); (try (refine gate_guard (by rfl) ?_; dsimp only)); refine box_event ?hg (N := 1) ?hd (cs := #[.slice A0_0 l0_0.length c0_0, .slice A0_1 l0_1.length c0_1, .int .i64 a0_2, .int .i64 a0_3]) (t := 31) ?hr ?_; (case hd => rfl); (case hg => rfl); (case hr => first | (go_simp; done) | (go_simp; rfl)); intro gb309 hg w3 hbox hb; have BK309 := Aside0.mk (hbox); have GW309 := gw_ hg; have GE309 := gw_ hg; replace HB := bs_ hb; clear hb hbox hg))
  (try simp only [Act.put, List.setIfInBounds_toArray, List.set_cons_zero, List.set_cons_succ])
  go_cut [25] (fun v25 wc => ∃ (kq : Nat) (x25_1 : Bool), v25 = .bool x25_1 ∧ Aside0 (impl_GraphOk.j0 kq x25_1 l0_0 l0_1 a0_2 a0_3 = some r) ∧ Aside0 (kq ≤ k) ∧ Aside0 (wc.heap[gb309]? = some (.cells #[(.slice A0_0 l0_0.length c0_0), (.slice A0_1 l0_1.length c0_1), .int .i64 a0_2, .int .i64 a0_3] 31 (0, 0))) ∧ Aside0 (Below w.heap.size w wc))
  case first =>
    have H := HC2.out
    clear HC2
    by_cases c4 : a0_2 < 0
    · rw [if_pos c4] at H
      have c4b0 : decide (a0_2 < 0) = true := decide_eq_true c4
      clear c4
      (first | rw [c4b0] | (simp only [i64_w, i32_w]; rw [c4b0]) | skip)
      have H' := Aside0.mk H
      clear H
      obtain ⟨hcz5_0, hcz5_1, hcz5_2, hcz5_3, hfz5_0, hfz5_1, hfz5_2, hfz5_3⟩ := blk4 BK309
      go_wp2
      go_meet
      case rel => exact ⟨_, (true), sm_, H', ⟨by first | omega | exact Nat.le_refl _⟩, ⟨by refine pe_ ?_; exact BK309.out⟩, ⟨bel_⟩⟩
    rw [if_neg c4] at H
    have c4b0 : decide (a0_2 < 0) = false := decide_eq_false c4
    clear c4
    (first | rw [c4b0] | (simp only [i64_w, i32_w]; rw [c4b0]) | skip)
    by_cases c6 : a0_2 > 1000000000
    · rw [if_pos c6] at H
      have c6b0 : decide (1000000000 < a0_2) = true := decide_eq_true c6
      clear c6
      have H' := Aside0.mk H
      clear H
      obtain ⟨hcz7_0, hcz7_1, hcz7_2, hcz7_3, hfz7_0, hfz7_1, hfz7_2, hfz7_3⟩ := blk4 BK309
      go_wp2
      go_meet
      case rel => exact ⟨_, (true), sm_, H', ⟨by first | omega | exact Nat.le_refl _⟩, ⟨by refine pe_ ?_; exact BK309.out⟩, ⟨bel_⟩⟩
    rw [if_neg c6] at H
    have c6b0 : decide (1000000000 < a0_2) = false := decide_eq_false c6
    clear c6
    by_cases c8 : a0_3 < 0
    · rw [if_pos c8] at H
      have c8b0 : decide (a0_3 < 0) = true := decide_eq_true c8
      clear c8
      have H' := Aside0.mk H
      clear H
      obtain ⟨hcz9_0, hcz9_1, hcz9_2, hcz9_3, hfz9_0, hfz9_1, hfz9_2, hfz9_3⟩ := blk4 BK309
      go_wp2
      go_meet
      case rel => exact ⟨_, (true), sm_, H', ⟨by first | omega | exact Nat.le_refl _⟩, ⟨by refine pe_ ?_; exact BK309.out⟩, ⟨bel_⟩⟩
    rw [if_neg c8] at H
    have c8b0 : decide (a0_3 < 0) = false := decide_eq_false c8
    clear c8
    have H' := Aside0.mk H
    clear H
    obtain ⟨hcz10_0, hcz10_1, hcz10_2, hcz10_3, hfz10_0, hfz10_1, hfz10_2, hfz10_3⟩ := blk4 BK309
    go_wp2
    go_meet
    case rel => exact ⟨_, (decide (a0_3 > 1000000000)), sm_, H', ⟨by first | omega | exact Nat.le_refl _⟩, ⟨by refine pe_ ?_; exact BK309.out⟩, ⟨bel_⟩⟩
  case rest =>
    clear HC2
    try clear c1
    try clear p2
    try clear c4
    try clear c4b0
    try clear c6
    try clear c6b0
    try clear c8
    try clear c8b0
    try clear hcz10_0 hcz10_1 hcz10_2 hcz10_3
    try clear hcz5_0 hcz5_1 hcz5_2 hcz5_3
    try clear hcz7_0 hcz7_1 hcz7_2 hcz7_3
    try clear hcz9_0 hcz9_1 hcz9_2 hcz9_3
    try clear hfz10_0 hfz10_1 hfz10_2 hfz10_3
    try clear hfz5_0 hfz5_1 hfz5_2 hfz5_3
    try clear hfz7_0 hfz7_1 hfz7_2 hfz7_3
    try clear hfz9_0 hfz9_1 hfz9_2 hfz9_3
    obtain ⟨kq, x25_1, rfl, HA, HJ1, BK309, HB⟩ := hcut
    cases kq with
    | zero => exact absurd HA.out (by simp [impl_GraphOk.j0])
    | succ kj1 =>
      have H := HA.out
      clear HA
      simp only [impl_GraphOk.j0] at H
      by_cases c11 : x25_1 = true
      · subst c11
        have H1 : (some false) = some r := by rw [if_pos rfl] at H; exact H
        clear H
        have H := H1
        clear H1
        obtain rfl := Option.some.inj H
        go_wp2
        go_ret
        exact re_
      replace c11 := Bool.eq_false_iff.mpr c11
      subst c11
      have H1 : (if (l0_0.length : Int) > 12 then (impl_GraphOk.j1 kj1 true l0_0 l0_1 a0_2 a0_3) else (impl_GraphOk.j1 kj1 (decide ((l0_1.length : Int) > 16)) l0_0 l0_1 a0_2 a0_3)) = some r := by rw [if_neg (show ¬ (false = true) by decide)] at H; exact H
      clear H
      have H := H1
      clear H1
      have HC12 := Aside0.mk H
      clear H
      go_upto_region 3 with (fail)
      go_cut [35] (fun v35 wc => ∃ (kq : Nat) (x35_11 : Bool), v35 = .bool x35_11 ∧ Aside0 (impl_GraphOk.j1 kq x35_11 l0_0 l0_1 a0_2 a0_3 = some r) ∧ Aside0 (kq ≤ kj1) ∧ Aside0 (wc.heap[gb309]? = some (.cells #[(.slice A0_0 l0_0.length c0_0), (.slice A0_1 l0_1.length c0_1), .int .i64 a0_2, .int .i64 a0_3] 31 (0, 0))) ∧ Aside0 (Below w.heap.size w wc))
      case first =>
        have H := HC12.out
        clear HC12
        by_cases c13 : (l0_0.length : Int) > 12
        · rw [if_pos c13] at H
          have c13b0 : decide (12 < (l0_0.length : Int)) = true := decide_eq_true c13
          have c13b1 : decide (12 < l0_0.length) = true := decide_eq_true (by omega)
          clear c13
          (first | rw [c13b0] | (simp only [i64_w, i32_w]; rw [c13b0]) | skip)
          have H' := Aside0.mk H
          clear H
          obtain ⟨hcz14_0, hcz14_1, hcz14_2, hcz14_3, hfz14_0, hfz14_1, hfz14_2, hfz14_3⟩ := blk4 BK309
          go_wp2
          go_meet
          case rel => exact ⟨_, (true), sm_, H', ⟨by have := HJ1.out; first | omega | exact Nat.le_refl _⟩, ⟨by refine pe_ ?_; exact BK309.out⟩, ⟨bel_⟩⟩
        rw [if_neg c13] at H
        have c13b0 : decide (12 < (l0_0.length : Int)) = false := decide_eq_false c13
        have c13b1 : decide (12 < l0_0.length) = false := decide_eq_false (by omega)
        clear c13
        (first | rw [c13b0] | (simp only [i64_w, i32_w]; rw [c13b0]) | skip)
        have H' := Aside0.mk H
        clear H
        obtain ⟨hcz15_0, hcz15_1, hcz15_2, hcz15_3, hfz15_0, hfz15_1, hfz15_2, hfz15_3⟩ := blk4 BK309
        go_wp2
        go_meet
        case rel => exact ⟨_, (decide ((l0_1.length : Int) > 16)), sm_, H', ⟨by have := HJ1.out; first | omega | exact Nat.le_refl _⟩, ⟨by refine pe_ ?_; exact BK309.out⟩, ⟨bel_⟩⟩
      case rest =>
        clear HC12
        try clear c1
        try clear p2
        try clear c4
        try clear c4b0
        try clear c6
        try clear c6b0
        try clear c8
        try clear c8b0
        try clear c11
        try clear c13
        try clear c13b0
        try clear c13b1
        try clear hcz10_0 hcz10_1 hcz10_2 hcz10_3
        try clear hcz14_0 hcz14_1 hcz14_2 hcz14_3
        try clear hcz15_0 hcz15_1 hcz15_2 hcz15_3
        try clear hcz5_0 hcz5_1 hcz5_2 hcz5_3
        try clear hcz7_0 hcz7_1 hcz7_2 hcz7_3
        try clear hcz9_0 hcz9_1 hcz9_2 hcz9_3
        try clear hfz10_0 hfz10_1 hfz10_2 hfz10_3
        try clear hfz14_0 hfz14_1 hfz14_2 hfz14_3
        try clear hfz15_0 hfz15_1 hfz15_2 hfz15_3
        try clear hfz5_0 hfz5_1 hfz5_2 hfz5_3
        try clear hfz7_0 hfz7_1 hfz7_2 hfz7_3
        try clear hfz9_0 hfz9_1 hfz9_2 hfz9_3
        try clear p2
        obtain ⟨kq, x35_11, rfl, HA, HJ11, BK309, HB⟩ := hcut
        cases kq with
        | zero => exact absurd HA.out (by simp [impl_GraphOk.j1])
        | succ kj11 =>
          have H := HA.out
          clear HA
          simp only [impl_GraphOk.j1] at H
          by_cases c16 : x35_11 = true
          · subst c16
            have H1 : (some false) = some r := by rw [if_pos rfl] at H; exact H
            clear H
            have H := H1
            clear H1
            obtain rfl := Option.some.inj H
            go_wp2
            go_ret
            exact re_
          replace c16 := Bool.eq_false_iff.mpr c16
          subst c16
          have H1 : ((impl_nodesOf.f l0_0 l0_1 a0_2 a0_3).bind fun bt310 => ((impl_Node_ascend.f kj11 bt310.1 bt310.2 a0_2).bind fun t315 => (if t315 = true then ((impl_edgesIn.f l0_0 l0_1 a0_2 a0_3).bind fun bt316 => ((impl_Edge_ascend.f kj11 bt316.1 bt316.2 a0_3).bind fun t320 => (impl_GraphOk.j2 kj11 (!t320) l0_0 l0_1 a0_2 a0_3 bt310.1 bt310.2))) else (impl_GraphOk.j2 kj11 true l0_0 l0_1 a0_2 a0_3 bt310.1 bt310.2)))) = some r := by rw [if_neg (show ¬ (false = true) by decide)] at H; exact H
          clear H
          have H := H1
          clear H1
          replace H := Option.bind_eq_some_iff.mp H
          obtain ⟨⟨t310, t313⟩, A170, H⟩ := H
          replace H : ((impl_Node_ascend.f kj11 t310 t313 a0_2).bind fun t315 => (if t315 = true then ((impl_edgesIn.f l0_0 l0_1 a0_2 a0_3).bind fun bt316 => ((impl_Edge_ascend.f kj11 bt316.1 bt316.2 a0_3).bind fun t320 => (impl_GraphOk.j2 kj11 (!t320) l0_0 l0_1 a0_2 a0_3 t310 t313))) else (impl_GraphOk.j2 kj11 true l0_0 l0_1 a0_2 a0_3 t310 t313))) = some r := H
          have A17 := Aside0.mk A170
          clear A170
          have HC18 := Aside0.mk H
          clear H
          obtain ⟨hcz19_0, hcz19_1, hcz19_2, hcz19_3, hfz19_0, hfz19_1, hfz19_2, hfz19_3⟩ := blk4 BK309
          go_upto_region 6 with (first | ((with_reducible refine gate_callee (f := 76) rfl ?_); refine goesL_ (some 37) rfl rfl Try.func76 (by kernel_rfl) rfl #[.agg #[.slice A0_0 l0_0.length c0_0, .slice A0_1 l0_1.length c0_1, .int .i64 a0_2, .int .i64 a0_3]] rfl ar_ ?_; (with_reducible refine (impl_nodesOf.calls (fun k_ => k_ < w.heap.size) _ _ l0_0 _ _ l0_1 a0_2 a0_3 t310 t313 _ ?side1 ?side2 ?side3 A17.out).mono ?_); (case side1 => exact Kd.V_mk HC0_0.out (Kd.F_below (Kd.C_F k99_heap HR0_0.out) (bel_))); (case side2 => exact rdb_ HR0_1); (case side3 => exact HC0_1.out); rintro e w20 ⟨v311, rfl, ho0, hb⟩; refine ⟨_, rfl, ?_⟩; have HO312 := Aside0.mk (Kd.V_lower (Kd.V_mono (ok' := fun k_ => k_ ≠ gb309) ho0 (fun k_ hk_ => Or.elim hk_ (fun hs_ => fun e_ => Nat.not_le.2 hs_ (by rw [e_]; exact GW309.out)) (fun hn_ => (Kd.freshB (g := gb309) (o := .cells #[.slice A0_0 l0_0.length c0_0, .slice A0_1 l0_1.length c0_1, .int .i64 a0_2, .int .i64 a0_3] 31 (0, 0)) (bk_ BK309) k_ hn_)))) (below_size (bel_))); replace BK309 := bb_ BK309 hb; replace HB := bs_ hb; (try clear hb); (try clear hb2); (try clear hk); (try clear hi); (try clear ho0)) | ((with_reducible refine gate_dst (N := 3) rfl ?_); (try (refine gate_guard (by rfl) ?_; dsimp only)); refine box_event ?hg (N := 3) ?hd (cs := #[.slice none 0 0, .nilFunc]) (t := 110) ?hr ?_; (case hd => rfl); (case hg => rfl); (case hr => first | (go_simp; done) | (go_simp; rfl)); intro gb314 hg w21 hbox hb; have BK314 := Aside0.mk (hbox); have GW314 := gw_ hg; have GE314 := gw_ hg; have NB309_314 := nlt_ hg BK309; have NB314_309 := ngt_ hg BK309; replace HO312 := Aside0.mk (Kd.V_below (Kd.V_elderB (by (with_reducible repeat (first | apply Kd.V_alloc | apply Kd.V_drewN | apply Kd.V_drew)); first | exact HO312.out | exact Kd.V_mono (HO312.out) (fun _ h_ => by simpa only [and_assoc, and_comm, and_left_comm] using h_)) gb314 (Nat.le_of_eq hg.symm)) hb); replace BK309 := bb_ BK309 hb; replace HB := bs_ hb; clear hb hbox hg; obtain ⟨Ao22, co22, eo22⟩ := Kd.V_slice HO312.out; subst eo22; have hnb23 := NB314_309.out; have hnc23 := NB309_314.out; obtain ⟨hcz24_0, hcz24_1, hfz24_0, hfz24_1⟩ := blk2 BK314))
          (try simp only [Act.put, List.setIfInBounds_toArray, List.set_cons_zero, List.set_cons_succ])
          go_cut [50] (fun v50 wc => ∃ (kq : Nat) (x50_17 : Bool), v50 = .bool x50_17 ∧ Aside0 (impl_GraphOk.j2 kq x50_17 l0_0 l0_1 a0_2 a0_3 t310 t313 = some r) ∧ Aside0 (kq ≤ kj11) ∧ Aside0 (Kd.V k99 99 wc w.heap.size (fun k_ => k_ ≠ gb309 ∧ k_ ≠ gb314) (.slice Ao22 t310.length co22) t310) ∧ Aside0 (wc.heap[gb309]? = some (.cells #[(.slice A0_0 l0_0.length c0_0), (.slice A0_1 l0_1.length c0_1), .int .i64 a0_2, .int .i64 a0_3] 31 (0, 0))) ∧ Aside0 (wc.heap[gb314]? = some (.cells #[(.slice Ao22 t310.length co22), .func (.func 154) #[] #[]] 110 (0, 0))) ∧ Aside0 (Below w.heap.size w wc))
          case first =>
            have H := HC18.out
            clear HC18
            replace H := Option.bind_eq_some_iff.mp H
            obtain ⟨t315, A250, H⟩ := H
            replace H : (if t315 = true then ((impl_edgesIn.f l0_0 l0_1 a0_2 a0_3).bind fun bt316 => ((impl_Edge_ascend.f kj11 bt316.1 bt316.2 a0_3).bind fun t320 => (impl_GraphOk.j2 kj11 (!t320) l0_0 l0_1 a0_2 a0_3 t310 t313))) else (impl_GraphOk.j2 kj11 true l0_0 l0_1 a0_2 a0_3 t310 t313)) = some r := H
            have A25 := Aside0.mk A250
            clear A250
            by_cases c26 : t315 = true
            rotate_left
            · replace c26 := Bool.eq_false_iff.mpr c26
              subst c26
              have H1 : (impl_GraphOk.j2 kj11 true l0_0 l0_1 a0_2 a0_3 t310 t313) = some r := by rw [if_neg (show ¬ (false = true) by decide)] at H; exact H
              clear H
              have H := H1
              clear H1
              have H' := Aside0.mk H
              clear H
              try go_wp2
              have n0_ : Aside0 (Kd.V k99 99 ((w21.setCell ⟨gb314, 0, none⟩ (.slice Ao22 t310.length co22)).setCell ⟨gb314, 1, none⟩ (.func (.func 154) #[] #[])) w.heap.size (fun k_ => k_ ≠ gb309 ∧ k_ ≠ gb314) (.slice Ao22 t310.length co22) t310) := ⟨by (with_reducible repeat (first | apply Kd.V_alloc | apply Kd.V_drewN | apply Kd.V_drew)); first | exact Kd.V_mono (Kd.V_far (p := ⟨gb314, 1, none⟩) (Kd.V_far (p := ⟨gb314, 0, none⟩) (Kd.V_mono HO312.out (fun k_ hk => (⟨hk, hk.2⟩ : _ ∧ k_ ≠ gb314))) (fun _ hk => hk.2) (.slice Ao22 t310.length co22)) (fun _ hk => hk.2) (.func (.func 154) #[] #[])) (fun _ hk => ⟨hk.1.1, hk.1.2⟩) | exact Kd.V_mono (Kd.V_mono (Kd.V_far (p := ⟨gb314, 1, none⟩) (Kd.V_far (p := ⟨gb314, 0, none⟩) (Kd.V_mono HO312.out (fun k_ hk => (⟨hk, hk.2⟩ : _ ∧ k_ ≠ gb314))) (fun _ hk => hk.2) (.slice Ao22 t310.length co22)) (fun _ hk => hk.2) (.func (.func 154) #[] #[])) (fun _ hk => ⟨hk.1.1, hk.1.2⟩)) (fun _ h_ => by simpa only [and_assoc, and_comm, and_left_comm] using h_)⟩
              have n1_ : Aside0 (((w21.setCell ⟨gb314, 0, none⟩ (.slice Ao22 t310.length co22)).setCell ⟨gb314, 1, none⟩ (.func (.func 154) #[] #[])).heap[gb309]? = some (.cells #[.slice A0_0 l0_0.length c0_0, .slice A0_1 l0_1.length c0_1, .int .i64 a0_2, .int .i64 a0_3] 31 (0, 0))) := ⟨by refine pe_ ?_; refine blk_far ?_ NB309_314.out _; refine pe_ ?_; refine blk_far ?_ NB309_314.out _; refine pe_ ?_; exact BK309.out⟩
              have n2_ : Aside0 (((w21.setCell ⟨gb314, 0, none⟩ (.slice Ao22 t310.length co22)).setCell ⟨gb314, 1, none⟩ (.func (.func 154) #[] #[])).heap[gb314]? = some (.cells #[.slice Ao22 t310.length co22, .func (.func 154) #[] #[]] 110 (0, 0))) := ⟨by refine pe_ ?_; refine blk_put (cs := #[.slice Ao22 t310.length co22, .nilFunc]) ?_ 1 _ rfl; refine pe_ ?_; refine blk_put (cs := #[.slice none 0 0, .nilFunc]) ?_ 0 _ rfl; refine pe_ ?_; exact BK314.out⟩
              have n3_ : Aside0 (Below w.heap.size w ((w21.setCell ⟨gb314, 0, none⟩ (.slice Ao22 t310.length co22)).setCell ⟨gb314, 1, none⟩ (.func (.func 154) #[] #[]))) := ⟨bel_⟩
              (try clear HO312)
              (try clear BK309)
              (try clear BK314)
              (try clear HB)
              generalize ((w21.setCell ⟨gb314, 0, none⟩ (.slice Ao22 t310.length co22)).setCell ⟨gb314, 1, none⟩ (.func (.func 154) #[] #[])) = w35 at n0_ n1_ n2_ n3_ ⊢
              have HO312 := n0_
              have BK309 := n1_
              have BK314 := n2_
              have HB := n3_
              clear n0_ n1_ n2_ n3_
              replace HO312 := Aside0.mk (Kd.V_drew HO312.out)
              replace BK309 := Aside0.mk (blk_drew BK309.out)
              replace BK314 := Aside0.mk (blk_drew BK314.out)
              replace HB := Aside0.mk (below_drew1 HB.out)
              refine start_ (n := 13) (S := fun w' => w'.cell? ⟨gb314, 0, none⟩ = some (.slice Ao22 t310.length co22) ∧ w'.cell? ⟨gb314, 1, none⟩ = some (.func (.func 154) #[] #[]) ∧ w'.cell? ⟨gb309, 0, none⟩ = some (.slice A0_0 l0_0.length c0_0) ∧ w'.cell? ⟨gb309, 1, none⟩ = some (.slice A0_1 l0_1.length c0_1) ∧ w'.cell? ⟨gb309, 2, none⟩ = some (.int .i64 a0_2) ∧ w'.cell? ⟨gb309, 3, none⟩ = some (.int .i64 a0_3)) (ds := []) #[false, false, false, false, false, false, false, false, false, false, false, false, false] (by kernel_rfl) rfl rfl ⟨(blkc BK314 0), (blkc BK314 1), (blkc BK309 0), (blkc BK309 1), (blkc BK309 2), (blkc BK309 3)⟩ (fun hHeld => ?_); refine with_tabW impl_GraphOk.tab6 impl_GraphOk.bits6 (fun HT_ HW_ => ?_)
              generalize w35.drew = w36 at HO312 BK309 BK314 HB hHeld ⊢
              refine puA 1 (some 39) ?_
              refine taA 0 (some 38) ?_
              refine taA 2 (some 40) ?_
              refine one_ (i := 3) (N := some 41) #[true, true, true, true, false, false, false, false, false, false, false, false, false] rfl rfl (one_of HT_.out (by kernel_rfl)) (by decide) (fun K hK => ?_)
              refine goes_ Try.func77 (by kernel_rfl) rfl #[.agg #[.slice Ao22 t310.length co22, .func (.func 154) #[] #[]], .int .i64 a0_2] (by rfl) rfl rfl ar_ ?_
              with_reducible refine (impl_Node_ascend.calls kj11 _ _ t310 t313 a0_2 false _ ?side1 ?side2 A25.out).mono ?_
              (case side1 => repeat (first | exact (Kd.V_reads' HO312.out).2.2 | (with_reducible refine Kd.C_alloc ?_ _) | (with_reducible refine Kd.C_drewN ?_ _) | (with_reducible refine Kd.C_drew ?_)))
              (case side2 => exact (Kd.V_reads' HO312.out).2.1)
              rintro e w37 ⟨rfl, hb⟩
              refine ⟨_, rfl, ?_⟩
              replace HO312 := Aside0.mk (Kd.V_below (by (with_reducible repeat (first | apply Kd.V_alloc | apply Kd.V_drewN | apply Kd.V_drew)); first | exact HO312.out | exact Kd.V_mono (HO312.out) (fun _ h_ => by simpa only [and_assoc, and_comm, and_left_comm] using h_)) hb)
              replace BK309 := bb_ BK309 hb
              replace BK314 := bb_ BK314 hb
              replace HB := bs_ hb
              (try clear hb)
              (try clear hb2)
              (try clear hk)
              (try clear hi)
              refine hK.out _ _ ⟨(blkc BK314 0), (blkc BK314 1), (blkc BK309 0), (blkc BK309 1), (blkc BK309 2), (blkc BK309 3)⟩ (fun hHeld => ?_)
              clear hK K
              refine norm_ (a' := ?_) ?_ ?_
              rotate_left
              · show Act.put _ (some 41) _ = _
                simp only [Act.put, List.setIfInBounds_toArray, List.set_cons_zero, List.set_cons_succ, i64_w, i32_w]
                rfl
              refine puA 4 (some 42) ?_
              refine puA 5 (some 43) ?_
              refine puX 6 (some 44) ?_
              refine puX 7 (some 45) ?_
              refine puX 8 (some 46) ?_
              refine puX 9 (some 47) ?_
              refine puX 10 (some 48) ?_
              refine puX 11 (some 49) ?_
              refine puA 12 (some 50) ?_
              refine done_ (done_of HT_.out (by kernel_rfl)) ?_
              try go_wp2
              go_meet
              case rel => exact ⟨_, (true), sm_, H', ⟨by have := HJ1.out; have := HJ11.out; first | omega | exact Nat.le_refl _⟩, ⟨by (with_reducible repeat (first | apply Kd.V_alloc | apply Kd.V_drewN | apply Kd.V_drew)); first | exact HO312.out | exact Kd.V_mono (HO312.out) (fun _ h_ => by simpa only [and_assoc, and_comm, and_left_comm] using h_)⟩, ⟨by refine pe_ ?_; exact BK309.out⟩, ⟨by refine pe_ ?_; exact BK314.out⟩, ⟨bel_⟩⟩
            subst c26
            have H1 : ((impl_edgesIn.f l0_0 l0_1 a0_2 a0_3).bind fun bt316 => ((impl_Edge_ascend.f kj11 bt316.1 bt316.2 a0_3).bind fun t320 => (impl_GraphOk.j2 kj11 (!t320) l0_0 l0_1 a0_2 a0_3 t310 t313))) = some r := by rw [if_pos rfl] at H; exact H
            clear H
            have H := H1
            clear H1
            replace H := Option.bind_eq_some_iff.mp H
            obtain ⟨⟨t316, t319⟩, A270, H⟩ := H
            replace H : ((impl_Edge_ascend.f kj11 t316 t319 a0_3).bind fun t320 => (impl_GraphOk.j2 kj11 (!t320) l0_0 l0_1 a0_2 a0_3 t310 t313)) = some r := H
            have A27 := Aside0.mk A270
            clear A270
            replace H := Option.bind_eq_some_iff.mp H
            obtain ⟨t320, A280, H⟩ := H
            replace H : (impl_GraphOk.j2 kj11 (!t320) l0_0 l0_1 a0_2 a0_3 t310 t313) = some r := H
            have A28 := Aside0.mk A280
            clear A280
            have H' := Aside0.mk H
            clear H
            try go_wp2
            have n0_ : Aside0 (Kd.V k99 99 ((w21.setCell ⟨gb314, 0, none⟩ (.slice Ao22 t310.length co22)).setCell ⟨gb314, 1, none⟩ (.func (.func 154) #[] #[])) w.heap.size (fun k_ => k_ ≠ gb309 ∧ k_ ≠ gb314) (.slice Ao22 t310.length co22) t310) := ⟨by (with_reducible repeat (first | apply Kd.V_alloc | apply Kd.V_drewN | apply Kd.V_drew)); first | exact Kd.V_mono (Kd.V_far (p := ⟨gb314, 1, none⟩) (Kd.V_far (p := ⟨gb314, 0, none⟩) (Kd.V_mono HO312.out (fun k_ hk => (⟨hk, hk.2⟩ : _ ∧ k_ ≠ gb314))) (fun _ hk => hk.2) (.slice Ao22 t310.length co22)) (fun _ hk => hk.2) (.func (.func 154) #[] #[])) (fun _ hk => ⟨hk.1.1, hk.1.2⟩) | exact Kd.V_mono (Kd.V_mono (Kd.V_far (p := ⟨gb314, 1, none⟩) (Kd.V_far (p := ⟨gb314, 0, none⟩) (Kd.V_mono HO312.out (fun k_ hk => (⟨hk, hk.2⟩ : _ ∧ k_ ≠ gb314))) (fun _ hk => hk.2) (.slice Ao22 t310.length co22)) (fun _ hk => hk.2) (.func (.func 154) #[] #[])) (fun _ hk => ⟨hk.1.1, hk.1.2⟩)) (fun _ h_ => by simpa only [and_assoc, and_comm, and_left_comm] using h_)⟩
            have n1_ : Aside0 (((w21.setCell ⟨gb314, 0, none⟩ (.slice Ao22 t310.length co22)).setCell ⟨gb314, 1, none⟩ (.func (.func 154) #[] #[])).heap[gb309]? = some (.cells #[.slice A0_0 l0_0.length c0_0, .slice A0_1 l0_1.length c0_1, .int .i64 a0_2, .int .i64 a0_3] 31 (0, 0))) := ⟨by refine pe_ ?_; refine blk_far ?_ NB309_314.out _; refine pe_ ?_; refine blk_far ?_ NB309_314.out _; refine pe_ ?_; exact BK309.out⟩
            have n2_ : Aside0 (((w21.setCell ⟨gb314, 0, none⟩ (.slice Ao22 t310.length co22)).setCell ⟨gb314, 1, none⟩ (.func (.func 154) #[] #[])).heap[gb314]? = some (.cells #[.slice Ao22 t310.length co22, .func (.func 154) #[] #[]] 110 (0, 0))) := ⟨by refine pe_ ?_; refine blk_put (cs := #[.slice Ao22 t310.length co22, .nilFunc]) ?_ 1 _ rfl; refine pe_ ?_; refine blk_put (cs := #[.slice none 0 0, .nilFunc]) ?_ 0 _ rfl; refine pe_ ?_; exact BK314.out⟩
            have n3_ : Aside0 (Below w.heap.size w ((w21.setCell ⟨gb314, 0, none⟩ (.slice Ao22 t310.length co22)).setCell ⟨gb314, 1, none⟩ (.func (.func 154) #[] #[]))) := ⟨bel_⟩
            (try clear HO312)
            (try clear BK309)
            (try clear BK314)
            (try clear HB)
            generalize ((w21.setCell ⟨gb314, 0, none⟩ (.slice Ao22 t310.length co22)).setCell ⟨gb314, 1, none⟩ (.func (.func 154) #[] #[])) = w29 at n0_ n1_ n2_ n3_ ⊢
            have HO312 := n0_
            have BK309 := n1_
            have BK314 := n2_
            have HB := n3_
            clear n0_ n1_ n2_ n3_
            replace HO312 := Aside0.mk (Kd.V_drew HO312.out)
            replace BK309 := Aside0.mk (blk_drew BK309.out)
            replace BK314 := Aside0.mk (blk_drew BK314.out)
            replace HB := Aside0.mk (below_drew1 HB.out)
            refine start_ (n := 13) (S := fun w' => w'.cell? ⟨gb314, 0, none⟩ = some (.slice Ao22 t310.length co22) ∧ w'.cell? ⟨gb314, 1, none⟩ = some (.func (.func 154) #[] #[]) ∧ w'.cell? ⟨gb309, 0, none⟩ = some (.slice A0_0 l0_0.length c0_0) ∧ w'.cell? ⟨gb309, 1, none⟩ = some (.slice A0_1 l0_1.length c0_1) ∧ w'.cell? ⟨gb309, 2, none⟩ = some (.int .i64 a0_2) ∧ w'.cell? ⟨gb309, 3, none⟩ = some (.int .i64 a0_3)) (ds := []) #[false, false, false, false, false, false, false, false, false, false, false, false, false] (by kernel_rfl) rfl rfl ⟨(blkc BK314 0), (blkc BK314 1), (blkc BK309 0), (blkc BK309 1), (blkc BK309 2), (blkc BK309 3)⟩ (fun hHeld => ?_); refine with_tabW impl_GraphOk.tab6 impl_GraphOk.bits6 (fun HT_ HW_ => ?_)
            generalize w29.drew = w30 at HO312 BK309 BK314 HB hHeld ⊢
            refine puA 1 (some 39) ?_
            refine taA 0 (some 38) ?_
            refine taA 2 (some 40) ?_
            refine one_ (i := 3) (N := some 41) #[true, true, true, true, false, false, false, false, false, false, false, false, false] rfl rfl (one_of HT_.out (by kernel_rfl)) (by decide) (fun K hK => ?_)
            refine goes_ Try.func77 (by kernel_rfl) rfl #[.agg #[.slice Ao22 t310.length co22, .func (.func 154) #[] #[]], .int .i64 a0_2] (by rfl) rfl rfl ar_ ?_
            with_reducible refine (impl_Node_ascend.calls kj11 _ _ t310 t313 a0_2 true _ ?side1 ?side2 A25.out).mono ?_
            (case side1 => repeat (first | exact (Kd.V_reads' HO312.out).2.2 | (with_reducible refine Kd.C_alloc ?_ _) | (with_reducible refine Kd.C_drewN ?_ _) | (with_reducible refine Kd.C_drew ?_)))
            (case side2 => exact (Kd.V_reads' HO312.out).2.1)
            rintro e w31 ⟨rfl, hb⟩
            refine ⟨_, rfl, ?_⟩
            replace HO312 := Aside0.mk (Kd.V_below (by (with_reducible repeat (first | apply Kd.V_alloc | apply Kd.V_drewN | apply Kd.V_drew)); first | exact HO312.out | exact Kd.V_mono (HO312.out) (fun _ h_ => by simpa only [and_assoc, and_comm, and_left_comm] using h_)) hb)
            replace BK309 := bb_ BK309 hb
            replace BK314 := bb_ BK314 hb
            replace HB := bs_ hb
            (try clear hb)
            (try clear hb2)
            (try clear hk)
            (try clear hi)
            refine hK.out _ _ ⟨(blkc BK314 0), (blkc BK314 1), (blkc BK309 0), (blkc BK309 1), (blkc BK309 2), (blkc BK309 3)⟩ (fun hHeld => ?_)
            clear hK K
            refine norm_ (a' := ?_) ?_ ?_
            rotate_left
            · show Act.put _ (some 41) _ = _
              simp only [Act.put, List.setIfInBounds_toArray, List.set_cons_zero, List.set_cons_succ, i64_w, i32_w]
              rfl
            refine puA 4 (some 42) ?_
            refine puA 5 (some 43) ?_
            refine puA 8 (some 46) ?_
            refine taA 6 (some 44) ?_
            refine taA 9 (some 47) ?_
            refine one_ (i := 7) (N := some 45) #[true, true, true, true, true, true, true, true, true, true, false, false, false] rfl rfl (one_of HT_.out (by kernel_rfl)) (by decide) (fun K hK => ?_)
            refine goes_ Try.func78 (by kernel_rfl) rfl #[.agg #[.slice A0_0 l0_0.length c0_0, .slice A0_1 l0_1.length c0_1, .int .i64 a0_2, .int .i64 a0_3]] (by rfl) rfl rfl ar_ ?_
            with_reducible refine (impl_edgesIn.calls _ _ l0_0 (fun k_ => k_ < w.heap.size) _ _ l0_1 a0_2 a0_3 t316 t319 _ ?side1 ?side2 ?side3 A27.out).mono ?_
            (case side1 => exact rdb_ HR0_0)
            (case side2 => exact HC0_0.out)
            (case side3 => exact Kd.V_mk HC0_1.out (Kd.F_below (Kd.C_F k104_heap HR0_1.out) (bel_)))
            rintro e w32 ⟨v317, rfl, ho0, hb⟩
            refine ⟨_, rfl, ?_⟩
            have HO318 := Aside0.mk (Kd.V_lower (Kd.V_mono (ok' := fun k_ => k_ ≠ gb309 ∧ k_ ≠ gb314) ho0 (fun k_ hk_ => ⟨Or.elim hk_ (fun hs_ => fun e_ => Nat.not_le.2 hs_ (by rw [e_]; exact GW309.out)) (fun hn_ => (Kd.freshB (g := gb309) (o := .cells #[.slice A0_0 l0_0.length c0_0, .slice A0_1 l0_1.length c0_1, .int .i64 a0_2, .int .i64 a0_3] 31 (0, 0)) (bk_ BK309) k_ hn_)), Or.elim hk_ (fun hs_ => fun e_ => Nat.not_le.2 hs_ (by rw [e_]; exact GW314.out)) (fun hn_ => (Kd.freshB (g := gb314) (o := .cells #[.slice Ao22 t310.length co22, .func (.func 154) #[] #[]] 110 (0, 0)) (bk_ BK314) k_ hn_))⟩)) (below_size (bel_)))
            replace HO312 := Aside0.mk (Kd.V_below (by (with_reducible repeat (first | apply Kd.V_alloc | apply Kd.V_drewN | apply Kd.V_drew)); first | exact HO312.out | exact Kd.V_mono (HO312.out) (fun _ h_ => by simpa only [and_assoc, and_comm, and_left_comm] using h_)) hb)
            replace BK309 := bb_ BK309 hb
            replace BK314 := bb_ BK314 hb
            replace HB := bs_ hb
            (try clear hb)
            (try clear hb2)
            (try clear hk)
            (try clear hi)
            (try clear ho0)
            obtain ⟨Ao33, co33, eo33⟩ := Kd.V_slice HO318.out
            (first | subst eo33 | (injection eo33 with f1_ f2_ f3_; have f4_ := f1_.symm; have f5_ := f3_.symm; clear f1_ f2_ f3_; subst f4_; subst f5_))
            refine hK.out _ _ ⟨(blkc BK314 0), (blkc BK314 1), (blkc BK309 0), (blkc BK309 1), (blkc BK309 2), (blkc BK309 3)⟩ (fun hHeld => ?_)
            clear hK K
            refine norm_ (a' := ?_) ?_ ?_
            rotate_left
            · show Act.put _ (some 45) _ = _
              simp only [Act.put, List.setIfInBounds_toArray, List.set_cons_zero, List.set_cons_succ, i64_w, i32_w]
              rfl
            refine one_ (i := 10) (N := some 48) #[true, true, true, true, true, true, true, true, true, true, true, false, false] rfl rfl (one_of HT_.out (by kernel_rfl)) (by decide) (fun K hK => ?_)
            refine goes_ Try.func79 (by kernel_rfl) rfl #[.agg #[.slice Ao33 t316.length co33, .func (.func 155) #[] #[]], .int .i64 a0_3] (by rfl) rfl rfl ar_ ?_
            with_reducible refine (impl_Edge_ascend.calls kj11 _ _ t316 t319 a0_3 t320 _ ?side1 ?side2 A28.out).mono ?_
            (case side1 => repeat (first | exact (Kd.V_reads' HO318.out).2.2 | (with_reducible refine Kd.C_alloc ?_ _) | (with_reducible refine Kd.C_drewN ?_ _) | (with_reducible refine Kd.C_drew ?_)))
            (case side2 => exact (Kd.V_reads' HO318.out).2.1)
            rintro e w34 ⟨rfl, hb⟩
            refine ⟨_, rfl, ?_⟩
            replace HO312 := Aside0.mk (Kd.V_below (by (with_reducible repeat (first | apply Kd.V_alloc | apply Kd.V_drewN | apply Kd.V_drew)); first | exact HO312.out | exact Kd.V_mono (HO312.out) (fun _ h_ => by simpa only [and_assoc, and_comm, and_left_comm] using h_)) hb)
            replace HO318 := Aside0.mk (Kd.V_below (by (with_reducible repeat (first | apply Kd.V_alloc | apply Kd.V_drewN | apply Kd.V_drew)); first | exact HO318.out | exact Kd.V_mono (HO318.out) (fun _ h_ => by simpa only [and_assoc, and_comm, and_left_comm] using h_)) hb)
            replace BK309 := bb_ BK309 hb
            replace BK314 := bb_ BK314 hb
            replace HB := bs_ hb
            (try clear hb)
            (try clear hb2)
            (try clear hk)
            (try clear hi)
            refine hK.out _ _ ⟨(blkc BK314 0), (blkc BK314 1), (blkc BK309 0), (blkc BK309 1), (blkc BK309 2), (blkc BK309 3)⟩ (fun hHeld => ?_)
            clear hK K
            refine norm_ (a' := ?_) ?_ ?_
            rotate_left
            · show Act.put _ (some 48) _ = _
              simp only [Act.put, List.setIfInBounds_toArray, List.set_cons_zero, List.set_cons_succ, i64_w, i32_w]
              rfl
            refine puA 11 (some 49) ?_
            refine puA 12 (some 50) ?_
            refine done_ (done_of HT_.out (by kernel_rfl)) ?_
            try go_wp2
            go_meet
            case rel => exact ⟨_, (!t320), sm_, H', ⟨by have := HJ1.out; have := HJ11.out; first | omega | exact Nat.le_refl _⟩, ⟨by (with_reducible repeat (first | apply Kd.V_alloc | apply Kd.V_drewN | apply Kd.V_drew)); first | exact HO312.out | exact Kd.V_mono (HO312.out) (fun _ h_ => by simpa only [and_assoc, and_comm, and_left_comm] using h_)⟩, ⟨by refine pe_ ?_; exact BK309.out⟩, ⟨by refine pe_ ?_; exact BK314.out⟩, ⟨bel_⟩⟩
          case rest =>
            clear HC18
            try clear c1
            try clear c2
            try clear p2
            try clear c4
            try clear c4b0
            try clear c6
            try clear c6b0
            try clear c7
            try clear c8
            try clear c8b0
            try clear c11
            try clear c13
            try clear c13b0
            try clear c13b1
            try clear c16
            try clear c23
            try clear c26
            try clear hcz10_0 hcz10_1 hcz10_2 hcz10_3
            try clear hcz14_0 hcz14_1 hcz14_2 hcz14_3
            try clear hcz15_0 hcz15_1 hcz15_2 hcz15_3
            try clear hcz19_0 hcz19_1 hcz19_2 hcz19_3
            try clear hcz24_0 hcz24_1
            try clear hcz5_0 hcz5_1 hcz5_2 hcz5_3
            try clear hcz7_0 hcz7_1 hcz7_2 hcz7_3
            try clear hcz9_0 hcz9_1 hcz9_2 hcz9_3
            try clear hfz10_0 hfz10_1 hfz10_2 hfz10_3
            try clear hfz14_0 hfz14_1 hfz14_2 hfz14_3
            try clear hfz15_0 hfz15_1 hfz15_2 hfz15_3
            try clear hfz19_0 hfz19_1 hfz19_2 hfz19_3
            try clear hfz24_0 hfz24_1
            try clear hfz5_0 hfz5_1 hfz5_2 hfz5_3
            try clear hfz7_0 hfz7_1 hfz7_2 hfz7_3
            try clear hfz9_0 hfz9_1 hfz9_2 hfz9_3
            try clear p2
            obtain ⟨kq, x50_17, rfl, HA, HJ17, HO_315000, BK309, BK314, HB⟩ := hcut
            cases kq with
            | zero => exact absurd HA.out (by simp [impl_GraphOk.j2])
            | succ kj17 =>
              have H := HA.out
              clear HA
              simp only [impl_GraphOk.j2] at H
              by_cases c38 : x50_17 = true
              · subst c38
                have H1 : (some false) = some r := by rw [if_pos rfl] at H; exact H
                clear H
                have H := H1
                clear H1
                obtain rfl := Option.some.inj H
                go_wp2
                go_ret
                exact re_
              replace c38 := Bool.eq_false_iff.mpr c38
              subst c38
              have H1 : (impl_GraphOk.l0 kj17 l0_0 (l0_0.length : Int) 0 l0_0 l0_1 a0_2 a0_3 t310 t313) = some r := by rw [if_neg (show ¬ (false = true) by decide)] at H; exact H
              clear H
              have H := H1
              clear H1
              have H' := Aside0.mk H
              clear H
              have hnb39 := NB309_314.out
              have hnc39 := NB314_309.out
              obtain ⟨hcz40_0, hcz40_1, hcz40_2, hcz40_3, hfz40_0, hfz40_1, hfz40_2, hfz40_3⟩ := blk4 BK309
              go_wp2
              go_loopg [54] kj17 (fun kq v54 w' => ∃ (x54_4 : Int), v54 = .int .i64 x54_4 ∧ Aside0 (impl_GraphOk.l0 kq l0_0 (l0_0.length : Int) x54_4 l0_0 l0_1 a0_2 a0_3 t310 t313 = some r) ∧ Aside0 (kq ≤ kj17) ∧ Aside0 (Kd.V k99 99 w' w.heap.size (fun k_ => k_ ≠ gb309 ∧ k_ ≠ gb314) (.slice Ao22 t310.length co22) t310) ∧ Aside0 (w'.heap[gb309]? = some (.cells #[(.slice A0_0 l0_0.length c0_0), (.slice A0_1 l0_1.length c0_1), .int .i64 a0_2, .int .i64 a0_3] 31 (0, 0))) ∧ Aside0 (w'.heap[gb314]? = some (.cells #[(.slice Ao22 t310.length co22), .func (.func 154) #[] #[]] 110 (0, 0))) ∧ Aside0 (Below w.heap.size w w'))
              case atStart => exact ⟨(0), sm_, H', ⟨Nat.le_refl _⟩, ⟨by (with_reducible repeat (first | apply Kd.V_alloc | apply Kd.V_drewN | apply Kd.V_drew)); first | exact HO_315000.out | exact Kd.V_mono (HO_315000.out) (fun _ h_ => by simpa only [and_assoc, and_comm, and_left_comm] using h_)⟩, ⟨by refine pe_ ?_; exact BK309.out⟩, ⟨by refine pe_ ?_; exact BK314.out⟩, ⟨bel_⟩⟩
              case round =>
                clear H'
                try clear c1
                try clear c2
                try clear p2
                try clear c3
                try clear c4
                try clear c4b0
                try clear c6
                try clear c6b0
                try clear c7
                try clear c8
                try clear c8b0
                try clear c11
                try clear c13
                try clear c13b0
                try clear c13b1
                try clear c16
                try clear c23
                try clear c26
                try clear c38
                try clear c39
                try clear hcz10_0 hcz10_1 hcz10_2 hcz10_3
                try clear hcz14_0 hcz14_1 hcz14_2 hcz14_3
                try clear hcz15_0 hcz15_1 hcz15_2 hcz15_3
                try clear hcz19_0 hcz19_1 hcz19_2 hcz19_3
                try clear hcz24_0 hcz24_1
                try clear hcz40_0 hcz40_1 hcz40_2 hcz40_3
                try clear hcz5_0 hcz5_1 hcz5_2 hcz5_3
                try clear hcz7_0 hcz7_1 hcz7_2 hcz7_3
                try clear hcz9_0 hcz9_1 hcz9_2 hcz9_3
                try clear hfz10_0 hfz10_1 hfz10_2 hfz10_3
                try clear hfz14_0 hfz14_1 hfz14_2 hfz14_3
                try clear hfz15_0 hfz15_1 hfz15_2 hfz15_3
                try clear hfz19_0 hfz19_1 hfz19_2 hfz19_3
                try clear hfz24_0 hfz24_1
                try clear hfz40_0 hfz40_1 hfz40_2 hfz40_3
                try clear hfz5_0 hfz5_1 hfz5_2 hfz5_3
                try clear hfz7_0 hfz7_1 hfz7_2 hfz7_3
                try clear hfz9_0 hfz9_1 hfz9_2 hfz9_3
                try clear p2
                obtain ⟨x54_4, rfl, HA, HK4, HO_315000, BK309, BK314, HB⟩ := hrel
                cases gk with
                | zero => exact absurd HA.out (by simp [impl_GraphOk.l0])
                | succ k4 =>
                  have H := HA.out
                  clear HA
                  simp only [impl_GraphOk.l0] at H
                  by_cases c41 : x54_4 < (l0_0.length : Int)
                  · rw [if_pos c41] at H
                    have c41b0 : decide (x54_4 < (l0_0.length : Int)) = true := decide_eq_true c41
                    clear c41
                    by_cases c42 : 0 ≤ x54_4
                    rotate_left
                    · rw [if_neg c42] at H
                      exact absurd H (by simp)
                    rw [if_pos c42] at H
                    have c42b0 : decide (0 ≤ x54_4) = true := decide_eq_true c42
                    clear c42
                    by_cases c43 : x54_4 < (l0_0.length : Int)
                    rotate_left
                    · rw [if_neg c43] at H
                      exact absurd H (by simp)
                    rw [if_pos c43] at H
                    have c43b0 : decide (x54_4 < (l0_0.length : Int)) = true := decide_eq_true c43
                    clear c43
                    replace H := Option.bind_eq_some_iff.mp H
                    obtain ⟨t323, A440, H⟩ := H
                    replace H : (if t323 = true then ((impl_propsOk.f k4 ((rd_T99 l0_0 x54_4).f2)).bind fun t324 => (if t324 = true then (impl_GraphOk.l0 k4 l0_0 (l0_0.length : Int) (wrap64 (x54_4 + 1)) l0_0 l0_1 a0_2 a0_3 t310 t313) else (some false))) else (some false)) = some r := H
                    have A44 := Aside0.mk A440
                    clear A440
                    by_cases c45 : t323 = true
                    rotate_left
                    · replace c45 := Bool.eq_false_iff.mpr c45
                      subst c45
                      have H1 : (some false) = some r := by rw [if_neg (show ¬ (false = true) by decide)] at H; exact H
                      clear H
                      have H := H1
                      clear H1
                      obtain rfl := Option.some.inj H
                      have p321 : 0 ≤ (x54_4 : Int) := od_
                      have q321 : x54_4 < (l0_0.length : Int) := od_
                      obtain ⟨ad321, A321_1, c321_1, A321_2, c321_2, e321, hx321_0, hx321_1, hx321_2, hl321_1, hi321_1, hl321_2, hi321_2⟩ := at_T99 HR0_0.out x54_4 p321 q321
                      cases e321
                      replace hx321_0 := mv_ HB hx321_0
                      replace hx321_1 := mv_ HB hx321_1
                      replace hx321_2 := mv_ HB hx321_2
                      have HR321_1 := Aside0.mk hi321_1
                      have HC321_1 := Aside0.mk hl321_1
                      clear hi321_1 hl321_1
                      have HR321_2 := Aside0.mk hi321_2
                      have HC321_2 := Aside0.mk hl321_2
                      clear hi321_2 hl321_2
                      replace p321 := eq_true p321
                      replace q321 := eq_true q321
                      go_wp2_with (first | ((with_reducible refine gate_dst (N := 5) rfl ?_); (try (refine gate_guard (by rfl) ?_; dsimp only)); refine box_event ?hg (N := 5) ?hd (cs := #[.int .i64 0, .slice none 0 0, .slice none 0 0]) (t := 99) ?hr ?_; (case hd => rfl); (case hg => rfl); (case hr => first | (go_simp; done) | (go_simp; rfl)); intro gb322 hg w58 hbox hb; have BK322 := Aside0.mk (hbox); have GW322 := gw_ hg; have GE322 := gw_ hg; have NB309_322 := nlt_ hg BK309; have NB322_309 := ngt_ hg BK309; have NB314_322 := nlt_ hg BK314; have NB322_314 := ngt_ hg BK314; replace HO_315000 := Aside0.mk (Kd.V_below (Kd.V_elderB (by (with_reducible repeat (first | apply Kd.V_alloc | apply Kd.V_drewN | apply Kd.V_drew)); first | exact HO_315000.out | exact Kd.V_mono (HO_315000.out) (fun _ h_ => by simpa only [and_assoc, and_comm, and_left_comm] using h_)) gb322 (Nat.le_of_eq hg.symm)) hb); replace BK309 := bb_ BK309 hb; replace BK314 := bb_ BK314 hb; replace HB := bs_ hb; clear hb hbox hg; have hnb59 := NB322_309.out; have hnc59 := NB309_322.out; have hnb60 := NB322_314.out; have hnc60 := NB314_322.out; obtain ⟨hcz61_0, hcz61_1, hcz61_2, hfz61_0, hfz61_1, hfz61_2⟩ := blk3 BK322) | ((with_reducible refine gate_callee (f := 80) rfl ?_); refine goesL_ (some 60) rfl rfl Try.func80 (by kernel_rfl) rfl #[.slice A321_1 ((rd_T99 l0_0 x54_4).f1).length c321_1] rfl ar_ ?_; (with_reducible refine (impl_labelsOk.calls k4 _ _ ((rd_T99 l0_0 x54_4).f1) false _ ?side1 ?side2 A44.out).mono ?_); (case side1 => exact Kd.C_below HR321_1.out (bel_)); (case side2 => exact HC321_1.out); rintro e w' ⟨rfl, ⟨nd, rfl⟩⟩; refine ⟨_, rfl, ?_⟩))
                      go_ret
                      exact re_
                    subst c45
                    have H1 : ((impl_propsOk.f k4 ((rd_T99 l0_0 x54_4).f2)).bind fun t324 => (if t324 = true then (impl_GraphOk.l0 k4 l0_0 (l0_0.length : Int) (wrap64 (x54_4 + 1)) l0_0 l0_1 a0_2 a0_3 t310 t313) else (some false))) = some r := by rw [if_pos rfl] at H; exact H
                    clear H
                    have H := H1
                    clear H1
                    replace H := Option.bind_eq_some_iff.mp H
                    obtain ⟨t324, A460, H⟩ := H
                    replace H : (if t324 = true then (impl_GraphOk.l0 k4 l0_0 (l0_0.length : Int) (wrap64 (x54_4 + 1)) l0_0 l0_1 a0_2 a0_3 t310 t313) else (some false)) = some r := H
                    have A46 := Aside0.mk A460
                    clear A460
                    by_cases c47 : t324 = true
                    · subst c47
                      have H1 : (impl_GraphOk.l0 k4 l0_0 (l0_0.length : Int) (wrap64 (x54_4 + 1)) l0_0 l0_1 a0_2 a0_3 t310 t313) = some r := by rw [if_pos rfl] at H; exact H
                      clear H
                      have H := H1
                      clear H1
                      have H' := Aside0.mk H
                      clear H
                      have p321 : 0 ≤ (x54_4 : Int) := od_
                      have q321 : x54_4 < (l0_0.length : Int) := od_
                      obtain ⟨ad321, A321_1, c321_1, A321_2, c321_2, e321, hx321_0, hx321_1, hx321_2, hl321_1, hi321_1, hl321_2, hi321_2⟩ := at_T99 HR0_0.out x54_4 p321 q321
                      cases e321
                      replace hx321_0 := mv_ HB hx321_0
                      replace hx321_1 := mv_ HB hx321_1
                      replace hx321_2 := mv_ HB hx321_2
                      have HR321_1 := Aside0.mk hi321_1
                      have HC321_1 := Aside0.mk hl321_1
                      clear hi321_1 hl321_1
                      have HR321_2 := Aside0.mk hi321_2
                      have HC321_2 := Aside0.mk hl321_2
                      clear hi321_2 hl321_2
                      replace p321 := eq_true p321
                      replace q321 := eq_true q321
                      go_wp2_with (first | ((with_reducible refine gate_dst (N := 5) rfl ?_); (try (refine gate_guard (by rfl) ?_; dsimp only)); refine box_event ?hg (N := 5) ?hd (cs := #[.int .i64 0, .slice none 0 0, .slice none 0 0]) (t := 99) ?hr ?_; (case hd => rfl); (case hg => rfl); (case hr => first | (go_simp; done) | (go_simp; rfl)); intro gb322 hg w48 hbox hb; have BK322 := Aside0.mk (hbox); have GW322 := gw_ hg; have GE322 := gw_ hg; have NB309_322 := nlt_ hg BK309; have NB322_309 := ngt_ hg BK309; have NB314_322 := nlt_ hg BK314; have NB322_314 := ngt_ hg BK314; replace HO_315000 := Aside0.mk (Kd.V_below (Kd.V_elderB (by (with_reducible repeat (first | apply Kd.V_alloc | apply Kd.V_drewN | apply Kd.V_drew)); first | exact HO_315000.out | exact Kd.V_mono (HO_315000.out) (fun _ h_ => by simpa only [and_assoc, and_comm, and_left_comm] using h_)) gb322 (Nat.le_of_eq hg.symm)) hb); replace BK309 := bb_ BK309 hb; replace BK314 := bb_ BK314 hb; replace HB := bs_ hb; clear hb hbox hg; have hnb49 := NB322_309.out; have hnc49 := NB309_322.out; have hnb50 := NB322_314.out; have hnc50 := NB314_322.out; obtain ⟨hcz51_0, hcz51_1, hcz51_2, hfz51_0, hfz51_1, hfz51_2⟩ := blk3 BK322) | ((with_reducible refine gate_callee (f := 80) rfl ?_); refine goesL_ (some 60) rfl rfl Try.func80 (by kernel_rfl) rfl #[.slice A321_1 ((rd_T99 l0_0 x54_4).f1).length c321_1] rfl ar_ ?_; (with_reducible refine (impl_labelsOk.calls k4 _ _ ((rd_T99 l0_0 x54_4).f1) true _ ?side1 ?side2 A44.out).mono ?_); (case side1 => exact Kd.C_below HR321_1.out (bel_)); (case side2 => exact HC321_1.out); rintro e w' ⟨rfl, ⟨nd, rfl⟩⟩; refine ⟨_, rfl, ?_⟩) | (go_at_call 81; (with_reducible refine (impl_propsOk.calls k4 _ _ ((rd_T99 l0_0 x54_4).f2) true _ ?side1 ?side2 A46.out).mono ?_); (case side1 => exact Kd.C_below HR321_2.out (bel_)); (case side2 => exact HC321_2.out); rintro e w52 ⟨rfl, hb⟩; replace HO_315000 := Aside0.mk (Kd.V_below (by (with_reducible repeat (first | apply Kd.V_alloc | apply Kd.V_drewN | apply Kd.V_drew)); first | exact (Kd.V_mono (Kd.V_far (p := ⟨gb322, 2, none⟩) (Kd.V_far (p := ⟨gb322, 1, none⟩) (Kd.V_far (p := ⟨gb322, 0, none⟩) (Kd.V_mono HO_315000.out (fun k_ hk => (⟨hk, hk.2⟩ : _ ∧ k_ ≠ gb322))) (fun _ hk => hk.2) (.int .i64 ((rd_T99 l0_0 x54_4).f0))) (fun _ hk => hk.2) (.slice A321_1 ((rd_T99 l0_0 x54_4).f1).length c321_1)) (fun _ hk => hk.2) (.slice A321_2 ((rd_T99 l0_0 x54_4).f2).length c321_2)) (fun _ h_ => h_.1)) | exact Kd.V_mono ((Kd.V_mono (Kd.V_far (p := ⟨gb322, 2, none⟩) (Kd.V_far (p := ⟨gb322, 1, none⟩) (Kd.V_far (p := ⟨gb322, 0, none⟩) (Kd.V_mono HO_315000.out (fun k_ hk => (⟨hk, hk.2⟩ : _ ∧ k_ ≠ gb322))) (fun _ hk => hk.2) (.int .i64 ((rd_T99 l0_0 x54_4).f0))) (fun _ hk => hk.2) (.slice A321_1 ((rd_T99 l0_0 x54_4).f1).length c321_1)) (fun _ hk => hk.2) (.slice A321_2 ((rd_T99 l0_0 x54_4).f2).length c321_2)) (fun _ h_ => h_.1))) (fun _ h_ => by simpa only [and_assoc, and_comm, and_left_comm] using h_)) hb); replace BK309 := Aside0.mk (blk_below (g := gb309) (o := .cells #[.slice (some ad321) l0_0.length c0_0, .slice A0_1 l0_1.length c0_1, .int .i64 a0_2, .int .i64 a0_3] 31 (0, 0)) (by refine pe_ ?_; refine blk_far ?_ NB309_322.out _; refine pe_ ?_; refine blk_far ?_ NB309_322.out _; refine pe_ ?_; refine blk_far ?_ NB309_322.out _; refine pe_ ?_; exact BK309.out) hb); replace BK314 := Aside0.mk (blk_below (g := gb314) (o := .cells #[.slice Ao22 t310.length co22, .func (.func 154) #[] #[]] 110 (0, 0)) (by refine pe_ ?_; refine blk_far ?_ NB314_322.out _; refine pe_ ?_; refine blk_far ?_ NB314_322.out _; refine pe_ ?_; refine blk_far ?_ NB314_322.out _; refine pe_ ?_; exact BK314.out) hb); replace BK322 := Aside0.mk (blk_below (g := gb322) (o := .cells #[.int .i64 ((rd_T99 l0_0 x54_4).f0), .slice A321_1 ((rd_T99 l0_0 x54_4).f1).length c321_1, .slice A321_2 ((rd_T99 l0_0 x54_4).f2).length c321_2] 99 (0, 0)) (by refine pe_ ?_; refine blk_put (cs := #[.int .i64 ((rd_T99 l0_0 x54_4).f0), .slice A321_1 ((rd_T99 l0_0 x54_4).f1).length c321_1, .slice none 0 0]) ?_ 2 _ rfl; refine pe_ ?_; refine blk_put (cs := #[.int .i64 ((rd_T99 l0_0 x54_4).f0), .slice none 0 0, .slice none 0 0]) ?_ 1 _ rfl; refine pe_ ?_; refine blk_put (cs := #[.int .i64 0, .slice none 0 0, .slice none 0 0]) ?_ 0 _ rfl; refine pe_ ?_; exact BK322.out) hb); replace HB := bs_ hb; (try clear hb); (try clear hb2); (try clear hk); (try clear hi)))
                      go_roundg k4
                      case measure => have := HJ1.out; have := HJ11.out; have := HJ17.out; have := HK4.out; omega
                      case rel => exact ⟨(wrap64 (x54_4 + 1)), sm_, H', ⟨by have := HJ1.out; have := HJ11.out; have := HJ17.out; have := HK4.out; omega⟩, ⟨by (with_reducible repeat (first | apply Kd.V_alloc | apply Kd.V_drewN | apply Kd.V_drew)); first | exact Kd.V_mono HO_315000.out (fun _ hk => ⟨hk.1.1, hk.1.2⟩) | exact Kd.V_mono (Kd.V_mono HO_315000.out (fun _ hk => ⟨hk.1.1, hk.1.2⟩)) (fun _ h_ => by simpa only [and_assoc, and_comm, and_left_comm] using h_)⟩, ⟨by refine pe_ ?_; exact BK309.out⟩, ⟨by refine pe_ ?_; exact BK314.out⟩, ⟨bel_⟩⟩
                    replace c47 := Bool.eq_false_iff.mpr c47
                    subst c47
                    have H1 : (some false) = some r := by rw [if_neg (show ¬ (false = true) by decide)] at H; exact H
                    clear H
                    have H := H1
                    clear H1
                    obtain rfl := Option.some.inj H
                    have p321 : 0 ≤ (x54_4 : Int) := od_
                    have q321 : x54_4 < (l0_0.length : Int) := od_
                    obtain ⟨ad321, A321_1, c321_1, A321_2, c321_2, e321, hx321_0, hx321_1, hx321_2, hl321_1, hi321_1, hl321_2, hi321_2⟩ := at_T99 HR0_0.out x54_4 p321 q321
                    cases e321
                    replace hx321_0 := mv_ HB hx321_0
                    replace hx321_1 := mv_ HB hx321_1
                    replace hx321_2 := mv_ HB hx321_2
                    have HR321_1 := Aside0.mk hi321_1
                    have HC321_1 := Aside0.mk hl321_1
                    clear hi321_1 hl321_1
                    have HR321_2 := Aside0.mk hi321_2
                    have HC321_2 := Aside0.mk hl321_2
                    clear hi321_2 hl321_2
                    replace p321 := eq_true p321
                    replace q321 := eq_true q321
                    go_wp2_with (first | ((with_reducible refine gate_dst (N := 5) rfl ?_); (try (refine gate_guard (by rfl) ?_; dsimp only)); refine box_event ?hg (N := 5) ?hd (cs := #[.int .i64 0, .slice none 0 0, .slice none 0 0]) (t := 99) ?hr ?_; (case hd => rfl); (case hg => rfl); (case hr => first | (go_simp; done) | (go_simp; rfl)); intro gb322 hg w53 hbox hb; have BK322 := Aside0.mk (hbox); have GW322 := gw_ hg; have GE322 := gw_ hg; have NB309_322 := nlt_ hg BK309; have NB322_309 := ngt_ hg BK309; have NB314_322 := nlt_ hg BK314; have NB322_314 := ngt_ hg BK314; replace HO_315000 := Aside0.mk (Kd.V_below (Kd.V_elderB (by (with_reducible repeat (first | apply Kd.V_alloc | apply Kd.V_drewN | apply Kd.V_drew)); first | exact HO_315000.out | exact Kd.V_mono (HO_315000.out) (fun _ h_ => by simpa only [and_assoc, and_comm, and_left_comm] using h_)) gb322 (Nat.le_of_eq hg.symm)) hb); replace BK309 := bb_ BK309 hb; replace BK314 := bb_ BK314 hb; replace HB := bs_ hb; clear hb hbox hg; have hnb54 := NB322_309.out; have hnc54 := NB309_322.out; have hnb55 := NB322_314.out; have hnc55 := NB314_322.out; obtain ⟨hcz56_0, hcz56_1, hcz56_2, hfz56_0, hfz56_1, hfz56_2⟩ := blk3 BK322) | ((with_reducible refine gate_callee (f := 80) rfl ?_); refine goesL_ (some 60) rfl rfl Try.func80 (by kernel_rfl) rfl #[.slice A321_1 ((rd_T99 l0_0 x54_4).f1).length c321_1] rfl ar_ ?_; (with_reducible refine (impl_labelsOk.calls k4 _ _ ((rd_T99 l0_0 x54_4).f1) true _ ?side1 ?side2 A44.out).mono ?_); (case side1 => exact Kd.C_below HR321_1.out (bel_)); (case side2 => exact HC321_1.out); rintro e w' ⟨rfl, ⟨nd, rfl⟩⟩; refine ⟨_, rfl, ?_⟩) | (go_at_call 81; (with_reducible refine (impl_propsOk.calls k4 _ _ ((rd_T99 l0_0 x54_4).f2) false _ ?side1 ?side2 A46.out).mono ?_); (case side1 => exact Kd.C_below HR321_2.out (bel_)); (case side2 => exact HC321_2.out); rintro e w57 ⟨rfl, hb⟩; replace HO_315000 := Aside0.mk (Kd.V_below (by (with_reducible repeat (first | apply Kd.V_alloc | apply Kd.V_drewN | apply Kd.V_drew)); first | exact (Kd.V_mono (Kd.V_far (p := ⟨gb322, 2, none⟩) (Kd.V_far (p := ⟨gb322, 1, none⟩) (Kd.V_far (p := ⟨gb322, 0, none⟩) (Kd.V_mono HO_315000.out (fun k_ hk => (⟨hk, hk.2⟩ : _ ∧ k_ ≠ gb322))) (fun _ hk => hk.2) (.int .i64 ((rd_T99 l0_0 x54_4).f0))) (fun _ hk => hk.2) (.slice A321_1 ((rd_T99 l0_0 x54_4).f1).length c321_1)) (fun _ hk => hk.2) (.slice A321_2 ((rd_T99 l0_0 x54_4).f2).length c321_2)) (fun _ h_ => h_.1)) | exact Kd.V_mono ((Kd.V_mono (Kd.V_far (p := ⟨gb322, 2, none⟩) (Kd.V_far (p := ⟨gb322, 1, none⟩) (Kd.V_far (p := ⟨gb322, 0, none⟩) (Kd.V_mono HO_315000.out (fun k_ hk => (⟨hk, hk.2⟩ : _ ∧ k_ ≠ gb322))) (fun _ hk => hk.2) (.int .i64 ((rd_T99 l0_0 x54_4).f0))) (fun _ hk => hk.2) (.slice A321_1 ((rd_T99 l0_0 x54_4).f1).length c321_1)) (fun _ hk => hk.2) (.slice A321_2 ((rd_T99 l0_0 x54_4).f2).length c321_2)) (fun _ h_ => h_.1))) (fun _ h_ => by simpa only [and_assoc, and_comm, and_left_comm] using h_)) hb); replace BK309 := Aside0.mk (blk_below (g := gb309) (o := .cells #[.slice (some ad321) l0_0.length c0_0, .slice A0_1 l0_1.length c0_1, .int .i64 a0_2, .int .i64 a0_3] 31 (0, 0)) (by refine pe_ ?_; refine blk_far ?_ NB309_322.out _; refine pe_ ?_; refine blk_far ?_ NB309_322.out _; refine pe_ ?_; refine blk_far ?_ NB309_322.out _; refine pe_ ?_; exact BK309.out) hb); replace BK314 := Aside0.mk (blk_below (g := gb314) (o := .cells #[.slice Ao22 t310.length co22, .func (.func 154) #[] #[]] 110 (0, 0)) (by refine pe_ ?_; refine blk_far ?_ NB314_322.out _; refine pe_ ?_; refine blk_far ?_ NB314_322.out _; refine pe_ ?_; refine blk_far ?_ NB314_322.out _; refine pe_ ?_; exact BK314.out) hb); replace BK322 := Aside0.mk (blk_below (g := gb322) (o := .cells #[.int .i64 ((rd_T99 l0_0 x54_4).f0), .slice A321_1 ((rd_T99 l0_0 x54_4).f1).length c321_1, .slice A321_2 ((rd_T99 l0_0 x54_4).f2).length c321_2] 99 (0, 0)) (by refine pe_ ?_; refine blk_put (cs := #[.int .i64 ((rd_T99 l0_0 x54_4).f0), .slice A321_1 ((rd_T99 l0_0 x54_4).f1).length c321_1, .slice none 0 0]) ?_ 2 _ rfl; refine pe_ ?_; refine blk_put (cs := #[.int .i64 ((rd_T99 l0_0 x54_4).f0), .slice none 0 0, .slice none 0 0]) ?_ 1 _ rfl; refine pe_ ?_; refine blk_put (cs := #[.int .i64 0, .slice none 0 0, .slice none 0 0]) ?_ 0 _ rfl; refine pe_ ?_; exact BK322.out) hb); replace HB := bs_ hb; (try clear hb); (try clear hb2); (try clear hk); (try clear hi)))
                    go_ret
                    exact re_
                  rw [if_neg c41] at H
                  have c41b0 : decide (x54_4 < (l0_0.length : Int)) = false := decide_eq_false c41
                  clear c41
                  have H' := Aside0.mk H
                  clear H
                  have hnb62 := NB309_314.out
                  have hnc62 := NB314_309.out
                  obtain ⟨hcz63_0, hcz63_1, hcz63_2, hcz63_3, hfz63_0, hfz63_1, hfz63_2, hfz63_3⟩ := blk4 BK309
                  go_wp2
                  go_loopg [72] k4 (fun kq v72 w' => ∃ (x72_5 : Int), v72 = .int .i64 x72_5 ∧ Aside0 (impl_GraphOk.l1 kq l0_1 (l0_1.length : Int) x72_5 t310 t313 = some r) ∧ Aside0 (kq ≤ k4) ∧ Aside0 (Kd.V k99 99 w' w.heap.size (fun k_ => k_ ≠ gb309 ∧ k_ ≠ gb314) (.slice Ao22 t310.length co22) t310) ∧ Aside0 (w'.heap[gb309]? = some (.cells #[(.slice A0_0 l0_0.length c0_0), (.slice A0_1 l0_1.length c0_1), .int .i64 a0_2, .int .i64 a0_3] 31 (0, 0))) ∧ Aside0 (w'.heap[gb314]? = some (.cells #[(.slice Ao22 t310.length co22), .func (.func 154) #[] #[]] 110 (0, 0))) ∧ Aside0 (Below w.heap.size w w'))
                  case atStart => exact ⟨(0), sm_, H', ⟨Nat.le_refl _⟩, ⟨by (with_reducible repeat (first | apply Kd.V_alloc | apply Kd.V_drewN | apply Kd.V_drew)); first | exact HO_315000.out | exact Kd.V_mono (HO_315000.out) (fun _ h_ => by simpa only [and_assoc, and_comm, and_left_comm] using h_)⟩, ⟨by refine pe_ ?_; exact BK309.out⟩, ⟨by refine pe_ ?_; exact BK314.out⟩, ⟨bel_⟩⟩
                  case round =>
                    clear H'
                    try clear c1
                    try clear c2
                    try clear p2
                    try clear c3
                    try clear p3
                    try clear q3
                    try clear hx3
                    try clear c4
                    try clear c4b0
                    try clear c5
                    try clear c6
                    try clear c6b0
                    try clear p6
                    try clear c7
                    try clear c8
                    try clear c8b0
                    try clear c11
                    try clear c13
                    try clear c13b0
                    try clear c13b1
                    try clear c16
                    try clear c23
                    try clear c26
                    try clear c32
                    try clear p32
                    try clear q32
                    try clear hx32
                    try clear c38
                    try clear c39
                    try clear c41
                    try clear c41b0
                    try clear c42
                    try clear c42b0
                    try clear c43
                    try clear c43b0
                    try clear c45
                    try clear c47
                    try clear c49
                    try clear c50
                    try clear c54
                    try clear c55
                    try clear c59
                    try clear c60
                    try clear c62
                    try clear hcz10_0 hcz10_1 hcz10_2 hcz10_3
                    try clear hcz14_0 hcz14_1 hcz14_2 hcz14_3
                    try clear hcz15_0 hcz15_1 hcz15_2 hcz15_3
                    try clear hcz19_0 hcz19_1 hcz19_2 hcz19_3
                    try clear hcz24_0 hcz24_1
                    try clear hcz40_0 hcz40_1 hcz40_2 hcz40_3
                    try clear hcz51_0 hcz51_1 hcz51_2
                    try clear hcz56_0 hcz56_1 hcz56_2
                    try clear hcz5_0 hcz5_1 hcz5_2 hcz5_3
                    try clear hcz61_0 hcz61_1 hcz61_2
                    try clear hcz63_0 hcz63_1 hcz63_2 hcz63_3
                    try clear hcz7_0 hcz7_1 hcz7_2 hcz7_3
                    try clear hcz9_0 hcz9_1 hcz9_2 hcz9_3
                    try clear hfz10_0 hfz10_1 hfz10_2 hfz10_3
                    try clear hfz14_0 hfz14_1 hfz14_2 hfz14_3
                    try clear hfz15_0 hfz15_1 hfz15_2 hfz15_3
                    try clear hfz19_0 hfz19_1 hfz19_2 hfz19_3
                    try clear hfz24_0 hfz24_1
                    try clear hfz40_0 hfz40_1 hfz40_2 hfz40_3
                    try clear hfz51_0 hfz51_1 hfz51_2
                    try clear hfz56_0 hfz56_1 hfz56_2
                    try clear hfz5_0 hfz5_1 hfz5_2 hfz5_3
                    try clear hfz61_0 hfz61_1 hfz61_2
                    try clear hfz63_0 hfz63_1 hfz63_2 hfz63_3
                    try clear hfz7_0 hfz7_1 hfz7_2 hfz7_3
                    try clear hfz9_0 hfz9_1 hfz9_2 hfz9_3
                    try clear hx321_0
                    try clear hx321_1
                    try clear hx321_2
                    try clear p2
                    try clear p321
                    try clear q321
                    obtain ⟨x72_5, rfl, HA, HK5, HO_315000, BK309, BK314, HB⟩ := hrel
                    cases gk with
                    | zero => exact absurd HA.out (by simp [impl_GraphOk.l1])
                    | succ k5 =>
                      have H := HA.out
                      clear HA
                      simp only [impl_GraphOk.l1] at H
                      by_cases c64 : x72_5 < (l0_1.length : Int)
                      rotate_left
                      · rw [if_neg c64] at H
                        have c64b0 : decide (x72_5 < (l0_1.length : Int)) = false := decide_eq_false c64
                        clear c64
                        obtain rfl := Option.some.inj H
                        go_wp2
                        go_ret
                        exact re_
                      rw [if_pos c64] at H
                      have c64b0 : decide (x72_5 < (l0_1.length : Int)) = true := decide_eq_true c64
                      clear c64
                      by_cases c65 : 0 ≤ x72_5
                      rotate_left
                      · rw [if_neg c65] at H
                        exact absurd H (by simp)
                      rw [if_pos c65] at H
                      have c65b0 : decide (0 ≤ x72_5) = true := decide_eq_true c65
                      clear c65
                      by_cases c66 : x72_5 < (l0_1.length : Int)
                      rotate_left
                      · rw [if_neg c66] at H
                        exact absurd H (by simp)
                      rw [if_pos c66] at H
                      have c66b0 : decide (x72_5 < (l0_1.length : Int)) = true := decide_eq_true c66
                      clear c66
                      replace H := Option.bind_eq_some_iff.mp H
                      obtain ⟨t327, A670, H⟩ := H
                      replace H : (if t327 = true then ((impl_propsOk.f k5 ((rd_T104 l0_1 x72_5).f4)).bind fun t328 => (if t328 = true then ((impl_Node_place.f k5 t310 t313 ((rd_T104 l0_1 x72_5).f2)).bind fun t329 => (if t329 < 0 then (some false) else ((impl_Node_place.f k5 t310 t313 ((rd_T104 l0_1 x72_5).f3)).bind fun t330 => (if t330 < 0 then (some false) else (impl_GraphOk.l1 k5 l0_1 (l0_1.length : Int) (wrap64 (x72_5 + 1)) t310 t313))))) else (some false))) else (some false)) = some r := H
                      have A67 := Aside0.mk A670
                      clear A670
                      by_cases c68 : t327 = true
                      rotate_left
                      · replace c68 := Bool.eq_false_iff.mpr c68
                        subst c68
                        have H1 : (some false) = some r := by rw [if_neg (show ¬ (false = true) by decide)] at H; exact H
                        clear H
                        have H := H1
                        clear H1
                        obtain rfl := Option.some.inj H
                        have p325 : 0 ≤ (x72_5 : Int) := od_
                        have q325 : x72_5 < (l0_1.length : Int) := od_
                        obtain ⟨ad325, A325_4, c325_4, e325, hx325_0, hx325_1, hx325_2, hx325_3, hx325_4, hl325_4, hi325_4⟩ := at_T104 HR0_1.out x72_5 p325 q325
                        cases e325
                        replace hx325_0 := mv_ HB hx325_0
                        replace hx325_1 := mv_ HB hx325_1
                        replace hx325_2 := mv_ HB hx325_2
                        replace hx325_3 := mv_ HB hx325_3
                        replace hx325_4 := mv_ HB hx325_4
                        have HR325_4 := Aside0.mk hi325_4
                        have HC325_4 := Aside0.mk hl325_4
                        clear hi325_4 hl325_4
                        replace p325 := eq_true p325
                        replace q325 := eq_true q325
                        go_wp2_with (first | ((with_reducible refine gate_dst (N := 7) rfl ?_); (try (refine gate_guard (by rfl) ?_; dsimp only)); refine box_event ?hg (N := 7) ?hd (cs := #[.int .i64 0, .string (⟨#[]⟩ : ByteArray), .int .i64 0, .int .i64 0, .slice none 0 0]) (t := 104) ?hr ?_; (case hd => rfl); (case hg => rfl); (case hr => first | (go_simp; done) | (go_simp; rfl)); intro gb326 hg w113 hbox hb; have BK326 := Aside0.mk (hbox); have GW326 := gw_ hg; have GE326 := gw_ hg; have NB309_326 := nlt_ hg BK309; have NB326_309 := ngt_ hg BK309; have NB314_326 := nlt_ hg BK314; have NB326_314 := ngt_ hg BK314; replace HO_315000 := Aside0.mk (Kd.V_below (Kd.V_elderB (by (with_reducible repeat (first | apply Kd.V_alloc | apply Kd.V_drewN | apply Kd.V_drew)); first | exact HO_315000.out | exact Kd.V_mono (HO_315000.out) (fun _ h_ => by simpa only [and_assoc, and_comm, and_left_comm] using h_)) gb326 (Nat.le_of_eq hg.symm)) hb); replace BK309 := bb_ BK309 hb; replace BK314 := bb_ BK314 hb; replace HB := bs_ hb; clear hb hbox hg; have hnb114 := NB326_309.out; have hnc114 := NB309_326.out; have hnb115 := NB326_314.out; have hnc115 := NB314_326.out; obtain ⟨hcz116_0, hcz116_1, hcz116_2, hcz116_3, hcz116_4, hfz116_0, hfz116_1, hfz116_2, hfz116_3, hfz116_4⟩ := blk5 BK326) | ((with_reducible refine gate_callee (f := 82) rfl ?_); refine goesL_ (some 78) rfl rfl Try.func82 (by kernel_rfl) rfl #[.string ((rd_T104 l0_1 x72_5).f1)] rfl ar_ ?_; (with_reducible refine (impl_NameOk.calls k5 ((rd_T104 l0_1 x72_5).f1) false _ A67.out).mono ?_); rintro e w' ⟨rfl, ⟨nd, rfl⟩⟩; refine ⟨_, rfl, ?_⟩))
                        go_ret
                        exact re_
                      subst c68
                      have H1 : ((impl_propsOk.f k5 ((rd_T104 l0_1 x72_5).f4)).bind fun t328 => (if t328 = true then ((impl_Node_place.f k5 t310 t313 ((rd_T104 l0_1 x72_5).f2)).bind fun t329 => (if t329 < 0 then (some false) else ((impl_Node_place.f k5 t310 t313 ((rd_T104 l0_1 x72_5).f3)).bind fun t330 => (if t330 < 0 then (some false) else (impl_GraphOk.l1 k5 l0_1 (l0_1.length : Int) (wrap64 (x72_5 + 1)) t310 t313))))) else (some false))) = some r := by rw [if_pos rfl] at H; exact H
                      clear H
                      have H := H1
                      clear H1
                      replace H := Option.bind_eq_some_iff.mp H
                      obtain ⟨t328, A690, H⟩ := H
                      replace H : (if t328 = true then ((impl_Node_place.f k5 t310 t313 ((rd_T104 l0_1 x72_5).f2)).bind fun t329 => (if t329 < 0 then (some false) else ((impl_Node_place.f k5 t310 t313 ((rd_T104 l0_1 x72_5).f3)).bind fun t330 => (if t330 < 0 then (some false) else (impl_GraphOk.l1 k5 l0_1 (l0_1.length : Int) (wrap64 (x72_5 + 1)) t310 t313))))) else (some false)) = some r := H
                      have A69 := Aside0.mk A690
                      clear A690
                      by_cases c70 : t328 = true
                      rotate_left
                      · replace c70 := Bool.eq_false_iff.mpr c70
                        subst c70
                        have H1 : (some false) = some r := by rw [if_neg (show ¬ (false = true) by decide)] at H; exact H
                        clear H
                        have H := H1
                        clear H1
                        obtain rfl := Option.some.inj H
                        have p325 : 0 ≤ (x72_5 : Int) := od_
                        have q325 : x72_5 < (l0_1.length : Int) := od_
                        obtain ⟨ad325, A325_4, c325_4, e325, hx325_0, hx325_1, hx325_2, hx325_3, hx325_4, hl325_4, hi325_4⟩ := at_T104 HR0_1.out x72_5 p325 q325
                        cases e325
                        replace hx325_0 := mv_ HB hx325_0
                        replace hx325_1 := mv_ HB hx325_1
                        replace hx325_2 := mv_ HB hx325_2
                        replace hx325_3 := mv_ HB hx325_3
                        replace hx325_4 := mv_ HB hx325_4
                        have HR325_4 := Aside0.mk hi325_4
                        have HC325_4 := Aside0.mk hl325_4
                        clear hi325_4 hl325_4
                        replace p325 := eq_true p325
                        replace q325 := eq_true q325
                        go_wp2_with (first | ((with_reducible refine gate_dst (N := 7) rfl ?_); (try (refine gate_guard (by rfl) ?_; dsimp only)); refine box_event ?hg (N := 7) ?hd (cs := #[.int .i64 0, .string (⟨#[]⟩ : ByteArray), .int .i64 0, .int .i64 0, .slice none 0 0]) (t := 104) ?hr ?_; (case hd => rfl); (case hg => rfl); (case hr => first | (go_simp; done) | (go_simp; rfl)); intro gb326 hg w108 hbox hb; have BK326 := Aside0.mk (hbox); have GW326 := gw_ hg; have GE326 := gw_ hg; have NB309_326 := nlt_ hg BK309; have NB326_309 := ngt_ hg BK309; have NB314_326 := nlt_ hg BK314; have NB326_314 := ngt_ hg BK314; replace HO_315000 := Aside0.mk (Kd.V_below (Kd.V_elderB (by (with_reducible repeat (first | apply Kd.V_alloc | apply Kd.V_drewN | apply Kd.V_drew)); first | exact HO_315000.out | exact Kd.V_mono (HO_315000.out) (fun _ h_ => by simpa only [and_assoc, and_comm, and_left_comm] using h_)) gb326 (Nat.le_of_eq hg.symm)) hb); replace BK309 := bb_ BK309 hb; replace BK314 := bb_ BK314 hb; replace HB := bs_ hb; clear hb hbox hg; have hnb109 := NB326_309.out; have hnc109 := NB309_326.out; have hnb110 := NB326_314.out; have hnc110 := NB314_326.out; obtain ⟨hcz111_0, hcz111_1, hcz111_2, hcz111_3, hcz111_4, hfz111_0, hfz111_1, hfz111_2, hfz111_3, hfz111_4⟩ := blk5 BK326) | ((with_reducible refine gate_callee (f := 82) rfl ?_); refine goesL_ (some 78) rfl rfl Try.func82 (by kernel_rfl) rfl #[.string ((rd_T104 l0_1 x72_5).f1)] rfl ar_ ?_; (with_reducible refine (impl_NameOk.calls k5 ((rd_T104 l0_1 x72_5).f1) true _ A67.out).mono ?_); rintro e w' ⟨rfl, ⟨nd, rfl⟩⟩; refine ⟨_, rfl, ?_⟩) | (go_at_call 81; (with_reducible refine (impl_propsOk.calls k5 _ _ ((rd_T104 l0_1 x72_5).f4) false _ ?side1 ?side2 A69.out).mono ?_); (case side1 => exact Kd.C_below HR325_4.out (bel_)); (case side2 => exact HC325_4.out); rintro e w112 ⟨rfl, hb⟩; replace HO_315000 := Aside0.mk (Kd.V_below (by (with_reducible repeat (first | apply Kd.V_alloc | apply Kd.V_drewN | apply Kd.V_drew)); first | exact (Kd.V_mono (Kd.V_far (p := ⟨gb326, 4, none⟩) (Kd.V_far (p := ⟨gb326, 3, none⟩) (Kd.V_far (p := ⟨gb326, 2, none⟩) (Kd.V_far (p := ⟨gb326, 1, none⟩) (Kd.V_far (p := ⟨gb326, 0, none⟩) (Kd.V_mono HO_315000.out (fun k_ hk => (⟨hk, hk.2⟩ : _ ∧ k_ ≠ gb326))) (fun _ hk => hk.2) (.int .i64 ((rd_T104 l0_1 x72_5).f0))) (fun _ hk => hk.2) (.string ((rd_T104 l0_1 x72_5).f1))) (fun _ hk => hk.2) (.int .i64 ((rd_T104 l0_1 x72_5).f2))) (fun _ hk => hk.2) (.int .i64 ((rd_T104 l0_1 x72_5).f3))) (fun _ hk => hk.2) (.slice A325_4 ((rd_T104 l0_1 x72_5).f4).length c325_4)) (fun _ h_ => h_.1)) | exact Kd.V_mono ((Kd.V_mono (Kd.V_far (p := ⟨gb326, 4, none⟩) (Kd.V_far (p := ⟨gb326, 3, none⟩) (Kd.V_far (p := ⟨gb326, 2, none⟩) (Kd.V_far (p := ⟨gb326, 1, none⟩) (Kd.V_far (p := ⟨gb326, 0, none⟩) (Kd.V_mono HO_315000.out (fun k_ hk => (⟨hk, hk.2⟩ : _ ∧ k_ ≠ gb326))) (fun _ hk => hk.2) (.int .i64 ((rd_T104 l0_1 x72_5).f0))) (fun _ hk => hk.2) (.string ((rd_T104 l0_1 x72_5).f1))) (fun _ hk => hk.2) (.int .i64 ((rd_T104 l0_1 x72_5).f2))) (fun _ hk => hk.2) (.int .i64 ((rd_T104 l0_1 x72_5).f3))) (fun _ hk => hk.2) (.slice A325_4 ((rd_T104 l0_1 x72_5).f4).length c325_4)) (fun _ h_ => h_.1))) (fun _ h_ => by simpa only [and_assoc, and_comm, and_left_comm] using h_)) hb); replace BK309 := Aside0.mk (blk_below (g := gb309) (o := .cells #[.slice A0_0 l0_0.length c0_0, .slice (some ad325) l0_1.length c0_1, .int .i64 a0_2, .int .i64 a0_3] 31 (0, 0)) (by refine pe_ ?_; refine blk_far ?_ NB309_326.out _; refine pe_ ?_; refine blk_far ?_ NB309_326.out _; refine pe_ ?_; refine blk_far ?_ NB309_326.out _; refine pe_ ?_; refine blk_far ?_ NB309_326.out _; refine pe_ ?_; refine blk_far ?_ NB309_326.out _; refine pe_ ?_; exact BK309.out) hb); replace BK314 := Aside0.mk (blk_below (g := gb314) (o := .cells #[.slice Ao22 t310.length co22, .func (.func 154) #[] #[]] 110 (0, 0)) (by refine pe_ ?_; refine blk_far ?_ NB314_326.out _; refine pe_ ?_; refine blk_far ?_ NB314_326.out _; refine pe_ ?_; refine blk_far ?_ NB314_326.out _; refine pe_ ?_; refine blk_far ?_ NB314_326.out _; refine pe_ ?_; refine blk_far ?_ NB314_326.out _; refine pe_ ?_; exact BK314.out) hb); replace BK326 := Aside0.mk (blk_below (g := gb326) (o := .cells #[.int .i64 ((rd_T104 l0_1 x72_5).f0), .string ((rd_T104 l0_1 x72_5).f1), .int .i64 ((rd_T104 l0_1 x72_5).f2), .int .i64 ((rd_T104 l0_1 x72_5).f3), .slice A325_4 ((rd_T104 l0_1 x72_5).f4).length c325_4] 104 (0, 0)) (by refine pe_ ?_; refine blk_put (cs := #[.int .i64 ((rd_T104 l0_1 x72_5).f0), .string ((rd_T104 l0_1 x72_5).f1), .int .i64 ((rd_T104 l0_1 x72_5).f2), .int .i64 ((rd_T104 l0_1 x72_5).f3), .slice none 0 0]) ?_ 4 _ rfl; refine pe_ ?_; refine blk_put (cs := #[.int .i64 ((rd_T104 l0_1 x72_5).f0), .string ((rd_T104 l0_1 x72_5).f1), .int .i64 ((rd_T104 l0_1 x72_5).f2), .int .i64 0, .slice none 0 0]) ?_ 3 _ rfl; refine pe_ ?_; refine blk_put (cs := #[.int .i64 ((rd_T104 l0_1 x72_5).f0), .string ((rd_T104 l0_1 x72_5).f1), .int .i64 0, .int .i64 0, .slice none 0 0]) ?_ 2 _ rfl; refine pe_ ?_; refine blk_put (cs := #[.int .i64 ((rd_T104 l0_1 x72_5).f0), .string (⟨#[]⟩ : ByteArray), .int .i64 0, .int .i64 0, .slice none 0 0]) ?_ 1 _ rfl; refine pe_ ?_; refine blk_put (cs := #[.int .i64 0, .string (⟨#[]⟩ : ByteArray), .int .i64 0, .int .i64 0, .slice none 0 0]) ?_ 0 _ rfl; refine pe_ ?_; exact BK326.out) hb); replace HB := bs_ hb; (try clear hb); (try clear hb2); (try clear hk); (try clear hi)))
                        go_ret
                        exact re_
                      subst c70
                      have H1 : ((impl_Node_place.f k5 t310 t313 ((rd_T104 l0_1 x72_5).f2)).bind fun t329 => (if t329 < 0 then (some false) else ((impl_Node_place.f k5 t310 t313 ((rd_T104 l0_1 x72_5).f3)).bind fun t330 => (if t330 < 0 then (some false) else (impl_GraphOk.l1 k5 l0_1 (l0_1.length : Int) (wrap64 (x72_5 + 1)) t310 t313))))) = some r := by rw [if_pos rfl] at H; exact H
                      clear H
                      have H := H1
                      clear H1
                      replace H := Option.bind_eq_some_iff.mp H
                      obtain ⟨t329, A710, H⟩ := H
                      replace H : (if t329 < 0 then (some false) else ((impl_Node_place.f k5 t310 t313 ((rd_T104 l0_1 x72_5).f3)).bind fun t330 => (if t330 < 0 then (some false) else (impl_GraphOk.l1 k5 l0_1 (l0_1.length : Int) (wrap64 (x72_5 + 1)) t310 t313)))) = some r := H
                      have A71 := Aside0.mk A710
                      clear A710
                      by_cases c72 : t329 < 0
                      · rw [if_pos c72] at H
                        have c72b0 : decide (t329 < 0) = true := decide_eq_true c72
                        clear c72
                        obtain rfl := Option.some.inj H
                        have p325 : 0 ≤ (x72_5 : Int) := od_
                        have q325 : x72_5 < (l0_1.length : Int) := od_
                        obtain ⟨ad325, A325_4, c325_4, e325, hx325_0, hx325_1, hx325_2, hx325_3, hx325_4, hl325_4, hi325_4⟩ := at_T104 HR0_1.out x72_5 p325 q325
                        cases e325
                        replace hx325_0 := mv_ HB hx325_0
                        replace hx325_1 := mv_ HB hx325_1
                        replace hx325_2 := mv_ HB hx325_2
                        replace hx325_3 := mv_ HB hx325_3
                        replace hx325_4 := mv_ HB hx325_4
                        have HR325_4 := Aside0.mk hi325_4
                        have HC325_4 := Aside0.mk hl325_4
                        clear hi325_4 hl325_4
                        replace p325 := eq_true p325
                        replace q325 := eq_true q325
                        go_wp2_with (first | ((with_reducible refine gate_dst (N := 7) rfl ?_); (try (refine gate_guard (by rfl) ?_; dsimp only)); refine box_event ?hg (N := 7) ?hd (cs := #[.int .i64 0, .string (⟨#[]⟩ : ByteArray), .int .i64 0, .int .i64 0, .slice none 0 0]) (t := 104) ?hr ?_; (case hd => rfl); (case hg => rfl); (case hr => first | (go_simp; done) | (go_simp; rfl)); intro gb326 hg w73 hbox hb; have BK326 := Aside0.mk (hbox); have GW326 := gw_ hg; have GE326 := gw_ hg; have NB309_326 := nlt_ hg BK309; have NB326_309 := ngt_ hg BK309; have NB314_326 := nlt_ hg BK314; have NB326_314 := ngt_ hg BK314; replace HO_315000 := Aside0.mk (Kd.V_below (Kd.V_elderB (by (with_reducible repeat (first | apply Kd.V_alloc | apply Kd.V_drewN | apply Kd.V_drew)); first | exact HO_315000.out | exact Kd.V_mono (HO_315000.out) (fun _ h_ => by simpa only [and_assoc, and_comm, and_left_comm] using h_)) gb326 (Nat.le_of_eq hg.symm)) hb); replace BK309 := bb_ BK309 hb; replace BK314 := bb_ BK314 hb; replace HB := bs_ hb; clear hb hbox hg; have hnb74 := NB326_309.out; have hnc74 := NB309_326.out; have hnb75 := NB326_314.out; have hnc75 := NB314_326.out; obtain ⟨hcz76_0, hcz76_1, hcz76_2, hcz76_3, hcz76_4, hfz76_0, hfz76_1, hfz76_2, hfz76_3, hfz76_4⟩ := blk5 BK326) | ((with_reducible refine gate_callee (f := 82) rfl ?_); refine goesL_ (some 78) rfl rfl Try.func82 (by kernel_rfl) rfl #[.string ((rd_T104 l0_1 x72_5).f1)] rfl ar_ ?_; (with_reducible refine (impl_NameOk.calls k5 ((rd_T104 l0_1 x72_5).f1) true _ A67.out).mono ?_); rintro e w' ⟨rfl, ⟨nd, rfl⟩⟩; refine ⟨_, rfl, ?_⟩) | (go_at_call 81; (with_reducible refine (impl_propsOk.calls k5 _ _ ((rd_T104 l0_1 x72_5).f4) true _ ?side1 ?side2 A69.out).mono ?_); (case side1 => exact Kd.C_below HR325_4.out (bel_)); (case side2 => exact HC325_4.out); rintro e w77 ⟨rfl, hb⟩; replace HO_315000 := Aside0.mk (Kd.V_below (by (with_reducible repeat (first | apply Kd.V_alloc | apply Kd.V_drewN | apply Kd.V_drew)); first | exact (Kd.V_mono (Kd.V_far (p := ⟨gb326, 4, none⟩) (Kd.V_far (p := ⟨gb326, 3, none⟩) (Kd.V_far (p := ⟨gb326, 2, none⟩) (Kd.V_far (p := ⟨gb326, 1, none⟩) (Kd.V_far (p := ⟨gb326, 0, none⟩) (Kd.V_mono HO_315000.out (fun k_ hk => (⟨hk, hk.2⟩ : _ ∧ k_ ≠ gb326))) (fun _ hk => hk.2) (.int .i64 ((rd_T104 l0_1 x72_5).f0))) (fun _ hk => hk.2) (.string ((rd_T104 l0_1 x72_5).f1))) (fun _ hk => hk.2) (.int .i64 ((rd_T104 l0_1 x72_5).f2))) (fun _ hk => hk.2) (.int .i64 ((rd_T104 l0_1 x72_5).f3))) (fun _ hk => hk.2) (.slice A325_4 ((rd_T104 l0_1 x72_5).f4).length c325_4)) (fun _ h_ => h_.1)) | exact Kd.V_mono ((Kd.V_mono (Kd.V_far (p := ⟨gb326, 4, none⟩) (Kd.V_far (p := ⟨gb326, 3, none⟩) (Kd.V_far (p := ⟨gb326, 2, none⟩) (Kd.V_far (p := ⟨gb326, 1, none⟩) (Kd.V_far (p := ⟨gb326, 0, none⟩) (Kd.V_mono HO_315000.out (fun k_ hk => (⟨hk, hk.2⟩ : _ ∧ k_ ≠ gb326))) (fun _ hk => hk.2) (.int .i64 ((rd_T104 l0_1 x72_5).f0))) (fun _ hk => hk.2) (.string ((rd_T104 l0_1 x72_5).f1))) (fun _ hk => hk.2) (.int .i64 ((rd_T104 l0_1 x72_5).f2))) (fun _ hk => hk.2) (.int .i64 ((rd_T104 l0_1 x72_5).f3))) (fun _ hk => hk.2) (.slice A325_4 ((rd_T104 l0_1 x72_5).f4).length c325_4)) (fun _ h_ => h_.1))) (fun _ h_ => by simpa only [and_assoc, and_comm, and_left_comm] using h_)) hb); replace BK309 := Aside0.mk (blk_below (g := gb309) (o := .cells #[.slice A0_0 l0_0.length c0_0, .slice (some ad325) l0_1.length c0_1, .int .i64 a0_2, .int .i64 a0_3] 31 (0, 0)) (by refine pe_ ?_; refine blk_far ?_ NB309_326.out _; refine pe_ ?_; refine blk_far ?_ NB309_326.out _; refine pe_ ?_; refine blk_far ?_ NB309_326.out _; refine pe_ ?_; refine blk_far ?_ NB309_326.out _; refine pe_ ?_; refine blk_far ?_ NB309_326.out _; refine pe_ ?_; exact BK309.out) hb); replace BK314 := Aside0.mk (blk_below (g := gb314) (o := .cells #[.slice Ao22 t310.length co22, .func (.func 154) #[] #[]] 110 (0, 0)) (by refine pe_ ?_; refine blk_far ?_ NB314_326.out _; refine pe_ ?_; refine blk_far ?_ NB314_326.out _; refine pe_ ?_; refine blk_far ?_ NB314_326.out _; refine pe_ ?_; refine blk_far ?_ NB314_326.out _; refine pe_ ?_; refine blk_far ?_ NB314_326.out _; refine pe_ ?_; exact BK314.out) hb); replace BK326 := Aside0.mk (blk_below (g := gb326) (o := .cells #[.int .i64 ((rd_T104 l0_1 x72_5).f0), .string ((rd_T104 l0_1 x72_5).f1), .int .i64 ((rd_T104 l0_1 x72_5).f2), .int .i64 ((rd_T104 l0_1 x72_5).f3), .slice A325_4 ((rd_T104 l0_1 x72_5).f4).length c325_4] 104 (0, 0)) (by refine pe_ ?_; refine blk_put (cs := #[.int .i64 ((rd_T104 l0_1 x72_5).f0), .string ((rd_T104 l0_1 x72_5).f1), .int .i64 ((rd_T104 l0_1 x72_5).f2), .int .i64 ((rd_T104 l0_1 x72_5).f3), .slice none 0 0]) ?_ 4 _ rfl; refine pe_ ?_; refine blk_put (cs := #[.int .i64 ((rd_T104 l0_1 x72_5).f0), .string ((rd_T104 l0_1 x72_5).f1), .int .i64 ((rd_T104 l0_1 x72_5).f2), .int .i64 0, .slice none 0 0]) ?_ 3 _ rfl; refine pe_ ?_; refine blk_put (cs := #[.int .i64 ((rd_T104 l0_1 x72_5).f0), .string ((rd_T104 l0_1 x72_5).f1), .int .i64 0, .int .i64 0, .slice none 0 0]) ?_ 2 _ rfl; refine pe_ ?_; refine blk_put (cs := #[.int .i64 ((rd_T104 l0_1 x72_5).f0), .string (⟨#[]⟩ : ByteArray), .int .i64 0, .int .i64 0, .slice none 0 0]) ?_ 1 _ rfl; refine pe_ ?_; refine blk_put (cs := #[.int .i64 0, .string (⟨#[]⟩ : ByteArray), .int .i64 0, .int .i64 0, .slice none 0 0]) ?_ 0 _ rfl; refine pe_ ?_; exact BK326.out) hb); replace HB := bs_ hb; (try clear hb); (try clear hb2); (try clear hk); (try clear hi); have hnb78 := NB314_309.out; have hnc78 := NB309_314.out; obtain ⟨hcz79_0, hcz79_1, hfz79_0, hfz79_1⟩ := blk2 BK314; obtain ⟨hcz80_0, hcz80_1, hcz80_2, hcz80_3, hcz80_4, hfz80_0, hfz80_1, hfz80_2, hfz80_3, hfz80_4⟩ := blk5 BK326) | (go_at_call 83; (with_reducible refine (impl_Node_place.calls k5 _ _ t310 t313 ((rd_T104 l0_1 x72_5).f2) t329 _ ?side1 ?side2 A71.out).mono ?_); (case side1 => repeat (first | exact (Kd.V_reads' HO_315000.out).2.2 | (with_reducible refine Kd.C_alloc ?_ _) | (with_reducible refine Kd.C_drewN ?_ _) | (with_reducible refine Kd.C_drew ?_))); (case side2 => exact (Kd.V_reads' HO_315000.out).2.1); rintro e w81 ⟨rfl, hb⟩; replace HO_315000 := Aside0.mk (Kd.V_below (by (with_reducible repeat (first | apply Kd.V_alloc | apply Kd.V_drewN | apply Kd.V_drew)); first | exact HO_315000.out | exact Kd.V_mono (HO_315000.out) (fun _ h_ => by simpa only [and_assoc, and_comm, and_left_comm] using h_)) hb); replace BK309 := bb_ BK309 hb; replace BK314 := bb_ BK314 hb; replace BK326 := bb_ BK326 hb; replace HB := bs_ hb; (try clear hb); (try clear hb2); (try clear hk); (try clear hi)))
                        go_ret
                        exact re_
                      rw [if_neg c72] at H
                      have c72b0 : decide (t329 < 0) = false := decide_eq_false c72
                      clear c72
                      replace H := Option.bind_eq_some_iff.mp H
                      obtain ⟨t330, A820, H⟩ := H
                      replace H : (if t330 < 0 then (some false) else (impl_GraphOk.l1 k5 l0_1 (l0_1.length : Int) (wrap64 (x72_5 + 1)) t310 t313)) = some r := H
                      have A82 := Aside0.mk A820
                      clear A820
                      by_cases c83 : t330 < 0
                      · rw [if_pos c83] at H
                        have c83b0 : decide (t330 < 0) = true := decide_eq_true c83
                        clear c83
                        obtain rfl := Option.some.inj H
                        have p325 : 0 ≤ (x72_5 : Int) := od_
                        have q325 : x72_5 < (l0_1.length : Int) := od_
                        obtain ⟨ad325, A325_4, c325_4, e325, hx325_0, hx325_1, hx325_2, hx325_3, hx325_4, hl325_4, hi325_4⟩ := at_T104 HR0_1.out x72_5 p325 q325
                        cases e325
                        replace hx325_0 := mv_ HB hx325_0
                        replace hx325_1 := mv_ HB hx325_1
                        replace hx325_2 := mv_ HB hx325_2
                        replace hx325_3 := mv_ HB hx325_3
                        replace hx325_4 := mv_ HB hx325_4
                        have HR325_4 := Aside0.mk hi325_4
                        have HC325_4 := Aside0.mk hl325_4
                        clear hi325_4 hl325_4
                        replace p325 := eq_true p325
                        replace q325 := eq_true q325
                        go_wp2_with (first | ((with_reducible refine gate_dst (N := 7) rfl ?_); (try (refine gate_guard (by rfl) ?_; dsimp only)); refine box_event ?hg (N := 7) ?hd (cs := #[.int .i64 0, .string (⟨#[]⟩ : ByteArray), .int .i64 0, .int .i64 0, .slice none 0 0]) (t := 104) ?hr ?_; (case hd => rfl); (case hg => rfl); (case hr => first | (go_simp; done) | (go_simp; rfl)); intro gb326 hg w84 hbox hb; have BK326 := Aside0.mk (hbox); have GW326 := gw_ hg; have GE326 := gw_ hg; have NB309_326 := nlt_ hg BK309; have NB326_309 := ngt_ hg BK309; have NB314_326 := nlt_ hg BK314; have NB326_314 := ngt_ hg BK314; replace HO_315000 := Aside0.mk (Kd.V_below (Kd.V_elderB (by (with_reducible repeat (first | apply Kd.V_alloc | apply Kd.V_drewN | apply Kd.V_drew)); first | exact HO_315000.out | exact Kd.V_mono (HO_315000.out) (fun _ h_ => by simpa only [and_assoc, and_comm, and_left_comm] using h_)) gb326 (Nat.le_of_eq hg.symm)) hb); replace BK309 := bb_ BK309 hb; replace BK314 := bb_ BK314 hb; replace HB := bs_ hb; clear hb hbox hg; have hnb85 := NB326_309.out; have hnc85 := NB309_326.out; have hnb86 := NB326_314.out; have hnc86 := NB314_326.out; obtain ⟨hcz87_0, hcz87_1, hcz87_2, hcz87_3, hcz87_4, hfz87_0, hfz87_1, hfz87_2, hfz87_3, hfz87_4⟩ := blk5 BK326) | ((with_reducible refine gate_callee (f := 82) rfl ?_); refine goesL_ (some 78) rfl rfl Try.func82 (by kernel_rfl) rfl #[.string ((rd_T104 l0_1 x72_5).f1)] rfl ar_ ?_; (with_reducible refine (impl_NameOk.calls k5 ((rd_T104 l0_1 x72_5).f1) true _ A67.out).mono ?_); rintro e w' ⟨rfl, ⟨nd, rfl⟩⟩; refine ⟨_, rfl, ?_⟩) | (go_at_call 81; (with_reducible refine (impl_propsOk.calls k5 _ _ ((rd_T104 l0_1 x72_5).f4) true _ ?side1 ?side2 A69.out).mono ?_); (case side1 => exact Kd.C_below HR325_4.out (bel_)); (case side2 => exact HC325_4.out); rintro e w88 ⟨rfl, hb⟩; replace HO_315000 := Aside0.mk (Kd.V_below (by (with_reducible repeat (first | apply Kd.V_alloc | apply Kd.V_drewN | apply Kd.V_drew)); first | exact (Kd.V_mono (Kd.V_far (p := ⟨gb326, 4, none⟩) (Kd.V_far (p := ⟨gb326, 3, none⟩) (Kd.V_far (p := ⟨gb326, 2, none⟩) (Kd.V_far (p := ⟨gb326, 1, none⟩) (Kd.V_far (p := ⟨gb326, 0, none⟩) (Kd.V_mono HO_315000.out (fun k_ hk => (⟨hk, hk.2⟩ : _ ∧ k_ ≠ gb326))) (fun _ hk => hk.2) (.int .i64 ((rd_T104 l0_1 x72_5).f0))) (fun _ hk => hk.2) (.string ((rd_T104 l0_1 x72_5).f1))) (fun _ hk => hk.2) (.int .i64 ((rd_T104 l0_1 x72_5).f2))) (fun _ hk => hk.2) (.int .i64 ((rd_T104 l0_1 x72_5).f3))) (fun _ hk => hk.2) (.slice A325_4 ((rd_T104 l0_1 x72_5).f4).length c325_4)) (fun _ h_ => h_.1)) | exact Kd.V_mono ((Kd.V_mono (Kd.V_far (p := ⟨gb326, 4, none⟩) (Kd.V_far (p := ⟨gb326, 3, none⟩) (Kd.V_far (p := ⟨gb326, 2, none⟩) (Kd.V_far (p := ⟨gb326, 1, none⟩) (Kd.V_far (p := ⟨gb326, 0, none⟩) (Kd.V_mono HO_315000.out (fun k_ hk => (⟨hk, hk.2⟩ : _ ∧ k_ ≠ gb326))) (fun _ hk => hk.2) (.int .i64 ((rd_T104 l0_1 x72_5).f0))) (fun _ hk => hk.2) (.string ((rd_T104 l0_1 x72_5).f1))) (fun _ hk => hk.2) (.int .i64 ((rd_T104 l0_1 x72_5).f2))) (fun _ hk => hk.2) (.int .i64 ((rd_T104 l0_1 x72_5).f3))) (fun _ hk => hk.2) (.slice A325_4 ((rd_T104 l0_1 x72_5).f4).length c325_4)) (fun _ h_ => h_.1))) (fun _ h_ => by simpa only [and_assoc, and_comm, and_left_comm] using h_)) hb); replace BK309 := Aside0.mk (blk_below (g := gb309) (o := .cells #[.slice A0_0 l0_0.length c0_0, .slice (some ad325) l0_1.length c0_1, .int .i64 a0_2, .int .i64 a0_3] 31 (0, 0)) (by refine pe_ ?_; refine blk_far ?_ NB309_326.out _; refine pe_ ?_; refine blk_far ?_ NB309_326.out _; refine pe_ ?_; refine blk_far ?_ NB309_326.out _; refine pe_ ?_; refine blk_far ?_ NB309_326.out _; refine pe_ ?_; refine blk_far ?_ NB309_326.out _; refine pe_ ?_; exact BK309.out) hb); replace BK314 := Aside0.mk (blk_below (g := gb314) (o := .cells #[.slice Ao22 t310.length co22, .func (.func 154) #[] #[]] 110 (0, 0)) (by refine pe_ ?_; refine blk_far ?_ NB314_326.out _; refine pe_ ?_; refine blk_far ?_ NB314_326.out _; refine pe_ ?_; refine blk_far ?_ NB314_326.out _; refine pe_ ?_; refine blk_far ?_ NB314_326.out _; refine pe_ ?_; refine blk_far ?_ NB314_326.out _; refine pe_ ?_; exact BK314.out) hb); replace BK326 := Aside0.mk (blk_below (g := gb326) (o := .cells #[.int .i64 ((rd_T104 l0_1 x72_5).f0), .string ((rd_T104 l0_1 x72_5).f1), .int .i64 ((rd_T104 l0_1 x72_5).f2), .int .i64 ((rd_T104 l0_1 x72_5).f3), .slice A325_4 ((rd_T104 l0_1 x72_5).f4).length c325_4] 104 (0, 0)) (by refine pe_ ?_; refine blk_put (cs := #[.int .i64 ((rd_T104 l0_1 x72_5).f0), .string ((rd_T104 l0_1 x72_5).f1), .int .i64 ((rd_T104 l0_1 x72_5).f2), .int .i64 ((rd_T104 l0_1 x72_5).f3), .slice none 0 0]) ?_ 4 _ rfl; refine pe_ ?_; refine blk_put (cs := #[.int .i64 ((rd_T104 l0_1 x72_5).f0), .string ((rd_T104 l0_1 x72_5).f1), .int .i64 ((rd_T104 l0_1 x72_5).f2), .int .i64 0, .slice none 0 0]) ?_ 3 _ rfl; refine pe_ ?_; refine blk_put (cs := #[.int .i64 ((rd_T104 l0_1 x72_5).f0), .string ((rd_T104 l0_1 x72_5).f1), .int .i64 0, .int .i64 0, .slice none 0 0]) ?_ 2 _ rfl; refine pe_ ?_; refine blk_put (cs := #[.int .i64 ((rd_T104 l0_1 x72_5).f0), .string (⟨#[]⟩ : ByteArray), .int .i64 0, .int .i64 0, .slice none 0 0]) ?_ 1 _ rfl; refine pe_ ?_; refine blk_put (cs := #[.int .i64 0, .string (⟨#[]⟩ : ByteArray), .int .i64 0, .int .i64 0, .slice none 0 0]) ?_ 0 _ rfl; refine pe_ ?_; exact BK326.out) hb); replace HB := bs_ hb; (try clear hb); (try clear hb2); (try clear hk); (try clear hi); have hnb89 := NB314_309.out; have hnc89 := NB309_314.out; obtain ⟨hcz90_0, hcz90_1, hfz90_0, hfz90_1⟩ := blk2 BK314; obtain ⟨hcz91_0, hcz91_1, hcz91_2, hcz91_3, hcz91_4, hfz91_0, hfz91_1, hfz91_2, hfz91_3, hfz91_4⟩ := blk5 BK326) | (go_at_call 83; (with_reducible refine (impl_Node_place.calls k5 _ _ t310 t313 ((rd_T104 l0_1 x72_5).f2) t329 _ ?side1 ?side2 A71.out).mono ?_); (case side1 => repeat (first | exact (Kd.V_reads' HO_315000.out).2.2 | (with_reducible refine Kd.C_alloc ?_ _) | (with_reducible refine Kd.C_drewN ?_ _) | (with_reducible refine Kd.C_drew ?_))); (case side2 => exact (Kd.V_reads' HO_315000.out).2.1); rintro e w92 ⟨rfl, hb⟩; replace HO_315000 := Aside0.mk (Kd.V_below (by (with_reducible repeat (first | apply Kd.V_alloc | apply Kd.V_drewN | apply Kd.V_drew)); first | exact HO_315000.out | exact Kd.V_mono (HO_315000.out) (fun _ h_ => by simpa only [and_assoc, and_comm, and_left_comm] using h_)) hb); replace BK309 := bb_ BK309 hb; replace BK314 := bb_ BK314 hb; replace BK326 := bb_ BK326 hb; replace HB := bs_ hb; (try clear hb); (try clear hb2); (try clear hk); (try clear hi); obtain ⟨hcz93_0, hcz93_1, hfz93_0, hfz93_1⟩ := blk2 BK314; obtain ⟨hcz94_0, hcz94_1, hcz94_2, hcz94_3, hcz94_4, hfz94_0, hfz94_1, hfz94_2, hfz94_3, hfz94_4⟩ := blk5 BK326) | (go_at_call 83; (with_reducible refine (impl_Node_place.calls k5 _ _ t310 t313 ((rd_T104 l0_1 x72_5).f3) t330 _ ?side1 ?side2 A82.out).mono ?_); (case side1 => repeat (first | exact (Kd.V_reads' HO_315000.out).2.2 | (with_reducible refine Kd.C_alloc ?_ _) | (with_reducible refine Kd.C_drewN ?_ _) | (with_reducible refine Kd.C_drew ?_))); (case side2 => exact (Kd.V_reads' HO_315000.out).2.1); rintro e w95 ⟨rfl, hb⟩; replace HO_315000 := Aside0.mk (Kd.V_below (by (with_reducible repeat (first | apply Kd.V_alloc | apply Kd.V_drewN | apply Kd.V_drew)); first | exact HO_315000.out | exact Kd.V_mono (HO_315000.out) (fun _ h_ => by simpa only [and_assoc, and_comm, and_left_comm] using h_)) hb); replace BK309 := bb_ BK309 hb; replace BK314 := bb_ BK314 hb; replace BK326 := bb_ BK326 hb; replace HB := bs_ hb; (try clear hb); (try clear hb2); (try clear hk); (try clear hi)))
                        go_ret
                        exact re_
                      rw [if_neg c83] at H
                      have c83b0 : decide (t330 < 0) = false := decide_eq_false c83
                      clear c83
                      have H' := Aside0.mk H
                      clear H
                      have p325 : 0 ≤ (x72_5 : Int) := od_
                      have q325 : x72_5 < (l0_1.length : Int) := od_
                      obtain ⟨ad325, A325_4, c325_4, e325, hx325_0, hx325_1, hx325_2, hx325_3, hx325_4, hl325_4, hi325_4⟩ := at_T104 HR0_1.out x72_5 p325 q325
                      cases e325
                      replace hx325_0 := mv_ HB hx325_0
                      replace hx325_1 := mv_ HB hx325_1
                      replace hx325_2 := mv_ HB hx325_2
                      replace hx325_3 := mv_ HB hx325_3
                      replace hx325_4 := mv_ HB hx325_4
                      have HR325_4 := Aside0.mk hi325_4
                      have HC325_4 := Aside0.mk hl325_4
                      clear hi325_4 hl325_4
                      replace p325 := eq_true p325
                      replace q325 := eq_true q325
                      go_wp2_with (first | ((with_reducible refine gate_dst (N := 7) rfl ?_); (try (refine gate_guard (by rfl) ?_; dsimp only)); refine box_event ?hg (N := 7) ?hd (cs := #[.int .i64 0, .string (⟨#[]⟩ : ByteArray), .int .i64 0, .int .i64 0, .slice none 0 0]) (t := 104) ?hr ?_; (case hd => rfl); (case hg => rfl); (case hr => first | (go_simp; done) | (go_simp; rfl)); intro gb326 hg w96 hbox hb; have BK326 := Aside0.mk (hbox); have GW326 := gw_ hg; have GE326 := gw_ hg; have NB309_326 := nlt_ hg BK309; have NB326_309 := ngt_ hg BK309; have NB314_326 := nlt_ hg BK314; have NB326_314 := ngt_ hg BK314; replace HO_315000 := Aside0.mk (Kd.V_below (Kd.V_elderB (by (with_reducible repeat (first | apply Kd.V_alloc | apply Kd.V_drewN | apply Kd.V_drew)); first | exact HO_315000.out | exact Kd.V_mono (HO_315000.out) (fun _ h_ => by simpa only [and_assoc, and_comm, and_left_comm] using h_)) gb326 (Nat.le_of_eq hg.symm)) hb); replace BK309 := bb_ BK309 hb; replace BK314 := bb_ BK314 hb; replace HB := bs_ hb; clear hb hbox hg; have hnb97 := NB326_309.out; have hnc97 := NB309_326.out; have hnb98 := NB326_314.out; have hnc98 := NB314_326.out; obtain ⟨hcz99_0, hcz99_1, hcz99_2, hcz99_3, hcz99_4, hfz99_0, hfz99_1, hfz99_2, hfz99_3, hfz99_4⟩ := blk5 BK326) | ((with_reducible refine gate_callee (f := 82) rfl ?_); refine goesL_ (some 78) rfl rfl Try.func82 (by kernel_rfl) rfl #[.string ((rd_T104 l0_1 x72_5).f1)] rfl ar_ ?_; (with_reducible refine (impl_NameOk.calls k5 ((rd_T104 l0_1 x72_5).f1) true _ A67.out).mono ?_); rintro e w' ⟨rfl, ⟨nd, rfl⟩⟩; refine ⟨_, rfl, ?_⟩) | (go_at_call 81; (with_reducible refine (impl_propsOk.calls k5 _ _ ((rd_T104 l0_1 x72_5).f4) true _ ?side1 ?side2 A69.out).mono ?_); (case side1 => exact Kd.C_below HR325_4.out (bel_)); (case side2 => exact HC325_4.out); rintro e w100 ⟨rfl, hb⟩; replace HO_315000 := Aside0.mk (Kd.V_below (by (with_reducible repeat (first | apply Kd.V_alloc | apply Kd.V_drewN | apply Kd.V_drew)); first | exact (Kd.V_mono (Kd.V_far (p := ⟨gb326, 4, none⟩) (Kd.V_far (p := ⟨gb326, 3, none⟩) (Kd.V_far (p := ⟨gb326, 2, none⟩) (Kd.V_far (p := ⟨gb326, 1, none⟩) (Kd.V_far (p := ⟨gb326, 0, none⟩) (Kd.V_mono HO_315000.out (fun k_ hk => (⟨hk, hk.2⟩ : _ ∧ k_ ≠ gb326))) (fun _ hk => hk.2) (.int .i64 ((rd_T104 l0_1 x72_5).f0))) (fun _ hk => hk.2) (.string ((rd_T104 l0_1 x72_5).f1))) (fun _ hk => hk.2) (.int .i64 ((rd_T104 l0_1 x72_5).f2))) (fun _ hk => hk.2) (.int .i64 ((rd_T104 l0_1 x72_5).f3))) (fun _ hk => hk.2) (.slice A325_4 ((rd_T104 l0_1 x72_5).f4).length c325_4)) (fun _ h_ => h_.1)) | exact Kd.V_mono ((Kd.V_mono (Kd.V_far (p := ⟨gb326, 4, none⟩) (Kd.V_far (p := ⟨gb326, 3, none⟩) (Kd.V_far (p := ⟨gb326, 2, none⟩) (Kd.V_far (p := ⟨gb326, 1, none⟩) (Kd.V_far (p := ⟨gb326, 0, none⟩) (Kd.V_mono HO_315000.out (fun k_ hk => (⟨hk, hk.2⟩ : _ ∧ k_ ≠ gb326))) (fun _ hk => hk.2) (.int .i64 ((rd_T104 l0_1 x72_5).f0))) (fun _ hk => hk.2) (.string ((rd_T104 l0_1 x72_5).f1))) (fun _ hk => hk.2) (.int .i64 ((rd_T104 l0_1 x72_5).f2))) (fun _ hk => hk.2) (.int .i64 ((rd_T104 l0_1 x72_5).f3))) (fun _ hk => hk.2) (.slice A325_4 ((rd_T104 l0_1 x72_5).f4).length c325_4)) (fun _ h_ => h_.1))) (fun _ h_ => by simpa only [and_assoc, and_comm, and_left_comm] using h_)) hb); replace BK309 := Aside0.mk (blk_below (g := gb309) (o := .cells #[.slice A0_0 l0_0.length c0_0, .slice (some ad325) l0_1.length c0_1, .int .i64 a0_2, .int .i64 a0_3] 31 (0, 0)) (by refine pe_ ?_; refine blk_far ?_ NB309_326.out _; refine pe_ ?_; refine blk_far ?_ NB309_326.out _; refine pe_ ?_; refine blk_far ?_ NB309_326.out _; refine pe_ ?_; refine blk_far ?_ NB309_326.out _; refine pe_ ?_; refine blk_far ?_ NB309_326.out _; refine pe_ ?_; exact BK309.out) hb); replace BK314 := Aside0.mk (blk_below (g := gb314) (o := .cells #[.slice Ao22 t310.length co22, .func (.func 154) #[] #[]] 110 (0, 0)) (by refine pe_ ?_; refine blk_far ?_ NB314_326.out _; refine pe_ ?_; refine blk_far ?_ NB314_326.out _; refine pe_ ?_; refine blk_far ?_ NB314_326.out _; refine pe_ ?_; refine blk_far ?_ NB314_326.out _; refine pe_ ?_; refine blk_far ?_ NB314_326.out _; refine pe_ ?_; exact BK314.out) hb); replace BK326 := Aside0.mk (blk_below (g := gb326) (o := .cells #[.int .i64 ((rd_T104 l0_1 x72_5).f0), .string ((rd_T104 l0_1 x72_5).f1), .int .i64 ((rd_T104 l0_1 x72_5).f2), .int .i64 ((rd_T104 l0_1 x72_5).f3), .slice A325_4 ((rd_T104 l0_1 x72_5).f4).length c325_4] 104 (0, 0)) (by refine pe_ ?_; refine blk_put (cs := #[.int .i64 ((rd_T104 l0_1 x72_5).f0), .string ((rd_T104 l0_1 x72_5).f1), .int .i64 ((rd_T104 l0_1 x72_5).f2), .int .i64 ((rd_T104 l0_1 x72_5).f3), .slice none 0 0]) ?_ 4 _ rfl; refine pe_ ?_; refine blk_put (cs := #[.int .i64 ((rd_T104 l0_1 x72_5).f0), .string ((rd_T104 l0_1 x72_5).f1), .int .i64 ((rd_T104 l0_1 x72_5).f2), .int .i64 0, .slice none 0 0]) ?_ 3 _ rfl; refine pe_ ?_; refine blk_put (cs := #[.int .i64 ((rd_T104 l0_1 x72_5).f0), .string ((rd_T104 l0_1 x72_5).f1), .int .i64 0, .int .i64 0, .slice none 0 0]) ?_ 2 _ rfl; refine pe_ ?_; refine blk_put (cs := #[.int .i64 ((rd_T104 l0_1 x72_5).f0), .string (⟨#[]⟩ : ByteArray), .int .i64 0, .int .i64 0, .slice none 0 0]) ?_ 1 _ rfl; refine pe_ ?_; refine blk_put (cs := #[.int .i64 0, .string (⟨#[]⟩ : ByteArray), .int .i64 0, .int .i64 0, .slice none 0 0]) ?_ 0 _ rfl; refine pe_ ?_; exact BK326.out) hb); replace HB := bs_ hb; (try clear hb); (try clear hb2); (try clear hk); (try clear hi); have hnb101 := NB314_309.out; have hnc101 := NB309_314.out; obtain ⟨hcz102_0, hcz102_1, hfz102_0, hfz102_1⟩ := blk2 BK314; obtain ⟨hcz103_0, hcz103_1, hcz103_2, hcz103_3, hcz103_4, hfz103_0, hfz103_1, hfz103_2, hfz103_3, hfz103_4⟩ := blk5 BK326) | (go_at_call 83; (with_reducible refine (impl_Node_place.calls k5 _ _ t310 t313 ((rd_T104 l0_1 x72_5).f2) t329 _ ?side1 ?side2 A71.out).mono ?_); (case side1 => repeat (first | exact (Kd.V_reads' HO_315000.out).2.2 | (with_reducible refine Kd.C_alloc ?_ _) | (with_reducible refine Kd.C_drewN ?_ _) | (with_reducible refine Kd.C_drew ?_))); (case side2 => exact (Kd.V_reads' HO_315000.out).2.1); rintro e w104 ⟨rfl, hb⟩; replace HO_315000 := Aside0.mk (Kd.V_below (by (with_reducible repeat (first | apply Kd.V_alloc | apply Kd.V_drewN | apply Kd.V_drew)); first | exact HO_315000.out | exact Kd.V_mono (HO_315000.out) (fun _ h_ => by simpa only [and_assoc, and_comm, and_left_comm] using h_)) hb); replace BK309 := bb_ BK309 hb; replace BK314 := bb_ BK314 hb; replace BK326 := bb_ BK326 hb; replace HB := bs_ hb; (try clear hb); (try clear hb2); (try clear hk); (try clear hi); obtain ⟨hcz105_0, hcz105_1, hfz105_0, hfz105_1⟩ := blk2 BK314; obtain ⟨hcz106_0, hcz106_1, hcz106_2, hcz106_3, hcz106_4, hfz106_0, hfz106_1, hfz106_2, hfz106_3, hfz106_4⟩ := blk5 BK326) | (go_at_call 83; (with_reducible refine (impl_Node_place.calls k5 _ _ t310 t313 ((rd_T104 l0_1 x72_5).f3) t330 _ ?side1 ?side2 A82.out).mono ?_); (case side1 => repeat (first | exact (Kd.V_reads' HO_315000.out).2.2 | (with_reducible refine Kd.C_alloc ?_ _) | (with_reducible refine Kd.C_drewN ?_ _) | (with_reducible refine Kd.C_drew ?_))); (case side2 => exact (Kd.V_reads' HO_315000.out).2.1); rintro e w107 ⟨rfl, hb⟩; replace HO_315000 := Aside0.mk (Kd.V_below (by (with_reducible repeat (first | apply Kd.V_alloc | apply Kd.V_drewN | apply Kd.V_drew)); first | exact HO_315000.out | exact Kd.V_mono (HO_315000.out) (fun _ h_ => by simpa only [and_assoc, and_comm, and_left_comm] using h_)) hb); replace BK309 := bb_ BK309 hb; replace BK314 := bb_ BK314 hb; replace BK326 := bb_ BK326 hb; replace HB := bs_ hb; (try clear hb); (try clear hb2); (try clear hk); (try clear hi)))
                      go_roundg k5
                      case measure => have := HJ1.out; have := HJ11.out; have := HJ17.out; have := HK4.out; have := HK5.out; omega
                      case rel => exact ⟨(wrap64 (x72_5 + 1)), sm_, H', ⟨by have := HJ1.out; have := HJ11.out; have := HJ17.out; have := HK4.out; have := HK5.out; omega⟩, ⟨by (with_reducible repeat (first | apply Kd.V_alloc | apply Kd.V_drewN | apply Kd.V_drew)); first | exact Kd.V_mono HO_315000.out (fun _ hk => ⟨hk.1.1, hk.1.2⟩) | exact Kd.V_mono (Kd.V_mono HO_315000.out (fun _ hk => ⟨hk.1.1, hk.1.2⟩)) (fun _ h_ => by simpa only [and_assoc, and_comm, and_left_comm] using h_)⟩, ⟨by refine pe_ ?_; exact BK309.out⟩, ⟨by refine pe_ ?_; exact BK314.out⟩, ⟨bel_⟩⟩

end Go.Proofs.Ytcchmhmbjhgfdaa.G
