import Derived.Test.YtcchmhmbjhgfdaaY3
import Derived.Test.YtcchmhmbjhgfdaaY18
import Derived.Test.YtcchmhmbjhgfdaaY20
import Derived.Test.YtcchmhmbjhgfdaaY21
namespace Go.Proofs.Ytcchmhmbjhgfdaa.G
open Go.RowKit Go.Proofs.YtcchmhmbjhgfdaaW.PrintWords Go.Proofs.YtcchmhmbjhgfdaaW.PrintLast Go.Proofs.YtcchmhmbjhgfdaaW.PrintMore
attribute [local go_sem] max2_int min2_int max_two min_two max_three min_three max_four min_four Own.str_gtr Own.str_leq Own.str_geq Own.sto_fn   -- for this text's walks alone
open Own
set_option linter.unusedVariables false
set_option linter.unusedSimpArgs false
mutual
def impl_FindBy.j0 : Nat → ByteArray → ByteArray → Bool → List (S99) → List (S104) → Int → Int → Int → Int → ByteArray → List (S49) → Option (List Int)
  | 0, _, _, _, _, _, _, _, _, _, _, _ => none
  | k + 1, x1, x2, x28, x102000, x102001, x102002, x102003, x103000, x103001, x103002, x103003 => if x28 = true then (some ([] : List Int)) else (impl_FindBy.l0 k x1 x2 ([] : List Int) x102000 (x102000.length : Int) 0 x103000 x103001 x103002 x103003)
def impl_FindBy.l0 : Nat → ByteArray → ByteArray → List Int → List (S99) → Int → Int → Int → Int → ByteArray → List (S49) → Option (List Int)
  | 0, _, _, _, _, _, _, _, _, _, _ => none
  | k + 1, x1, x2, x9, x30, x31, x32, x103000, x103001, x103002, x103003 => if x32 < x31 then (if 0 ≤ x32 then (if x32 < (x30.length : Int) then ((impl_hasLabel.f k ((rd_T99 x30 x32).f0) ((rd_T99 x30 x32).f1) ((rd_T99 x30 x32).f2) x1).bind fun t107 => (if t107 = true then ((impl_propOf.f k ((rd_T99 x30 x32).f2) x2).bind fun bt108 => ((impl_sameOf.f k bt108.1 bt108.2.1 bt108.2.2.1 bt108.2.2.2 x103000 x103001 x103002 x103003).bind fun t114 => (if t114 = true then (if x9.length < 17592186044416 then (impl_FindBy.l0 k x1 x2 (x9 ++ [(rd_T99 x30 x32).f0]) x30 x31 (wrap64 (x32 + 1)) x103000 x103001 x103002 x103003) else (none)) else (impl_FindBy.l0 k x1 x2 x9 x30 x31 (wrap64 (x32 + 1)) x103000 x103001 x103002 x103003)))) else (impl_FindBy.l0 k x1 x2 x9 x30 x31 (wrap64 (x32 + 1)) x103000 x103001 x103002 x103003))) else (none)) else (none)) else (some x9)
end
def impl_FindBy.f (k : Nat) (l0_0 : List (S99)) (l0_1 : List (S104)) (a0_2 : Int) (a0_3 : Int) (a1 : ByteArray) (a2 : ByteArray) (a3_0 : Int) (a3_1 : Int) (a3_2 : ByteArray) (l3_3 : List (S49)) : Option (List Int) := (impl_GraphOk.f k l0_0 l0_1 a0_2 a0_3).bind fun t103 => (if t103 = true then ((impl_ValueOk.f k a3_0 a3_1 a3_2 l3_3).bind fun t104 => (if t104 = true then (if a1.toList = ([] : List UInt8) then (impl_FindBy.j0 k a1 a2 true l0_0 l0_1 a0_2 a0_3 a3_0 a3_1 a3_2 l3_3) else (impl_FindBy.j0 k a1 a2 (a3_0 == 0) l0_0 l0_1 a0_2 a0_3 a3_0 a3_1 a3_2 l3_3)) else (impl_FindBy.j0 k a1 a2 true l0_0 l0_1 a0_2 a0_3 a3_0 a3_1 a3_2 l3_3))) else (impl_FindBy.j0 k a1 a2 true l0_0 l0_1 a0_2 a0_3 a3_0 a3_1 a3_2 l3_3))
def impl_FindBy.T7 : Bool × List (List Nat × List Nat) := (true, [([], []), ([], []), ([0, 1], [0, 1]), ([2, 2], [2]), ([3], [3]), ([4, 3], [3, 4]), ([3], [3]), ([5, 6, 3, 3], [3, 5, 6]), ([3], [3]), ([7, 8, 7, 3], [3, 7, 8]), ([3, 9], [3, 9])])
def impl_FindBy.B7 : List Nat := [0, 0, 3, 7, 15, 31, 15, 127, 15, 511, 1023]
theorem impl_FindBy.tab7 : rtab .any (opsOf Try.f36 7) = impl_FindBy.T7 := by kernel_rfl
theorem impl_FindBy.bits7 : waitsOk impl_FindBy.T7.2 impl_FindBy.B7 = true := by kernel_rfl
set_option maxHeartbeats 8000000 in
set_option maxRecDepth 100000 in
theorem impl_FindBy.calls (k : Nat) (A0_0 : Option Addr) (c0_0 : Nat) (l0_0 : List (S99)) (A0_1 : Option Addr) (c0_1 : Nat) (l0_1 : List (S104)) (a0_2 : Int) (a0_3 : Int) (a1 : ByteArray) (a2 : ByteArray) (a3_0 : Int) (a3_1 : Int) (a3_2 : ByteArray) (A3_3 : Option Addr) (c3_3 : Nat) (l3_3 : List (S49)) (r : List Int) (w : World) (hr0_0 : Kd.C k99 w A0_0 l0_0.length l0_0) (hc0_0 : l0_0.length ≤ c0_0) (hr0_1 : Kd.C k104 w A0_1 l0_1.length l0_1) (hc0_1 : l0_1.length ≤ c0_1) (hr3_3 : Kd.C k49 w A3_3 l3_3.length l3_3) (hc3_3 : l3_3.length ≤ c3_3) (h : impl_FindBy.f k l0_0 l0_1 a0_2 a0_3 a1 a2 a3_0 a3_1 a3_2 l3_3 = some r) :
    Calls Try.prog 36 #[.agg #[.slice A0_0 l0_0.length c0_0, .slice A0_1 l0_1.length c0_1, .int .i64 a0_2, .int .i64 a0_3], .string a1, .string a2, .agg #[.int .i64 a3_0, .int .i64 a3_1, .string a3_2, .slice A3_3 l3_3.length c3_3]] w fun e w' => ∃ v0_ : Value, e = .returned (v0_) ∧ Kd.R (Kd.int .i64) 3 w' w.heap.size (fun _ => True) v0_ r ∧ Below w.heap.size w w' := by
  have hu31 := Try.underlying31; have hu49 := Try.underlying49; have hu99 := Try.underlying99; have HR0_0 := Aside0.mk hr0_0; have HC0_0 := Aside0.mk hc0_0; clear hr0_0 hc0_0; have HR0_1 := Aside0.mk hr0_1; have HC0_1 := Aside0.mk hc0_1; clear hr0_1 hc0_1; have HR3_3 := Aside0.mk hr3_3; have HC3_3 := Aside0.mk hc3_3; clear hr3_3 hc3_3; have HB := Aside0.mk (Below.refl w.heap.size w); have H : ((impl_GraphOk.f k l0_0 l0_1 a0_2 a0_3).bind fun t103 => (if t103 = true then ((impl_ValueOk.f k a3_0 a3_1 a3_2 l3_3).bind fun t104 => (if t104 = true then (if a1.toList = ([] : List UInt8) then (impl_FindBy.j0 k a1 a2 true l0_0 l0_1 a0_2 a0_3 a3_0 a3_1 a3_2 l3_3) else (impl_FindBy.j0 k a1 a2 (a3_0 == 0) l0_0 l0_1 a0_2 a0_3 a3_0 a3_1 a3_2 l3_3)) else (impl_FindBy.j0 k a1 a2 true l0_0 l0_1 a0_2 a0_3 a3_0 a3_1 a3_2 l3_3))) else (impl_FindBy.j0 k a1 a2 true l0_0 l0_1 a0_2 a0_3 a3_0 a3_1 a3_2 l3_3))) = some r := h; clear h; have HC5 := Aside0.mk H; clear H
  go_enter Try.func36, Try.ntmps36
  go_upto_region 1 with (first | ((with_reducible refine gate_dst (N := 4) rfl ?_); refine bx_ 4 #[.slice A0_0 l0_0.length c0_0, .slice A0_1 l0_1.length c0_1, .int .i64 a0_2, .int .i64 a0_3] 31 ?_; intro gb101 hg w6 hbox hb; have BK101 := Aside0.mk (hbox); have GW101 := gw_ hg; have GE101 := gw_ hg; replace HB := bs_ hb; clear hb hbox hg) | ((with_reducible refine gate_dst (N := 7) rfl ?_); refine bx_ 7 #[.int .i64 a3_0, .int .i64 a3_1, .string a3_2, .slice A3_3 l3_3.length c3_3] 49 ?_; intro gb102 hg w7 hbox hb; have BK102 := Aside0.mk (hbox); have GW102 := gw_ hg; have GE102 := gw_ hg; have NB101_102 := nlt_ hg BK101; have NB102_101 := ngt_ hg BK101; replace BK101 := bb_ BK101 hb; replace HB := bs_ hb; clear hb hbox hg))
  (try simp only [Act.put, List.setIfInBounds_toArray, List.set_cons_zero, List.set_cons_succ])
  go_cut [28] (fun v28 wc => ∃ (kq : Nat) (x28_4 : Bool), v28 = .bool x28_4 ∧ Aside0 (impl_FindBy.j0 kq a1 a2 x28_4 l0_0 l0_1 a0_2 a0_3 a3_0 a3_1 a3_2 l3_3 = some r) ∧ Aside0 (kq ≤ k) ∧ Aside0 (wc.heap[gb101]? = some (.cells #[(.slice A0_0 l0_0.length c0_0), (.slice A0_1 l0_1.length c0_1), .int .i64 a0_2, .int .i64 a0_3] 31 (0, 0))) ∧ Aside0 (wc.heap[gb102]? = some (.cells #[.int .i64 a3_0, .int .i64 a3_1, .string a3_2, (.slice A3_3 l3_3.length c3_3)] 49 (0, 0))) ∧ Aside0 (Below w.heap.size w wc))
  case first =>
    have H := HC5.out; clear HC5; replace H := ob_ H; obtain ⟨t103, A8, H⟩ := H; by_cases c9 : t103 = true; rotate_left; replace c9 := Bool.eq_false_iff.mpr c9; subst c9; rw [fe_] at H; have H' := Aside0.mk H; clear H; have hnb29 := NB101_102.out; have hnc29 := NB102_101.out; rotate_right; subst c9; rw [if_pos rfl] at H; replace H := ob_ H; obtain ⟨t104, A10, H⟩ := H; by_cases c11 : t104 = true
    · subst c11; rw [if_pos rfl] at H; by_cases c12 : a1.toList = ([] : List UInt8); rotate_left; rw [if_neg c12] at H; have c12b0 := bf_ c12; have c12b1 := nt_ c12; rotate_right; rw [if_pos c12] at H; have c12b0 := bt__ c12; have c12b1 := nf__ c12; clear c12
      all_goals
        (first | rw [c12b0] | (simp only [i64_w, i32_w]; rw [c12b0]) | skip)
        have H' := Aside0.mk H; clear H; have hnb18 := NB101_102.out; have hnc18 := NB102_101.out; obtain ⟨hcz19_0, hcz19_1, hcz19_2, hcz19_3, hfz19_0, hfz19_1, hfz19_2, hfz19_3⟩ := blk4 BK101
      · go_wp2_with (first | ((with_reducible refine gate_callee (f := 18) rfl ?_); refine goesL_ (some 13) rfl rfl Try.func18 (by kernel_rfl) rfl #[.agg #[.slice A0_0 l0_0.length c0_0, .slice A0_1 l0_1.length c0_1, .int .i64 a0_2, .int .i64 a0_3]] rfl ar_ ?_; (with_reducible refine (impl_GraphOk.calls k _ _ l0_0 _ _ l0_1 a0_2 a0_3 true _ ?side1 ?side2 ?side3 ?side4 A8.out).mono ?_); (case side1 => exact rdb_ HR0_0); (case side2 => exact HC0_0.out); (case side3 => exact rdb_ HR0_1); (case side4 => exact HC0_1.out); rintro e w15 ⟨rfl, hb⟩; refine ⟨_, rfl, ?_⟩; replace BK101 := bb_ BK101 hb; replace BK102 := bb_ BK102 hb; replace HB := bs_ hb; (try clear hb); (try clear hb2); (try clear hk); (try clear hi); obtain ⟨hcz16_0, hcz16_1, hcz16_2, hcz16_3, hfz16_0, hfz16_1, hfz16_2, hfz16_3⟩ := blk4 BK102) | (go_at_call 97; (with_reducible refine (impl_ValueOk.calls k a3_0 a3_1 a3_2 _ _ l3_3 true _ ?side1 ?side2 A10.out).mono ?_); (case side1 => exact rdb_ HR3_3); (case side2 => exact HC3_3.out); rintro e w17 ⟨rfl, hb⟩; replace BK101 := bb_ BK101 hb; replace BK102 := bb_ BK102 hb; replace HB := bs_ hb; (try clear hb); (try clear hb2); (try clear hk); (try clear hi)))
        go_meet
        case rel => exact ⟨_, (true), sm_, H', ⟨by first | omega | exact Nat.le_refl _⟩, ⟨by refine pe_ ?_; exact BK101.out⟩, ⟨by refine pe_ ?_; exact BK102.out⟩, ⟨bel_⟩⟩
      go_wp2_with (first | ((with_reducible refine gate_callee (f := 18) rfl ?_); refine goesL_ (some 13) rfl rfl Try.func18 (by kernel_rfl) rfl #[.agg #[.slice A0_0 l0_0.length c0_0, .slice A0_1 l0_1.length c0_1, .int .i64 a0_2, .int .i64 a0_3]] rfl ar_ ?_; (with_reducible refine (impl_GraphOk.calls k _ _ l0_0 _ _ l0_1 a0_2 a0_3 true _ ?side1 ?side2 ?side3 ?side4 A8.out).mono ?_); (case side1 => exact rdb_ HR0_0); (case side2 => exact HC0_0.out); (case side3 => exact rdb_ HR0_1); (case side4 => exact HC0_1.out); rintro e w20 ⟨rfl, hb⟩; refine ⟨_, rfl, ?_⟩; replace BK101 := bb_ BK101 hb; replace BK102 := bb_ BK102 hb; replace HB := bs_ hb; (try clear hb); (try clear hb2); (try clear hk); (try clear hi); obtain ⟨hcz21_0, hcz21_1, hcz21_2, hcz21_3, hfz21_0, hfz21_1, hfz21_2, hfz21_3⟩ := blk4 BK102) | (go_at_call 97; (with_reducible refine (impl_ValueOk.calls k a3_0 a3_1 a3_2 _ _ l3_3 true _ ?side1 ?side2 A10.out).mono ?_); (case side1 => exact rdb_ HR3_3); (case side2 => exact HC3_3.out); rintro e w22 ⟨rfl, hb⟩; replace BK101 := bb_ BK101 hb; replace BK102 := bb_ BK102 hb; replace HB := bs_ hb; (try clear hb); (try clear hb2); (try clear hk); (try clear hi); obtain ⟨hcz23_0, hcz23_1, hcz23_2, hcz23_3, hfz23_0, hfz23_1, hfz23_2, hfz23_3⟩ := blk4 BK102))
      go_meet
      case rel => exact ⟨_, ((a3_0 == 0)), sm_, H', ⟨by first | omega | exact Nat.le_refl _⟩, ⟨by refine pe_ ?_; exact BK101.out⟩, ⟨by refine pe_ ?_; exact BK102.out⟩, ⟨bel_⟩⟩
    replace c11 := Bool.eq_false_iff.mpr c11; subst c11; rw [fe_] at H; have H' := Aside0.mk H; clear H; have hnb24 := NB101_102.out; have hnc24 := NB102_101.out
    all_goals
      obtain ⟨hcz30_0, hcz30_1, hcz30_2, hcz30_3, hfz30_0, hfz30_1, hfz30_2, hfz30_3⟩ := blk4 BK101
    · go_wp2_with (first | ((with_reducible refine gate_callee (f := 18) rfl ?_); refine goesL_ (some 13) rfl rfl Try.func18 (by kernel_rfl) rfl #[.agg #[.slice A0_0 l0_0.length c0_0, .slice A0_1 l0_1.length c0_1, .int .i64 a0_2, .int .i64 a0_3]] rfl ar_ ?_; (with_reducible refine (impl_GraphOk.calls k _ _ l0_0 _ _ l0_1 a0_2 a0_3 true _ ?side1 ?side2 ?side3 ?side4 A8.out).mono ?_); (case side1 => exact rdb_ HR0_0); (case side2 => exact HC0_0.out); (case side3 => exact rdb_ HR0_1); (case side4 => exact HC0_1.out); rintro e w26 ⟨rfl, hb⟩; refine ⟨_, rfl, ?_⟩; replace BK101 := bb_ BK101 hb; replace BK102 := bb_ BK102 hb; replace HB := bs_ hb; (try clear hb); (try clear hb2); (try clear hk); (try clear hi); obtain ⟨hcz27_0, hcz27_1, hcz27_2, hcz27_3, hfz27_0, hfz27_1, hfz27_2, hfz27_3⟩ := blk4 BK102) | (go_at_call 97; (with_reducible refine (impl_ValueOk.calls k a3_0 a3_1 a3_2 _ _ l3_3 false _ ?side1 ?side2 A10.out).mono ?_); (case side1 => exact rdb_ HR3_3); (case side2 => exact HC3_3.out); rintro e w28 ⟨rfl, hb⟩; replace BK101 := bb_ BK101 hb; replace BK102 := bb_ BK102 hb; replace HB := bs_ hb; (try clear hb); (try clear hb2); (try clear hk); (try clear hi)))
      go_meet
      case rel => exact ⟨_, (true), sm_, H', ⟨by first | omega | exact Nat.le_refl _⟩, ⟨by refine pe_ ?_; exact BK101.out⟩, ⟨by refine pe_ ?_; exact BK102.out⟩, ⟨bel_⟩⟩
    go_wp2_with (first | ((with_reducible refine gate_callee (f := 18) rfl ?_); refine goesL_ (some 13) rfl rfl Try.func18 (by kernel_rfl) rfl #[.agg #[.slice A0_0 l0_0.length c0_0, .slice A0_1 l0_1.length c0_1, .int .i64 a0_2, .int .i64 a0_3]] rfl ar_ ?_; (with_reducible refine (impl_GraphOk.calls k _ _ l0_0 _ _ l0_1 a0_2 a0_3 false _ ?side1 ?side2 ?side3 ?side4 A8.out).mono ?_); (case side1 => exact rdb_ HR0_0); (case side2 => exact HC0_0.out); (case side3 => exact rdb_ HR0_1); (case side4 => exact HC0_1.out); rintro e w31 ⟨rfl, hb⟩; refine ⟨_, rfl, ?_⟩; replace BK101 := bb_ BK101 hb; replace BK102 := bb_ BK102 hb; replace HB := bs_ hb; (try clear hb); (try clear hb2); (try clear hk); (try clear hi)))
    go_meet
    case rel => exact ⟨_, (true), sm_, H', ⟨by first | omega | exact Nat.le_refl _⟩, ⟨by refine pe_ ?_; exact BK101.out⟩, ⟨by refine pe_ ?_; exact BK102.out⟩, ⟨bel_⟩⟩
  case rest =>
    clear HC5
    try clear c1
    try clear c2
    try clear p2
    try clear c3
    try clear c9
    try clear c11
    try clear c12
    try clear c12b0
    try clear c12b1
    try clear c13
    try clear c18
    try clear c24
    try clear c29
    try clear hcz14_0 hcz14_1 hcz14_2 hcz14_3
    try clear hcz16_0 hcz16_1 hcz16_2 hcz16_3
    try clear hcz19_0 hcz19_1 hcz19_2 hcz19_3
    try clear hcz21_0 hcz21_1 hcz21_2 hcz21_3
    try clear hcz23_0 hcz23_1 hcz23_2 hcz23_3
    try clear hcz25_0 hcz25_1 hcz25_2 hcz25_3
    try clear hcz27_0 hcz27_1 hcz27_2 hcz27_3
    try clear hcz30_0 hcz30_1 hcz30_2 hcz30_3
    try clear hfz14_0 hfz14_1 hfz14_2 hfz14_3
    try clear hfz16_0 hfz16_1 hfz16_2 hfz16_3
    try clear hfz19_0 hfz19_1 hfz19_2 hfz19_3
    try clear hfz21_0 hfz21_1 hfz21_2 hfz21_3
    try clear hfz23_0 hfz23_1 hfz23_2 hfz23_3
    try clear hfz25_0 hfz25_1 hfz25_2 hfz25_3
    try clear hfz27_0 hfz27_1 hfz27_2 hfz27_3
    try clear hfz30_0 hfz30_1 hfz30_2 hfz30_3
    obtain ⟨kq, x28_4, rfl, HA, HJ4, BK101, BK102, HB⟩ := hcut
    cases kq with
    | zero => exact absurd HA.out (by simp [impl_FindBy.j0])
    | succ kj4 =>
      have H := HA.out; clear HA; simp only [impl_FindBy.j0] at H; by_cases c32 : x28_4 = true; rotate_left; replace c32 := Bool.eq_false_iff.mpr c32; subst c32; rw [fe_] at H; have H' := Aside0.mk H; clear H; have hnb33 := NB101_102.out; have hnc33 := NB102_101.out; rotate_right; subst c32; rw [if_pos rfl] at H; obtain rfl := Option.some.inj H
      · go_wp2
        go_ret; exact ⟨_, by first | rfl | (simp [errW_none, errW_some] <;> rfl) | (simp [*, errW_none, errW_some] <;> rfl), by first | exact Kd.R_nil _ _ _ _ _ | exact Kd.N_nil _ _ _ _ _ | exact Kd.V_nil _ _ _ _ _ | exact Kd.Q_nil _ _ _ _ _ | exact Kd.S_nil _ _ _ _ _, bel_⟩
      obtain ⟨hcz34_0, hcz34_1, hcz34_2, hcz34_3, hfz34_0, hfz34_1, hfz34_2, hfz34_3⟩ := blk4 BK101
      go_wp2
      go_loopg [9, 32] kj4 (fun kq v9 v32 w' => ∃ (x9_2 : List Int) (x32_2 : Int), v32 = .int .i64 x32_2 ∧ Aside0 (impl_FindBy.l0 kq a1 a2 x9_2 l0_0 (l0_0.length : Int) x32_2 a3_0 a3_1 a3_2 l3_3 = some r) ∧ Aside0 (kq ≤ kj4) ∧ Aside0 (Kd.R (Kd.int .i64) 3 w' w.heap.size (fun _ => True) v9 x9_2) ∧ Aside0 (w'.heap[gb101]? = some (.cells #[(.slice A0_0 l0_0.length c0_0), (.slice A0_1 l0_1.length c0_1), .int .i64 a0_2, .int .i64 a0_3] 31 (0, 0))) ∧ Aside0 (w'.heap[gb102]? = some (.cells #[.int .i64 a3_0, .int .i64 a3_1, .string a3_2, (.slice A3_3 l3_3.length c3_3)] 49 (0, 0))) ∧ Aside0 (Below w.heap.size w w'))
      case atStart => exact ⟨(([] : List Int)), (0), sm_, H', ⟨Nat.le_refl _⟩, ⟨by first | exact Kd.R_nil _ _ _ _ _ | exact Kd.N_nil _ _ _ _ _ | exact Kd.V_nil _ _ _ _ _ | exact Kd.Q_nil _ _ _ _ _ | exact Kd.S_nil _ _ _ _ _⟩, ⟨by refine pe_ ?_; exact BK101.out⟩, ⟨by refine pe_ ?_; exact BK102.out⟩, ⟨bel_⟩⟩
      case round =>
        clear H'
        try clear c1
        try clear c2
        try clear p2
        try clear c3
        try clear c9
        try clear c11
        try clear c12
        try clear c12b0
        try clear c12b1
        try clear c13
        try clear c18
        try clear c24
        try clear c29
        try clear c32
        try clear c33
        try clear hcz14_0 hcz14_1 hcz14_2 hcz14_3
        try clear hcz16_0 hcz16_1 hcz16_2 hcz16_3
        try clear hcz19_0 hcz19_1 hcz19_2 hcz19_3
        try clear hcz21_0 hcz21_1 hcz21_2 hcz21_3
        try clear hcz23_0 hcz23_1 hcz23_2 hcz23_3
        try clear hcz25_0 hcz25_1 hcz25_2 hcz25_3
        try clear hcz27_0 hcz27_1 hcz27_2 hcz27_3
        try clear hcz30_0 hcz30_1 hcz30_2 hcz30_3
        try clear hcz34_0 hcz34_1 hcz34_2 hcz34_3
        try clear hfz14_0 hfz14_1 hfz14_2 hfz14_3
        try clear hfz16_0 hfz16_1 hfz16_2 hfz16_3
        try clear hfz19_0 hfz19_1 hfz19_2 hfz19_3
        try clear hfz21_0 hfz21_1 hfz21_2 hfz21_3
        try clear hfz23_0 hfz23_1 hfz23_2 hfz23_3
        try clear hfz25_0 hfz25_1 hfz25_2 hfz25_3
        try clear hfz27_0 hfz27_1 hfz27_2 hfz27_3
        try clear hfz30_0 hfz30_1 hfz30_2 hfz30_3
        try clear hfz34_0 hfz34_1 hfz34_2 hfz34_3
        try clear p2
        obtain ⟨x9_2, x32_2, rfl, HA, HK2, HO_9, BK101, BK102, HB⟩ := hrel
        cases gk with
        | zero => exact absurd HA.out (by simp [impl_FindBy.l0])
        | succ k2 =>
          have H := HA.out; clear HA; simp only [impl_FindBy.l0] at H; by_cases c35 : x32_2 < (l0_0.length : Int); rotate_left; rw [if_neg c35] at H; have c35b0 := df_ c35; clear c35; obtain rfl := Option.some.inj H; rotate_right; rw [if_pos c35] at H; have c35b0 := dt_ c35; clear c35; by_cases c36 : 0 ≤ x32_2; rotate_left
          · rw [if_neg c36] at H; exact absurd H (by simp)
          rotate_right; rw [if_pos c36] at H; have c36b0 := dt_ c36; clear c36; by_cases c37 : x32_2 < (l0_0.length : Int); rotate_left
          · rw [if_neg c37] at H; exact absurd H (by simp)
          rotate_right; rw [if_pos c37] at H; have c37b0 := dt_ c37; clear c37; replace H := ob_ H; obtain ⟨t107, A38, H⟩ := H; by_cases c39 : t107 = true; rotate_left; replace c39 := Bool.eq_false_iff.mpr c39; subst c39; rw [fe_] at H; have H' := Aside0.mk H; clear H; rotate_right; subst c39; rw [if_pos rfl] at H; replace H := ob_ H; obtain ⟨⟨t108, t109, t110, t111⟩, A40, H⟩ := H; replace H := ob_ H; obtain ⟨t114, A41, H⟩ := H; by_cases c42 : t114 = true; rotate_left; replace c42 := Bool.eq_false_iff.mpr c42; subst c42; rw [fe_] at H; have H' := Aside0.mk H; clear H; rotate_right; subst c42; rw [if_pos rfl] at H; by_cases c43 : x9_2.length < 17592186044416; rotate_left
          · rw [if_neg c43] at H; exact absurd H (by simp)
          rotate_right; rw [if_pos c43] at H; have LMc43 := Aside0.mk c43; clear c43; obtain ⟨y115, hy115⟩ : ∃ y_ : List Int, y_ = (x9_2 ++ [(rd_T99 l0_0 x32_2).f0]) := ⟨_, rfl⟩
          replace H : (impl_FindBy.l0 k2 a1 a2 y115 l0_0 (l0_0.length : Int) (wrap64 (x32_2 + 1)) a3_0 a3_1 a3_2 l3_3) = some r := by first | (rw [hy115]; with_reducible exact H) | (have H2_ := (Option.bind_some _ _).symm.trans H; rw [hy115]; with_reducible exact H2_) | (have H2_ := (Option.bind_some _ _).symm.trans H; with_reducible exact H2_) | with_reducible exact H | (rw [hy115]; exact H) | exact H
          have Ny115 := Aside0.mk hy115; clear hy115; have H' := Aside0.mk H; clear H; rotate_left 3
          · go_wp2
            go_ret; exact ⟨_, by first | rfl | (simp [errW_none, errW_some] <;> rfl) | (simp [*, errW_none, errW_some] <;> rfl), by (with_reducible repeat (first | apply Kd.R_alloc | apply Kd.R_drewN | apply Kd.R_drew)); exact HO_9.out, bel_⟩
          all_goals
            have p105 : 0 ≤ (x32_2 : Int) := od_; have q105 : x32_2 < (l0_0.length : Int) := od_; obtain ⟨ad105, A105_1, c105_1, A105_2, c105_2, e105, hx105_0, hx105_1, hx105_2, hl105_1, hi105_1, hl105_2, hi105_2⟩ := at_T99 HR0_0.out x32_2 p105 q105
            cases e105
            replace hx105_0 := mv_ HB hx105_0; replace hx105_1 := mv_ HB hx105_1; replace hx105_2 := mv_ HB hx105_2; have HR105_1 := Aside0.mk hi105_1; have HC105_1 := Aside0.mk hl105_1; clear hi105_1 hl105_1; have HR105_2 := Aside0.mk hi105_2; have HC105_2 := Aside0.mk hl105_2; clear hi105_2 hl105_2; replace p105 := eq_true p105; replace q105 := eq_true q105
            try go_wp2_with (first | ((with_reducible refine gate_dst (N := 11) rfl ?_); refine bx_ 11 #[.int .i64 0, .slice none 0 0, .slice none 0 0] 99 ?_; intro gb106 hg w44 hbox hb; have BK106 := Aside0.mk (hbox); have GW106 := gw_ hg; have GE106 := gw_ hg; have NB101_106 := nlt_ hg BK101; have NB106_101 := ngt_ hg BK101; have NB102_106 := nlt_ hg BK102; have NB106_102 := ngt_ hg BK102; replace HO_9 := Aside0.mk (Kd.R_below (by (with_reducible repeat (first | apply Kd.R_alloc | apply Kd.R_drewN | apply Kd.R_drew)); exact HO_9.out) hb); replace BK101 := bb_ BK101 hb; replace BK102 := bb_ BK102 hb; replace HB := bs_ hb; clear hb hbox hg; have hnb45 := NB106_101.out; have hnc45 := NB101_106.out; have hnb46 := NB106_102.out; have hnc46 := NB102_106.out; obtain ⟨hcz47_0, hcz47_1, hcz47_2, hfz47_0, hfz47_1, hfz47_2⟩ := blk3 BK106))
            have n0_ : Aside0 (Kd.R (Kd.int .i64) 3 (((w44.setCell ⟨gb106, 0, none⟩ (.int .i64 ((rd_T99 l0_0 x32_2).f0))).setCell ⟨gb106, 1, none⟩ (.slice A105_1 ((rd_T99 l0_0 x32_2).f1).length c105_1)).setCell ⟨gb106, 2, none⟩ (.slice A105_2 ((rd_T99 l0_0 x32_2).f2).length c105_2)) w.heap.size (fun _ => True) u9 x9_2) := ⟨by (with_reducible repeat (first | apply Kd.R_alloc | apply Kd.R_drewN | apply Kd.R_drew)); exact Kd.R_mono (rf3 gb106 (Kd.R_types HO_9.out BK106.out (by decide)) (fun _ hk => hk.2)) (fun _ hk => trivial)⟩; have n1_ : Aside0 ((((w44.setCell ⟨gb106, 0, none⟩ (.int .i64 ((rd_T99 l0_0 x32_2).f0))).setCell ⟨gb106, 1, none⟩ (.slice A105_1 ((rd_T99 l0_0 x32_2).f1).length c105_1)).setCell ⟨gb106, 2, none⟩ (.slice A105_2 ((rd_T99 l0_0 x32_2).f2).length c105_2)).heap[gb101]? = some (.cells #[.slice (some ad105) l0_0.length c0_0, .slice A0_1 l0_1.length c0_1, .int .i64 a0_2, .int .i64 a0_3] 31 (0, 0))) := ⟨by refine pe_ ?_; refine blk_far ?_ NB101_106.out _; refine pe_ ?_; refine blk_far ?_ NB101_106.out _; refine pe_ ?_; refine blk_far ?_ NB101_106.out _; refine pe_ ?_; exact BK101.out⟩
            have n2_ : Aside0 ((((w44.setCell ⟨gb106, 0, none⟩ (.int .i64 ((rd_T99 l0_0 x32_2).f0))).setCell ⟨gb106, 1, none⟩ (.slice A105_1 ((rd_T99 l0_0 x32_2).f1).length c105_1)).setCell ⟨gb106, 2, none⟩ (.slice A105_2 ((rd_T99 l0_0 x32_2).f2).length c105_2)).heap[gb102]? = some (.cells #[.int .i64 a3_0, .int .i64 a3_1, .string a3_2, .slice A3_3 l3_3.length c3_3] 49 (0, 0))) := ⟨by refine pe_ ?_; refine blk_far ?_ NB102_106.out _; refine pe_ ?_; refine blk_far ?_ NB102_106.out _; refine pe_ ?_; refine blk_far ?_ NB102_106.out _; refine pe_ ?_; exact BK102.out⟩; have n3_ : Aside0 ((((w44.setCell ⟨gb106, 0, none⟩ (.int .i64 ((rd_T99 l0_0 x32_2).f0))).setCell ⟨gb106, 1, none⟩ (.slice A105_1 ((rd_T99 l0_0 x32_2).f1).length c105_1)).setCell ⟨gb106, 2, none⟩ (.slice A105_2 ((rd_T99 l0_0 x32_2).f2).length c105_2)).heap[gb106]? = some (.cells #[.int .i64 ((rd_T99 l0_0 x32_2).f0), .slice A105_1 ((rd_T99 l0_0 x32_2).f1).length c105_1, .slice A105_2 ((rd_T99 l0_0 x32_2).f2).length c105_2] 99 (0, 0))) := ⟨by refine pe_ ?_; refine blk_put (cs := #[.int .i64 ((rd_T99 l0_0 x32_2).f0), .slice A105_1 ((rd_T99 l0_0 x32_2).f1).length c105_1, .slice none 0 0]) ?_ 2 _ rfl; refine pe_ ?_; refine blk_put (cs := #[.int .i64 ((rd_T99 l0_0 x32_2).f0), .slice none 0 0, .slice none 0 0]) ?_ 1 _ rfl; refine pe_ ?_; refine blk_put (cs := #[.int .i64 0, .slice none 0 0, .slice none 0 0]) ?_ 0 _ rfl; refine pe_ ?_; exact BK106.out⟩
            have n4_ : Aside0 (Below w.heap.size w (((w44.setCell ⟨gb106, 0, none⟩ (.int .i64 ((rd_T99 l0_0 x32_2).f0))).setCell ⟨gb106, 1, none⟩ (.slice A105_1 ((rd_T99 l0_0 x32_2).f1).length c105_1)).setCell ⟨gb106, 2, none⟩ (.slice A105_2 ((rd_T99 l0_0 x32_2).f2).length c105_2))) := ⟨bel_⟩; (try clear HO_9); (try clear BK101); (try clear BK102); (try clear BK106); (try clear HB); generalize (((w44.setCell ⟨gb106, 0, none⟩ (.int .i64 ((rd_T99 l0_0 x32_2).f0))).setCell ⟨gb106, 1, none⟩ (.slice A105_1 ((rd_T99 l0_0 x32_2).f1).length c105_1)).setCell ⟨gb106, 2, none⟩ (.slice A105_2 ((rd_T99 l0_0 x32_2).f2).length c105_2)) = w48 at n0_ n1_ n2_ n3_ n4_ ⊢; have HO_9 := n0_; have BK101 := n1_; have BK102 := n2_; have BK106 := n3_; have HB := n4_; clear n0_ n1_ n2_ n3_ n4_; replace HO_9 := Aside0.mk (Kd.R_drew HO_9.out); replace BK101 := Aside0.mk (blk_drew BK101.out); replace BK102 := Aside0.mk (blk_drew BK102.out); replace BK106 := Aside0.mk (blk_drew BK106.out); replace HB := Aside0.mk (below_drew1 HB.out)
          rotate_left 2
          · refine start_ (n := 11) (S := fun w' => w'.cell? ⟨gb106, 0, none⟩ = some (.int .i64 ((rd_T99 l0_0 x32_2).f0)) ∧ w'.cell? ⟨gb106, 1, none⟩ = some (.slice A105_1 ((rd_T99 l0_0 x32_2).f1).length c105_1) ∧ w'.cell? ⟨gb106, 2, none⟩ = some (.slice A105_2 ((rd_T99 l0_0 x32_2).f2).length c105_2)) (ds := []) #[false, false, false, false, false, false, false, false, false, false, false] (by kernel_rfl) rfl rfl ⟨(blkc BK106 0), (blkc BK106 1), (blkc BK106 2)⟩ (fun hHeld => ?_); refine with_tabW impl_FindBy.tab7 impl_FindBy.bits7 (fun HT_ HW_ => ?_); generalize w48.drew = w71 at HO_9 BK101 BK102 BK106 HB hHeld ⊢; refine puA 1 (some 37) ?_; refine taA 0 (some 36) ?_; refine one_ (i := 2) (N := some 38) #[true, true, true, false, false, false, false, false, false, false, false] rfl rfl (one_of HT_.out (by kernel_rfl)) (by decide) (fun K hK => ?_); refine goes_ Try.func92 (by kernel_rfl) rfl #[.agg #[.int .i64 ((rd_T99 l0_0 x32_2).f0), .slice A105_1 ((rd_T99 l0_0 x32_2).f1).length c105_1, .slice A105_2 ((rd_T99 l0_0 x32_2).f2).length c105_2], .string a1] (by rfl) rfl rfl ar_ ?_
            with_reducible refine (impl_hasLabel.calls k2 ((rd_T99 l0_0 x32_2).f0) _ _ ((rd_T99 l0_0 x32_2).f1) _ _ ((rd_T99 l0_0 x32_2).f2) a1 false _ ?side1 ?side2 ?side3 ?side4 A38.out).mono ?_
            (case side1 => exact rdb_ HR105_1); (case side2 => exact HC105_1.out); (case side3 => exact rdb_ HR105_2); (case side4 => exact HC105_2.out); rintro e w72 ⟨rfl, hb⟩; refine ⟨_, rfl, ?_⟩; replace HO_9 := Aside0.mk (Kd.R_below (by (with_reducible repeat (first | apply Kd.R_alloc | apply Kd.R_drewN | apply Kd.R_drew)); exact HO_9.out) hb); replace BK101 := bb_ BK101 hb; replace BK102 := bb_ BK102 hb; replace BK106 := bb_ BK106 hb; replace HB := bs_ hb; (try clear hb); (try clear hb2); (try clear hk); (try clear hi); refine hK.out _ _ ⟨(blkc BK106 0), (blkc BK106 1), (blkc BK106 2)⟩ (fun hHeld => ?_); clear hK K; refine norm_ (a' := ?_) ?_ ?_; rotate_left
            · show Act.put _ (some 38) _ = _
              simp only [Act.put, List.setIfInBounds_toArray, List.set_cons_zero, List.set_cons_succ, i64_w, i32_w]
              rfl
            refine puA 3 (some 39) ?_; refine puX 4 (some 40) ?_; refine puX 5 (some 41) ?_; refine puX 6 (some 42) ?_; refine puX 7 (some 43) ?_; refine puX 8 (some 44) ?_; refine puX 9 (some 45) ?_; refine puA 10 (some 46) ?_; refine done_ (done_of HT_.out (by kernel_rfl)) ?_
            try go_wp2
            go_roundg k2
            case measure => have := HJ4.out; have := HK2.out; omega
            case rel => exact ⟨(x9_2), (wrap64 (x32_2 + 1)), sm_, H', ⟨by have := HJ4.out; have := HK2.out; omega⟩, ⟨by (with_reducible repeat (first | apply Kd.R_alloc | apply Kd.R_drewN | apply Kd.R_drew)); exact HO_9.out⟩, ⟨by refine pe_ ?_; exact BK101.out⟩, ⟨by refine pe_ ?_; exact BK102.out⟩, ⟨bel_⟩⟩
          all_goals
            refine start_ (n := 11) (S := fun w' => w'.cell? ⟨gb106, 0, none⟩ = some (.int .i64 ((rd_T99 l0_0 x32_2).f0)) ∧ w'.cell? ⟨gb106, 1, none⟩ = some (.slice A105_1 ((rd_T99 l0_0 x32_2).f1).length c105_1) ∧ w'.cell? ⟨gb106, 2, none⟩ = some (.slice A105_2 ((rd_T99 l0_0 x32_2).f2).length c105_2) ∧ w'.cell? ⟨gb102, 0, none⟩ = some (.int .i64 a3_0) ∧ w'.cell? ⟨gb102, 1, none⟩ = some (.int .i64 a3_1) ∧ w'.cell? ⟨gb102, 2, none⟩ = some (.string a3_2) ∧ w'.cell? ⟨gb102, 3, none⟩ = some (.slice A3_3 l3_3.length c3_3)) (ds := []) #[false, false, false, false, false, false, false, false, false, false, false] (by kernel_rfl) rfl rfl ⟨(blkc BK106 0), (blkc BK106 1), (blkc BK106 2), (blkc BK102 0), (blkc BK102 1), (blkc BK102 2), (blkc BK102 3)⟩ (fun hHeld => ?_); refine with_tabW impl_FindBy.tab7 impl_FindBy.bits7 (fun HT_ HW_ => ?_); generalize w48.drew = w49 at HO_9 BK101 BK102 BK106 HB hHeld ⊢; refine puA 1 (some 37) ?_; refine taA 0 (some 36) ?_; refine one_ (i := 2) (N := some 38) #[true, true, true, false, false, false, false, false, false, false, false] rfl rfl (one_of HT_.out (by kernel_rfl)) (by decide) (fun K hK => ?_); refine goes_ Try.func92 (by kernel_rfl) rfl #[.agg #[.int .i64 ((rd_T99 l0_0 x32_2).f0), .slice A105_1 ((rd_T99 l0_0 x32_2).f1).length c105_1, .slice A105_2 ((rd_T99 l0_0 x32_2).f2).length c105_2], .string a1] (by rfl) rfl rfl ar_ ?_
            with_reducible refine (impl_hasLabel.calls k2 ((rd_T99 l0_0 x32_2).f0) _ _ ((rd_T99 l0_0 x32_2).f1) _ _ ((rd_T99 l0_0 x32_2).f2) a1 true _ ?side1 ?side2 ?side3 ?side4 A38.out).mono ?_
            (case side1 => exact rdb_ HR105_1); (case side2 => exact HC105_1.out); (case side3 => exact rdb_ HR105_2); (case side4 => exact HC105_2.out); rintro e w50 ⟨rfl, hb⟩; refine ⟨_, rfl, ?_⟩; replace HO_9 := Aside0.mk (Kd.R_below (by (with_reducible repeat (first | apply Kd.R_alloc | apply Kd.R_drewN | apply Kd.R_drew)); exact HO_9.out) hb); replace BK101 := bb_ BK101 hb; replace BK102 := bb_ BK102 hb; replace BK106 := bb_ BK106 hb; replace HB := bs_ hb; (try clear hb); (try clear hb2); (try clear hk); (try clear hi); refine hK.out _ _ ⟨(blkc BK106 0), (blkc BK106 1), (blkc BK106 2), (blkc BK102 0), (blkc BK102 1), (blkc BK102 2), (blkc BK102 3)⟩ (fun hHeld => ?_); clear hK K; refine norm_ (a' := ?_) ?_ ?_; rotate_left
            · show Act.put _ (some 38) _ = _
              simp only [Act.put, List.setIfInBounds_toArray, List.set_cons_zero, List.set_cons_succ, i64_w, i32_w]
              rfl
            refine puA 3 (some 39) ?_; refine puA 4 (some 40) ?_; refine puA 6 (some 42) ?_; refine taA 5 (some 41) ?_; refine taA 8 (some 44) ?_; refine one_ (i := 7) (N := some 43) #[true, true, true, true, true, true, true, true, true, false, false] rfl rfl (one_of HT_.out (by kernel_rfl)) (by decide) (fun K hK => ?_); refine goes_ Try.func105 (by kernel_rfl) rfl #[.slice A105_2 ((rd_T99 l0_0 x32_2).f2).length c105_2, .string a2] (by rfl) rfl rfl ar_ ?_
            with_reducible refine (impl_propOf.calls k2 (fun k_ => k_ < w.heap.size) _ _ ((rd_T99 l0_0 x32_2).f2) a2 t108 t109 t110 t111 _ ?side1 A40.out).mono ?_
            (case side1 => exact Kd.V_mk HC105_2.out (Kd.F_below (Kd.C_F k140_heap HR105_2.out) (bel_))); rintro e w51 ⟨v112, rfl, ho0, hb⟩; refine ⟨_, rfl, ?_⟩; have HO113 := Aside0.mk (Kd.V_lower (Kd.V_mono (ok' := fun k_ => some k_ ≠ (u9 : Value).ownBlock ∧ k_ ≠ gb101 ∧ k_ ≠ gb102 ∧ k_ ≠ gb106) ho0 (fun k_ hk_ => ⟨Or.elim hk_ (fun hs_ => fun e_ => Nat.not_le.2 hs_ (Kd.R_base HO_9.out k_ e_.symm)) (fun hn_ => (Kd.fresh' (Kd.R_lt (by (with_reducible repeat (first | apply Kd.R_alloc | apply Kd.R_drewN | apply Kd.R_drew)); exact HO_9.out)) k_ hn_)), Or.elim hk_ (fun hs_ => fun e_ => Nat.not_le.2 hs_ (by rw [e_]; exact GW101.out)) (fun hn_ => (Kd.freshB (g := gb101) (o := .cells #[.slice (some ad105) l0_0.length c0_0, .slice A0_1 l0_1.length c0_1, .int .i64 a0_2, .int .i64 a0_3] 31 (0, 0)) (bk_ BK101) k_ hn_)), Or.elim hk_ (fun hs_ => fun e_ => Nat.not_le.2 hs_ (by rw [e_]; exact GW102.out)) (fun hn_ => (Kd.freshB (g := gb102) (o := .cells #[.int .i64 a3_0, .int .i64 a3_1, .string a3_2, .slice A3_3 l3_3.length c3_3] 49 (0, 0)) (bk_ BK102) k_ hn_)), Or.elim hk_ (fun hs_ => fun e_ => Nat.not_le.2 hs_ (by rw [e_]; exact GW106.out)) (fun hn_ => (Kd.freshB (g := gb106) (o := .cells #[.int .i64 ((rd_T99 l0_0 x32_2).f0), .slice A105_1 ((rd_T99 l0_0 x32_2).f1).length c105_1, .slice A105_2 ((rd_T99 l0_0 x32_2).f2).length c105_2] 99 (0, 0)) (bk_ BK106) k_ hn_))⟩)) (below_size (bel_)))
            replace HO_9 := Aside0.mk (Kd.R_below (by (with_reducible repeat (first | apply Kd.R_alloc | apply Kd.R_drewN | apply Kd.R_drew)); exact HO_9.out) hb); replace BK101 := bb_ BK101 hb; replace BK102 := bb_ BK102 hb; replace BK106 := bb_ BK106 hb; replace HB := bs_ hb; (try clear hb); (try clear hb2); (try clear hk); (try clear hi); (try clear ho0); obtain ⟨Ao52, co52, eo52⟩ := Kd.V_slice HO113.out
            (first | subst eo52 | (injection eo52 with f1_ f2_ f3_; have f4_ := f1_.symm; have f5_ := f3_.symm; clear f1_ f2_ f3_; subst f4_; subst f5_))
            refine hK.out _ _ ⟨(blkc BK106 0), (blkc BK106 1), (blkc BK106 2), (blkc BK102 0), (blkc BK102 1), (blkc BK102 2), (blkc BK102 3)⟩ (fun hHeld => ?_); clear hK K; refine norm_ (a' := ?_) ?_ ?_; rotate_left
            · show Act.put _ (some 43) _ = _
              simp only [Act.put, List.setIfInBounds_toArray, List.set_cons_zero, List.set_cons_succ, i64_w, i32_w]
              rfl
            refine one_ (i := 9) (N := some 45) #[true, true, true, true, true, true, true, true, true, true, false] rfl rfl (one_of HT_.out (by kernel_rfl)) (by decide) (fun K hK => ?_); refine goes_ Try.func104 (by kernel_rfl) rfl #[.agg #[.int .i64 t108, .int .i64 t109, .string t110, .slice Ao52 t111.length co52], .agg #[.int .i64 a3_0, .int .i64 a3_1, .string a3_2, .slice A3_3 l3_3.length c3_3]] (by rfl) rfl rfl ar_ ?_
            with_reducible refine (impl_sameOf.calls k2 t108 t109 t110 _ _ t111 a3_0 a3_1 a3_2 _ _ l3_3 _ _ ?side1 ?side2 ?side3 ?side4 A41.out).mono ?_
            (case side1 => repeat (first | exact (Kd.V_reads' HO113.out).2.2 | (with_reducible refine Kd.C_alloc ?_ _) | (with_reducible refine Kd.C_drewN ?_ _) | (with_reducible refine Kd.C_drew ?_))); (case side2 => exact (Kd.V_reads' HO113.out).2.1); (case side3 => exact rdb_ HR3_3); (case side4 => exact HC3_3.out); rintro e w53 ⟨rfl, hb⟩; refine ⟨_, rfl, ?_⟩; replace HO_9 := Aside0.mk (Kd.R_below (by (with_reducible repeat (first | apply Kd.R_alloc | apply Kd.R_drewN | apply Kd.R_drew)); exact HO_9.out) hb); replace HO113 := Aside0.mk (Kd.V_below (by (with_reducible repeat (first | apply Kd.V_alloc | apply Kd.V_drewN | apply Kd.V_drew)); first | exact HO113.out | exact Kd.V_mono (HO113.out) (fun _ h_ => by simpa only [and_assoc, and_comm, and_left_comm] using h_)) hb); replace BK101 := bb_ BK101 hb; replace BK102 := bb_ BK102 hb; replace BK106 := bb_ BK106 hb; replace HB := bs_ hb; (try clear hb); (try clear hb2); (try clear hk); (try clear hi); refine hK.out _ _ ⟨(blkc BK106 0), (blkc BK106 1), (blkc BK106 2), (blkc BK102 0), (blkc BK102 1), (blkc BK102 2), (blkc BK102 3)⟩ (fun hHeld => ?_); clear hK K; refine norm_ (a' := ?_) ?_ ?_; rotate_left
            · show Act.put _ (some 45) _ = _
              simp only [Act.put, List.setIfInBounds_toArray, List.set_cons_zero, List.set_cons_succ, i64_w, i32_w]
              rfl
            refine puA 10 (some 46) ?_; refine done_ (done_of HT_.out (by kernel_rfl)) ?_
          rotate_left
          · try go_wp2
            go_roundg k2
            case measure => have := HJ4.out; have := HK2.out; omega
            case rel => exact ⟨(x9_2), (wrap64 (x32_2 + 1)), sm_, H', ⟨by have := HJ4.out; have := HK2.out; omega⟩, ⟨by (with_reducible repeat (first | apply Kd.R_alloc | apply Kd.R_drewN | apply Kd.R_drew)); exact HO_9.out⟩, ⟨by refine pe_ ?_; exact BK101.out⟩, ⟨by refine pe_ ?_; exact BK102.out⟩, ⟨bel_⟩⟩
          obtain ⟨hcz54_0, hcz54_1, hcz54_2, hfz54_0, hfz54_1, hfz54_2⟩ := blk3 BK106
          try go_wp2_with (first | ((with_reducible refine gate_builtin (b := .append) (xs := #[.tmp 47, .tmp 50]) rfl ?_); at_builtin; refine Kd.R_append (Kd.int .i64) (w0 := w) w.heap.size rfl (.tmp 47) (.tmp 50) 35 3 (.int .i64 0) 8 rfl Try.underlying35 info3 rfl (by decide) (by omega) u9 x9_2 ((rd_T99 l0_0 x32_2).f0) [.int .i64 ((rd_T99 l0_0 x32_2).f0)] (fun _ => True) (fun _ => False) rfl rfl ?aP (fun _ hk => hk.elim) ?aF ?aO ?aB ?aS ?aL ?_; (case aP => exact rfl); (case aB => exact (bel_)); (case aF => exact (fun _ _ => trivial)); (case aO => exact (by (with_reducible repeat (first | apply Kd.R_alloc | apply Kd.R_drewN | apply Kd.R_drew)); exact HO_9.out)); (case aS => exact (below_size (bel_))); (case aL => have := LMc43.out; omega); intro v116 w55 ho hb hg hat; rw [← Ny115.out] at ho; have HO117 := Aside0.mk (ho); replace BK101 := Aside0.mk (blk_grown (g := gb101) (o := .cells #[.slice (some ad105) l0_0.length c0_0, .slice A0_1 l0_1.length c0_1, .int .i64 a0_2, .int .i64 a0_3] 31 (0, 0)) (bk_ BK101) hg (Kd.R_ne HO_9.out BK101.out (by decide))); replace BK102 := Aside0.mk (blk_grown (g := gb102) (o := .cells #[.int .i64 a3_0, .int .i64 a3_1, .string a3_2, .slice A3_3 l3_3.length c3_3] 49 (0, 0)) (bk_ BK102) hg (Kd.R_ne HO_9.out BK102.out (by decide))); replace BK106 := Aside0.mk (blk_grown (g := gb106) (o := .cells #[.int .i64 ((rd_T99 l0_0 x32_2).f0), .slice A105_1 ((rd_T99 l0_0 x32_2).f1).length c105_1, .slice A105_2 ((rd_T99 l0_0 x32_2).f2).length c105_2] 99 (0, 0)) (bk_ BK106) hg (Kd.R_ne HO_9.out BK106.out (by decide))); replace HO113 := Aside0.mk (Kd.V_afterv (ok := (fun k_ => k_ ≠ gb101 ∧ k_ ≠ gb102 ∧ k_ ≠ gb106)) (by (with_reducible repeat (first | apply Kd.V_alloc | apply Kd.V_drewN | apply Kd.V_drew)); first | exact Kd.V_mono HO113.out (fun _ hk => ⟨⟨hk.2.1, ⟨hk.2.2.1, hk.2.2.2⟩⟩, hk.1⟩) | exact Kd.V_mono (Kd.V_mono HO113.out (fun _ hk => ⟨⟨hk.2.1, ⟨hk.2.2.1, hk.2.2.2⟩⟩, hk.1⟩)) (fun _ h_ => by simpa only [and_assoc, and_comm, and_left_comm] using h_)) hg hat); replace HB := Aside0.mk (hb); clear HO_9; clear ho hb hg hat))
          go_roundg k2
          case measure => have := HJ4.out; have := HK2.out; omega
          case rel => exact ⟨(y115), (wrap64 (x32_2 + 1)), sm_, H', ⟨by have := HJ4.out; have := HK2.out; omega⟩, ⟨by (with_reducible repeat (first | apply Kd.R_alloc | apply Kd.R_drewN | apply Kd.R_drew)); exact HO117.out⟩, ⟨by refine pe_ ?_; exact BK101.out⟩, ⟨by refine pe_ ?_; exact BK102.out⟩, ⟨bel_⟩⟩
end Go.Proofs.Ytcchmhmbjhgfdaa.G
