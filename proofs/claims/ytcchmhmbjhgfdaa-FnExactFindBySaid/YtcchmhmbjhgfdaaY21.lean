import Derived.Test.YtcchmhmbjhgfdaaY3
namespace Go.Proofs.Ytcchmhmbjhgfdaa.G
open Go.RowKit Go.Proofs.YtcchmhmbjhgfdaaW.PrintWords Go.Proofs.YtcchmhmbjhgfdaaW.PrintLast Go.Proofs.YtcchmhmbjhgfdaaW.PrintMore
attribute [local go_sem] max2_int min2_int max_two min_two max_three min_three max_four min_four Own.str_gtr Own.str_leq Own.str_geq Own.sto_fn   -- for this text's walks alone
open Own
set_option linter.unusedVariables false
set_option linter.unusedSimpArgs false
def slices_Index_string_string.l0 : Nat → List ByteArray → ByteArray → Int → Int → Option (Int)
  | 0, _, _, _, _ => none
  | k + 1, x0, x1, x7, x8 => if x8 < x7 then (if 0 ≤ x8 then (if x8 < (x0.length : Int) then (if x1.toList = (rdOf ByteArray.empty x0 x8).toList then (some x8) else (slices_Index_string_string.l0 k x0 x1 x7 (wrap64 (x8 + 1)))) else (none)) else (none)) else (some (-1))
def slices_Index_string_string.f (k : Nat) (l0 : List ByteArray) (a1 : ByteArray) : Option (Int) := slices_Index_string_string.l0 k l0 a1 (l0.length : Int) 0
set_option maxHeartbeats 8000000 in
set_option maxRecDepth 100000 in
theorem slices_Index_string_string.calls (k : Nat) (A0 : Option Addr) (c0 : Nat) (l0 : List ByteArray) (a1 : ByteArray) (r : Int) (w : World) (hr0 : Kd.C Kd.string w A0 l0.length l0) (hc0 : l0.length ≤ c0) (h : slices_Index_string_string.f k l0 a1 = some r) :
    Calls Try.prog 184 #[.slice A0 l0.length c0, .string a1] w fun e w' => e = .returned (.int .i64 r) ∧ Drawn0 w w' := by
  have HR0 := Aside0.mk hr0; have HC0 := Aside0.mk hc0; clear hr0 hc0; have H : (slices_Index_string_string.l0 k l0 a1 (l0.length : Int) 0) = some r := h; clear h; have H' := Aside0.mk H; clear H
  go_enter Try.func184, Try.ntmps184
  go_wp2
  go_loopg [8] k (fun kq v8 w' => ∃ (x8_1 : Int), v8 = .int .i64 x8_1 ∧ Aside0 (slices_Index_string_string.l0 kq l0 a1 (l0.length : Int) x8_1 = some r) ∧ Aside0 (kq ≤ k) ∧ Drawn0 w w')
  case atStart => exact ⟨(0), sm_, H', ⟨Nat.le_refl _⟩, by repeat (first | exact Drawn0.refl _ | apply Drawn0.step)⟩
  case round =>
    clear H'
    try clear c1
    try clear p2
    obtain ⟨x8_1, rfl, HA, HK1, ⟨m1, rfl⟩⟩ := hrel
    cases gk with
    | zero => exact absurd HA.out (by simp [slices_Index_string_string.l0])
    | succ k1 =>
      have H := HA.out; clear HA; simp only [slices_Index_string_string.l0] at H; by_cases c3 : x8_1 < (l0.length : Int); rotate_left; rw [if_neg c3] at H; have c3b0 := df_ c3; clear c3; obtain rfl := Option.some.inj H; rotate_right; rw [if_pos c3] at H; have c3b0 := dt_ c3; clear c3; by_cases c4 : 0 ≤ x8_1; rotate_left
      · rw [if_neg c4] at H; exact absurd H (by simp)
      rotate_right; rw [if_pos c4] at H; have c4b0 := dt_ c4; clear c4; by_cases c5 : x8_1 < (l0.length : Int); rotate_left
      · rw [if_neg c5] at H; exact absurd H (by simp)
      rotate_right; rw [if_pos c5] at H; have c5b0 := dt_ c5; clear c5; by_cases c6 : a1.toList = (rdOf ByteArray.empty l0 x8_1).toList; rotate_left; rw [if_neg c6] at H; have c6b0 := bf_ c6; have c6b1 := nt_ c6; have H' := Aside0.mk H; clear H; rotate_right; rw [if_pos c6] at H; have c6b0 := bt__ c6; have c6b1 := nf__ c6; clear c6; obtain rfl := Option.some.inj H; rotate_left 2
      · go_wp2
        go_ret; exact rd_
      all_goals
        have p101 : 0 ≤ (x8_1 : Int) := od_; have q101 : x8_1 < (l0.length : Int) := od_; obtain ⟨ad101, e101, hx101_0⟩ := Kd.at_string HR0.out x8_1 p101 q101
        cases e101
        replace p101 := eq_true p101; replace q101 := eq_true q101
        go_wp2
      · go_ret; exact rd_
      go_roundg k1
      case measure => have := HK1.out; omega
      case rel => exact ⟨(wrap64 (x8_1 + 1)), sm_, H', ⟨by have := HK1.out; omega⟩, by repeat (first | exact Drawn0.refl _ | apply Drawn0.step)⟩
def slices_Contains_string_string.f (k : Nat) (l0 : List ByteArray) (a1 : ByteArray) : Option (Bool) := (slices_Index_string_string.f k l0 a1).bind fun t101 => (some (decide (t101 ≥ 0)))
set_option maxHeartbeats 8000000 in
set_option maxRecDepth 100000 in
theorem slices_Contains_string_string.calls (k : Nat) (A0 : Option Addr) (c0 : Nat) (l0 : List ByteArray) (a1 : ByteArray) (r : Bool) (w : World) (hr0 : Kd.C Kd.string w A0 l0.length l0) (hc0 : l0.length ≤ c0) (h : slices_Contains_string_string.f k l0 a1 = some r) :
    Calls Try.prog 161 #[.slice A0 l0.length c0, .string a1] w fun e w' => e = .returned (.bool r) ∧ Drawn0 w w' := by
  have HR0 := Aside0.mk hr0; have HC0 := Aside0.mk hc0; clear hr0 hc0; have H : ((slices_Index_string_string.f k l0 a1).bind fun t101 => (some (decide (t101 ≥ 0)))) = some r := h; clear h; replace H := ob_ H; obtain ⟨t101, A3, H⟩ := H; obtain rfl := Option.some.inj H
  go_enter Try.func161, Try.ntmps161
  go_wp2_with (first | ((with_reducible refine gate_callee (f := 184) rfl ?_); refine goesL_ (some 7) rfl rfl Try.func184 (by kernel_rfl) rfl #[.slice A0 l0.length c0, .string a1] rfl ar_ ?_; (with_reducible refine (slices_Index_string_string.calls k _ _ l0 a1 t101 _ ?side1 ?side2 A3.out).mono ?_); (case side1 => repeat (first | exact HR0.out | (with_reducible refine Kd.C_alloc ?_ _) | (with_reducible refine Kd.C_drewN ?_ _) | (with_reducible refine Kd.C_drew ?_))); (case side2 => exact HC0.out); rintro e w' ⟨rfl, ⟨nd, rfl⟩⟩; refine ⟨_, rfl, ?_⟩))
  go_ret; exact rd_
def impl_hasLabel.f (k : Nat) (a0_0 : Int) (l0_1 : List ByteArray) (l0_2 : List (S140)) (a1 : ByteArray) : Option (Bool) := if a1.toList = ([] : List UInt8) then (some true) else ((slices_Contains_string_string.f k l0_1 a1).bind fun t102 => (some t102))
set_option maxHeartbeats 8000000 in
set_option maxRecDepth 100000 in
theorem impl_hasLabel.calls (k : Nat) (a0_0 : Int) (A0_1 : Option Addr) (c0_1 : Nat) (l0_1 : List ByteArray) (A0_2 : Option Addr) (c0_2 : Nat) (l0_2 : List (S140)) (a1 : ByteArray) (r : Bool) (w : World) (hr0_1 : Kd.C Kd.string w A0_1 l0_1.length l0_1) (hc0_1 : l0_1.length ≤ c0_1) (hr0_2 : Kd.C k140 w A0_2 l0_2.length l0_2) (hc0_2 : l0_2.length ≤ c0_2) (h : impl_hasLabel.f k a0_0 l0_1 l0_2 a1 = some r) :
    Calls Try.prog 92 #[.agg #[.int .i64 a0_0, .slice A0_1 l0_1.length c0_1, .slice A0_2 l0_2.length c0_2], .string a1] w fun e w' => e = .returned (.bool r) ∧ Below w.heap.size w w' := by
  have hu99 := Try.underlying99; have HR0_1 := Aside0.mk hr0_1; have HC0_1 := Aside0.mk hc0_1; clear hr0_1 hc0_1; have HR0_2 := Aside0.mk hr0_2; have HC0_2 := Aside0.mk hc0_2; clear hr0_2 hc0_2; have HB := Aside0.mk (Below.refl w.heap.size w); have H : (if a1.toList = ([] : List UInt8) then (some true) else ((slices_Contains_string_string.f k l0_1 a1).bind fun t102 => (some t102))) = some r := h; clear h; by_cases c3 : a1.toList = ([] : List UInt8); rotate_left; rw [if_neg c3] at H; have c3b0 := bf_ c3; have c3b1 := nt_ c3; replace H := ob_ H; obtain ⟨t102, A5, H⟩ := H; obtain rfl := Option.some.inj H; rotate_right; rw [if_pos c3] at H; have c3b0 := bt__ c3; have c3b1 := nf__ c3; clear c3; obtain rfl := Option.some.inj H
  all_goals
    go_enter Try.func92, Try.ntmps92
  · go_wp2_with (first | ((with_reducible refine gate_dst (N := 2) rfl ?_); refine bx_ 2 #[.int .i64 a0_0, .slice A0_1 l0_1.length c0_1, .slice A0_2 l0_2.length c0_2] 99 ?_; intro gb7101 hg w4 hbox hb; have BK7101 := Aside0.mk (hbox); have GW7101 := gw_ hg; have GE7101 := gw_ hg; replace HB := bs_ hb; clear hb hbox hg))
    go_ret; exact re_
  go_wp2_with (first | ((with_reducible refine gate_dst (N := 2) rfl ?_); refine bx_ 2 #[.int .i64 a0_0, .slice A0_1 l0_1.length c0_1, .slice A0_2 l0_2.length c0_2] 99 ?_; intro gb101 hg w6 hbox hb; have BK101 := Aside0.mk (hbox); have GW101 := gw_ hg; have GE101 := gw_ hg; replace HB := bs_ hb; clear hb hbox hg; obtain ⟨hcz7_0, hcz7_1, hcz7_2, hfz7_0, hfz7_1, hfz7_2⟩ := blk3 BK101) | (go_at_call 161; (with_reducible refine (slices_Contains_string_string.calls k _ _ l0_1 a1 t102 _ ?side1 ?side2 A5.out).mono ?_); (case side1 => exact rdb_ HR0_1); (case side2 => exact HC0_1.out); rintro e w' ⟨rfl, ⟨nd, rfl⟩⟩))
  go_ret; exact re_
mutual
def impl_sameOf.j0 : Nat → Bool → Int → Int → ByteArray → List (S49) → Int → Int → ByteArray → List (S49) → Option (Bool)
  | 0, _, _, _, _, _, _, _, _, _ => none
  | k + 1, x33, x102000, x102001, x102002, x102003, x103000, x103001, x103002, x103003 => if x33 = true then (some false) else (impl_sameOf.l0 k (x102003.length : Int) 0 x102000 x102001 x102002 x102003 x103000 x103001 x103002 x103003)
def impl_sameOf.l0 : Nat → Int → Int → Int → Int → ByteArray → List (S49) → Int → Int → ByteArray → List (S49) → Option (Bool)
  | 0, _, _, _, _, _, _, _, _, _, _ => none
  | k + 1, x36, x37, x102000, x102001, x102002, x102003, x103000, x103001, x103002, x103003 => if x37 < x36 then (if 0 ≤ x37 then (if x37 < (x102003.length : Int) then (if x37 < (x103003.length : Int) then ((impl_sameOf.f k ((rd_T49 x102003 x37).f0) ((rd_T49 x102003 x37).f1) ((rd_T49 x102003 x37).f2) ((rd_T49 x102003 x37).f3) ((rd_T49 x103003 x37).f0) ((rd_T49 x103003 x37).f1) ((rd_T49 x103003 x37).f2) ((rd_T49 x103003 x37).f3)).bind fun t105 => (if t105 = true then (impl_sameOf.l0 k x36 (wrap64 (x37 + 1)) x102000 x102001 x102002 x102003 x103000 x103001 x103002 x103003) else (some false))) else (none)) else (none)) else (none)) else (some true)
def impl_sameOf.f : Nat → Int → Int → ByteArray → List (S49) → Int → Int → ByteArray → List (S49) → Option (Bool)
  | 0, _, _, _, _, _, _, _, _ => none
  | k + 1, a0_0, a0_1, a0_2, l0_3, a1_0, a1_1, a1_2, l1_3 => if a0_0 = a1_0 then (if a0_1 = a1_1 then (if a0_2.toList = a1_2.toList then (impl_sameOf.j0 k ((l0_3.length : Int) != (l1_3.length : Int)) a0_0 a0_1 a0_2 l0_3 a1_0 a1_1 a1_2 l1_3) else (impl_sameOf.j0 k true a0_0 a0_1 a0_2 l0_3 a1_0 a1_1 a1_2 l1_3)) else (impl_sameOf.j0 k true a0_0 a0_1 a0_2 l0_3 a1_0 a1_1 a1_2 l1_3)) else (impl_sameOf.j0 k true a0_0 a0_1 a0_2 l0_3 a1_0 a1_1 a1_2 l1_3)
end
def impl_sameOf.T6 : Bool × List (List Nat × List Nat) := (true, [([], []), ([0], [0]), ([], []), ([1, 2], [1, 2]), ([3], [3]), ([], []), ([5], [5]), ([], []), ([6, 7], [6, 7]), ([8], [8]), ([4, 9], [4, 9]), ([10], [10])])
def impl_sameOf.B6 : List Nat := [0, 1, 0, 7, 15, 0, 32, 0, 224, 480, 1023, 2047]
theorem impl_sameOf.tab6 : rtab .any (opsOf Try.f104 6) = impl_sameOf.T6 := by kernel_rfl
theorem impl_sameOf.bits6 : waitsOk impl_sameOf.T6.2 impl_sameOf.B6 = true := by kernel_rfl
set_option maxHeartbeats 8000000 in
set_option maxRecDepth 100000 in
theorem impl_sameOf.calls (k : Nat) : ∀ (a0_0 : Int) (a0_1 : Int) (a0_2 : ByteArray) (A0_3 : Option Addr) (c0_3 : Nat) (l0_3 : List (S49)) (a1_0 : Int) (a1_1 : Int) (a1_2 : ByteArray) (A1_3 : Option Addr) (c1_3 : Nat) (l1_3 : List (S49)) (r : Bool) (w : World) (hr0_3 : Kd.C k49 w A0_3 l0_3.length l0_3) (hc0_3 : l0_3.length ≤ c0_3) (hr1_3 : Kd.C k49 w A1_3 l1_3.length l1_3) (hc1_3 : l1_3.length ≤ c1_3) (h : impl_sameOf.f k a0_0 a0_1 a0_2 l0_3 a1_0 a1_1 a1_2 l1_3 = some r),
    Calls Try.prog 104 #[.agg #[.int .i64 a0_0, .int .i64 a0_1, .string a0_2, .slice A0_3 l0_3.length c0_3], .agg #[.int .i64 a1_0, .int .i64 a1_1, .string a1_2, .slice A1_3 l1_3.length c1_3]] w fun e w' => e = .returned (.bool r) ∧ Below w.heap.size w w' := by
  induction k using Nat.strongRecOn with
  | _ k ih =>
  intro a0_0 a0_1 a0_2 A0_3 c0_3 l0_3 a1_0 a1_1 a1_2 A1_3 c1_3 l1_3 r w hr0_3 hc0_3 hr1_3 hc1_3 h
  cases k with
  | zero => exact absurd h (by simp [impl_sameOf.f])
  | succ k =>
  simp only [impl_sameOf.f] at h; have hu49 := Try.underlying49; have HR0_3 := Aside0.mk hr0_3; have HC0_3 := Aside0.mk hc0_3; clear hr0_3 hc0_3; have HR1_3 := Aside0.mk hr1_3; have HC1_3 := Aside0.mk hc1_3; clear hr1_3 hc1_3; have HB := Aside0.mk (Below.refl w.heap.size w); have H : (if a0_0 = a1_0 then (if a0_1 = a1_1 then (if a0_2.toList = a1_2.toList then (impl_sameOf.j0 k ((l0_3.length : Int) != (l1_3.length : Int)) a0_0 a0_1 a0_2 l0_3 a1_0 a1_1 a1_2 l1_3) else (impl_sameOf.j0 k true a0_0 a0_1 a0_2 l0_3 a1_0 a1_1 a1_2 l1_3)) else (impl_sameOf.j0 k true a0_0 a0_1 a0_2 l0_3 a1_0 a1_1 a1_2 l1_3)) else (impl_sameOf.j0 k true a0_0 a0_1 a0_2 l0_3 a1_0 a1_1 a1_2 l1_3)) = some r := h; clear h; have HC3 := Aside0.mk H; clear H
  go_enter Try.func104, Try.ntmps104
  go_upto_region 1 with (first | ((with_reducible refine gate_dst (N := 2) rfl ?_); (try (refine gate_guard (by rfl) ?_; dsimp only)); refine box_event ?hg (N := 2) ?hd (cs := #[.int .i64 a0_0, .int .i64 a0_1, .string a0_2, .slice A0_3 l0_3.length c0_3]) (t := 49) ?hr ?_; (case hd => rfl); (case hg => rfl); (case hr => first | (go_simp; done) | (go_simp; rfl)); intro gb101 hg w4 hbox hb; have BK101 := Aside0.mk (hbox); have GW101 := gw_ hg; have GE101 := gw_ hg; replace HB := bs_ hb; clear hb hbox hg) | ((with_reducible refine gate_dst (N := 3) rfl ?_); (try (refine gate_guard (by rfl) ?_; dsimp only)); refine box_event ?hg (N := 3) ?hd (cs := #[.int .i64 a1_0, .int .i64 a1_1, .string a1_2, .slice A1_3 l1_3.length c1_3]) (t := 49) ?hr ?_; (case hd => rfl); (case hg => rfl); (case hr => first | (go_simp; done) | (go_simp; rfl)); intro gb102 hg w5 hbox hb; have BK102 := Aside0.mk (hbox); have GW102 := gw_ hg; have GE102 := gw_ hg; have NB101_102 := nlt_ hg BK101; have NB102_101 := ngt_ hg BK101; replace BK101 := bb_ BK101 hb; replace HB := bs_ hb; clear hb hbox hg))
  (try simp only [Act.put, List.setIfInBounds_toArray, List.set_cons_zero, List.set_cons_succ])
  go_cut [33] (fun v33 wc => ∃ (kq : Nat) (x33_2 : Bool), v33 = .bool x33_2 ∧ Aside0 (impl_sameOf.j0 kq x33_2 a0_0 a0_1 a0_2 l0_3 a1_0 a1_1 a1_2 l1_3 = some r) ∧ Aside0 (kq ≤ k) ∧ Aside0 (wc.heap[gb101]? = some (.cells #[.int .i64 a0_0, .int .i64 a0_1, .string a0_2, (.slice A0_3 l0_3.length c0_3)] 49 (0, 0))) ∧ Aside0 (wc.heap[gb102]? = some (.cells #[.int .i64 a1_0, .int .i64 a1_1, .string a1_2, (.slice A1_3 l1_3.length c1_3)] 49 (0, 0))) ∧ Aside0 (Below w.heap.size w wc))
  case first =>
    have H := HC3.out; clear HC3; by_cases c6 : a0_0 = a1_0; rotate_left
    · rw [if_neg c6] at H; have c6b0 := bf_ c6; have c6b1 := nt_ c6
      (first | rw [c6b0] | (simp only [i64_w, i32_w]; rw [c6b0]) | skip)
      have H' := Aside0.mk H; clear H; have hnb18 := NB101_102.out; have hnc18 := NB102_101.out; obtain ⟨hcz19_0, hcz19_1, hcz19_2, hcz19_3, hfz19_0, hfz19_1, hfz19_2, hfz19_3⟩ := blk4 BK101; obtain ⟨hcz20_0, hcz20_1, hcz20_2, hcz20_3, hfz20_0, hfz20_1, hfz20_2, hfz20_3⟩ := blk4 BK102
      go_wp2
      go_meet
      case rel => exact ⟨_, (true), sm_, H', ⟨by first | omega | exact Nat.le_refl _⟩, ⟨by refine pe_ ?_; exact BK101.out⟩, ⟨by refine pe_ ?_; exact BK102.out⟩, ⟨bel_⟩⟩
    rw [if_pos c6] at H; have c6b0 := bt__ c6; have c6b1 := nf__ c6; clear c6
    (first | rw [c6b0] | (simp only [i64_w, i32_w]; rw [c6b0]) | skip)
    by_cases c7 : a0_1 = a1_1; rotate_left; rw [if_neg c7] at H; have c7b0 := bf_ c7; have c7b1 := nt_ c7; have H' := Aside0.mk H; clear H; have hnb15 := NB101_102.out; have hnc15 := NB102_101.out; rotate_right; rw [if_pos c7] at H; have c7b0 := bt__ c7; have c7b1 := nf__ c7; clear c7; by_cases c8 : a0_2.toList = a1_2.toList; rotate_left; rw [if_neg c8] at H; have c8b0 := bf_ c8; have c8b1 := nt_ c8; have H' := Aside0.mk H; clear H; have hnb12 := NB101_102.out; have hnc12 := NB102_101.out; rotate_right; rw [if_pos c8] at H; have c8b0 := bt__ c8; have c8b1 := nf__ c8; clear c8; have H' := Aside0.mk H; clear H; have hnb9 := NB101_102.out; have hnc9 := NB102_101.out
    all_goals
      obtain ⟨hcz16_0, hcz16_1, hcz16_2, hcz16_3, hfz16_0, hfz16_1, hfz16_2, hfz16_3⟩ := blk4 BK101; obtain ⟨hcz17_0, hcz17_1, hcz17_2, hcz17_3, hfz17_0, hfz17_1, hfz17_2, hfz17_3⟩ := blk4 BK102
      go_wp2
      go_meet
    · case rel => exact ⟨_, (((l0_3.length : Int) != (l1_3.length : Int))), sm_, H', ⟨by first | omega | exact Nat.le_refl _⟩, ⟨by refine pe_ ?_; exact BK101.out⟩, ⟨by refine pe_ ?_; exact BK102.out⟩, ⟨bel_⟩⟩
    all_goals
      case rel => exact ⟨_, (true), sm_, H', ⟨by first | omega | exact Nat.le_refl _⟩, ⟨by refine pe_ ?_; exact BK101.out⟩, ⟨by refine pe_ ?_; exact BK102.out⟩, ⟨bel_⟩⟩
  case rest =>
    clear HC3
    try clear c1
    try clear p2
    try clear c6
    try clear c6b0
    try clear c6b1
    try clear c7
    try clear c7b0
    try clear c7b1
    try clear c8
    try clear c8b0
    try clear c8b1
    try clear c9
    try clear c10
    try clear c12
    try clear c15
    try clear c18
    try clear hcz10_0 hcz10_1 hcz10_2 hcz10_3
    try clear hcz11_0 hcz11_1 hcz11_2 hcz11_3
    try clear hcz13_0 hcz13_1 hcz13_2 hcz13_3
    try clear hcz14_0 hcz14_1 hcz14_2 hcz14_3
    try clear hcz16_0 hcz16_1 hcz16_2 hcz16_3
    try clear hcz17_0 hcz17_1 hcz17_2 hcz17_3
    try clear hcz19_0 hcz19_1 hcz19_2 hcz19_3
    try clear hcz20_0 hcz20_1 hcz20_2 hcz20_3
    try clear hfz10_0 hfz10_1 hfz10_2 hfz10_3
    try clear hfz11_0 hfz11_1 hfz11_2 hfz11_3
    try clear hfz13_0 hfz13_1 hfz13_2 hfz13_3
    try clear hfz14_0 hfz14_1 hfz14_2 hfz14_3
    try clear hfz16_0 hfz16_1 hfz16_2 hfz16_3
    try clear hfz17_0 hfz17_1 hfz17_2 hfz17_3
    try clear hfz19_0 hfz19_1 hfz19_2 hfz19_3
    try clear hfz20_0 hfz20_1 hfz20_2 hfz20_3
    obtain ⟨kq, x33_2, rfl, HA, HJ2, BK101, BK102, HB⟩ := hcut
    cases kq with
    | zero => exact absurd HA.out (by simp [impl_sameOf.j0])
    | succ kj2 =>
      have H := HA.out; clear HA; simp only [impl_sameOf.j0] at H; by_cases c21 : x33_2 = true; rotate_left; replace c21 := Bool.eq_false_iff.mpr c21; subst c21; rw [fe_] at H; have H' := Aside0.mk H; clear H; have hnb22 := NB101_102.out; have hnc22 := NB102_101.out; rotate_right; subst c21; rw [if_pos rfl] at H; obtain rfl := Option.some.inj H
      · go_wp2
        go_ret; exact re_
      obtain ⟨hcz23_0, hcz23_1, hcz23_2, hcz23_3, hfz23_0, hfz23_1, hfz23_2, hfz23_3⟩ := blk4 BK101
      go_wp2
      go_loopg [37] kj2 (fun kq v37 w' => ∃ (x37_2 : Int), v37 = .int .i64 x37_2 ∧ Aside0 (impl_sameOf.l0 kq (l0_3.length : Int) x37_2 a0_0 a0_1 a0_2 l0_3 a1_0 a1_1 a1_2 l1_3 = some r) ∧ Aside0 (kq ≤ kj2) ∧ Aside0 (w'.heap[gb101]? = some (.cells #[.int .i64 a0_0, .int .i64 a0_1, .string a0_2, (.slice A0_3 l0_3.length c0_3)] 49 (0, 0))) ∧ Aside0 (w'.heap[gb102]? = some (.cells #[.int .i64 a1_0, .int .i64 a1_1, .string a1_2, (.slice A1_3 l1_3.length c1_3)] 49 (0, 0))) ∧ Aside0 (Below w.heap.size w w'))
      case atStart => exact ⟨(0), sm_, H', ⟨Nat.le_refl _⟩, ⟨by refine pe_ ?_; exact BK101.out⟩, ⟨by refine pe_ ?_; exact BK102.out⟩, ⟨bel_⟩⟩
      case round =>
        clear H'
        try clear c1
        try clear c2
        try clear p2
        try clear c6
        try clear c6b0
        try clear c6b1
        try clear c7
        try clear c7b0
        try clear c7b1
        try clear c8
        try clear c8b0
        try clear c8b1
        try clear c9
        try clear c10
        try clear c12
        try clear c15
        try clear c18
        try clear c21
        try clear c22
        try clear hcz10_0 hcz10_1 hcz10_2 hcz10_3
        try clear hcz11_0 hcz11_1 hcz11_2 hcz11_3
        try clear hcz13_0 hcz13_1 hcz13_2 hcz13_3
        try clear hcz14_0 hcz14_1 hcz14_2 hcz14_3
        try clear hcz16_0 hcz16_1 hcz16_2 hcz16_3
        try clear hcz17_0 hcz17_1 hcz17_2 hcz17_3
        try clear hcz19_0 hcz19_1 hcz19_2 hcz19_3
        try clear hcz20_0 hcz20_1 hcz20_2 hcz20_3
        try clear hcz23_0 hcz23_1 hcz23_2 hcz23_3
        try clear hfz10_0 hfz10_1 hfz10_2 hfz10_3
        try clear hfz11_0 hfz11_1 hfz11_2 hfz11_3
        try clear hfz13_0 hfz13_1 hfz13_2 hfz13_3
        try clear hfz14_0 hfz14_1 hfz14_2 hfz14_3
        try clear hfz16_0 hfz16_1 hfz16_2 hfz16_3
        try clear hfz17_0 hfz17_1 hfz17_2 hfz17_3
        try clear hfz19_0 hfz19_1 hfz19_2 hfz19_3
        try clear hfz20_0 hfz20_1 hfz20_2 hfz20_3
        try clear hfz23_0 hfz23_1 hfz23_2 hfz23_3
        try clear p2
        obtain ⟨x37_2, rfl, HA, HK2, BK101, BK102, HB⟩ := hrel
        cases gk with
        | zero => exact absurd HA.out (by simp [impl_sameOf.l0])
        | succ k2 =>
          have H := HA.out; clear HA; simp only [impl_sameOf.l0] at H; by_cases c24 : x37_2 < (l0_3.length : Int); rotate_left; rw [if_neg c24] at H; have c24b0 := df_ c24; clear c24; obtain rfl := Option.some.inj H; rotate_right; rw [if_pos c24] at H; have c24b0 := dt_ c24; clear c24; by_cases c25 : 0 ≤ x37_2; rotate_left
          · rw [if_neg c25] at H; exact absurd H (by simp)
          rotate_right; rw [if_pos c25] at H; have c25b0 := dt_ c25; clear c25; by_cases c26 : x37_2 < (l0_3.length : Int); rotate_left
          · rw [if_neg c26] at H; exact absurd H (by simp)
          rotate_right; rw [if_pos c26] at H; have c26b0 := dt_ c26; clear c26; by_cases c27 : x37_2 < (l1_3.length : Int); rotate_left
          · rw [if_neg c27] at H; exact absurd H (by simp)
          rotate_right; rw [if_pos c27] at H; have c27b0 := dt_ c27; clear c27; replace H := ob_ H; obtain ⟨t105, A28, H⟩ := H; by_cases c29 : t105 = true; rotate_left; replace c29 := Bool.eq_false_iff.mpr c29; subst c29; rw [fe_] at H; obtain rfl := Option.some.inj H; rotate_right; subst c29; rw [if_pos rfl] at H; have H' := Aside0.mk H; clear H; rotate_left 2
          · go_wp2
            go_ret; exact re_
          all_goals
            try go_wp2
            replace BK101 := Aside0.mk (blk_drew BK101.out); replace BK102 := Aside0.mk (blk_drew BK102.out); replace HB := Aside0.mk (below_drew1 HB.out); have p103 : 0 ≤ (x37_2 : Int) := od_; have q103 : x37_2 < (l0_3.length : Int) := od_; obtain ⟨ad103, A103_3, c103_3, e103, hx103_0, hx103_1, hx103_2, hx103_3, hl103_3, hi103_3⟩ := at_T49 HR0_3.out x37_2 p103 q103; have hw103_3 := hx103_3; have hw103_2 := hx103_2; have hw103_1 := hx103_1; have hw103_0 := hx103_0
            cases e103
            replace hx103_0 := mv_ HB hx103_0; replace hx103_1 := mv_ HB hx103_1; replace hx103_2 := mv_ HB hx103_2; replace hx103_3 := mv_ HB hx103_3; have HR103_3 := Aside0.mk hi103_3; have HC103_3 := Aside0.mk hl103_3; clear hi103_3 hl103_3; replace p103 := eq_true p103; replace q103 := eq_true q103; have p104 : 0 ≤ (x37_2 : Int) := od_; have q104 : x37_2 < (l1_3.length : Int) := od_; obtain ⟨ad104, A104_3, c104_3, e104, hx104_0, hx104_1, hx104_2, hx104_3, hl104_3, hi104_3⟩ := at_T49 HR1_3.out x37_2 p104 q104; have hw104_3 := hx104_3; have hw104_2 := hx104_2; have hw104_1 := hx104_1; have hw104_0 := hx104_0
            cases e104
            replace hx104_0 := mv_ HB hx104_0; replace hx104_1 := mv_ HB hx104_1; replace hx104_2 := mv_ HB hx104_2; replace hx104_3 := mv_ HB hx104_3; have HR104_3 := Aside0.mk hi104_3; have HC104_3 := Aside0.mk hl104_3; clear hi104_3 hl104_3; replace p104 := eq_true p104; replace q104 := eq_true q104
            refine start_ (n := 12) (S := fun w' => w'.cell? ⟨gb101, 0, none⟩ = some (.int .i64 a0_0) ∧ w'.cell? ⟨gb101, 1, none⟩ = some (.int .i64 a0_1) ∧ w'.cell? ⟨gb101, 2, none⟩ = some (.string a0_2) ∧ w'.cell? ⟨gb101, 3, none⟩ = some (.slice (some ad103) l0_3.length c0_3) ∧ w'.cell? ⟨gb102, 0, none⟩ = some (.int .i64 a1_0) ∧ w'.cell? ⟨gb102, 1, none⟩ = some (.int .i64 a1_1) ∧ w'.cell? ⟨gb102, 2, none⟩ = some (.string a1_2) ∧ w'.cell? ⟨gb102, 3, none⟩ = some (.slice (some ad104) l1_3.length c1_3) ∧ w'.cell? (ad103.add ((x37_2).toNat * 4)) = some (.int .i64 ((rd_T49 l0_3 x37_2).f0)) ∧ w'.cell? ⟨(ad103.add ((x37_2).toNat * 4)).block, (ad103.add ((x37_2).toNat * 4)).off + 1, none⟩ = some (.int .i64 ((rd_T49 l0_3 x37_2).f1)) ∧ w'.cell? ⟨(ad103.add ((x37_2).toNat * 4)).block, (ad103.add ((x37_2).toNat * 4)).off + 2, none⟩ = some (.string ((rd_T49 l0_3 x37_2).f2)) ∧ w'.cell? ⟨(ad103.add ((x37_2).toNat * 4)).block, (ad103.add ((x37_2).toNat * 4)).off + 3, none⟩ = some (.slice A103_3 ((rd_T49 l0_3 x37_2).f3).length c103_3) ∧ w'.cell? (ad104.add ((x37_2).toNat * 4)) = some (.int .i64 ((rd_T49 l1_3 x37_2).f0)) ∧ w'.cell? ⟨(ad104.add ((x37_2).toNat * 4)).block, (ad104.add ((x37_2).toNat * 4)).off + 1, none⟩ = some (.int .i64 ((rd_T49 l1_3 x37_2).f1)) ∧ w'.cell? ⟨(ad104.add ((x37_2).toNat * 4)).block, (ad104.add ((x37_2).toNat * 4)).off + 2, none⟩ = some (.string ((rd_T49 l1_3 x37_2).f2)) ∧ w'.cell? ⟨(ad104.add ((x37_2).toNat * 4)).block, (ad104.add ((x37_2).toNat * 4)).off + 3, none⟩ = some (.slice A104_3 ((rd_T49 l1_3 x37_2).f3).length c104_3)) (ds := []) #[false, false, false, false, false, false, false, false, false, false, false, false] (by kernel_rfl) rfl rfl ⟨(blkc BK101 0), (blkc BK101 1), (blkc BK101 2), (blkc BK101 3), (blkc BK102 0), (blkc BK102 1), (blkc BK102 2), (blkc BK102 3), (mv_ HB hw103_0 :), (mv_ HB hw103_1 :), (mv_ HB hw103_2 :), (mv_ HB hw103_3 :), (mv_ HB hw104_0 :), (mv_ HB hw104_1 :), (mv_ HB hw104_2 :), (mv_ HB hw104_3 :)⟩ (fun hHeld => ?_); refine with_tabW impl_sameOf.tab6 impl_sameOf.bits6 (fun HT_ HW_ => ?_)
            generalize wr.drew = w30 at BK101 BK102 HB HR103_3 HR104_3 hx103_0 hx103_1 hx103_2 hx103_3 hx104_0 hx104_1 hx104_2 hx104_3 hHeld ⊢; refine puA 0 (some 40) ?_; refine puA 2 (some 42) ?_; refine puA 5 (some 45) ?_; refine puA 7 (some 47) ?_; refine taA 1 (some 41) ?_; refine puA 3 (some 43) ?_; refine taA 4 (some 44) ?_; refine taA 6 (some 46) ?_; refine puA 8 (some 48) ?_; refine taA 9 (some 49) ?_; refine one_ (i := 10) (N := some 50) #[true, true, true, true, true, true, true, true, true, true, true, false] rfl rfl (one_of HT_.out (by kernel_rfl)) (by decide) (fun K hK => ?_); refine goes_ Try.func104 (by kernel_rfl) rfl #[.agg #[.int .i64 ((rd_T49 l0_3 x37_2).f0), .int .i64 ((rd_T49 l0_3 x37_2).f1), .string ((rd_T49 l0_3 x37_2).f2), .slice A103_3 ((rd_T49 l0_3 x37_2).f3).length c103_3], .agg #[.int .i64 ((rd_T49 l1_3 x37_2).f0), .int .i64 ((rd_T49 l1_3 x37_2).f1), .string ((rd_T49 l1_3 x37_2).f2), .slice A104_3 ((rd_T49 l1_3 x37_2).f3).length c104_3]] (by rfl) rfl rfl ar_ ?_
          rotate_left
          · with_reducible refine (ih k2 (by have := HJ2.out; have := HK2.out; omega) ((rd_T49 l0_3 x37_2).f0) ((rd_T49 l0_3 x37_2).f1) ((rd_T49 l0_3 x37_2).f2) _ _ ((rd_T49 l0_3 x37_2).f3) ((rd_T49 l1_3 x37_2).f0) ((rd_T49 l1_3 x37_2).f1) ((rd_T49 l1_3 x37_2).f2) _ _ ((rd_T49 l1_3 x37_2).f3) false _ ?side1 ?side2 ?side3 ?side4 A28.out).mono ?_
            (case side1 => exact rdb_ HR103_3); (case side2 => exact HC103_3.out); (case side3 => exact rdb_ HR104_3); (case side4 => exact HC104_3.out); rintro e w33 ⟨rfl, hb⟩; refine ⟨_, rfl, ?_⟩; replace BK101 := bb_ BK101 hb; replace BK102 := bb_ BK102 hb; replace HB := bs_ hb; (try clear hb); (try clear hb2); (try clear hk); (try clear hi); refine hK.out _ _ ⟨(blkc BK101 0), (blkc BK101 1), (blkc BK101 2), (blkc BK101 3), (blkc BK102 0), (blkc BK102 1), (blkc BK102 2), (blkc BK102 3), (mv_ HB hw103_0 :), (mv_ HB hw103_1 :), (mv_ HB hw103_2 :), (mv_ HB hw103_3 :), (mv_ HB hw104_0 :), (mv_ HB hw104_1 :), (mv_ HB hw104_2 :), (mv_ HB hw104_3 :)⟩ (fun hHeld => ?_); clear hK K; refine norm_ (a' := ?_) ?_ ?_; rotate_left
            · show Act.put _ (some 50) _ = _
              simp only [Act.put, List.setIfInBounds_toArray, List.set_cons_zero, List.set_cons_succ, i64_w, i32_w]
              rfl
            refine puA 11 (some 51) ?_; refine done_ (done_of HT_.out (by kernel_rfl)) ?_
            try go_wp2
            go_ret; exact re_
          with_reducible refine (ih k2 (by have := HJ2.out; have := HK2.out; omega) ((rd_T49 l0_3 x37_2).f0) ((rd_T49 l0_3 x37_2).f1) ((rd_T49 l0_3 x37_2).f2) _ _ ((rd_T49 l0_3 x37_2).f3) ((rd_T49 l1_3 x37_2).f0) ((rd_T49 l1_3 x37_2).f1) ((rd_T49 l1_3 x37_2).f2) _ _ ((rd_T49 l1_3 x37_2).f3) true _ ?side1 ?side2 ?side3 ?side4 A28.out).mono ?_
          (case side1 => exact rdb_ HR103_3); (case side2 => exact HC103_3.out); (case side3 => exact rdb_ HR104_3); (case side4 => exact HC104_3.out); rintro e w31 ⟨rfl, hb⟩; refine ⟨_, rfl, ?_⟩; replace BK101 := bb_ BK101 hb; replace BK102 := bb_ BK102 hb; replace HB := bs_ hb; (try clear hb); (try clear hb2); (try clear hk); (try clear hi); refine hK.out _ _ ⟨(blkc BK101 0), (blkc BK101 1), (blkc BK101 2), (blkc BK101 3), (blkc BK102 0), (blkc BK102 1), (blkc BK102 2), (blkc BK102 3), (mv_ HB hw103_0 :), (mv_ HB hw103_1 :), (mv_ HB hw103_2 :), (mv_ HB hw103_3 :), (mv_ HB hw104_0 :), (mv_ HB hw104_1 :), (mv_ HB hw104_2 :), (mv_ HB hw104_3 :)⟩ (fun hHeld => ?_); clear hK K; refine norm_ (a' := ?_) ?_ ?_; rotate_left
          · show Act.put _ (some 50) _ = _
            simp only [Act.put, List.setIfInBounds_toArray, List.set_cons_zero, List.set_cons_succ, i64_w, i32_w]
            rfl
          refine puA 11 (some 51) ?_; refine done_ (done_of HT_.out (by kernel_rfl)) ?_
          try go_wp2
          go_roundg k2
          case measure => have := HJ2.out; have := HK2.out; omega
          case rel => exact ⟨(wrap64 (x37_2 + 1)), sm_, H', ⟨by have := HJ2.out; have := HK2.out; omega⟩, ⟨by refine pe_ ?_; exact BK101.out⟩, ⟨by refine pe_ ?_; exact BK102.out⟩, ⟨bel_⟩⟩
def impl_propOf.l0 : Nat → ByteArray → List (S140) → Int → Int → Option (Int × Int × ByteArray × (List (S49)))
  | 0, _, _, _, _ => none
  | k + 1, x1, x7, x8, x9 => if x9 < x8 then (if 0 ≤ x9 then (if x9 < (x7.length : Int) then (if ((rd_T140 x7 x9).f0).toList = x1.toList then (some ((rd_T140 x7 x9).f1.f0, (rd_T140 x7 x9).f1.f1, (rd_T140 x7 x9).f1.f2, (rd_T140 x7 x9).f1.f3)) else (impl_propOf.l0 k x1 x7 x8 (wrap64 (x9 + 1)))) else (none)) else (none)) else (some (0, 0, (⟨#[]⟩ : ByteArray), ([] : List (S49))))
def impl_propOf.f (k : Nat) (l0 : List (S140)) (a1 : ByteArray) : Option (Int × Int × ByteArray × (List (S49))) := impl_propOf.l0 k a1 l0 (l0.length : Int) 0
set_option maxHeartbeats 8000000 in
set_option maxRecDepth 100000 in
theorem impl_propOf.calls (k : Nat) (P0_ : Nat → Prop) (A0 : Option Addr) (c0 : Nat) (l0 : List (S140)) (a1 : ByteArray) (r1 : Int) (r2 : Int) (r3 : ByteArray) (r4 : List (S49)) (w : World) (hs0 : Kd.V k140 140 w w.heap.size (fun k_ => P0_ k_) (.slice A0 l0.length c0) l0) (h : impl_propOf.f k l0 a1 = some (r1, r2, r3, r4)) :
    Calls Try.prog 105 #[.slice A0 l0.length c0, .string a1] w fun e w' => ∃ v3_ : Value, e = .returned (.agg #[.int .i64 r1, .int .i64 r2, .string r3, v3_]) ∧ Kd.V k49 49 w' w.heap.size (fun k_ => (P0_ k_ ∨ w.heap.size ≤ k_)) v3_ r4 ∧ Below w.heap.size w w' := by
  have hu49 := Try.underlying49; have hu140 := Try.underlying140; have HO0 := Aside0.mk (show Kd.V k140 140 w w.heap.size (fun k_ => (P0_ k_ ∨ w.heap.size ≤ k_)) (.slice A0 l0.length c0) l0 from Kd.V_mono hs0 (fun k_ hk => .inl hk)); have HB := Aside0.mk (Below.refl w.heap.size w); have H : (impl_propOf.l0 k a1 l0 (l0.length : Int) 0) = some (r1, r2, r3, r4) := h; clear h; have H' := Aside0.mk H; clear H
  go_enter Try.func105, Try.ntmps105
  go_wp2_with (first | ((with_reducible refine gate_dst (N := 4) rfl ?_); refine bx_ 4 #[.int .i64 0, .int .i64 0, .string (⟨#[]⟩ : ByteArray), .slice none 0 0] 49 ?_; intro gb101 hg w3 hbox hb; have BK101 := Aside0.mk (hbox); have GW101 := gw_ hg; have GE101 := gw_ hg; replace HO0 := Aside0.mk (Kd.V_below (Kd.V_elderB (by (with_reducible repeat (first | apply Kd.V_alloc | apply Kd.V_drewN | apply Kd.V_drew)); first | exact HO0.out | exact Kd.V_mono (HO0.out) (fun _ h_ => by simpa only [and_assoc, and_comm, and_left_comm] using h_)) gb101 (Nat.le_of_eq hg.symm)) hb); replace HB := bs_ hb; clear hb hbox hg))
  go_loopg [9] k (fun kq v9 w' => ∃ (x9_1 : Int) (x102000_1 : Int) (x102001_1 : Int) (x102002_1 : ByteArray), v9 = .int .i64 x9_1 ∧ Aside0 (impl_propOf.l0 kq a1 l0 (l0.length : Int) x9_1 = some (r1, r2, r3, r4)) ∧ Aside0 (kq ≤ k) ∧ Aside0 (Kd.V k140 140 w' w.heap.size (fun k_ => (P0_ k_ ∨ w.heap.size ≤ k_) ∧ k_ ≠ gb101) (.slice A0 l0.length c0) l0) ∧ Aside0 (w'.heap[gb101]? = some (.cells #[.int .i64 x102000_1, .int .i64 x102001_1, .string x102002_1, (.slice none 0 0)] 49 (0, 0))) ∧ Aside0 (Below w.heap.size w w'))
  case atStart => exact ⟨(0), (0), (0), ((⟨#[]⟩ : ByteArray)), sm_, H', ⟨Nat.le_refl _⟩, ⟨by (with_reducible repeat (first | apply Kd.V_alloc | apply Kd.V_drewN | apply Kd.V_drew)); first | exact HO0.out | exact Kd.V_mono (HO0.out) (fun _ h_ => by simpa only [and_assoc, and_comm, and_left_comm] using h_)⟩, ⟨by refine pe_ ?_; exact BK101.out⟩, ⟨bel_⟩⟩
  case round =>
    clear H'
    try clear c1
    try clear p2
    obtain ⟨x9_1, x102000_1, x102001_1, x102002_1, rfl, HA, HK1, HO_7, BK101, HB⟩ := hrel
    cases gk with
    | zero => exact absurd HA.out (by simp [impl_propOf.l0])
    | succ k1 =>
      have H := HA.out; clear HA; simp only [impl_propOf.l0] at H; by_cases c4 : x9_1 < (l0.length : Int); rotate_left; rw [if_neg c4] at H; have c4b0 := df_ c4; clear c4; simp only [Option.some.injEq, Prod.mk.injEq] at H; obtain ⟨rfl, rfl, rfl, rfl⟩ := H; rotate_right; rw [if_pos c4] at H; have c4b0 := dt_ c4; clear c4; by_cases c5 : 0 ≤ x9_1; rotate_left
      · rw [if_neg c5] at H; exact absurd H (by simp)
      rotate_right; rw [if_pos c5] at H; have c5b0 := dt_ c5; clear c5; by_cases c6 : x9_1 < (l0.length : Int); rotate_left
      · rw [if_neg c6] at H; exact absurd H (by simp)
      rotate_right; rw [if_pos c6] at H; have c6b0 := dt_ c6; clear c6; by_cases c7 : ((rd_T140 l0 x9_1).f0).toList = a1.toList; rotate_left; rw [if_neg c7] at H; have c7b0 := bf_ c7; have c7b1 := nt_ c7; have H' := Aside0.mk H; clear H; rotate_right; rw [if_pos c7] at H; have c7b0 := bt__ c7; have c7b1 := nf__ c7; clear c7; simp only [Option.some.injEq, Prod.mk.injEq] at H; obtain ⟨rfl, rfl, rfl, rfl⟩ := H; rotate_left 2
      · obtain ⟨hcz15_0, hcz15_1, hcz15_2, hcz15_3, hfz15_0, hfz15_1, hfz15_2, hfz15_3⟩ := blk4 BK101
        go_wp2
        refine bodyPost_ret (results_cell_row rfl _ _ gb101 49 #[.int .i64 0, .int .i64 0, .string (⟨#[]⟩ : ByteArray), .slice none 0 0] (0, 0) _ rfl (by refine pe_ ?_; refine blk_put (cs := #[.int .i64 0, .int .i64 0, .string (⟨#[]⟩ : ByteArray), .slice none 0 0]) ?_ 3 _ rfl; refine pe_ ?_; refine blk_put (cs := #[.int .i64 0, .int .i64 0, .string x102002_1, .slice none 0 0]) ?_ 2 _ rfl; refine pe_ ?_; refine blk_put (cs := #[.int .i64 0, .int .i64 x102001_1, .string x102002_1, .slice none 0 0]) ?_ 1 _ rfl; refine pe_ ?_; refine blk_put (cs := #[.int .i64 x102000_1, .int .i64 x102001_1, .string x102002_1, .slice none 0 0]) ?_ 0 _ rfl; refine pe_ ?_; exact BK101.out) Try.underlying49 rfl (by kernel_rfl)) rfl ?_; exact ⟨_, by first | rfl | (simp [errW_none, errW_some] <;> rfl) | (simp [*, errW_none, errW_some] <;> rfl), Kd.V_nil _ _ _ _ _, bel_⟩
      all_goals
        have p102 : 0 ≤ (x9_1 : Int) := od_; have q102 : x9_1 < (l0.length : Int) := od_; obtain ⟨ad102, A102_4, c102_4, e102, hx102_0, hx102_1, hx102_2, hx102_3, hx102_4, hl102_4, hi102_4⟩ := at_T140 (Kd.V_reads' HO_7.out).2.2 x9_1 p102 q102
        cases e102
        obtain ⟨ce102, hce102, hMe102, hcc102⟩ := Kd.V_get HO_7.out z140 x9_1 p102 (by first | exact q102 | exact od_ | (have e_ := (Kd.V_reads' HO_7.out).1; omega)); obtain ⟨ua102_4, uc102_4, rfl, ul102_4, ge102_4⟩ := k140_openF hMe102; have hv102_4 := hcc102 4 _ rfl; rw [add_field _ _ 4 (by omega)] at hv102_4; replace hv102_4 := Option.some.inj (hv102_4.symm.trans hx102_4)
        injection hv102_4 with hva_ hvn_ hvc_
        rw [hva_] at ge102_4; rw [hvc_] at ul102_4; have HL102_4 := Aside0.mk (show Kd.V k49 49 _ w.heap.size _ _ ((rd_T140 l0 x9_1).f1.f3) from Kd.V_mk ul102_4 ge102_4); clear hva_ hvn_ hvc_ ge102_4 ul102_4; clear hcc102 hce102; have HR102_4 := Aside0.mk hi102_4; have HC102_4 := Aside0.mk hl102_4; clear hi102_4 hl102_4; replace p102 := eq_true p102; replace q102 := eq_true q102
      · go_wp2_with (first | ((with_reducible refine gate_dst (N := 6) rfl ?_); refine bx_ 6 #[.string (⟨#[]⟩ : ByteArray), .int .i64 0, .int .i64 0, .string (⟨#[]⟩ : ByteArray), .slice none 0 0] 140 ?_; intro gb7103 hg w8 hbox hb; have BK7103 := Aside0.mk (hbox); have GW7103 := gw_ hg; have GE7103 := gw_ hg; have NB7101_103 := nlt_ hg BK101; have NB7103_101 := ngt_ hg BK101; replace HO_7 := Aside0.mk (Kd.V_below (Kd.V_elderB (by (with_reducible repeat (first | apply Kd.V_alloc | apply Kd.V_drewN | apply Kd.V_drew)); first | exact HO_7.out | exact Kd.V_mono (HO_7.out) (fun _ h_ => by simpa only [and_assoc, and_comm, and_left_comm] using h_)) gb7103 (Nat.le_of_eq hg.symm)) hb); replace HL102_4 := Aside0.mk (Kd.V_below (Kd.V_elderB (by (with_reducible repeat (first | apply Kd.V_alloc | apply Kd.V_drewN | apply Kd.V_drew)); first | exact HL102_4.out | exact Kd.V_mono (HL102_4.out) (fun _ h_ => by simpa only [and_assoc, and_comm, and_left_comm] using h_)) gb7103 (Nat.le_of_eq hg.symm)) hb); replace BK101 := bb_ BK101 hb; replace HR102_4 := Aside0.mk (Kd.C_below (by repeat (first | (with_reducible exact HR102_4.out) | (with_reducible refine Kd.C_alloc ?_ _) | (with_reducible refine Kd.C_drewN ?_ _) | (with_reducible refine Kd.C_drew ?_) | exact HR102_4.out)) hb); replace HB := bs_ hb; clear hb hbox hg; have hnb9 := NB7103_101.out; have hnc9 := NB7101_103.out; obtain ⟨hcz10_0, hcz10_1, hcz10_2, hcz10_3, hcz10_4, hfz10_0, hfz10_1, hfz10_2, hfz10_3, hfz10_4⟩ := blk5 BK7103; obtain ⟨hcz11_0, hcz11_1, hcz11_2, hcz11_3, hfz11_0, hfz11_1, hfz11_2, hfz11_3⟩ := blk4 BK101))
        refine bodyPost_ret (results_cell_row rfl _ _ gb101 49 #[.int .i64 ((rd_T140 l0 x9_1).f1.f0), .int .i64 ((rd_T140 l0 x9_1).f1.f1), .string ((rd_T140 l0 x9_1).f1.f2), .slice A102_4 ((rd_T140 l0 x9_1).f1.f3).length c102_4] (0, 0) _ rfl (by refine pe_ ?_; refine blk_put (cs := #[.int .i64 ((rd_T140 l0 x9_1).f1.f0), .int .i64 ((rd_T140 l0 x9_1).f1.f1), .string ((rd_T140 l0 x9_1).f1.f2), .slice none 0 0]) ?_ 3 _ rfl; refine pe_ ?_; refine blk_put (cs := #[.int .i64 ((rd_T140 l0 x9_1).f1.f0), .int .i64 ((rd_T140 l0 x9_1).f1.f1), .string x102002_1, .slice none 0 0]) ?_ 2 _ rfl; refine pe_ ?_; refine blk_put (cs := #[.int .i64 ((rd_T140 l0 x9_1).f1.f0), .int .i64 x102001_1, .string x102002_1, .slice none 0 0]) ?_ 1 _ rfl; refine pe_ ?_; refine blk_put (cs := #[.int .i64 x102000_1, .int .i64 x102001_1, .string x102002_1, .slice none 0 0]) ?_ 0 _ rfl; refine pe_ ?_; refine blk_far ?_ NB7101_103.out _; refine pe_ ?_; refine blk_far ?_ NB7101_103.out _; refine pe_ ?_; refine blk_far ?_ NB7101_103.out _; refine pe_ ?_; refine blk_far ?_ NB7101_103.out _; refine pe_ ?_; refine blk_far ?_ NB7101_103.out _; refine pe_ ?_; exact BK101.out) Try.underlying49 rfl (by kernel_rfl)) rfl ?_
        exact ⟨_, by first | rfl | (simp [errW_none, errW_some] <;> rfl) | (simp [*, errW_none, errW_some] <;> rfl), by (with_reducible repeat (first | apply Kd.V_alloc | apply Kd.V_drewN | apply Kd.V_drew)); first | exact Kd.V_mono (Kd.V_far (p := ⟨gb101, 3, none⟩) (Kd.V_far (p := ⟨gb101, 2, none⟩) (Kd.V_far (p := ⟨gb101, 1, none⟩) (Kd.V_far (p := ⟨gb101, 0, none⟩) (Kd.V_far (p := ⟨gb7103, 4, none⟩) (Kd.V_far (p := ⟨gb7103, 3, none⟩) (Kd.V_far (p := ⟨gb7103, 2, none⟩) (Kd.V_far (p := ⟨gb7103, 1, none⟩) (Kd.V_far (p := ⟨gb7103, 0, none⟩) (Kd.V_mono (Kd.V_mono HL102_4.out (fun k_ hk => (⟨hk, hk.2⟩ : _ ∧ k_ ≠ gb7103))) (fun k_ hk => (⟨hk, hk.1.1.2⟩ : _ ∧ k_ ≠ gb101))) (fun _ hk => hk.1.2) (.string ((rd_T140 l0 x9_1).f0))) (fun _ hk => hk.1.2) (.int .i64 ((rd_T140 l0 x9_1).f1.f0))) (fun _ hk => hk.1.2) (.int .i64 ((rd_T140 l0 x9_1).f1.f1))) (fun _ hk => hk.1.2) (.string ((rd_T140 l0 x9_1).f1.f2))) (fun _ hk => hk.1.2) (.slice A102_4 ((rd_T140 l0 x9_1).f1.f3).length c102_4)) (fun _ hk => hk.2) (.int .i64 ((rd_T140 l0 x9_1).f1.f0))) (fun _ hk => hk.2) (.int .i64 ((rd_T140 l0 x9_1).f1.f1))) (fun _ hk => hk.2) (.string ((rd_T140 l0 x9_1).f1.f2))) (fun _ hk => hk.2) (.slice A102_4 ((rd_T140 l0 x9_1).f1.f3).length c102_4)) (fun _ hk => hk.1.1.1.1) | exact Kd.V_mono (Kd.V_mono (Kd.V_far (p := ⟨gb101, 3, none⟩) (Kd.V_far (p := ⟨gb101, 2, none⟩) (Kd.V_far (p := ⟨gb101, 1, none⟩) (Kd.V_far (p := ⟨gb101, 0, none⟩) (Kd.V_far (p := ⟨gb7103, 4, none⟩) (Kd.V_far (p := ⟨gb7103, 3, none⟩) (Kd.V_far (p := ⟨gb7103, 2, none⟩) (Kd.V_far (p := ⟨gb7103, 1, none⟩) (Kd.V_far (p := ⟨gb7103, 0, none⟩) (Kd.V_mono (Kd.V_mono HL102_4.out (fun k_ hk => (⟨hk, hk.2⟩ : _ ∧ k_ ≠ gb7103))) (fun k_ hk => (⟨hk, hk.1.1.2⟩ : _ ∧ k_ ≠ gb101))) (fun _ hk => hk.1.2) (.string ((rd_T140 l0 x9_1).f0))) (fun _ hk => hk.1.2) (.int .i64 ((rd_T140 l0 x9_1).f1.f0))) (fun _ hk => hk.1.2) (.int .i64 ((rd_T140 l0 x9_1).f1.f1))) (fun _ hk => hk.1.2) (.string ((rd_T140 l0 x9_1).f1.f2))) (fun _ hk => hk.1.2) (.slice A102_4 ((rd_T140 l0 x9_1).f1.f3).length c102_4)) (fun _ hk => hk.2) (.int .i64 ((rd_T140 l0 x9_1).f1.f0))) (fun _ hk => hk.2) (.int .i64 ((rd_T140 l0 x9_1).f1.f1))) (fun _ hk => hk.2) (.string ((rd_T140 l0 x9_1).f1.f2))) (fun _ hk => hk.2) (.slice A102_4 ((rd_T140 l0 x9_1).f1.f3).length c102_4)) (fun _ hk => hk.1.1.1.1)) (fun _ h_ => by simpa only [and_assoc, and_comm, and_left_comm] using h_), bel_⟩
      go_wp2_with (first | ((with_reducible refine gate_dst (N := 6) rfl ?_); refine bx_ 6 #[.string (⟨#[]⟩ : ByteArray), .int .i64 0, .int .i64 0, .string (⟨#[]⟩ : ByteArray), .slice none 0 0] 140 ?_; intro gb103 hg w12 hbox hb; have BK103 := Aside0.mk (hbox); have GW103 := gw_ hg; have GE103 := gw_ hg; have NB101_103 := nlt_ hg BK101; have NB103_101 := ngt_ hg BK101; replace HO_7 := Aside0.mk (Kd.V_below (Kd.V_elderB (by (with_reducible repeat (first | apply Kd.V_alloc | apply Kd.V_drewN | apply Kd.V_drew)); first | exact HO_7.out | exact Kd.V_mono (HO_7.out) (fun _ h_ => by simpa only [and_assoc, and_comm, and_left_comm] using h_)) gb103 (Nat.le_of_eq hg.symm)) hb); replace HL102_4 := Aside0.mk (Kd.V_below (Kd.V_elderB (by (with_reducible repeat (first | apply Kd.V_alloc | apply Kd.V_drewN | apply Kd.V_drew)); first | exact HL102_4.out | exact Kd.V_mono (HL102_4.out) (fun _ h_ => by simpa only [and_assoc, and_comm, and_left_comm] using h_)) gb103 (Nat.le_of_eq hg.symm)) hb); replace BK101 := bb_ BK101 hb; replace HR102_4 := Aside0.mk (Kd.C_below (by repeat (first | (with_reducible exact HR102_4.out) | (with_reducible refine Kd.C_alloc ?_ _) | (with_reducible refine Kd.C_drewN ?_ _) | (with_reducible refine Kd.C_drew ?_) | exact HR102_4.out)) hb); replace HB := bs_ hb; clear hb hbox hg; have hnb13 := NB103_101.out; have hnc13 := NB101_103.out; obtain ⟨hcz14_0, hcz14_1, hcz14_2, hcz14_3, hcz14_4, hfz14_0, hfz14_1, hfz14_2, hfz14_3, hfz14_4⟩ := blk5 BK103))
      go_roundg k1
      case measure => have := HK1.out; omega
      case rel => exact ⟨(wrap64 (x9_1 + 1)), (x102000_1), (x102001_1), (x102002_1), sm_, H', ⟨by have := HK1.out; omega⟩, ⟨by (with_reducible repeat (first | apply Kd.V_alloc | apply Kd.V_drewN | apply Kd.V_drew)); first | exact Kd.V_mono (Kd.V_far (p := ⟨gb103, 4, none⟩) (Kd.V_far (p := ⟨gb103, 3, none⟩) (Kd.V_far (p := ⟨gb103, 2, none⟩) (Kd.V_far (p := ⟨gb103, 1, none⟩) (Kd.V_far (p := ⟨gb103, 0, none⟩) (Kd.V_mono HO_7.out (fun k_ hk => (⟨hk, hk.2⟩ : _ ∧ k_ ≠ gb103))) (fun _ hk => hk.2) (.string ((rd_T140 l0 x9_1).f0))) (fun _ hk => hk.2) (.int .i64 ((rd_T140 l0 x9_1).f1.f0))) (fun _ hk => hk.2) (.int .i64 ((rd_T140 l0 x9_1).f1.f1))) (fun _ hk => hk.2) (.string ((rd_T140 l0 x9_1).f1.f2))) (fun _ hk => hk.2) (.slice A102_4 ((rd_T140 l0 x9_1).f1.f3).length c102_4)) (fun _ hk => ⟨hk.1.1.1, hk.1.1.2⟩) | exact Kd.V_mono (Kd.V_mono (Kd.V_far (p := ⟨gb103, 4, none⟩) (Kd.V_far (p := ⟨gb103, 3, none⟩) (Kd.V_far (p := ⟨gb103, 2, none⟩) (Kd.V_far (p := ⟨gb103, 1, none⟩) (Kd.V_far (p := ⟨gb103, 0, none⟩) (Kd.V_mono HO_7.out (fun k_ hk => (⟨hk, hk.2⟩ : _ ∧ k_ ≠ gb103))) (fun _ hk => hk.2) (.string ((rd_T140 l0 x9_1).f0))) (fun _ hk => hk.2) (.int .i64 ((rd_T140 l0 x9_1).f1.f0))) (fun _ hk => hk.2) (.int .i64 ((rd_T140 l0 x9_1).f1.f1))) (fun _ hk => hk.2) (.string ((rd_T140 l0 x9_1).f1.f2))) (fun _ hk => hk.2) (.slice A102_4 ((rd_T140 l0 x9_1).f1.f3).length c102_4)) (fun _ hk => ⟨hk.1.1.1, hk.1.1.2⟩)) (fun _ h_ => by simpa only [and_assoc, and_comm, and_left_comm] using h_)⟩, ⟨by refine pe_ ?_; refine blk_far ?_ NB101_103.out _; refine pe_ ?_; refine blk_far ?_ NB101_103.out _; refine pe_ ?_; refine blk_far ?_ NB101_103.out _; refine pe_ ?_; refine blk_far ?_ NB101_103.out _; refine pe_ ?_; refine blk_far ?_ NB101_103.out _; refine pe_ ?_; exact BK101.out⟩, ⟨bel_⟩⟩
end Go.Proofs.Ytcchmhmbjhgfdaa.G
