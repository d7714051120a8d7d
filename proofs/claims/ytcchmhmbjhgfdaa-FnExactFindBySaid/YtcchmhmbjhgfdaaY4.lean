import Derived.Test.YtcchmhmbjhgfdaaY3
namespace Go.Proofs.Ytcchmhmbjhgfdaa.G
open Go.RowKit Go.Proofs.YtcchmhmbjhgfdaaW.PrintWords Go.Proofs.YtcchmhmbjhgfdaaW.PrintLast Go.Proofs.YtcchmhmbjhgfdaaW.PrintMore
attribute [local go_sem] max2_int min2_int max_two min_two max_three min_three max_four min_four Own.str_gtr Own.str_leq Own.str_geq Own.sto_fn   -- for this text's walks alone
open Own
set_option linter.unusedVariables false
set_option linter.unusedSimpArgs false
def laws_szStringS.l0 : Nat → List ByteArray → Int → Int → Option (Int)
  | 0, _, _, _ => none
  | k + 1, x0, x1, x5 => if x5 < (x0.length : Int) then (if 0 ≤ x5 then (if (wrap64 (x1 - ((rdOf ByteArray.empty x0 x5).size : Int))) < 0 then (some (-1)) else (laws_szStringS.l0 k x0 (wrap64 (x1 - ((rdOf ByteArray.empty x0 x5).size : Int))) (wrap64 (x5 + 1)))) else (none)) else (some x1)
def laws_szStringS.f (k : Nat) (l0 : List ByteArray) (a1 : Int) : Option (Int) := if (wrap64 (a1 - (l0.length : Int))) < 0 then (some (-1)) else (laws_szStringS.l0 k l0 (wrap64 (a1 - (l0.length : Int))) 0)
set_option maxHeartbeats 8000000 in
set_option maxRecDepth 100000 in
theorem laws_szStringS.calls (k : Nat) (A0 : Option Addr) (c0 : Nat) (l0 : List ByteArray) (a1 : Int) (r : Int) (w : World) (hr0 : Kd.C Kd.string w A0 l0.length l0) (hc0 : l0.length ≤ c0) (h : laws_szStringS.f k l0 a1 = some r) :
    Calls Try.prog 37 #[.slice A0 l0.length c0, .int .i64 a1] w fun e w' => e = .returned (.int .i64 r) ∧ Drawn0 w w' := by
  have HR0 := Aside0.mk hr0; have HC0 := Aside0.mk hc0; clear hr0 hc0; have H : (if (wrap64 (a1 - (l0.length : Int))) < 0 then (some (-1)) else (laws_szStringS.l0 k l0 (wrap64 (a1 - (l0.length : Int))) 0)) = some r := h; clear h; by_cases c3 : (wrap64 (a1 - (l0.length : Int))) < 0; rotate_left; rw [if_neg c3] at H; have c3b0 := df_ c3; clear c3; have H' := Aside0.mk H; clear H; rotate_right; rw [if_pos c3] at H; have c3b0 := dt_ c3; clear c3; obtain rfl := Option.some.inj H
  all_goals
    go_enter Try.func37, Try.ntmps37
    go_wp2
  · go_ret; exact rd_
  go_loopg [1, 5] k (fun kq v1 v5 w' => ∃ (x1_1 : Int) (x5_1 : Int), v1 = .int .i64 x1_1 ∧ v5 = .int .i64 x5_1 ∧ Aside0 (laws_szStringS.l0 kq l0 x1_1 x5_1 = some r) ∧ Aside0 (kq ≤ k) ∧ Drawn0 w w')
  case atStart => exact ⟨(wrap64 (a1 - (l0.length : Int))), (0), sm_, sm_, H', ⟨Nat.le_refl _⟩, by repeat (first | exact Drawn0.refl _ | apply Drawn0.step)⟩
  case round =>
    clear H'
    try clear p2
    try clear c3
    try clear c3b0
    obtain ⟨x1_1, x5_1, rfl, rfl, HA, HK1, ⟨m1, rfl⟩⟩ := hrel
    cases gk with
    | zero => exact absurd HA.out (by simp [laws_szStringS.l0])
    | succ k1 =>
      have H := HA.out; clear HA; simp only [laws_szStringS.l0] at H; by_cases c4 : x5_1 < (l0.length : Int); rotate_left; rw [if_neg c4] at H; have c4b0 := df_ c4; clear c4; obtain rfl := Option.some.inj H; rotate_right; rw [if_pos c4] at H; have c4b0 := dt_ c4; clear c4; by_cases c5 : 0 ≤ x5_1; rotate_left
      · rw [if_neg c5] at H; exact absurd H (by simp)
      rotate_right; rw [if_pos c5] at H; have c5b0 := dt_ c5; clear c5; by_cases c6 : (wrap64 (x1_1 - ((rdOf ByteArray.empty l0 x5_1).size : Int))) < 0; rotate_left; rw [if_neg c6] at H; have c6b0 := df_ c6; clear c6; have H' := Aside0.mk H; clear H; rotate_right; rw [if_pos c6] at H; have c6b0 := dt_ c6; clear c6; obtain rfl := Option.some.inj H; rotate_left 2
      · go_wp2
        go_ret; exact rd_
      all_goals
        have p101 : 0 ≤ (x5_1 : Int) := od_; have q101 : x5_1 < (l0.length : Int) := od_; obtain ⟨ad101, e101, hx101_0⟩ := Kd.at_string HR0.out x5_1 p101 q101
        cases e101
        replace p101 := eq_true p101; replace q101 := eq_true q101
        go_wp2
      · go_ret; exact rd_
      go_roundg k1
      case measure => have := HK1.out; omega
      case rel => exact ⟨(wrap64 (x1_1 - ((rdOf ByteArray.empty l0 x5_1).size : Int))), (wrap64 (x5_1 + 1)), sm_, sm_, H', ⟨by have := HK1.out; omega⟩, by repeat (first | exact Drawn0.refl _ | apply Drawn0.step)⟩
mutual
def laws_szValueS.l0 : Nat → List (S45) → Int → Int → Option (Int)
  | 0, _, _, _ => none
  | k + 1, x0, x1, x5 => if x5 < (x0.length : Int) then (if 0 ≤ x5 then ((laws_szValue.f k ((rd_T45 x0 x5).f0) ((rd_T45 x0 x5).f1) ((rd_T45 x0 x5).f2) ((rd_T45 x0 x5).f3) x1).bind fun t102 => (if t102 < 0 then (some (-1)) else (laws_szValueS.l0 k x0 t102 (wrap64 (x5 + 1))))) else (none)) else (some x1)
def laws_szValueS.f : Nat → List (S45) → Int → Option (Int)
  | 0, _, _ => none
  | k + 1, l0, a1 => if (wrap64 (a1 - (l0.length : Int))) < 0 then (some (-1)) else (laws_szValueS.l0 k l0 (wrap64 (a1 - (l0.length : Int))) 0)
def laws_szValue.f : Nat → Int → Int → ByteArray → List (S45) → Int → Option (Int)
  | 0, _, _, _, _, _ => none
  | k + 1, a0_0, a0_1, a0_2, l0_3, a1 => if (wrap64 (a1 - (a0_2.size : Int))) < 0 then (some (-1)) else ((laws_szValueS.f k l0_3 (wrap64 (a1 - (a0_2.size : Int)))).bind fun t104 => (if t104 < 0 then (some (-1)) else (some t104)))
end
@[reducible] def laws_szValueS.Said (k : Nat) : Prop := ∀ (A0 : Option Addr) (c0 : Nat) (l0 : List (S45)) (a1 : Int) (r : Int) (w : World) (hr0 : Kd.C k45 w A0 l0.length l0) (hc0 : l0.length ≤ c0) (h : laws_szValueS.f k l0 a1 = some r),
    Calls Try.prog 93 #[.slice A0 l0.length c0, .int .i64 a1] w fun e w' => e = .returned (.int .i64 r) ∧ Below w.heap.size w w'
@[reducible] def laws_szValue.Said (k : Nat) : Prop := ∀ (a0_0 : Int) (a0_1 : Int) (a0_2 : ByteArray) (A0_3 : Option Addr) (c0_3 : Nat) (l0_3 : List (S45)) (a1 : Int) (r : Int) (w : World) (hr0_3 : Kd.C k45 w A0_3 l0_3.length l0_3) (hc0_3 : l0_3.length ≤ c0_3) (h : laws_szValue.f k a0_0 a0_1 a0_2 l0_3 a1 = some r),
    Calls Try.prog 28 #[.agg #[.int .i64 a0_0, .int .i64 a0_1, .string a0_2, .slice A0_3 l0_3.length c0_3], .int .i64 a1] w fun e w' => e = .returned (.int .i64 r) ∧ Below w.heap.size w w'
set_option maxHeartbeats 8000000 in
set_option maxRecDepth 100000 in
theorem laws_szValueS.step (k : Nat) (ih93 : ∀ m, m < k → laws_szValueS.Said m) (ih28 : ∀ m, m < k → laws_szValue.Said m) : laws_szValueS.Said k := by
  intro A0 c0 l0 a1 r w hr0 hc0 h
  cases k with
  | zero => exact absurd h (by simp [laws_szValueS.f])
  | succ k =>
  simp only [laws_szValueS.f] at h; have hu45 := Try.underlying45; have HR0 := Aside0.mk hr0; have HC0 := Aside0.mk hc0; clear hr0 hc0; have HB := Aside0.mk (Below.refl w.heap.size w); have H : (if (wrap64 (a1 - (l0.length : Int))) < 0 then (some (-1)) else (laws_szValueS.l0 k l0 (wrap64 (a1 - (l0.length : Int))) 0)) = some r := h; clear h; by_cases c3 : (wrap64 (a1 - (l0.length : Int))) < 0; rotate_left; rw [if_neg c3] at H; have c3b0 := df_ c3; clear c3; have H' := Aside0.mk H; clear H; rotate_right; rw [if_pos c3] at H; have c3b0 := dt_ c3; clear c3; obtain rfl := Option.some.inj H
  all_goals
    go_enter Try.func93, Try.ntmps93
    go_wp2
  · go_ret; exact re_
  go_loopg [1, 5] k (fun kq v1 v5 w' => ∃ (x1_1 : Int) (x5_1 : Int), v1 = .int .i64 x1_1 ∧ v5 = .int .i64 x5_1 ∧ Aside0 (laws_szValueS.l0 kq l0 x1_1 x5_1 = some r) ∧ Aside0 (kq ≤ k) ∧ Aside0 (Below w.heap.size w w'))
  case atStart => exact ⟨(wrap64 (a1 - (l0.length : Int))), (0), sm_, sm_, H', ⟨Nat.le_refl _⟩, ⟨bel_⟩⟩
  case round =>
    clear H'
    try clear p2
    try clear c3
    try clear c3b0
    obtain ⟨x1_1, x5_1, rfl, rfl, HA, HK1, HB⟩ := hrel
    cases gk with
    | zero => exact absurd HA.out (by simp [laws_szValueS.l0])
    | succ k1 =>
      have H := HA.out; clear HA; simp only [laws_szValueS.l0] at H; by_cases c4 : x5_1 < (l0.length : Int); rotate_left; rw [if_neg c4] at H; have c4b0 := df_ c4; clear c4; obtain rfl := Option.some.inj H; rotate_right; rw [if_pos c4] at H; have c4b0 := dt_ c4; clear c4; by_cases c5 : 0 ≤ x5_1; rotate_left
      · rw [if_neg c5] at H; exact absurd H (by simp)
      rotate_right; rw [if_pos c5] at H; have c5b0 := dt_ c5; clear c5; replace H := ob_ H; obtain ⟨t102, A6, H⟩ := H; by_cases c7 : t102 < 0; rotate_left; rw [if_neg c7] at H; have c7b0 := df_ c7; clear c7; have H' := Aside0.mk H; clear H; rotate_right; rw [if_pos c7] at H; have c7b0 := dt_ c7; clear c7; obtain rfl := Option.some.inj H; rotate_left 2
      · go_wp2
        go_ret; exact re_
      all_goals
        have p101 : 0 ≤ (x5_1 : Int) := od_; have q101 : x5_1 < (l0.length : Int) := od_; obtain ⟨ad101, A101_3, c101_3, e101, hx101_0, hx101_1, hx101_2, hx101_3, hl101_3, hi101_3⟩ := at_T45 HR0.out x5_1 p101 q101
        cases e101
        replace hx101_0 := mv_ HB hx101_0; replace hx101_1 := mv_ HB hx101_1; replace hx101_2 := mv_ HB hx101_2; replace hx101_3 := mv_ HB hx101_3; have HR101_3 := Aside0.mk hi101_3; have HC101_3 := Aside0.mk hl101_3; clear hi101_3 hl101_3; replace p101 := eq_true p101; replace q101 := eq_true q101
        go_wp2_with (first | ((with_reducible refine gate_callee (f := 28) rfl ?_); refine goesL_ (some 23) rfl rfl Try.func28 (by kernel_rfl) rfl #[.agg #[.int .i64 ((rd_T45 l0 x5_1).f0), .int .i64 ((rd_T45 l0 x5_1).f1), .string ((rd_T45 l0 x5_1).f2), .slice A101_3 ((rd_T45 l0 x5_1).f3).length c101_3], .int .i64 x1_1] rfl ar_ ?_; (with_reducible refine (ih28 k1 (by have := HK1.out; omega) ((rd_T45 l0 x5_1).f0) ((rd_T45 l0 x5_1).f1) ((rd_T45 l0 x5_1).f2) _ _ ((rd_T45 l0 x5_1).f3) x1_1 t102 _ ?side1 ?side2 A6.out).mono ?_); (case side1 => exact rdb_ HR101_3); (case side2 => exact HC101_3.out); rintro e w9 ⟨rfl, hb⟩; refine ⟨_, rfl, ?_⟩; replace HB := bs_ hb; (try clear hb); (try clear hb2); (try clear hk); (try clear hi)))
      · go_ret; exact re_
      go_roundg k1
      case measure => have := HK1.out; omega
      case rel => exact ⟨(t102), (wrap64 (x5_1 + 1)), sm_, sm_, H', ⟨by have := HK1.out; omega⟩, ⟨bel_⟩⟩
set_option maxHeartbeats 8000000 in
set_option maxRecDepth 100000 in
theorem laws_szValue.step (k : Nat) (ih93 : ∀ m, m < k → laws_szValueS.Said m) (ih28 : ∀ m, m < k → laws_szValue.Said m) : laws_szValue.Said k := by
  intro a0_0 a0_1 a0_2 A0_3 c0_3 l0_3 a1 r w hr0_3 hc0_3 h
  cases k with
  | zero => exact absurd h (by simp [laws_szValue.f])
  | succ k =>
  simp only [laws_szValue.f] at h; have hu45 := Try.underlying45; have HR0_3 := Aside0.mk hr0_3; have HC0_3 := Aside0.mk hc0_3; clear hr0_3 hc0_3; have HB := Aside0.mk (Below.refl w.heap.size w); have H : (if (wrap64 (a1 - (a0_2.size : Int))) < 0 then (some (-1)) else ((laws_szValueS.f k l0_3 (wrap64 (a1 - (a0_2.size : Int)))).bind fun t104 => (if t104 < 0 then (some (-1)) else (some t104)))) = some r := h; clear h; by_cases c3 : (wrap64 (a1 - (a0_2.size : Int))) < 0; rotate_left; rw [if_neg c3] at H; have c3b0 := df_ c3; clear c3; replace H := ob_ H; obtain ⟨t104, A6, H⟩ := H; by_cases c7 : t104 < 0; rotate_left; rw [if_neg c7] at H; have c7b0 := df_ c7; clear c7; obtain rfl := Option.some.inj H; rotate_right; rw [if_pos c7] at H; have c7b0 := dt_ c7; clear c7; obtain rfl := Option.some.inj H; rotate_right; rw [if_pos c3] at H; have c3b0 := dt_ c3; clear c3; obtain rfl := Option.some.inj H
  all_goals
    go_enter Try.func28, Try.ntmps28
    go_wp2_with (first | ((with_reducible refine gate_dst (N := 2) rfl ?_); refine bx_ 2 #[.int .i64 a0_0, .int .i64 a0_1, .string a0_2, .slice A0_3 l0_3.length c0_3] 45 ?_; intro gb103 hg w11 hbox hb; have BK103 := Aside0.mk (hbox); have GW103 := gw_ hg; have GE103 := gw_ hg; replace HB := bs_ hb; clear hb hbox hg; obtain ⟨hcz12_0, hcz12_1, hcz12_2, hcz12_3, hfz12_0, hfz12_1, hfz12_2, hfz12_3⟩ := blk4 BK103) | ((with_reducible refine gate_callee (f := 93) rfl ?_); refine goesL_ (some 15) rfl rfl Try.func93 (by kernel_rfl) rfl #[.slice A0_3 l0_3.length c0_3, .int .i64 (wrap64 (a1 - (a0_2.size : Int)))] rfl ar_ ?_; (with_reducible refine (ih93 k (by omega) _ _ l0_3 (wrap64 (a1 - (a0_2.size : Int))) t104 _ ?side1 ?side2 A6.out).mono ?_); (case side1 => exact rdb_ HR0_3); (case side2 => exact HC0_3.out); rintro e w13 ⟨rfl, hb⟩; refine ⟨_, rfl, ?_⟩; replace BK103 := bb_ BK103 hb; replace HB := bs_ hb; (try clear hb); (try clear hb2); (try clear hk); (try clear hi)))
    go_ret; exact re_
theorem laws_szValueS.both (k : Nat) : laws_szValueS.Said k ∧ laws_szValue.Said k := by
  induction k using Nat.strongRecOn with
  | _ k ih =>
  exact ⟨laws_szValueS.step k (fun m h => (ih m h).1) (fun m h => (ih m h).2), laws_szValue.step k (fun m h => (ih m h).1) (fun m h => (ih m h).2)⟩
theorem laws_szValue.calls (k : Nat) : laws_szValue.Said k := (laws_szValueS.both k).2
def laws_szProp.f (k : Nat) (a0_0 : ByteArray) (a0_1 : Int) (a0_2 : Int) (a0_3 : ByteArray) (l0_4 : List (S45)) (a1 : Int) : Option (Int) := if (wrap64 (a1 - (a0_0.size : Int))) < 0 then (some (-1)) else ((laws_szValue.f k a0_1 a0_2 a0_3 l0_4 (wrap64 (a1 - (a0_0.size : Int)))).bind fun t102 => (if t102 < 0 then (some (-1)) else (some t102)))
set_option maxHeartbeats 8000000 in
set_option maxRecDepth 100000 in
theorem laws_szProp.calls (k : Nat) (a0_0 : ByteArray) (a0_1 : Int) (a0_2 : Int) (a0_3 : ByteArray) (A0_4 : Option Addr) (c0_4 : Nat) (l0_4 : List (S45)) (a1 : Int) (r : Int) (w : World) (hr0_4 : Kd.C k45 w A0_4 l0_4.length l0_4) (hc0_4 : l0_4.length ≤ c0_4) (h : laws_szProp.f k a0_0 a0_1 a0_2 a0_3 l0_4 a1 = some r) :
    Calls Try.prog 106 #[.agg #[.string a0_0, .int .i64 a0_1, .int .i64 a0_2, .string a0_3, .slice A0_4 l0_4.length c0_4], .int .i64 a1] w fun e w' => e = .returned (.int .i64 r) ∧ Below w.heap.size w w' := by
  have hu136 := Try.underlying136; have hu45 := Try.underlying45; have HR0_4 := Aside0.mk hr0_4; have HC0_4 := Aside0.mk hc0_4; clear hr0_4 hc0_4; have HB := Aside0.mk (Below.refl w.heap.size w); have H : (if (wrap64 (a1 - (a0_0.size : Int))) < 0 then (some (-1)) else ((laws_szValue.f k a0_1 a0_2 a0_3 l0_4 (wrap64 (a1 - (a0_0.size : Int)))).bind fun t102 => (if t102 < 0 then (some (-1)) else (some t102)))) = some r := h; clear h; by_cases c3 : (wrap64 (a1 - (a0_0.size : Int))) < 0; rotate_left; rw [if_neg c3] at H; have c3b0 := df_ c3; clear c3; replace H := ob_ H; obtain ⟨t102, A6, H⟩ := H; by_cases c7 : t102 < 0; rotate_left; rw [if_neg c7] at H; have c7b0 := df_ c7; clear c7; obtain rfl := Option.some.inj H; rotate_right; rw [if_pos c7] at H; have c7b0 := dt_ c7; clear c7; obtain rfl := Option.some.inj H; rotate_right; rw [if_pos c3] at H; have c3b0 := dt_ c3; clear c3; obtain rfl := Option.some.inj H
  all_goals
    go_enter Try.func106, Try.ntmps106
    go_wp2_with (first | ((with_reducible refine gate_dst (N := 2) rfl ?_); refine bx_ 2 #[.string a0_0, .int .i64 a0_1, .int .i64 a0_2, .string a0_3, .slice A0_4 l0_4.length c0_4] 136 ?_; intro gb101 hg w11 hbox hb; have BK101 := Aside0.mk (hbox); have GW101 := gw_ hg; have GE101 := gw_ hg; replace HB := bs_ hb; clear hb hbox hg; obtain ⟨hcz12_0, hcz12_1, hcz12_2, hcz12_3, hcz12_4, hfz12_0, hfz12_1, hfz12_2, hfz12_3, hfz12_4⟩ := blk5 BK101) | ((with_reducible refine gate_callee (f := 28) rfl ?_); refine goesL_ (some 15) rfl rfl Try.func28 (by kernel_rfl) rfl #[.agg #[.int .i64 a0_1, .int .i64 a0_2, .string a0_3, .slice A0_4 l0_4.length c0_4], .int .i64 (wrap64 (a1 - (a0_0.size : Int)))] rfl ar_ ?_; (with_reducible refine (laws_szValue.calls k a0_1 a0_2 a0_3 _ _ l0_4 (wrap64 (a1 - (a0_0.size : Int))) t102 _ ?side1 ?side2 A6.out).mono ?_); (case side1 => exact rdb_ HR0_4); (case side2 => exact HC0_4.out); rintro e w13 ⟨rfl, hb⟩; refine ⟨_, rfl, ?_⟩; replace BK101 := bb_ BK101 hb; replace HB := bs_ hb; (try clear hb); (try clear hb2); (try clear hk); (try clear hi)))
    go_ret; exact re_
def laws_szPropS.l0 : Nat → List (S136) → Int → Int → Option (Int)
  | 0, _, _, _ => none
  | k + 1, x0, x1, x5 => if x5 < (x0.length : Int) then (if 0 ≤ x5 then ((laws_szProp.f k ((rd_T136 x0 x5).f0) ((rd_T136 x0 x5).f1.f0) ((rd_T136 x0 x5).f1.f1) ((rd_T136 x0 x5).f1.f2) ((rd_T136 x0 x5).f1.f3) x1).bind fun t102 => (if t102 < 0 then (some (-1)) else (laws_szPropS.l0 k x0 t102 (wrap64 (x5 + 1))))) else (none)) else (some x1)
def laws_szPropS.f (k : Nat) (l0 : List (S136)) (a1 : Int) : Option (Int) := if (wrap64 (a1 - (l0.length : Int))) < 0 then (some (-1)) else (laws_szPropS.l0 k l0 (wrap64 (a1 - (l0.length : Int))) 0)
set_option maxHeartbeats 8000000 in
set_option maxRecDepth 100000 in
theorem laws_szPropS.calls (k : Nat) (A0 : Option Addr) (c0 : Nat) (l0 : List (S136)) (a1 : Int) (r : Int) (w : World) (hr0 : Kd.C k136 w A0 l0.length l0) (hc0 : l0.length ≤ c0) (h : laws_szPropS.f k l0 a1 = some r) :
    Calls Try.prog 38 #[.slice A0 l0.length c0, .int .i64 a1] w fun e w' => e = .returned (.int .i64 r) ∧ Below w.heap.size w w' := by
  have hu136 := Try.underlying136; have HR0 := Aside0.mk hr0; have HC0 := Aside0.mk hc0; clear hr0 hc0; have HB := Aside0.mk (Below.refl w.heap.size w); have H : (if (wrap64 (a1 - (l0.length : Int))) < 0 then (some (-1)) else (laws_szPropS.l0 k l0 (wrap64 (a1 - (l0.length : Int))) 0)) = some r := h; clear h; by_cases c3 : (wrap64 (a1 - (l0.length : Int))) < 0; rotate_left; rw [if_neg c3] at H; have c3b0 := df_ c3; clear c3; have H' := Aside0.mk H; clear H; rotate_right; rw [if_pos c3] at H; have c3b0 := dt_ c3; clear c3; obtain rfl := Option.some.inj H
  all_goals
    go_enter Try.func38, Try.ntmps38
    go_wp2
  · go_ret; exact re_
  go_loopg [1, 5] k (fun kq v1 v5 w' => ∃ (x1_1 : Int) (x5_1 : Int), v1 = .int .i64 x1_1 ∧ v5 = .int .i64 x5_1 ∧ Aside0 (laws_szPropS.l0 kq l0 x1_1 x5_1 = some r) ∧ Aside0 (kq ≤ k) ∧ Aside0 (Below w.heap.size w w'))
  case atStart => exact ⟨(wrap64 (a1 - (l0.length : Int))), (0), sm_, sm_, H', ⟨Nat.le_refl _⟩, ⟨bel_⟩⟩
  case round =>
    clear H'
    try clear p2
    try clear c3
    try clear c3b0
    obtain ⟨x1_1, x5_1, rfl, rfl, HA, HK1, HB⟩ := hrel
    cases gk with
    | zero => exact absurd HA.out (by simp [laws_szPropS.l0])
    | succ k1 =>
      have H := HA.out; clear HA; simp only [laws_szPropS.l0] at H; by_cases c4 : x5_1 < (l0.length : Int); rotate_left; rw [if_neg c4] at H; have c4b0 := df_ c4; clear c4; obtain rfl := Option.some.inj H; rotate_right; rw [if_pos c4] at H; have c4b0 := dt_ c4; clear c4; by_cases c5 : 0 ≤ x5_1; rotate_left
      · rw [if_neg c5] at H; exact absurd H (by simp)
      rotate_right; rw [if_pos c5] at H; have c5b0 := dt_ c5; clear c5; replace H := ob_ H; obtain ⟨t102, A6, H⟩ := H; by_cases c7 : t102 < 0; rotate_left; rw [if_neg c7] at H; have c7b0 := df_ c7; clear c7; have H' := Aside0.mk H; clear H; rotate_right; rw [if_pos c7] at H; have c7b0 := dt_ c7; clear c7; obtain rfl := Option.some.inj H; rotate_left 2
      · go_wp2
        go_ret; exact re_
      all_goals
        have p101 : 0 ≤ (x5_1 : Int) := od_; have q101 : x5_1 < (l0.length : Int) := od_; obtain ⟨ad101, A101_4, c101_4, e101, hx101_0, hx101_1, hx101_2, hx101_3, hx101_4, hl101_4, hi101_4⟩ := at_T136 HR0.out x5_1 p101 q101
        cases e101
        replace hx101_0 := mv_ HB hx101_0; replace hx101_1 := mv_ HB hx101_1; replace hx101_2 := mv_ HB hx101_2; replace hx101_3 := mv_ HB hx101_3; replace hx101_4 := mv_ HB hx101_4; have HR101_4 := Aside0.mk hi101_4; have HC101_4 := Aside0.mk hl101_4; clear hi101_4 hl101_4; replace p101 := eq_true p101; replace q101 := eq_true q101
        go_wp2_with (first | ((with_reducible refine gate_callee (f := 106) rfl ?_); refine goesL_ (some 23) rfl rfl Try.func106 (by kernel_rfl) rfl #[.agg #[.string ((rd_T136 l0 x5_1).f0), .int .i64 ((rd_T136 l0 x5_1).f1.f0), .int .i64 ((rd_T136 l0 x5_1).f1.f1), .string ((rd_T136 l0 x5_1).f1.f2), .slice A101_4 ((rd_T136 l0 x5_1).f1.f3).length c101_4], .int .i64 x1_1] rfl ar_ ?_; (with_reducible refine (laws_szProp.calls k1 ((rd_T136 l0 x5_1).f0) ((rd_T136 l0 x5_1).f1.f0) ((rd_T136 l0 x5_1).f1.f1) ((rd_T136 l0 x5_1).f1.f2) _ _ ((rd_T136 l0 x5_1).f1.f3) x1_1 t102 _ ?side1 ?side2 A6.out).mono ?_); (case side1 => exact rdb_ HR101_4); (case side2 => exact HC101_4.out); rintro e w9 ⟨rfl, hb⟩; refine ⟨_, rfl, ?_⟩; replace HB := bs_ hb; (try clear hb); (try clear hb2); (try clear hk); (try clear hi)))
      · go_ret; exact re_
      go_roundg k1
      case measure => have := HK1.out; omega
      case rel => exact ⟨(t102), (wrap64 (x5_1 + 1)), sm_, sm_, H', ⟨by have := HK1.out; omega⟩, ⟨bel_⟩⟩
def laws_szNode.f (k : Nat) (a0_0 : Int) (l0_1 : List ByteArray) (l0_2 : List (S136)) (a1 : Int) : Option (Int) := (laws_szStringS.f k l0_1 a1).bind fun t102 => (if t102 < 0 then (some (-1)) else ((laws_szPropS.f k l0_2 t102).bind fun t103 => (if t103 < 0 then (some (-1)) else (some t103))))
set_option maxHeartbeats 8000000 in
set_option maxRecDepth 100000 in
theorem laws_szNode.calls (k : Nat) (a0_0 : Int) (A0_1 : Option Addr) (c0_1 : Nat) (l0_1 : List ByteArray) (A0_2 : Option Addr) (c0_2 : Nat) (l0_2 : List (S136)) (a1 : Int) (r : Int) (w : World) (hr0_1 : Kd.C Kd.string w A0_1 l0_1.length l0_1) (hc0_1 : l0_1.length ≤ c0_1) (hr0_2 : Kd.C k136 w A0_2 l0_2.length l0_2) (hc0_2 : l0_2.length ≤ c0_2) (h : laws_szNode.f k a0_0 l0_1 l0_2 a1 = some r) :
    Calls Try.prog 147 #[.agg #[.int .i64 a0_0, .slice A0_1 l0_1.length c0_1, .slice A0_2 l0_2.length c0_2], .int .i64 a1] w fun e w' => e = .returned (.int .i64 r) ∧ Below w.heap.size w w' := by
  have hu170 := Try.underlying170; have HR0_1 := Aside0.mk hr0_1; have HC0_1 := Aside0.mk hc0_1; clear hr0_1 hc0_1; have HR0_2 := Aside0.mk hr0_2; have HC0_2 := Aside0.mk hc0_2; clear hr0_2 hc0_2; have HB := Aside0.mk (Below.refl w.heap.size w); have H : ((laws_szStringS.f k l0_1 a1).bind fun t102 => (if t102 < 0 then (some (-1)) else ((laws_szPropS.f k l0_2 t102).bind fun t103 => (if t103 < 0 then (some (-1)) else (some t103))))) = some r := h; clear h; replace H := ob_ H; obtain ⟨t102, A3, H⟩ := H; by_cases c4 : t102 < 0; rotate_left; rw [if_neg c4] at H; have c4b0 := df_ c4; clear c4; replace H := ob_ H; obtain ⟨t103, A7, H⟩ := H; by_cases c8 : t103 < 0; rotate_left; rw [if_neg c8] at H; have c8b0 := df_ c8; clear c8; obtain rfl := Option.some.inj H; rotate_right; rw [if_pos c8] at H; have c8b0 := dt_ c8; clear c8; obtain rfl := Option.some.inj H; rotate_right; rw [if_pos c4] at H; have c4b0 := dt_ c4; clear c4; obtain rfl := Option.some.inj H
  all_goals
    go_enter Try.func147, Try.ntmps147
    go_wp2_with (first | ((with_reducible refine gate_dst (N := 2) rfl ?_); refine bx_ 2 #[.int .i64 a0_0, .slice A0_1 l0_1.length c0_1, .slice A0_2 l0_2.length c0_2] 170 ?_; intro gb101 hg w12 hbox hb; have BK101 := Aside0.mk (hbox); have GW101 := gw_ hg; have GE101 := gw_ hg; replace HB := bs_ hb; clear hb hbox hg; obtain ⟨hcz13_0, hcz13_1, hcz13_2, hfz13_0, hfz13_1, hfz13_2⟩ := blk3 BK101) | ((with_reducible refine gate_callee (f := 37) rfl ?_); refine goesL_ (some 8) rfl rfl Try.func37 (by kernel_rfl) rfl #[.slice A0_1 l0_1.length c0_1, .int .i64 a1] rfl ar_ ?_; (with_reducible refine (laws_szStringS.calls k _ _ l0_1 a1 t102 _ ?side1 ?side2 A3.out).mono ?_); (case side1 => exact rdb_ HR0_1); (case side2 => exact HC0_1.out); rintro e w' ⟨rfl, ⟨nd, rfl⟩⟩; refine ⟨_, rfl, ?_⟩) | ((with_reducible refine gate_callee (f := 38) rfl ?_); refine goesL_ (some 14) rfl rfl Try.func38 (by kernel_rfl) rfl #[.slice A0_2 l0_2.length c0_2, .int .i64 t102] rfl ar_ ?_; (with_reducible refine (laws_szPropS.calls k _ _ l0_2 t102 t103 _ ?side1 ?side2 A7.out).mono ?_); (case side1 => repeat (first | exact (Kd.C_below HR0_2.out (bel_)) | (with_reducible refine Kd.C_alloc ?_ _) | (with_reducible refine Kd.C_drewN ?_ _) | (with_reducible refine Kd.C_drew ?_))); (case side2 => exact HC0_2.out); rintro e w14 ⟨rfl, hb⟩; refine ⟨_, rfl, ?_⟩; replace BK101 := bb_ BK101 hb; replace HB := bs_ hb; (try clear hb); (try clear hb2); (try clear hk); (try clear hi)))
    go_ret; exact re_
def laws_szNodeS.l0 : Nat → List (S170) → Int → Int → Option (Int)
  | 0, _, _, _ => none
  | k + 1, x0, x1, x5 => if x5 < (x0.length : Int) then (if 0 ≤ x5 then ((laws_szNode.f k ((rd_T170 x0 x5).f0) ((rd_T170 x0 x5).f1) ((rd_T170 x0 x5).f2) x1).bind fun t102 => (if t102 < 0 then (some (-1)) else (laws_szNodeS.l0 k x0 t102 (wrap64 (x5 + 1))))) else (none)) else (some x1)
def laws_szNodeS.f (k : Nat) (l0 : List (S170)) (a1 : Int) : Option (Int) := if (wrap64 (a1 - (l0.length : Int))) < 0 then (some (-1)) else (laws_szNodeS.l0 k l0 (wrap64 (a1 - (l0.length : Int))) 0)
set_option maxHeartbeats 8000000 in
set_option maxRecDepth 100000 in
theorem laws_szNodeS.calls (k : Nat) (A0 : Option Addr) (c0 : Nat) (l0 : List (S170)) (a1 : Int) (r : Int) (w : World) (hr0 : Kd.C k170 w A0 l0.length l0) (hc0 : l0.length ≤ c0) (h : laws_szNodeS.f k l0 a1 = some r) :
    Calls Try.prog 67 #[.slice A0 l0.length c0, .int .i64 a1] w fun e w' => e = .returned (.int .i64 r) ∧ Below w.heap.size w w' := by
  have hu170 := Try.underlying170; have HR0 := Aside0.mk hr0; have HC0 := Aside0.mk hc0; clear hr0 hc0; have HB := Aside0.mk (Below.refl w.heap.size w); have H : (if (wrap64 (a1 - (l0.length : Int))) < 0 then (some (-1)) else (laws_szNodeS.l0 k l0 (wrap64 (a1 - (l0.length : Int))) 0)) = some r := h; clear h; by_cases c3 : (wrap64 (a1 - (l0.length : Int))) < 0; rotate_left; rw [if_neg c3] at H; have c3b0 := df_ c3; clear c3; have H' := Aside0.mk H; clear H; rotate_right; rw [if_pos c3] at H; have c3b0 := dt_ c3; clear c3; obtain rfl := Option.some.inj H
  all_goals
    go_enter Try.func67, Try.ntmps67
    go_wp2
  · go_ret; exact re_
  go_loopg [1, 5] k (fun kq v1 v5 w' => ∃ (x1_1 : Int) (x5_1 : Int), v1 = .int .i64 x1_1 ∧ v5 = .int .i64 x5_1 ∧ Aside0 (laws_szNodeS.l0 kq l0 x1_1 x5_1 = some r) ∧ Aside0 (kq ≤ k) ∧ Aside0 (Below w.heap.size w w'))
  case atStart => exact ⟨(wrap64 (a1 - (l0.length : Int))), (0), sm_, sm_, H', ⟨Nat.le_refl _⟩, ⟨bel_⟩⟩
  case round =>
    clear H'
    try clear p2
    try clear c3
    try clear c3b0
    obtain ⟨x1_1, x5_1, rfl, rfl, HA, HK1, HB⟩ := hrel
    cases gk with
    | zero => exact absurd HA.out (by simp [laws_szNodeS.l0])
    | succ k1 =>
      have H := HA.out; clear HA; simp only [laws_szNodeS.l0] at H; by_cases c4 : x5_1 < (l0.length : Int); rotate_left; rw [if_neg c4] at H; have c4b0 := df_ c4; clear c4; obtain rfl := Option.some.inj H; rotate_right; rw [if_pos c4] at H; have c4b0 := dt_ c4; clear c4; by_cases c5 : 0 ≤ x5_1; rotate_left
      · rw [if_neg c5] at H; exact absurd H (by simp)
      rotate_right; rw [if_pos c5] at H; have c5b0 := dt_ c5; clear c5; replace H := ob_ H; obtain ⟨t102, A6, H⟩ := H; by_cases c7 : t102 < 0; rotate_left; rw [if_neg c7] at H; have c7b0 := df_ c7; clear c7; have H' := Aside0.mk H; clear H; rotate_right; rw [if_pos c7] at H; have c7b0 := dt_ c7; clear c7; obtain rfl := Option.some.inj H; rotate_left 2
      · go_wp2
        go_ret; exact re_
      all_goals
        have p101 : 0 ≤ (x5_1 : Int) := od_; have q101 : x5_1 < (l0.length : Int) := od_; obtain ⟨ad101, A101_1, c101_1, A101_2, c101_2, e101, hx101_0, hx101_1, hx101_2, hl101_1, hi101_1, hl101_2, hi101_2⟩ := at_T170 HR0.out x5_1 p101 q101
        cases e101
        replace hx101_0 := mv_ HB hx101_0; replace hx101_1 := mv_ HB hx101_1; replace hx101_2 := mv_ HB hx101_2; have HR101_1 := Aside0.mk hi101_1; have HC101_1 := Aside0.mk hl101_1; clear hi101_1 hl101_1; have HR101_2 := Aside0.mk hi101_2; have HC101_2 := Aside0.mk hl101_2; clear hi101_2 hl101_2; replace p101 := eq_true p101; replace q101 := eq_true q101
        go_wp2_with (first | ((with_reducible refine gate_callee (f := 147) rfl ?_); refine goesL_ (some 23) rfl rfl Try.func147 (by kernel_rfl) rfl #[.agg #[.int .i64 ((rd_T170 l0 x5_1).f0), .slice A101_1 ((rd_T170 l0 x5_1).f1).length c101_1, .slice A101_2 ((rd_T170 l0 x5_1).f2).length c101_2], .int .i64 x1_1] rfl ar_ ?_; (with_reducible refine (laws_szNode.calls k1 ((rd_T170 l0 x5_1).f0) _ _ ((rd_T170 l0 x5_1).f1) _ _ ((rd_T170 l0 x5_1).f2) x1_1 t102 _ ?side1 ?side2 ?side3 ?side4 A6.out).mono ?_); (case side1 => exact rdb_ HR101_1); (case side2 => exact HC101_1.out); (case side3 => exact rdb_ HR101_2); (case side4 => exact HC101_2.out); rintro e w9 ⟨rfl, hb⟩; refine ⟨_, rfl, ?_⟩; replace HB := bs_ hb; (try clear hb); (try clear hb2); (try clear hk); (try clear hi)))
      · go_ret; exact re_
      go_roundg k1
      case measure => have := HK1.out; omega
      case rel => exact ⟨(t102), (wrap64 (x5_1 + 1)), sm_, sm_, H', ⟨by have := HK1.out; omega⟩, ⟨bel_⟩⟩
def laws_szEdge.f (k : Nat) (a0_0 : Int) (a0_1 : ByteArray) (a0_2 : Int) (a0_3 : Int) (l0_4 : List (S136)) (a1 : Int) : Option (Int) := if (wrap64 (a1 - (a0_1.size : Int))) < 0 then (some (-1)) else ((laws_szPropS.f k l0_4 (wrap64 (a1 - (a0_1.size : Int)))).bind fun t102 => (if t102 < 0 then (some (-1)) else (some t102)))
set_option maxHeartbeats 8000000 in
set_option maxRecDepth 100000 in
theorem laws_szEdge.calls (k : Nat) (a0_0 : Int) (a0_1 : ByteArray) (a0_2 : Int) (a0_3 : Int) (A0_4 : Option Addr) (c0_4 : Nat) (l0_4 : List (S136)) (a1 : Int) (r : Int) (w : World) (hr0_4 : Kd.C k136 w A0_4 l0_4.length l0_4) (hc0_4 : l0_4.length ≤ c0_4) (h : laws_szEdge.f k a0_0 a0_1 a0_2 a0_3 l0_4 a1 = some r) :
    Calls Try.prog 148 #[.agg #[.int .i64 a0_0, .string a0_1, .int .i64 a0_2, .int .i64 a0_3, .slice A0_4 l0_4.length c0_4], .int .i64 a1] w fun e w' => e = .returned (.int .i64 r) ∧ Below w.heap.size w w' := by
  have hu173 := Try.underlying173; have HR0_4 := Aside0.mk hr0_4; have HC0_4 := Aside0.mk hc0_4; clear hr0_4 hc0_4; have HB := Aside0.mk (Below.refl w.heap.size w); have H : (if (wrap64 (a1 - (a0_1.size : Int))) < 0 then (some (-1)) else ((laws_szPropS.f k l0_4 (wrap64 (a1 - (a0_1.size : Int)))).bind fun t102 => (if t102 < 0 then (some (-1)) else (some t102)))) = some r := h; clear h; by_cases c3 : (wrap64 (a1 - (a0_1.size : Int))) < 0; rotate_left; rw [if_neg c3] at H; have c3b0 := df_ c3; clear c3; replace H := ob_ H; obtain ⟨t102, A6, H⟩ := H; by_cases c7 : t102 < 0; rotate_left; rw [if_neg c7] at H; have c7b0 := df_ c7; clear c7; obtain rfl := Option.some.inj H; rotate_right; rw [if_pos c7] at H; have c7b0 := dt_ c7; clear c7; obtain rfl := Option.some.inj H; rotate_right; rw [if_pos c3] at H; have c3b0 := dt_ c3; clear c3; obtain rfl := Option.some.inj H
  all_goals
    go_enter Try.func148, Try.ntmps148
    go_wp2_with (first | ((with_reducible refine gate_dst (N := 2) rfl ?_); refine bx_ 2 #[.int .i64 a0_0, .string a0_1, .int .i64 a0_2, .int .i64 a0_3, .slice A0_4 l0_4.length c0_4] 173 ?_; intro gb101 hg w11 hbox hb; have BK101 := Aside0.mk (hbox); have GW101 := gw_ hg; have GE101 := gw_ hg; replace HB := bs_ hb; clear hb hbox hg; obtain ⟨hcz12_0, hcz12_1, hcz12_2, hcz12_3, hcz12_4, hfz12_0, hfz12_1, hfz12_2, hfz12_3, hfz12_4⟩ := blk5 BK101) | ((with_reducible refine gate_callee (f := 38) rfl ?_); refine goesL_ (some 15) rfl rfl Try.func38 (by kernel_rfl) rfl #[.slice A0_4 l0_4.length c0_4, .int .i64 (wrap64 (a1 - (a0_1.size : Int)))] rfl ar_ ?_; (with_reducible refine (laws_szPropS.calls k _ _ l0_4 (wrap64 (a1 - (a0_1.size : Int))) t102 _ ?side1 ?side2 A6.out).mono ?_); (case side1 => exact rdb_ HR0_4); (case side2 => exact HC0_4.out); rintro e w13 ⟨rfl, hb⟩; refine ⟨_, rfl, ?_⟩; replace BK101 := bb_ BK101 hb; replace HB := bs_ hb; (try clear hb); (try clear hb2); (try clear hk); (try clear hi)))
    go_ret; exact re_
def laws_szEdgeS.l0 : Nat → List (S173) → Int → Int → Option (Int)
  | 0, _, _, _ => none
  | k + 1, x0, x1, x5 => if x5 < (x0.length : Int) then (if 0 ≤ x5 then ((laws_szEdge.f k ((rd_T173 x0 x5).f0) ((rd_T173 x0 x5).f1) ((rd_T173 x0 x5).f2) ((rd_T173 x0 x5).f3) ((rd_T173 x0 x5).f4) x1).bind fun t102 => (if t102 < 0 then (some (-1)) else (laws_szEdgeS.l0 k x0 t102 (wrap64 (x5 + 1))))) else (none)) else (some x1)
def laws_szEdgeS.f (k : Nat) (l0 : List (S173)) (a1 : Int) : Option (Int) := if (wrap64 (a1 - (l0.length : Int))) < 0 then (some (-1)) else (laws_szEdgeS.l0 k l0 (wrap64 (a1 - (l0.length : Int))) 0)
set_option maxHeartbeats 8000000 in
set_option maxRecDepth 100000 in
theorem laws_szEdgeS.calls (k : Nat) (A0 : Option Addr) (c0 : Nat) (l0 : List (S173)) (a1 : Int) (r : Int) (w : World) (hr0 : Kd.C k173 w A0 l0.length l0) (hc0 : l0.length ≤ c0) (h : laws_szEdgeS.f k l0 a1 = some r) :
    Calls Try.prog 68 #[.slice A0 l0.length c0, .int .i64 a1] w fun e w' => e = .returned (.int .i64 r) ∧ Below w.heap.size w w' := by
  have hu173 := Try.underlying173; have HR0 := Aside0.mk hr0; have HC0 := Aside0.mk hc0; clear hr0 hc0; have HB := Aside0.mk (Below.refl w.heap.size w); have H : (if (wrap64 (a1 - (l0.length : Int))) < 0 then (some (-1)) else (laws_szEdgeS.l0 k l0 (wrap64 (a1 - (l0.length : Int))) 0)) = some r := h; clear h; by_cases c3 : (wrap64 (a1 - (l0.length : Int))) < 0; rotate_left; rw [if_neg c3] at H; have c3b0 := df_ c3; clear c3; have H' := Aside0.mk H; clear H; rotate_right; rw [if_pos c3] at H; have c3b0 := dt_ c3; clear c3; obtain rfl := Option.some.inj H
  all_goals
    go_enter Try.func68, Try.ntmps68
    go_wp2
  · go_ret; exact re_
  go_loopg [1, 5] k (fun kq v1 v5 w' => ∃ (x1_1 : Int) (x5_1 : Int), v1 = .int .i64 x1_1 ∧ v5 = .int .i64 x5_1 ∧ Aside0 (laws_szEdgeS.l0 kq l0 x1_1 x5_1 = some r) ∧ Aside0 (kq ≤ k) ∧ Aside0 (Below w.heap.size w w'))
  case atStart => exact ⟨(wrap64 (a1 - (l0.length : Int))), (0), sm_, sm_, H', ⟨Nat.le_refl _⟩, ⟨bel_⟩⟩
  case round =>
    clear H'
    try clear p2
    try clear c3
    try clear c3b0
    obtain ⟨x1_1, x5_1, rfl, rfl, HA, HK1, HB⟩ := hrel
    cases gk with
    | zero => exact absurd HA.out (by simp [laws_szEdgeS.l0])
    | succ k1 =>
      have H := HA.out; clear HA; simp only [laws_szEdgeS.l0] at H; by_cases c4 : x5_1 < (l0.length : Int); rotate_left; rw [if_neg c4] at H; have c4b0 := df_ c4; clear c4; obtain rfl := Option.some.inj H; rotate_right; rw [if_pos c4] at H; have c4b0 := dt_ c4; clear c4; by_cases c5 : 0 ≤ x5_1; rotate_left
      · rw [if_neg c5] at H; exact absurd H (by simp)
      rotate_right; rw [if_pos c5] at H; have c5b0 := dt_ c5; clear c5; replace H := ob_ H; obtain ⟨t102, A6, H⟩ := H; by_cases c7 : t102 < 0; rotate_left; rw [if_neg c7] at H; have c7b0 := df_ c7; clear c7; have H' := Aside0.mk H; clear H; rotate_right; rw [if_pos c7] at H; have c7b0 := dt_ c7; clear c7; obtain rfl := Option.some.inj H; rotate_left 2
      · go_wp2
        go_ret; exact re_
      all_goals
        have p101 : 0 ≤ (x5_1 : Int) := od_; have q101 : x5_1 < (l0.length : Int) := od_; obtain ⟨ad101, A101_4, c101_4, e101, hx101_0, hx101_1, hx101_2, hx101_3, hx101_4, hl101_4, hi101_4⟩ := at_T173 HR0.out x5_1 p101 q101
        cases e101
        replace hx101_0 := mv_ HB hx101_0; replace hx101_1 := mv_ HB hx101_1; replace hx101_2 := mv_ HB hx101_2; replace hx101_3 := mv_ HB hx101_3; replace hx101_4 := mv_ HB hx101_4; have HR101_4 := Aside0.mk hi101_4; have HC101_4 := Aside0.mk hl101_4; clear hi101_4 hl101_4; replace p101 := eq_true p101; replace q101 := eq_true q101
        go_wp2_with (first | ((with_reducible refine gate_callee (f := 148) rfl ?_); refine goesL_ (some 23) rfl rfl Try.func148 (by kernel_rfl) rfl #[.agg #[.int .i64 ((rd_T173 l0 x5_1).f0), .string ((rd_T173 l0 x5_1).f1), .int .i64 ((rd_T173 l0 x5_1).f2), .int .i64 ((rd_T173 l0 x5_1).f3), .slice A101_4 ((rd_T173 l0 x5_1).f4).length c101_4], .int .i64 x1_1] rfl ar_ ?_; (with_reducible refine (laws_szEdge.calls k1 ((rd_T173 l0 x5_1).f0) ((rd_T173 l0 x5_1).f1) ((rd_T173 l0 x5_1).f2) ((rd_T173 l0 x5_1).f3) _ _ ((rd_T173 l0 x5_1).f4) x1_1 t102 _ ?side1 ?side2 A6.out).mono ?_); (case side1 => exact rdb_ HR101_4); (case side2 => exact HC101_4.out); rintro e w9 ⟨rfl, hb⟩; refine ⟨_, rfl, ?_⟩; replace HB := bs_ hb; (try clear hb); (try clear hb2); (try clear hk); (try clear hi)))
      · go_ret; exact re_
      go_roundg k1
      case measure => have := HK1.out; omega
      case rel => exact ⟨(t102), (wrap64 (x5_1 + 1)), sm_, sm_, H', ⟨by have := HK1.out; omega⟩, ⟨bel_⟩⟩
def laws_szGraph.f (k : Nat) (l0_0 : List (S170)) (l0_1 : List (S173)) (a0_2 : Int) (a0_3 : Int) (a1 : Int) : Option (Int) := (laws_szNodeS.f k l0_0 a1).bind fun t102 => (if t102 < 0 then (some (-1)) else ((laws_szEdgeS.f k l0_1 t102).bind fun t103 => (if t103 < 0 then (some (-1)) else (some t103))))
set_option maxHeartbeats 8000000 in
set_option maxRecDepth 100000 in
theorem laws_szGraph.calls (k : Nat) (A0_0 : Option Addr) (c0_0 : Nat) (l0_0 : List (S170)) (A0_1 : Option Addr) (c0_1 : Nat) (l0_1 : List (S173)) (a0_2 : Int) (a0_3 : Int) (a1 : Int) (r : Int) (w : World) (hr0_0 : Kd.C k170 w A0_0 l0_0.length l0_0) (hc0_0 : l0_0.length ≤ c0_0) (hr0_1 : Kd.C k173 w A0_1 l0_1.length l0_1) (hc0_1 : l0_1.length ≤ c0_1) (h : laws_szGraph.f k l0_0 l0_1 a0_2 a0_3 a1 = some r) :
    Calls Try.prog 15 #[.agg #[.slice A0_0 l0_0.length c0_0, .slice A0_1 l0_1.length c0_1, .int .i64 a0_2, .int .i64 a0_3], .int .i64 a1] w fun e w' => e = .returned (.int .i64 r) ∧ Below w.heap.size w w' := by
  have hu25 := Try.underlying25; have HR0_0 := Aside0.mk hr0_0; have HC0_0 := Aside0.mk hc0_0; clear hr0_0 hc0_0; have HR0_1 := Aside0.mk hr0_1; have HC0_1 := Aside0.mk hc0_1; clear hr0_1 hc0_1; have HB := Aside0.mk (Below.refl w.heap.size w); have H : ((laws_szNodeS.f k l0_0 a1).bind fun t102 => (if t102 < 0 then (some (-1)) else ((laws_szEdgeS.f k l0_1 t102).bind fun t103 => (if t103 < 0 then (some (-1)) else (some t103))))) = some r := h; clear h; replace H := ob_ H; obtain ⟨t102, A3, H⟩ := H; by_cases c4 : t102 < 0; rotate_left; rw [if_neg c4] at H; have c4b0 := df_ c4; clear c4; replace H := ob_ H; obtain ⟨t103, A8, H⟩ := H; by_cases c9 : t103 < 0; rotate_left; rw [if_neg c9] at H; have c9b0 := df_ c9; clear c9; obtain rfl := Option.some.inj H; rotate_right; rw [if_pos c9] at H; have c9b0 := dt_ c9; clear c9; obtain rfl := Option.some.inj H; rotate_right; rw [if_pos c4] at H; have c4b0 := dt_ c4; clear c4; obtain rfl := Option.some.inj H
  all_goals
    go_enter Try.func15, Try.ntmps15
  · go_wp2_with (first | ((with_reducible refine gate_dst (N := 2) rfl ?_); refine bx_ 2 #[.slice A0_0 l0_0.length c0_0, .slice A0_1 l0_1.length c0_1, .int .i64 a0_2, .int .i64 a0_3] 25 ?_; intro gb7101 hg w5 hbox hb; have BK7101 := Aside0.mk (hbox); have GW7101 := gw_ hg; have GE7101 := gw_ hg; replace HB := bs_ hb; clear hb hbox hg; obtain ⟨hcz6_0, hcz6_1, hcz6_2, hcz6_3, hfz6_0, hfz6_1, hfz6_2, hfz6_3⟩ := blk4 BK7101) | ((with_reducible refine gate_callee (f := 67) rfl ?_); refine goesL_ (some 8) rfl rfl Try.func67 (by kernel_rfl) rfl #[.slice A0_0 l0_0.length c0_0, .int .i64 a1] rfl ar_ ?_; (with_reducible refine (laws_szNodeS.calls k _ _ l0_0 a1 t102 _ ?side1 ?side2 A3.out).mono ?_); (case side1 => exact rdb_ HR0_0); (case side2 => exact HC0_0.out); rintro e w7 ⟨rfl, hb⟩; refine ⟨_, rfl, ?_⟩; replace BK7101 := bb_ BK7101 hb; replace HB := bs_ hb; (try clear hb); (try clear hb2); (try clear hk); (try clear hi)))
    go_ret; exact re_
  all_goals
    go_wp2_with (first | ((with_reducible refine gate_dst (N := 2) rfl ?_); refine bx_ 2 #[.slice A0_0 l0_0.length c0_0, .slice A0_1 l0_1.length c0_1, .int .i64 a0_2, .int .i64 a0_3] 25 ?_; intro gb101 hg w15 hbox hb; have BK101 := Aside0.mk (hbox); have GW101 := gw_ hg; have GE101 := gw_ hg; replace HB := bs_ hb; clear hb hbox hg; obtain ⟨hcz16_0, hcz16_1, hcz16_2, hcz16_3, hfz16_0, hfz16_1, hfz16_2, hfz16_3⟩ := blk4 BK101) | ((with_reducible refine gate_callee (f := 67) rfl ?_); refine goesL_ (some 8) rfl rfl Try.func67 (by kernel_rfl) rfl #[.slice A0_0 l0_0.length c0_0, .int .i64 a1] rfl ar_ ?_; (with_reducible refine (laws_szNodeS.calls k _ _ l0_0 a1 t102 _ ?side1 ?side2 A3.out).mono ?_); (case side1 => exact rdb_ HR0_0); (case side2 => exact HC0_0.out); rintro e w17 ⟨rfl, hb⟩; refine ⟨_, rfl, ?_⟩; replace BK101 := bb_ BK101 hb; replace HB := bs_ hb; (try clear hb); (try clear hb2); (try clear hk); (try clear hi); obtain ⟨hcz18_0, hcz18_1, hcz18_2, hcz18_3, hfz18_0, hfz18_1, hfz18_2, hfz18_3⟩ := blk4 BK101) | ((with_reducible refine gate_callee (f := 68) rfl ?_); refine goesL_ (some 14) rfl rfl Try.func68 (by kernel_rfl) rfl #[.slice A0_1 l0_1.length c0_1, .int .i64 t102] rfl ar_ ?_; (with_reducible refine (laws_szEdgeS.calls k _ _ l0_1 t102 t103 _ ?side1 ?side2 A8.out).mono ?_); (case side1 => exact rdb_ HR0_1); (case side2 => exact HC0_1.out); rintro e w19 ⟨rfl, hb⟩; refine ⟨_, rfl, ?_⟩; replace BK101 := bb_ BK101 hb; replace HB := bs_ hb; (try clear hb); (try clear hb2); (try clear hk); (try clear hi)))
    go_ret; exact re_
def laws_toStringS.l0 : Nat → List ByteArray → List ByteArray → Int → Option (List ByteArray)
  | 0, _, _, _ => none
  | k + 1, x0, x3, x4 => if x4 < (x0.length : Int) then (if 0 ≤ x4 then (if x4 < (x3.length : Int) then (laws_toStringS.l0 k x0 (x3.set (x4 : Int).toNat (rdOf ByteArray.empty x0 x4)) (wrap64 (x4 + 1))) else (none)) else (none)) else (some x3)
def laws_toStringS.f (k : Nat) (l0 : List ByteArray) : Option (List ByteArray) := if 0 ≤ (l0.length : Int) then (if ((l0.length : Int) : Int).toNat ≤ 17592186044416 then (laws_toStringS.l0 k l0 (List.replicate ((l0.length : Int) : Int).toNat (⟨#[]⟩ : ByteArray)) 0) else (none)) else (none)
set_option maxHeartbeats 8000000 in
set_option maxRecDepth 100000 in
theorem laws_toStringS.calls (k : Nat) (A0 : Option Addr) (c0 : Nat) (l0 : List ByteArray) (r : List ByteArray) (w : World) (hr0 : Kd.C Kd.string w A0 l0.length l0) (hc0 : l0.length ≤ c0) (h : laws_toStringS.f k l0 = some r) :
    Calls Try.prog 40 #[.slice A0 l0.length c0] w fun e w' => ∃ v0_ : Value, e = .returned (v0_) ∧ Kd.R Kd.string 9 w' w.heap.size (fun _ => True) v0_ r ∧ Below w.heap.size w w' := by
  have HR0 := Aside0.mk hr0; have HC0 := Aside0.mk hc0; clear hr0 hc0; have HB := Aside0.mk (Below.refl w.heap.size w); have H : (if 0 ≤ (l0.length : Int) then (if ((l0.length : Int) : Int).toNat ≤ 17592186044416 then (laws_toStringS.l0 k l0 (List.replicate ((l0.length : Int) : Int).toNat (⟨#[]⟩ : ByteArray)) 0) else (none)) else (none)) = some r := h; clear h; by_cases c2 : 0 ≤ (l0.length : Int); rotate_left
  · rw [if_neg c2] at H; exact absurd H (by simp)
  rw [if_pos c2] at H; have c2b0 := eq_true c2; have c2b1 := dt_ c2; clear c2; by_cases c3 : ((l0.length : Int) : Int).toNat ≤ 17592186044416; rotate_left
  · rw [if_neg c3] at H; exact absurd H (by simp)
  rw [if_pos c3] at H; have c3b0 := eq_true c3; have c3b1 := dt_ c3; clear c3; obtain ⟨y101, hy101⟩ : ∃ y_ : List ByteArray, y_ = (List.replicate ((l0.length : Int) : Int).toNat (⟨#[]⟩ : ByteArray)) := ⟨_, rfl⟩
  replace H : (laws_toStringS.l0 k l0 y101 0) = some r := by first | (rw [hy101]; with_reducible exact H) | (have H2_ := (Option.bind_some _ _).symm.trans H; rw [hy101]; with_reducible exact H2_) | (have H2_ := (Option.bind_some _ _).symm.trans H; with_reducible exact H2_) | with_reducible exact H | (rw [hy101]; exact H) | exact H
  have Ny101 := Aside0.mk hy101; clear hy101; have H' := Aside0.mk H; clear H
  go_enter Try.func40, Try.ntmps40
  go_wp2_with (first | ((with_reducible refine gate_dst (N := 7) rfl ?_); refine Kd.R_make Kd.string _ 9 rfl (N := 7) rfl 57 _ _ rfl (l0.length : Int) rfl rfl Try.underlying57 (.string ⟨#[]⟩) 16 info9 rfl (by decide) (by omega) (⟨#[]⟩ : ByteArray) (ok := fun _ => True) (okp := fun _ => True) rfl (fun _ hk => hk) trivial (od_) (Nat.le_trans (Nat.mul_le_mul_right _ (od_ : (l0.length : Int).toNat ≤ 17592186044416)) (by omega)) (Below.refl _ _) (Nat.le_refl _) ?_; intro v102 w4 ho5 hb hg_ hnew_; clear hg_ hnew_; (first | rw [← Ny101.out] at ho5 | (simp only [Int.reduceToNat] at ho5; rw [← Ny101.out] at ho5)); have HO103 := Aside0.mk (Kd.R_lower ho5 (below_size (bel_))); replace HB := bs_ hb; clear hb ho5))
  go_loopg [4] k (fun kq v4 w' => ∃ (x3_1 : List ByteArray) (x4_1 : Int), v4 = .int .i64 x4_1 ∧ Aside0 (laws_toStringS.l0 kq l0 x3_1 x4_1 = some r) ∧ Aside0 (kq ≤ k) ∧ Aside0 (Kd.R Kd.string 9 w' w.heap.size (fun _ => True) v102 x3_1) ∧ Aside0 (Below w.heap.size w w'))
  case atStart => exact ⟨(y101), (0), sm_, H', ⟨Nat.le_refl _⟩, ⟨by (with_reducible repeat (first | apply Kd.R_alloc | apply Kd.R_drewN | apply Kd.R_drew)); exact HO103.out⟩, ⟨bel_⟩⟩
  case round =>
    clear H'
    try clear c2
    try clear c2b0
    try clear c2b1
    try clear p2
    try clear c3
    try clear c3b0
    try clear c3b1
    try clear c4
    obtain ⟨x3_1, x4_1, rfl, HA, HK1, HO_3, HB⟩ := hrel
    cases gk with
    | zero => exact absurd HA.out (by simp [laws_toStringS.l0])
    | succ k1 =>
      have H := HA.out; clear HA; simp only [laws_toStringS.l0] at H; by_cases c6 : x4_1 < (l0.length : Int); rotate_left; rw [if_neg c6] at H; have c6b0 := df_ c6; clear c6; obtain rfl := Option.some.inj H; rotate_right; rw [if_pos c6] at H; have c6b0 := dt_ c6; clear c6; by_cases c7 : 0 ≤ x4_1; rotate_left
      · rw [if_neg c7] at H; exact absurd H (by simp)
      rotate_right; rw [if_pos c7] at H; have c7b0 := dt_ c7; clear c7; by_cases c8 : x4_1 < (x3_1.length : Int); rotate_left
      · rw [if_neg c8] at H; exact absurd H (by simp)
      rotate_right; rw [if_pos c8] at H; have c8b0 := dt_ c8; clear c8; obtain ⟨y105, hy105⟩ : ∃ y_ : List ByteArray, y_ = (x3_1.set (x4_1 : Int).toNat (rdOf ByteArray.empty l0 x4_1)) := ⟨_, rfl⟩
      replace H : (laws_toStringS.l0 k1 l0 y105 (wrap64 (x4_1 + 1))) = some r := by first | (rw [hy105]; with_reducible exact H) | (have H2_ := (Option.bind_some _ _).symm.trans H; rw [hy105]; with_reducible exact H2_) | (have H2_ := (Option.bind_some _ _).symm.trans H; with_reducible exact H2_) | with_reducible exact H | (rw [hy105]; exact H) | exact H
      have Ny105 := Aside0.mk hy105; clear hy105; have H' := Aside0.mk H; clear H; rotate_left
      · go_wp2
        go_ret; exact ⟨_, by first | rfl | (simp [errW_none, errW_some] <;> rfl) | (simp [*, errW_none, errW_some] <;> rfl), by (with_reducible repeat (first | apply Kd.R_alloc | apply Kd.R_drewN | apply Kd.R_drew)); exact HO_3.out, bel_⟩
      have p104 : 0 ≤ (x4_1 : Int) := od_; have q104 : x4_1 < (l0.length : Int) := od_; obtain ⟨ad104, e104, hx104_0⟩ := Kd.at_string HR0.out x4_1 p104 q104
      cases e104
      replace hx104_0 := mv_ HB hx104_0; replace p104 := eq_true p104; replace q104 := eq_true q104; have p9 : 0 ≤ (x4_1 : Int) := od_; have q9 : (x4_1 : Int) < ((x3_1.length : Int) : Int) := od_; obtain ⟨go9, co9, eo9, gb9, gl9, cl9, HG9⟩ := Kd.R_form HO_3.out (by omega)
      (first | cases eo9 | (injection eo9 with ea_ en_ ec_; (first | subst ea_ | (injection ea_ with ea_; subst ea_)); subst ec_; clear en_))
      have GB9 := Aside0.mk gb9; have GG9 := Aside0.mk HG9; clear gb9 gl9 HG9; obtain ⟨hx9_0, hf9_0⟩ := Kd.R_celln (⟨#[]⟩ : ByteArray) HO_3.out (x4_1 : Int) p9 q9; replace p9 := eq_true p9; replace q9 := eq_true q9; have HP10 := Kd.R_putg HO_3.out (x4_1 : Int) (rdOf ByteArray.empty l0 x4_1)
      go_wp2_with (first | ((with_reducible refine gate_store (t := 9) (p := 20) rfl ?_); refine store_event (t := 9) (p := 20) (v := ?vo_w11) (w1 := (wr.setCell ⟨go9, (x4_1 : Int).toNat, none⟩ (.string (rdOf ByteArray.empty l0 x4_1)))) ?hg ?ho ?hn ?hr ?_; (case ho => rfl); (case hg => rfl); (case hn => rfl); (case hr => first | (go_simp; done) | (go_simp; rfl)); intro w11 hw; have hg : wr.grownBy w11 (some go9) := (by rw [hw]; exact HP10.2); have hp_ : Kd.R Kd.string 9 w11 w.heap.size (fun _ => True) (.slice (some ⟨go9, 0, none⟩) x3_1.length co9) y105 := (by rw [hw, Ny105.out]; exact HP10.1); clear HP10; replace HO_3 := Aside0.mk (hp_); replace HB := Aside0.mk ((by rw [hw]; exact below_set (HB.out) GB9.out : Below w.heap.size w w11)); clear hg hw hp_))
      go_roundg k1
      case measure => have := HK1.out; omega
      case rel => exact ⟨(y105), (wrap64 (x4_1 + 1)), sm_, H', ⟨by have := HK1.out; omega⟩, ⟨by (with_reducible repeat (first | apply Kd.R_alloc | apply Kd.R_drewN | apply Kd.R_drew)); exact HO_3.out⟩, ⟨bel_⟩⟩
end Go.Proofs.Ytcchmhmbjhgfdaa.G
