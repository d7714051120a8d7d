import Derived.Test.YtcchmhmbjhgfdaaY3
import Derived.Test.YtcchmhmbjhgfdaaY16
namespace Go.Proofs.Ytcchmhmbjhgfdaa.G
open Go.RowKit Go.Proofs.YtcchmhmbjhgfdaaW.PrintWords Go.Proofs.YtcchmhmbjhgfdaaW.PrintLast Go.Proofs.YtcchmhmbjhgfdaaW.PrintMore
attribute [local go_sem] max2_int min2_int max_two min_two max_three min_three max_four min_four Own.str_gtr Own.str_leq Own.str_geq Own.sto_fn   -- for this text's walks alone
open Own
set_option linter.unusedVariables false
set_option linter.unusedSimpArgs false
def impl_nodesOf.f (l0_0 : List (S99)) (l0_1 : List (S104)) (a0_2 : Int) (a0_3 : Int) : Option ((List (S99)) × Bool) := some (l0_0, true)
set_option maxHeartbeats 8000000 in
set_option maxRecDepth 100000 in
theorem impl_nodesOf.calls (P0_0_ : Nat → Prop) (A0_0 : Option Addr) (c0_0 : Nat) (l0_0 : List (S99)) (A0_1 : Option Addr) (c0_1 : Nat) (l0_1 : List (S104)) (a0_2 : Int) (a0_3 : Int) (r1 : List (S99)) (r2 : Bool) (w : World) (hs0_0 : Kd.V k99 99 w w.heap.size (fun k_ => P0_0_ k_) (.slice A0_0 l0_0.length c0_0) l0_0) (hr0_1 : Kd.C k104 w A0_1 l0_1.length l0_1) (hc0_1 : l0_1.length ≤ c0_1) (h : impl_nodesOf.f l0_0 l0_1 a0_2 a0_3 = some (r1, r2)) :
    Calls Try.prog 76 #[.agg #[.slice A0_0 l0_0.length c0_0, .slice A0_1 l0_1.length c0_1, .int .i64 a0_2, .int .i64 a0_3]] w fun e w' => ∃ v0_ : Value, e = .returned (.agg #[v0_, .func (.func 154) #[] #[]]) ∧ Kd.V k99 99 w' w.heap.size (fun k_ => (P0_0_ k_ ∨ w.heap.size ≤ k_)) v0_ r1 ∧ Below w.heap.size w w' := by
  have hu31 := Try.underlying31; have hu110 := Try.underlying110; have HO0_0 := Aside0.mk (show Kd.V k99 99 w w.heap.size (fun k_ => (P0_0_ k_ ∨ w.heap.size ≤ k_)) (.slice A0_0 l0_0.length c0_0) l0_0 from Kd.V_mono hs0_0 (fun k_ hk => .inl hk)); have HR0_1 := Aside0.mk hr0_1; have HC0_1 := Aside0.mk hc0_1; clear hr0_1 hc0_1; have HB := Aside0.mk (Below.refl w.heap.size w); have H : (some (l0_0, true)) = some (r1, r2) := h; clear h; simp only [Option.some.injEq, Prod.mk.injEq] at H; obtain ⟨rfl, rfl⟩ := H
  go_enter Try.func76, Try.ntmps76
  go_wp2_with (first | ((with_reducible refine gate_dst (N := 1) rfl ?_); refine bx_ 1 #[.slice A0_0 l0_0.length c0_0, .slice A0_1 l0_1.length c0_1, .int .i64 a0_2, .int .i64 a0_3] 31 ?_; intro gb101 hg w2 hbox hb; have BK101 := Aside0.mk (hbox); have GW101 := gw_ hg; have GE101 := gw_ hg; replace HO0_0 := Aside0.mk (Kd.V_below (Kd.V_elderB (by (with_reducible repeat (first | apply Kd.V_alloc | apply Kd.V_drewN | apply Kd.V_drew)); first | exact HO0_0.out | exact Kd.V_mono (HO0_0.out) (fun _ h_ => by simpa only [and_assoc, and_comm, and_left_comm] using h_)) gb101 (Nat.le_of_eq hg.symm)) hb); replace HB := bs_ hb; clear hb hbox hg) | ((with_reducible refine gate_dst (N := 2) rfl ?_); refine bx_ 2 #[.slice none 0 0, .nilFunc] 110 ?_; intro gb102 hg w3 hbox hb; have BK102 := Aside0.mk (hbox); have GW102 := gw_ hg; have GE102 := gw_ hg; have NB101_102 := nlt_ hg BK101; have NB102_101 := ngt_ hg BK101; replace HO0_0 := Aside0.mk (Kd.V_below (Kd.V_elderB (by (with_reducible repeat (first | apply Kd.V_alloc | apply Kd.V_drewN | apply Kd.V_drew)); first | exact HO0_0.out | exact Kd.V_mono (HO0_0.out) (fun _ h_ => by simpa only [and_assoc, and_comm, and_left_comm] using h_)) gb102 (Nat.le_of_eq hg.symm)) hb); replace BK101 := bb_ BK101 hb; replace HB := bs_ hb; clear hb hbox hg; have hnb4 := NB101_102.out; have hnc4 := NB102_101.out; obtain ⟨hcz5_0, hcz5_1, hcz5_2, hcz5_3, hfz5_0, hfz5_1, hfz5_2, hfz5_3⟩ := blk4 BK101; obtain ⟨hcz6_0, hcz6_1, hfz6_0, hfz6_1⟩ := blk2 BK102))
  refine bodyPost_ret (results_cell_row rfl _ _ gb102 110 #[.slice A0_0 l0_0.length c0_0, .func (.func 154) #[] #[]] (0, 0) _ rfl (by refine pe_ ?_; refine blk_put (cs := #[.slice A0_0 l0_0.length c0_0, .nilFunc]) ?_ 1 _ rfl; refine pe_ ?_; refine blk_put (cs := #[.slice none 0 0, .nilFunc]) ?_ 0 _ rfl; refine pe_ ?_; exact BK102.out) Try.underlying110 rfl (by kernel_rfl)) rfl ?_; exact ⟨_, by first | rfl | (simp [errW_none, errW_some] <;> rfl) | (simp [*, errW_none, errW_some] <;> rfl), by (with_reducible repeat (first | apply Kd.V_alloc | apply Kd.V_drewN | apply Kd.V_drew)); first | exact Kd.V_mono (Kd.V_far (p := ⟨gb102, 1, none⟩) (Kd.V_far (p := ⟨gb102, 0, none⟩) (Kd.V_mono HO0_0.out (fun k_ hk => (⟨hk, hk.2⟩ : _ ∧ k_ ≠ gb102))) (fun _ hk => hk.2) (.slice A0_0 l0_0.length c0_0)) (fun _ hk => hk.2) (.func (.func 154) #[] #[])) (fun _ hk => hk.1.1.1) | exact Kd.V_mono (Kd.V_mono (Kd.V_far (p := ⟨gb102, 1, none⟩) (Kd.V_far (p := ⟨gb102, 0, none⟩) (Kd.V_mono HO0_0.out (fun k_ hk => (⟨hk, hk.2⟩ : _ ∧ k_ ≠ gb102))) (fun _ hk => hk.2) (.slice A0_0 l0_0.length c0_0)) (fun _ hk => hk.2) (.func (.func 154) #[] #[])) (fun _ hk => hk.1.1.1)) (fun _ h_ => by simpa only [and_assoc, and_comm, and_left_comm] using h_), bel_⟩
def impl_Node_ascend.l0 : Nat → Int → Int → List (S99) → Int → Int → Option (Bool)
  | 0, _, _, _, _, _ => none
  | k + 1, x1, x5, x10, x11, x12 => if x12 < x11 then (if 0 ≤ x12 then (if x12 < (x10.length : Int) then ((impl_nodesOf_1.f ((rd_T99 x10 x12).f0) ((rd_T99 x10 x12).f1) ((rd_T99 x10 x12).f2)).bind fun t104 => (if t104 ≤ x5 then (some false) else (if t104 ≥ x1 then (some false) else (impl_Node_ascend.l0 k x1 t104 x10 x11 (wrap64 (x12 + 1)))))) else (none)) else (none)) else (some true)
def impl_Node_ascend.f (k : Nat) (l0_0 : List (S99)) (a0_1 : Bool) (a1 : Int) : Option (Bool) := impl_Node_ascend.l0 k a1 (-1) l0_0 (l0_0.length : Int) 0
set_option maxHeartbeats 8000000 in
set_option maxRecDepth 100000 in
theorem impl_Node_ascend.calls (k : Nat) (A0_0 : Option Addr) (c0_0 : Nat) (l0_0 : List (S99)) (a0_1 : Bool) (a1 : Int) (r : Bool) (w : World) (hr0_0 : Kd.C k99 w A0_0 l0_0.length l0_0) (hc0_0 : l0_0.length ≤ c0_0) (h : impl_Node_ascend.f k l0_0 a0_1 a1 = some r) :
    Calls Try.prog 77 #[.agg #[.slice A0_0 l0_0.length c0_0, .func (.func 154) #[] #[]], .int .i64 a1] w fun e w' => e = .returned (.bool r) ∧ Below w.heap.size w w' := by
  have hu110 := Try.underlying110; have hu99 := Try.underlying99; have HR0_0 := Aside0.mk hr0_0; have HC0_0 := Aside0.mk hc0_0; clear hr0_0 hc0_0; have HB := Aside0.mk (Below.refl w.heap.size w); have H : (impl_Node_ascend.l0 k a1 (-1) l0_0 (l0_0.length : Int) 0) = some r := h; clear h; have H' := Aside0.mk H; clear H
  go_enter Try.func77, Try.ntmps77
  go_wp2_with (first | ((with_reducible refine gate_dst (N := 2) rfl ?_); refine bx_ 2 #[.slice A0_0 l0_0.length c0_0, .func (.func 154) #[] #[]] 110 ?_; intro gb101 hg w3 hbox hb; have BK101 := Aside0.mk (hbox); have GW101 := gw_ hg; have GE101 := gw_ hg; replace HB := bs_ hb; clear hb hbox hg; obtain ⟨hcz4_0, hcz4_1, hfz4_0, hfz4_1⟩ := blk2 BK101))
  go_loopg [5, 12] k (fun kq v5 v12 w' => ∃ (x5_1 : Int) (x12_1 : Int), v5 = .int .i64 x5_1 ∧ v12 = .int .i64 x12_1 ∧ Aside0 (impl_Node_ascend.l0 kq a1 x5_1 l0_0 (l0_0.length : Int) x12_1 = some r) ∧ Aside0 (kq ≤ k) ∧ Aside0 (w'.heap[gb101]? = some (.cells #[(.slice A0_0 l0_0.length c0_0), .func (.func 154) #[] #[]] 110 (0, 0))) ∧ Aside0 (Below w.heap.size w w'))
  case atStart => exact ⟨((-1)), (0), sm_, sm_, H', ⟨Nat.le_refl _⟩, ⟨by refine pe_ ?_; exact BK101.out⟩, ⟨bel_⟩⟩
  case round =>
    clear H'
    try clear p2
    try clear hcz4_0 hcz4_1
    try clear hfz4_0 hfz4_1
    obtain ⟨x5_1, x12_1, rfl, rfl, HA, HK1, BK101, HB⟩ := hrel
    cases gk with
    | zero => exact absurd HA.out (by simp [impl_Node_ascend.l0])
    | succ k1 =>
      have H := HA.out; clear HA; simp only [impl_Node_ascend.l0] at H; by_cases c5 : x12_1 < (l0_0.length : Int); rotate_left; rw [if_neg c5] at H; have c5b0 := df_ c5; clear c5; obtain rfl := Option.some.inj H; rotate_right; rw [if_pos c5] at H; have c5b0 := dt_ c5; clear c5; by_cases c6 : 0 ≤ x12_1; rotate_left
      · rw [if_neg c6] at H; exact absurd H (by simp)
      rotate_right; rw [if_pos c6] at H; have c6b0 := dt_ c6; clear c6; by_cases c7 : x12_1 < (l0_0.length : Int); rotate_left
      · rw [if_neg c7] at H; exact absurd H (by simp)
      rotate_right; rw [if_pos c7] at H; have c7b0 := dt_ c7; clear c7; replace H := ob_ H; obtain ⟨t104, A8, H⟩ := H; by_cases c9 : t104 ≤ x5_1; rotate_left; rw [if_neg c9] at H; have c9b0 := df_ c9; clear c9; by_cases c15 : t104 ≥ a1; rotate_left; rw [if_neg c15] at H; have c15b0 : decide (a1 ≤ t104) = false := decide_eq_false c15; clear c15; have H' := Aside0.mk H; clear H; rotate_right; rw [if_pos c15] at H; have c15b0 : decide (a1 ≤ t104) = true := decide_eq_true c15; clear c15; obtain rfl := Option.some.inj H; rotate_right; rw [if_pos c9] at H; have c9b0 := dt_ c9; clear c9; obtain rfl := Option.some.inj H; rotate_left 3
      · go_wp2
        go_ret; exact re_
      all_goals
        have p102 : 0 ≤ (x12_1 : Int) := od_; have q102 : x12_1 < (l0_0.length : Int) := od_; obtain ⟨ad102, A102_1, c102_1, A102_2, c102_2, e102, hx102_0, hx102_1, hx102_2, hl102_1, hi102_1, hl102_2, hi102_2⟩ := at_T99 HR0_0.out x12_1 p102 q102
        cases e102
        replace hx102_0 := mv_ HB hx102_0; replace hx102_1 := mv_ HB hx102_1; replace hx102_2 := mv_ HB hx102_2; have HR102_1 := Aside0.mk hi102_1; have HC102_1 := Aside0.mk hl102_1; clear hi102_1 hl102_1; have HR102_2 := Aside0.mk hi102_2; have HC102_2 := Aside0.mk hl102_2; clear hi102_2 hl102_2; replace p102 := eq_true p102; replace q102 := eq_true q102
        go_wp2_with (first | ((with_reducible refine gate_dst (N := 7) rfl ?_); refine bx_ 7 #[.int .i64 0, .slice none 0 0, .slice none 0 0] 99 ?_; intro gb103 hg w21 hbox hb; have BK103 := Aside0.mk (hbox); have GW103 := gw_ hg; have GE103 := gw_ hg; have NB101_103 := nlt_ hg BK101; have NB103_101 := ngt_ hg BK101; replace BK101 := bb_ BK101 hb; replace HB := bs_ hb; clear hb hbox hg; have hnb22 := NB103_101.out; have hnc22 := NB101_103.out; obtain ⟨hcz23_0, hcz23_1, hcz23_2, hfz23_0, hfz23_1, hfz23_2⟩ := blk3 BK103; obtain ⟨hcz24_0, hcz24_1, hfz24_0, hfz24_1⟩ := blk2 BK101) | ((with_reducible refine gate_dst (N := 19) rfl ?_); refine goesT_ (some 19) rfl rfl Try.func154 (by kernel_rfl) rfl #[.agg #[.int .i64 ((rd_T99 l0_0 x12_1).f0), .slice A102_1 ((rd_T99 l0_0 x12_1).f1).length c102_1, .slice A102_2 ((rd_T99 l0_0 x12_1).f2).length c102_2]] rfl rfl ar_ ?_; (with_reducible refine (impl_nodesOf_1.calls ((rd_T99 l0_0 x12_1).f0) _ _ ((rd_T99 l0_0 x12_1).f1) _ _ ((rd_T99 l0_0 x12_1).f2) t104 _ ?side1 ?side2 ?side3 ?side4 A8.out).mono ?_); (case side1 => exact Kd.C_below HR102_1.out (bel_)); (case side2 => exact HC102_1.out); (case side3 => exact Kd.C_below HR102_2.out (bel_)); (case side4 => exact HC102_2.out); rintro e w25 ⟨rfl, hb⟩; refine ⟨_, rfl, ?_⟩; replace BK101 := Aside0.mk (blk_below (g := gb101) (o := .cells #[.slice (some ad102) l0_0.length c0_0, .func (.func 154) #[] #[]] 110 (0, 0)) (by refine pe_ ?_; refine blk_far ?_ NB101_103.out _; refine pe_ ?_; refine blk_far ?_ NB101_103.out _; refine pe_ ?_; refine blk_far ?_ NB101_103.out _; refine pe_ ?_; exact BK101.out) hb); replace BK103 := Aside0.mk (blk_below (g := gb103) (o := .cells #[.int .i64 ((rd_T99 l0_0 x12_1).f0), .slice A102_1 ((rd_T99 l0_0 x12_1).f1).length c102_1, .slice A102_2 ((rd_T99 l0_0 x12_1).f2).length c102_2] 99 (0, 0)) (by refine pe_ ?_; refine blk_put (cs := #[.int .i64 ((rd_T99 l0_0 x12_1).f0), .slice A102_1 ((rd_T99 l0_0 x12_1).f1).length c102_1, .slice none 0 0]) ?_ 2 _ rfl; refine pe_ ?_; refine blk_put (cs := #[.int .i64 ((rd_T99 l0_0 x12_1).f0), .slice none 0 0, .slice none 0 0]) ?_ 1 _ rfl; refine pe_ ?_; refine blk_put (cs := #[.int .i64 0, .slice none 0 0, .slice none 0 0]) ?_ 0 _ rfl; refine pe_ ?_; exact BK103.out) hb); replace HB := bs_ hb; (try clear hb); (try clear hb2); (try clear hk); (try clear hi)))
      rotate_left
      · go_ret; exact re_
      rotate_right
      · go_ret; exact re_
      go_roundg k1
      case measure => have := HK1.out; omega
      case rel => exact ⟨(t104), (wrap64 (x12_1 + 1)), sm_, sm_, H', ⟨by have := HK1.out; omega⟩, ⟨by refine pe_ ?_; exact BK101.out⟩, ⟨bel_⟩⟩
def impl_edgesIn_1.f (a0_0 : Int) (a0_1 : ByteArray) (a0_2 : Int) (a0_3 : Int) (l0_4 : List (S140)) : Option (Int) := some a0_0
set_option maxHeartbeats 8000000 in
set_option maxRecDepth 100000 in
theorem impl_edgesIn_1.calls (a0_0 : Int) (a0_1 : ByteArray) (a0_2 : Int) (a0_3 : Int) (A0_4 : Option Addr) (c0_4 : Nat) (l0_4 : List (S140)) (r : Int) (w : World) (hr0_4 : Kd.C k140 w A0_4 l0_4.length l0_4) (hc0_4 : l0_4.length ≤ c0_4) (h : impl_edgesIn_1.f a0_0 a0_1 a0_2 a0_3 l0_4 = some r) :
    Calls Try.prog 155 #[.agg #[.int .i64 a0_0, .string a0_1, .int .i64 a0_2, .int .i64 a0_3, .slice A0_4 l0_4.length c0_4]] w fun e w' => e = .returned (.int .i64 r) ∧ Below w.heap.size w w' := by
  have hu104 := Try.underlying104; have HR0_4 := Aside0.mk hr0_4; have HC0_4 := Aside0.mk hc0_4; clear hr0_4 hc0_4; have HB := Aside0.mk (Below.refl w.heap.size w); have H : (some a0_0) = some r := h; clear h; obtain rfl := Option.some.inj H
  go_enter Try.func155, Try.ntmps155
  go_wp2_with (first | ((with_reducible refine gate_dst (N := 1) rfl ?_); refine bx_ 1 #[.int .i64 a0_0, .string a0_1, .int .i64 a0_2, .int .i64 a0_3, .slice A0_4 l0_4.length c0_4] 104 ?_; intro gb101 hg w2 hbox hb; have BK101 := Aside0.mk (hbox); have GW101 := gw_ hg; have GE101 := gw_ hg; replace HB := bs_ hb; clear hb hbox hg; obtain ⟨hcz3_0, hcz3_1, hcz3_2, hcz3_3, hcz3_4, hfz3_0, hfz3_1, hfz3_2, hfz3_3, hfz3_4⟩ := blk5 BK101))
  go_ret; exact re_
def impl_edgesIn.f (l0_0 : List (S99)) (l0_1 : List (S104)) (a0_2 : Int) (a0_3 : Int) : Option ((List (S104)) × Bool) := some (l0_1, true)
set_option maxHeartbeats 8000000 in
set_option maxRecDepth 100000 in
theorem impl_edgesIn.calls (A0_0 : Option Addr) (c0_0 : Nat) (l0_0 : List (S99)) (P0_1_ : Nat → Prop) (A0_1 : Option Addr) (c0_1 : Nat) (l0_1 : List (S104)) (a0_2 : Int) (a0_3 : Int) (r1 : List (S104)) (r2 : Bool) (w : World) (hr0_0 : Kd.C k99 w A0_0 l0_0.length l0_0) (hc0_0 : l0_0.length ≤ c0_0) (hs0_1 : Kd.V k104 104 w w.heap.size (fun k_ => P0_1_ k_) (.slice A0_1 l0_1.length c0_1) l0_1) (h : impl_edgesIn.f l0_0 l0_1 a0_2 a0_3 = some (r1, r2)) :
    Calls Try.prog 78 #[.agg #[.slice A0_0 l0_0.length c0_0, .slice A0_1 l0_1.length c0_1, .int .i64 a0_2, .int .i64 a0_3]] w fun e w' => ∃ v0_ : Value, e = .returned (.agg #[v0_, .func (.func 155) #[] #[]]) ∧ Kd.V k104 104 w' w.heap.size (fun k_ => (P0_1_ k_ ∨ w.heap.size ≤ k_)) v0_ r1 ∧ Below w.heap.size w w' := by
  have hu31 := Try.underlying31; have hu115 := Try.underlying115; have HR0_0 := Aside0.mk hr0_0; have HC0_0 := Aside0.mk hc0_0; clear hr0_0 hc0_0; have HO0_1 := Aside0.mk (show Kd.V k104 104 w w.heap.size (fun k_ => (P0_1_ k_ ∨ w.heap.size ≤ k_)) (.slice A0_1 l0_1.length c0_1) l0_1 from Kd.V_mono hs0_1 (fun k_ hk => .inl hk)); have HB := Aside0.mk (Below.refl w.heap.size w); have H : (some (l0_1, true)) = some (r1, r2) := h; clear h; simp only [Option.some.injEq, Prod.mk.injEq] at H; obtain ⟨rfl, rfl⟩ := H
  go_enter Try.func78, Try.ntmps78
  go_wp2_with (first | ((with_reducible refine gate_dst (N := 1) rfl ?_); refine bx_ 1 #[.slice A0_0 l0_0.length c0_0, .slice A0_1 l0_1.length c0_1, .int .i64 a0_2, .int .i64 a0_3] 31 ?_; intro gb101 hg w2 hbox hb; have BK101 := Aside0.mk (hbox); have GW101 := gw_ hg; have GE101 := gw_ hg; replace HO0_1 := Aside0.mk (Kd.V_below (Kd.V_elderB (by (with_reducible repeat (first | apply Kd.V_alloc | apply Kd.V_drewN | apply Kd.V_drew)); first | exact HO0_1.out | exact Kd.V_mono (HO0_1.out) (fun _ h_ => by simpa only [and_assoc, and_comm, and_left_comm] using h_)) gb101 (Nat.le_of_eq hg.symm)) hb); replace HB := bs_ hb; clear hb hbox hg) | ((with_reducible refine gate_dst (N := 2) rfl ?_); refine bx_ 2 #[.slice none 0 0, .nilFunc] 115 ?_; intro gb102 hg w3 hbox hb; have BK102 := Aside0.mk (hbox); have GW102 := gw_ hg; have GE102 := gw_ hg; have NB101_102 := nlt_ hg BK101; have NB102_101 := ngt_ hg BK101; replace HO0_1 := Aside0.mk (Kd.V_below (Kd.V_elderB (by (with_reducible repeat (first | apply Kd.V_alloc | apply Kd.V_drewN | apply Kd.V_drew)); first | exact HO0_1.out | exact Kd.V_mono (HO0_1.out) (fun _ h_ => by simpa only [and_assoc, and_comm, and_left_comm] using h_)) gb102 (Nat.le_of_eq hg.symm)) hb); replace BK101 := bb_ BK101 hb; replace HB := bs_ hb; clear hb hbox hg; have hnb4 := NB101_102.out; have hnc4 := NB102_101.out; obtain ⟨hcz5_0, hcz5_1, hcz5_2, hcz5_3, hfz5_0, hfz5_1, hfz5_2, hfz5_3⟩ := blk4 BK101; obtain ⟨hcz6_0, hcz6_1, hfz6_0, hfz6_1⟩ := blk2 BK102))
  refine bodyPost_ret (results_cell_row rfl _ _ gb102 115 #[.slice A0_1 l0_1.length c0_1, .func (.func 155) #[] #[]] (0, 0) _ rfl (by refine pe_ ?_; refine blk_put (cs := #[.slice A0_1 l0_1.length c0_1, .nilFunc]) ?_ 1 _ rfl; refine pe_ ?_; refine blk_put (cs := #[.slice none 0 0, .nilFunc]) ?_ 0 _ rfl; refine pe_ ?_; exact BK102.out) Try.underlying115 rfl (by kernel_rfl)) rfl ?_; exact ⟨_, by first | rfl | (simp [errW_none, errW_some] <;> rfl) | (simp [*, errW_none, errW_some] <;> rfl), by (with_reducible repeat (first | apply Kd.V_alloc | apply Kd.V_drewN | apply Kd.V_drew)); first | exact Kd.V_mono (Kd.V_far (p := ⟨gb102, 1, none⟩) (Kd.V_far (p := ⟨gb102, 0, none⟩) (Kd.V_mono HO0_1.out (fun k_ hk => (⟨hk, hk.2⟩ : _ ∧ k_ ≠ gb102))) (fun _ hk => hk.2) (.slice A0_1 l0_1.length c0_1)) (fun _ hk => hk.2) (.func (.func 155) #[] #[])) (fun _ hk => hk.1.1.1) | exact Kd.V_mono (Kd.V_mono (Kd.V_far (p := ⟨gb102, 1, none⟩) (Kd.V_far (p := ⟨gb102, 0, none⟩) (Kd.V_mono HO0_1.out (fun k_ hk => (⟨hk, hk.2⟩ : _ ∧ k_ ≠ gb102))) (fun _ hk => hk.2) (.slice A0_1 l0_1.length c0_1)) (fun _ hk => hk.2) (.func (.func 155) #[] #[])) (fun _ hk => hk.1.1.1)) (fun _ h_ => by simpa only [and_assoc, and_comm, and_left_comm] using h_), bel_⟩
def impl_Edge_ascend.l0 : Nat → Int → Int → List (S104) → Int → Int → Option (Bool)
  | 0, _, _, _, _, _ => none
  | k + 1, x1, x5, x10, x11, x12 => if x12 < x11 then (if 0 ≤ x12 then (if x12 < (x10.length : Int) then ((impl_edgesIn_1.f ((rd_T104 x10 x12).f0) ((rd_T104 x10 x12).f1) ((rd_T104 x10 x12).f2) ((rd_T104 x10 x12).f3) ((rd_T104 x10 x12).f4)).bind fun t104 => (if t104 ≤ x5 then (some false) else (if t104 ≥ x1 then (some false) else (impl_Edge_ascend.l0 k x1 t104 x10 x11 (wrap64 (x12 + 1)))))) else (none)) else (none)) else (some true)
def impl_Edge_ascend.f (k : Nat) (l0_0 : List (S104)) (a0_1 : Bool) (a1 : Int) : Option (Bool) := impl_Edge_ascend.l0 k a1 (-1) l0_0 (l0_0.length : Int) 0
set_option maxHeartbeats 8000000 in
set_option maxRecDepth 100000 in
theorem impl_Edge_ascend.calls (k : Nat) (A0_0 : Option Addr) (c0_0 : Nat) (l0_0 : List (S104)) (a0_1 : Bool) (a1 : Int) (r : Bool) (w : World) (hr0_0 : Kd.C k104 w A0_0 l0_0.length l0_0) (hc0_0 : l0_0.length ≤ c0_0) (h : impl_Edge_ascend.f k l0_0 a0_1 a1 = some r) :
    Calls Try.prog 79 #[.agg #[.slice A0_0 l0_0.length c0_0, .func (.func 155) #[] #[]], .int .i64 a1] w fun e w' => e = .returned (.bool r) ∧ Below w.heap.size w w' := by
  have hu115 := Try.underlying115; have hu104 := Try.underlying104; have HR0_0 := Aside0.mk hr0_0; have HC0_0 := Aside0.mk hc0_0; clear hr0_0 hc0_0; have HB := Aside0.mk (Below.refl w.heap.size w); have H : (impl_Edge_ascend.l0 k a1 (-1) l0_0 (l0_0.length : Int) 0) = some r := h; clear h; have H' := Aside0.mk H; clear H
  go_enter Try.func79, Try.ntmps79
  go_wp2_with (first | ((with_reducible refine gate_dst (N := 2) rfl ?_); refine bx_ 2 #[.slice A0_0 l0_0.length c0_0, .func (.func 155) #[] #[]] 115 ?_; intro gb101 hg w3 hbox hb; have BK101 := Aside0.mk (hbox); have GW101 := gw_ hg; have GE101 := gw_ hg; replace HB := bs_ hb; clear hb hbox hg; obtain ⟨hcz4_0, hcz4_1, hfz4_0, hfz4_1⟩ := blk2 BK101))
  go_loopg [5, 12] k (fun kq v5 v12 w' => ∃ (x5_1 : Int) (x12_1 : Int), v5 = .int .i64 x5_1 ∧ v12 = .int .i64 x12_1 ∧ Aside0 (impl_Edge_ascend.l0 kq a1 x5_1 l0_0 (l0_0.length : Int) x12_1 = some r) ∧ Aside0 (kq ≤ k) ∧ Aside0 (w'.heap[gb101]? = some (.cells #[(.slice A0_0 l0_0.length c0_0), .func (.func 155) #[] #[]] 115 (0, 0))) ∧ Aside0 (Below w.heap.size w w'))
  case atStart => exact ⟨((-1)), (0), sm_, sm_, H', ⟨Nat.le_refl _⟩, ⟨by refine pe_ ?_; exact BK101.out⟩, ⟨bel_⟩⟩
  case round =>
    clear H'
    try clear p2
    try clear hcz4_0 hcz4_1
    try clear hfz4_0 hfz4_1
    obtain ⟨x5_1, x12_1, rfl, rfl, HA, HK1, BK101, HB⟩ := hrel
    cases gk with
    | zero => exact absurd HA.out (by simp [impl_Edge_ascend.l0])
    | succ k1 =>
      have H := HA.out; clear HA; simp only [impl_Edge_ascend.l0] at H; by_cases c5 : x12_1 < (l0_0.length : Int); rotate_left; rw [if_neg c5] at H; have c5b0 := df_ c5; clear c5; obtain rfl := Option.some.inj H; rotate_right; rw [if_pos c5] at H; have c5b0 := dt_ c5; clear c5; by_cases c6 : 0 ≤ x12_1; rotate_left
      · rw [if_neg c6] at H; exact absurd H (by simp)
      rotate_right; rw [if_pos c6] at H; have c6b0 := dt_ c6; clear c6; by_cases c7 : x12_1 < (l0_0.length : Int); rotate_left
      · rw [if_neg c7] at H; exact absurd H (by simp)
      rotate_right; rw [if_pos c7] at H; have c7b0 := dt_ c7; clear c7; replace H := ob_ H; obtain ⟨t104, A8, H⟩ := H; by_cases c9 : t104 ≤ x5_1; rotate_left; rw [if_neg c9] at H; have c9b0 := df_ c9; clear c9; by_cases c15 : t104 ≥ a1; rotate_left; rw [if_neg c15] at H; have c15b0 : decide (a1 ≤ t104) = false := decide_eq_false c15; clear c15; have H' := Aside0.mk H; clear H; rotate_right; rw [if_pos c15] at H; have c15b0 : decide (a1 ≤ t104) = true := decide_eq_true c15; clear c15; obtain rfl := Option.some.inj H; rotate_right; rw [if_pos c9] at H; have c9b0 := dt_ c9; clear c9; obtain rfl := Option.some.inj H; rotate_left 3
      · go_wp2
        go_ret; exact re_
      all_goals
        have p102 : 0 ≤ (x12_1 : Int) := od_; have q102 : x12_1 < (l0_0.length : Int) := od_; obtain ⟨ad102, A102_4, c102_4, e102, hx102_0, hx102_1, hx102_2, hx102_3, hx102_4, hl102_4, hi102_4⟩ := at_T104 HR0_0.out x12_1 p102 q102
        cases e102
        replace hx102_0 := mv_ HB hx102_0; replace hx102_1 := mv_ HB hx102_1; replace hx102_2 := mv_ HB hx102_2; replace hx102_3 := mv_ HB hx102_3; replace hx102_4 := mv_ HB hx102_4; have HR102_4 := Aside0.mk hi102_4; have HC102_4 := Aside0.mk hl102_4; clear hi102_4 hl102_4; replace p102 := eq_true p102; replace q102 := eq_true q102
        go_wp2_with (first | ((with_reducible refine gate_dst (N := 7) rfl ?_); refine bx_ 7 #[.int .i64 0, .string (⟨#[]⟩ : ByteArray), .int .i64 0, .int .i64 0, .slice none 0 0] 104 ?_; intro gb103 hg w21 hbox hb; have BK103 := Aside0.mk (hbox); have GW103 := gw_ hg; have GE103 := gw_ hg; have NB101_103 := nlt_ hg BK101; have NB103_101 := ngt_ hg BK101; replace BK101 := bb_ BK101 hb; replace HB := bs_ hb; clear hb hbox hg; have hnb22 := NB103_101.out; have hnc22 := NB101_103.out; obtain ⟨hcz23_0, hcz23_1, hcz23_2, hcz23_3, hcz23_4, hfz23_0, hfz23_1, hfz23_2, hfz23_3, hfz23_4⟩ := blk5 BK103; obtain ⟨hcz24_0, hcz24_1, hfz24_0, hfz24_1⟩ := blk2 BK101) | ((with_reducible refine gate_dst (N := 19) rfl ?_); refine goesT_ (some 19) rfl rfl Try.func155 (by kernel_rfl) rfl #[.agg #[.int .i64 ((rd_T104 l0_0 x12_1).f0), .string ((rd_T104 l0_0 x12_1).f1), .int .i64 ((rd_T104 l0_0 x12_1).f2), .int .i64 ((rd_T104 l0_0 x12_1).f3), .slice A102_4 ((rd_T104 l0_0 x12_1).f4).length c102_4]] rfl rfl ar_ ?_; (with_reducible refine (impl_edgesIn_1.calls ((rd_T104 l0_0 x12_1).f0) ((rd_T104 l0_0 x12_1).f1) ((rd_T104 l0_0 x12_1).f2) ((rd_T104 l0_0 x12_1).f3) _ _ ((rd_T104 l0_0 x12_1).f4) t104 _ ?side1 ?side2 A8.out).mono ?_); (case side1 => exact Kd.C_below HR102_4.out (bel_)); (case side2 => exact HC102_4.out); rintro e w25 ⟨rfl, hb⟩; refine ⟨_, rfl, ?_⟩; replace BK101 := Aside0.mk (blk_below (g := gb101) (o := .cells #[.slice (some ad102) l0_0.length c0_0, .func (.func 155) #[] #[]] 115 (0, 0)) (by refine pe_ ?_; refine blk_far ?_ NB101_103.out _; refine pe_ ?_; refine blk_far ?_ NB101_103.out _; refine pe_ ?_; refine blk_far ?_ NB101_103.out _; refine pe_ ?_; refine blk_far ?_ NB101_103.out _; refine pe_ ?_; refine blk_far ?_ NB101_103.out _; refine pe_ ?_; exact BK101.out) hb); replace BK103 := Aside0.mk (blk_below (g := gb103) (o := .cells #[.int .i64 ((rd_T104 l0_0 x12_1).f0), .string ((rd_T104 l0_0 x12_1).f1), .int .i64 ((rd_T104 l0_0 x12_1).f2), .int .i64 ((rd_T104 l0_0 x12_1).f3), .slice A102_4 ((rd_T104 l0_0 x12_1).f4).length c102_4] 104 (0, 0)) (by refine pe_ ?_; refine blk_put (cs := #[.int .i64 ((rd_T104 l0_0 x12_1).f0), .string ((rd_T104 l0_0 x12_1).f1), .int .i64 ((rd_T104 l0_0 x12_1).f2), .int .i64 ((rd_T104 l0_0 x12_1).f3), .slice none 0 0]) ?_ 4 _ rfl; refine pe_ ?_; refine blk_put (cs := #[.int .i64 ((rd_T104 l0_0 x12_1).f0), .string ((rd_T104 l0_0 x12_1).f1), .int .i64 ((rd_T104 l0_0 x12_1).f2), .int .i64 0, .slice none 0 0]) ?_ 3 _ rfl; refine pe_ ?_; refine blk_put (cs := #[.int .i64 ((rd_T104 l0_0 x12_1).f0), .string ((rd_T104 l0_0 x12_1).f1), .int .i64 0, .int .i64 0, .slice none 0 0]) ?_ 2 _ rfl; refine pe_ ?_; refine blk_put (cs := #[.int .i64 ((rd_T104 l0_0 x12_1).f0), .string (⟨#[]⟩ : ByteArray), .int .i64 0, .int .i64 0, .slice none 0 0]) ?_ 1 _ rfl; refine pe_ ?_; refine blk_put (cs := #[.int .i64 0, .string (⟨#[]⟩ : ByteArray), .int .i64 0, .int .i64 0, .slice none 0 0]) ?_ 0 _ rfl; refine pe_ ?_; exact BK103.out) hb); replace HB := bs_ hb; (try clear hb); (try clear hb2); (try clear hk); (try clear hi)))
      rotate_left
      · go_ret; exact re_
      rotate_right
      · go_ret; exact re_
      go_roundg k1
      case measure => have := HK1.out; omega
      case rel => exact ⟨(t104), (wrap64 (x12_1 + 1)), sm_, sm_, H', ⟨by have := HK1.out; omega⟩, ⟨by refine pe_ ?_; exact BK101.out⟩, ⟨bel_⟩⟩
def impl_isLetter.f (a0 : Int) : Option (Bool) := if a0 ≥ 97 then (if a0 ≤ 122 then (some true) else (if a0 ≥ 65 then (some (decide (a0 ≤ 90))) else (some false))) else (if a0 ≥ 65 then (some (decide (a0 ≤ 90))) else (some false))
set_option maxHeartbeats 8000000 in
set_option maxRecDepth 100000 in
theorem impl_isLetter.calls (a0 : Int) (r : Bool) (w : World) (h : impl_isLetter.f a0 = some r) :
    Calls Try.prog 156 #[.int .u8 a0] w fun e w' => e = .returned (.bool r) ∧ Drawn0 w w' := by
  have H : (if a0 ≥ 97 then (if a0 ≤ 122 then (some true) else (if a0 ≥ 65 then (some (decide (a0 ≤ 90))) else (some false))) else (if a0 ≥ 65 then (some (decide (a0 ≤ 90))) else (some false))) = some r := h; clear h; by_cases c2 : a0 ≥ 97; rotate_left; rw [if_neg c2] at H; have c2b0 : decide (97 ≤ a0) = false := decide_eq_false c2; clear c2; by_cases c5 : a0 ≥ 65; rotate_left; rw [if_neg c5] at H; have c5b0 : decide (65 ≤ a0) = false := decide_eq_false c5; clear c5; obtain rfl := Option.some.inj H; rotate_right; rw [if_pos c5] at H; have c5b0 : decide (65 ≤ a0) = true := decide_eq_true c5; clear c5; obtain rfl := Option.some.inj H; rotate_right; rw [if_pos c2] at H; have c2b0 : decide (97 ≤ a0) = true := decide_eq_true c2; clear c2; by_cases c3 : a0 ≤ 122; rotate_left; rw [if_neg c3] at H; have c3b0 := df_ c3; clear c3; by_cases c4 : a0 ≥ 65; rotate_left; rw [if_neg c4] at H; have c4b0 : decide (65 ≤ a0) = false := decide_eq_false c4; clear c4; obtain rfl := Option.some.inj H; rotate_right; rw [if_pos c4] at H; have c4b0 : decide (65 ≤ a0) = true := decide_eq_true c4; clear c4; obtain rfl := Option.some.inj H; rotate_right; rw [if_pos c3] at H; have c3b0 := dt_ c3; clear c3; obtain rfl := Option.some.inj H
  all_goals
    go_enter Try.func156, Try.ntmps156
    go_wp2
    go_ret; exact rd_
def impl_isFigure.f (a0 : Int) : Option (Bool) := if a0 ≥ 48 then (some (decide (a0 ≤ 57))) else (some false)
set_option maxHeartbeats 8000000 in
set_option maxRecDepth 100000 in
theorem impl_isFigure.calls (a0 : Int) (r : Bool) (w : World) (h : impl_isFigure.f a0 = some r) :
    Calls Try.prog 157 #[.int .u8 a0] w fun e w' => e = .returned (.bool r) ∧ Drawn0 w w' := by
  have H : (if a0 ≥ 48 then (some (decide (a0 ≤ 57))) else (some false)) = some r := h; clear h; by_cases c2 : a0 ≥ 48; rotate_left; rw [if_neg c2] at H; have c2b0 : decide (48 ≤ a0) = false := decide_eq_false c2; clear c2; obtain rfl := Option.some.inj H; rotate_right; rw [if_pos c2] at H; have c2b0 : decide (48 ≤ a0) = true := decide_eq_true c2; clear c2; obtain rfl := Option.some.inj H
  all_goals
    go_enter Try.func157, Try.ntmps157
    go_wp2
    go_ret; exact rd_
mutual
def impl_NameOk.j0 : Nat → ByteArray → Bool → Option (Bool)
  | 0, _, _ => none
  | k + 1, x0, x16 => if x16 = true then (some false) else (impl_NameOk.l0 k x0 1)
def impl_NameOk.l0 : Nat → ByteArray → Int → Option (Bool)
  | 0, _, _ => none
  | k + 1, x0, x3 => if x3 < (x0.size : Int) then (if 0 ≤ x3 then ((impl_isLetter.f (bt x0 x3)).bind fun t102 => (if t102 = true then (impl_NameOk.l0 k x0 (wrap64 (x3 + 1))) else ((impl_isFigure.f (bt x0 x3)).bind fun t103 => (if t103 = true then (impl_NameOk.l0 k x0 (wrap64 (x3 + 1))) else (some false))))) else (none)) else (if x0.toList = ([77, 65, 84, 67, 72] : List UInt8) then (some false) else (if x0.toList = ([79, 80, 84, 73, 79, 78, 65, 76] : List UInt8) then (some false) else (if x0.toList = ([87, 72, 69, 82, 69] : List UInt8) then (some false) else (if x0.toList = ([85, 78, 87, 73, 78, 68] : List UInt8) then (some false) else (if x0.toList = ([87, 73, 84, 72] : List UInt8) then (some false) else (if x0.toList = ([82, 69, 84, 85, 82, 78] : List UInt8) then (some false) else (if x0.toList = ([67, 82, 69, 65, 84, 69] : List UInt8) then (some false) else (if x0.toList = ([83, 69, 84] : List UInt8) then (some false) else (if x0.toList = ([68, 69, 76, 69, 84, 69] : List UInt8) then (some false) else (if x0.toList = ([68, 69, 84, 65, 67, 72] : List UInt8) then (some false) else (if x0.toList = ([65, 83] : List UInt8) then (some false) else (if x0.toList = ([65, 78, 68] : List UInt8) then (some false) else (if x0.toList = ([79, 82] : List UInt8) then (some false) else (if x0.toList = ([78, 79, 84] : List UInt8) then (some false) else (if x0.toList = ([73, 83] : List UInt8) then (some false) else (if x0.toList = ([78, 85, 76, 76] : List UInt8) then (some false) else (if x0.toList = ([73, 78] : List UInt8) then (some false) else (if x0.toList = ([68, 73, 83, 84, 73, 78, 67, 84] : List UInt8) then (some false) else (if x0.toList = ([79, 82, 68, 69, 82] : List UInt8) then (some false) else (if x0.toList = ([66, 89] : List UInt8) then (some false) else (if x0.toList = ([68, 69, 83, 67] : List UInt8) then (some false) else (if x0.toList = ([83, 75, 73, 80] : List UInt8) then (some false) else (if x0.toList = ([76, 73, 77, 73, 84] : List UInt8) then (some false) else (if x0.toList = ([110, 117, 108, 108] : List UInt8) then (some false) else (if x0.toList = ([116, 114, 117, 101] : List UInt8) then (some false) else (if x0.toList = ([102, 97, 108, 115, 101] : List UInt8) then (some false) else (if x0.toList = ([99, 111, 117, 110, 116] : List UInt8) then (some false) else (if x0.toList = ([115, 117, 109] : List UInt8) then (some false) else (if x0.toList = ([115, 105, 122, 101] : List UInt8) then (some false) else (some true))))))))))))))))))))))))))))))
end
def impl_NameOk.f (k : Nat) (a0 : ByteArray) : Option (Bool) := if a0.toList = ([] : List UInt8) then (impl_NameOk.j0 k a0 true) else (if (a0.size : Int) > 8 then (impl_NameOk.j0 k a0 true) else (if 0 < (a0.size : Int) then ((impl_isLetter.f (bt a0 0)).bind fun t101 => (impl_NameOk.j0 k a0 (!t101))) else (none)))
set_option maxHeartbeats 8000000 in
set_option maxRecDepth 100000 in
theorem impl_NameOk.calls (k : Nat) (a0 : ByteArray) (r : Bool) (w : World) (h : impl_NameOk.f k a0 = some r) :
    Calls Try.prog 82 #[.string a0] w fun e w' => e = .returned (.bool r) ∧ Drawn0 w w' := by
  have H : (if a0.toList = ([] : List UInt8) then (impl_NameOk.j0 k a0 true) else (if (a0.size : Int) > 8 then (impl_NameOk.j0 k a0 true) else (if 0 < (a0.size : Int) then ((impl_isLetter.f (bt a0 0)).bind fun t101 => (impl_NameOk.j0 k a0 (!t101))) else (none)))) = some r := h; clear h; have HC2 := Aside0.mk H; clear H
  go_enter Try.func82, Try.ntmps82
  go_upto_region 1 with (fail)
  go_cut [16] (fun v16 wc => ∃ (kq : Nat) (x16_1 : Bool), v16 = .bool x16_1 ∧ Aside0 (impl_NameOk.j0 kq a0 x16_1 = some r) ∧ Aside0 (kq ≤ k) ∧ Drawn0 w wc)
  case first =>
    have H := HC2.out; clear HC2; by_cases c3 : a0.toList = ([] : List UInt8); rotate_left; rw [if_neg c3] at H; have c3b0 := bf_ c3; have c3b1 := nt_ c3; rotate_right; rw [if_pos c3] at H; have c3b0 := bt__ c3; have c3b1 := nf__ c3; clear c3
    all_goals
      (first | rw [c3b0] | (simp only [i64_w, i32_w]; rw [c3b0]) | skip)
    rotate_left
    · by_cases c4 : (a0.size : Int) > 8
      · rw [if_pos c4] at H; have c4b0 : decide (8 < (a0.size : Int)) = true := decide_eq_true c4; have c4b1 : decide (8 < a0.size) = true := decide_eq_true (by omega); clear c4; have H' := Aside0.mk H; clear H
        go_wp2
        go_meet
        case rel => exact ⟨_, (true), sm_, H', ⟨by first | omega | exact Nat.le_refl _⟩, by repeat (first | exact Drawn0.refl _ | apply Drawn0.step)⟩
      rw [if_neg c4] at H; have c4b0 : decide (8 < (a0.size : Int)) = false := decide_eq_false c4; have c4b1 : decide (8 < a0.size) = false := decide_eq_false (by omega); clear c4; by_cases c5 : 0 < (a0.size : Int); rotate_left
      · rw [if_neg c5] at H; exact absurd H (by simp)
      rw [if_pos c5] at H; have c5b0 := dt_ c5; have c5b1 : decide (0 < a0.size) = true := decide_eq_true (by omega); clear c5; replace H := ob_ H; obtain ⟨t101, A7, H⟩ := H; have H' := Aside0.mk H; clear H; have p6 : 0 ≤ (0 : Int) := (by omega); have q6 : 0 < a0.size := (by have : (0 : Int) < (a0.size : Int) := od_; omega); have hx6 : ∀ h : 0 < a0.size, ((a0[0]'h).toNat : Int) = bt a0 0 := bt_at a0 0; clear p6; have qi6 : (0 < (a0.size : Int)) = True := eq_true (od_); replace q6 := eq_true q6
      go_wp2_with (first | (go_at_call 156; (with_reducible refine (impl_isLetter.calls (bt a0 0) t101 _ A7.out).mono ?_); rintro e w' ⟨rfl, ⟨nd, rfl⟩⟩))
      go_meet
      case rel => exact ⟨_, (!t101), sm_, H', ⟨by first | omega | exact Nat.le_refl _⟩, by repeat (first | exact Drawn0.refl _ | apply Drawn0.step)⟩
    have H' := Aside0.mk H; clear H
    go_wp2
    go_meet
    case rel => exact ⟨_, (true), sm_, H', ⟨by first | omega | exact Nat.le_refl _⟩, by repeat (first | exact Drawn0.refl _ | apply Drawn0.step)⟩
  case rest =>
    clear HC2
    try clear p2
    try clear c3
    try clear c3b0
    try clear c3b1
    try clear c4
    try clear c4b0
    try clear c4b1
    try clear c5
    try clear c5b0
    try clear c5b1
    try clear p6
    try clear q6
    try clear hx6
    try clear qi6
    try clear p6
    try clear q6
    obtain ⟨kq, x16_1, rfl, HA, HJ1, ⟨mc1, rfl⟩⟩ := hcut
    cases kq with
    | zero => exact absurd HA.out (by simp [impl_NameOk.j0])
    | succ kj1 =>
      have H := HA.out; clear HA; simp only [impl_NameOk.j0] at H; by_cases c8 : x16_1 = true; rotate_left; replace c8 := Bool.eq_false_iff.mpr c8; subst c8; rw [fe_] at H; have H' := Aside0.mk H; clear H; rotate_right; subst c8; rw [if_pos rfl] at H; obtain rfl := Option.some.inj H
      all_goals
        go_wp2
      · go_ret; exact rd_
      go_loopg [3] kj1 (fun kq v3 w' => ∃ (x3_2 : Int), v3 = .int .i64 x3_2 ∧ Aside0 (impl_NameOk.l0 kq a0 x3_2 = some r) ∧ Aside0 (kq ≤ kj1) ∧ Drawn0 w w')
      case atStart => exact ⟨(1), sm_, H', ⟨Nat.le_refl _⟩, by repeat (first | exact Drawn0.refl _ | apply Drawn0.step)⟩
      case round =>
        clear H'
        try clear c1
        try clear p2
        try clear c3
        try clear c3b0
        try clear c3b1
        try clear c4
        try clear c4b0
        try clear c4b1
        try clear c5
        try clear c5b0
        try clear c5b1
        try clear p6
        try clear q6
        try clear hx6
        try clear qi6
        try clear c8
        try clear p2
        try clear p6
        try clear q6
        obtain ⟨x3_2, rfl, HA, HK2, ⟨m2, rfl⟩⟩ := hrel
        cases gk with
        | zero => exact absurd HA.out (by simp [impl_NameOk.l0])
        | succ k2 =>
          have H := HA.out; clear HA; simp only [impl_NameOk.l0] at H; by_cases c9 : x3_2 < (a0.size : Int); rotate_left
          · rw [if_neg c9] at H; have c9b0 := df_ c9; clear c9; by_cases c17 : a0.toList = ([77, 65, 84, 67, 72] : List UInt8); rotate_left; rw [if_neg c17] at H; have c17b0 := bf_ c17; have c17b1 := nt_ c17; by_cases c18 : a0.toList = ([79, 80, 84, 73, 79, 78, 65, 76] : List UInt8); rotate_left; rw [if_neg c18] at H; have c18b0 := bf_ c18; have c18b1 := nt_ c18; by_cases c19 : a0.toList = ([87, 72, 69, 82, 69] : List UInt8); rotate_left; rw [if_neg c19] at H; have c19b0 := bf_ c19; have c19b1 := nt_ c19; by_cases c20 : a0.toList = ([85, 78, 87, 73, 78, 68] : List UInt8); rotate_left; rw [if_neg c20] at H; have c20b0 := bf_ c20; have c20b1 := nt_ c20; by_cases c21 : a0.toList = ([87, 73, 84, 72] : List UInt8); rotate_left; rw [if_neg c21] at H; have c21b0 := bf_ c21; have c21b1 := nt_ c21; by_cases c22 : a0.toList = ([82, 69, 84, 85, 82, 78] : List UInt8); rotate_left; rw [if_neg c22] at H; have c22b0 := bf_ c22; have c22b1 := nt_ c22; by_cases c23 : a0.toList = ([67, 82, 69, 65, 84, 69] : List UInt8); rotate_left; rw [if_neg c23] at H; have c23b0 := bf_ c23; have c23b1 := nt_ c23; by_cases c24 : a0.toList = ([83, 69, 84] : List UInt8); rotate_left; rw [if_neg c24] at H; have c24b0 := bf_ c24; have c24b1 := nt_ c24; by_cases c25 : a0.toList = ([68, 69, 76, 69, 84, 69] : List UInt8); rotate_left; rw [if_neg c25] at H; have c25b0 := bf_ c25; have c25b1 := nt_ c25; by_cases c26 : a0.toList = ([68, 69, 84, 65, 67, 72] : List UInt8); rotate_left; rw [if_neg c26] at H
            have c26b0 := bf_ c26; have c26b1 := nt_ c26; by_cases c27 : a0.toList = ([65, 83] : List UInt8); rotate_left; rw [if_neg c27] at H; have c27b0 := bf_ c27; have c27b1 := nt_ c27; by_cases c28 : a0.toList = ([65, 78, 68] : List UInt8); rotate_left; rw [if_neg c28] at H; have c28b0 := bf_ c28; have c28b1 := nt_ c28; by_cases c29 : a0.toList = ([79, 82] : List UInt8); rotate_left; rw [if_neg c29] at H; have c29b0 := bf_ c29; have c29b1 := nt_ c29; by_cases c30 : a0.toList = ([78, 79, 84] : List UInt8); rotate_left; rw [if_neg c30] at H; have c30b0 := bf_ c30; have c30b1 := nt_ c30; by_cases c31 : a0.toList = ([73, 83] : List UInt8); rotate_left; rw [if_neg c31] at H; have c31b0 := bf_ c31; have c31b1 := nt_ c31; by_cases c32 : a0.toList = ([78, 85, 76, 76] : List UInt8); rotate_left; rw [if_neg c32] at H; have c32b0 := bf_ c32; have c32b1 := nt_ c32; by_cases c33 : a0.toList = ([73, 78] : List UInt8); rotate_left; rw [if_neg c33] at H; have c33b0 := bf_ c33; have c33b1 := nt_ c33; by_cases c34 : a0.toList = ([68, 73, 83, 84, 73, 78, 67, 84] : List UInt8); rotate_left; rw [if_neg c34] at H; have c34b0 := bf_ c34; have c34b1 := nt_ c34; by_cases c35 : a0.toList = ([79, 82, 68, 69, 82] : List UInt8); rotate_left; rw [if_neg c35] at H; have c35b0 := bf_ c35; have c35b1 := nt_ c35; by_cases c36 : a0.toList = ([66, 89] : List UInt8); rotate_left; rw [if_neg c36] at H; have c36b0 := bf_ c36; have c36b1 := nt_ c36; by_cases c37 : a0.toList = ([68, 69, 83, 67] : List UInt8)
            rotate_left; rw [if_neg c37] at H; have c37b0 := bf_ c37; have c37b1 := nt_ c37; by_cases c38 : a0.toList = ([83, 75, 73, 80] : List UInt8); rotate_left; rw [if_neg c38] at H; have c38b0 := bf_ c38; have c38b1 := nt_ c38; by_cases c39 : a0.toList = ([76, 73, 77, 73, 84] : List UInt8); rotate_left; rw [if_neg c39] at H; have c39b0 := bf_ c39; have c39b1 := nt_ c39; by_cases c40 : a0.toList = ([110, 117, 108, 108] : List UInt8); rotate_left; rw [if_neg c40] at H; have c40b0 := bf_ c40; have c40b1 := nt_ c40; by_cases c41 : a0.toList = ([116, 114, 117, 101] : List UInt8); rotate_left; rw [if_neg c41] at H; have c41b0 := bf_ c41; have c41b1 := nt_ c41; by_cases c42 : a0.toList = ([102, 97, 108, 115, 101] : List UInt8); rotate_left; rw [if_neg c42] at H; have c42b0 := bf_ c42; have c42b1 := nt_ c42; by_cases c43 : a0.toList = ([99, 111, 117, 110, 116] : List UInt8); rotate_left; rw [if_neg c43] at H; have c43b0 := bf_ c43; have c43b1 := nt_ c43; by_cases c44 : a0.toList = ([115, 117, 109] : List UInt8); rotate_left; rw [if_neg c44] at H; have c44b0 := bf_ c44; have c44b1 := nt_ c44; by_cases c45 : a0.toList = ([115, 105, 122, 101] : List UInt8); rotate_left; rw [if_neg c45] at H; have c45b0 := bf_ c45; have c45b1 := nt_ c45; obtain rfl := Option.some.inj H; rotate_right; rw [if_pos c45] at H; have c45b0 := bt__ c45; have c45b1 := nf__ c45; clear c45; obtain rfl := Option.some.inj H; rotate_right; rw [if_pos c44] at H; have c44b0 := bt__ c44; have c44b1 := nf__ c44
            clear c44; obtain rfl := Option.some.inj H; rotate_right; rw [if_pos c43] at H; have c43b0 := bt__ c43; have c43b1 := nf__ c43; clear c43; obtain rfl := Option.some.inj H; rotate_right; rw [if_pos c42] at H; have c42b0 := bt__ c42; have c42b1 := nf__ c42; clear c42; obtain rfl := Option.some.inj H; rotate_right; rw [if_pos c41] at H; have c41b0 := bt__ c41; have c41b1 := nf__ c41; clear c41; obtain rfl := Option.some.inj H; rotate_right; rw [if_pos c40] at H; have c40b0 := bt__ c40; have c40b1 := nf__ c40; clear c40; obtain rfl := Option.some.inj H; rotate_right; rw [if_pos c39] at H; have c39b0 := bt__ c39; have c39b1 := nf__ c39; clear c39; obtain rfl := Option.some.inj H; rotate_right; rw [if_pos c38] at H; have c38b0 := bt__ c38; have c38b1 := nf__ c38; clear c38; obtain rfl := Option.some.inj H; rotate_right; rw [if_pos c37] at H; have c37b0 := bt__ c37; have c37b1 := nf__ c37; clear c37; obtain rfl := Option.some.inj H; rotate_right; rw [if_pos c36] at H; have c36b0 := bt__ c36; have c36b1 := nf__ c36; clear c36; obtain rfl := Option.some.inj H; rotate_right; rw [if_pos c35] at H; have c35b0 := bt__ c35; have c35b1 := nf__ c35; clear c35; obtain rfl := Option.some.inj H; rotate_right; rw [if_pos c34] at H; have c34b0 := bt__ c34; have c34b1 := nf__ c34; clear c34; obtain rfl := Option.some.inj H; rotate_right; rw [if_pos c33] at H; have c33b0 := bt__ c33; have c33b1 := nf__ c33; clear c33; obtain rfl := Option.some.inj H; rotate_right; rw [if_pos c32] at H
            have c32b0 := bt__ c32; have c32b1 := nf__ c32; clear c32; obtain rfl := Option.some.inj H; rotate_right; rw [if_pos c31] at H; have c31b0 := bt__ c31; have c31b1 := nf__ c31; clear c31; obtain rfl := Option.some.inj H; rotate_right; rw [if_pos c30] at H; have c30b0 := bt__ c30; have c30b1 := nf__ c30; clear c30; obtain rfl := Option.some.inj H; rotate_right; rw [if_pos c29] at H; have c29b0 := bt__ c29; have c29b1 := nf__ c29; clear c29; obtain rfl := Option.some.inj H; rotate_right; rw [if_pos c28] at H; have c28b0 := bt__ c28; have c28b1 := nf__ c28; clear c28; obtain rfl := Option.some.inj H; rotate_right; rw [if_pos c27] at H; have c27b0 := bt__ c27; have c27b1 := nf__ c27; clear c27; obtain rfl := Option.some.inj H; rotate_right; rw [if_pos c26] at H; have c26b0 := bt__ c26; have c26b1 := nf__ c26; clear c26; obtain rfl := Option.some.inj H; rotate_right; rw [if_pos c25] at H; have c25b0 := bt__ c25; have c25b1 := nf__ c25; clear c25; obtain rfl := Option.some.inj H; rotate_right; rw [if_pos c24] at H; have c24b0 := bt__ c24; have c24b1 := nf__ c24; clear c24; obtain rfl := Option.some.inj H; rotate_right; rw [if_pos c23] at H; have c23b0 := bt__ c23; have c23b1 := nf__ c23; clear c23; obtain rfl := Option.some.inj H; rotate_right; rw [if_pos c22] at H; have c22b0 := bt__ c22; have c22b1 := nf__ c22; clear c22; obtain rfl := Option.some.inj H; rotate_right; rw [if_pos c21] at H; have c21b0 := bt__ c21; have c21b1 := nf__ c21; clear c21
            obtain rfl := Option.some.inj H; rotate_right; rw [if_pos c20] at H; have c20b0 := bt__ c20; have c20b1 := nf__ c20; clear c20; obtain rfl := Option.some.inj H; rotate_right; rw [if_pos c19] at H; have c19b0 := bt__ c19; have c19b1 := nf__ c19; clear c19; obtain rfl := Option.some.inj H; rotate_right; rw [if_pos c18] at H; have c18b0 := bt__ c18; have c18b1 := nf__ c18; clear c18; obtain rfl := Option.some.inj H; rotate_right; rw [if_pos c17] at H; have c17b0 := bt__ c17; have c17b1 := nf__ c17; clear c17; obtain rfl := Option.some.inj H
            all_goals
              go_wp2
              go_ret; exact rd_
          rotate_right; rw [if_pos c9] at H; have c9b0 := dt_ c9; clear c9; by_cases c10 : 0 ≤ x3_2; rotate_left
          · rw [if_neg c10] at H; exact absurd H (by simp)
          rotate_right; rw [if_pos c10] at H; have c10b0 := dt_ c10; clear c10; replace H := ob_ H; obtain ⟨t102, A12, H⟩ := H; by_cases c13 : t102 = true; rotate_left; replace c13 := Bool.eq_false_iff.mpr c13; subst c13; rw [fe_] at H; replace H := ob_ H; obtain ⟨t103, A15, H⟩ := H; by_cases c16 : t103 = true; rotate_left; replace c16 := Bool.eq_false_iff.mpr c16; subst c16; rw [fe_] at H; obtain rfl := Option.some.inj H; rotate_right; subst c16; rw [if_pos rfl] at H; have H' := Aside0.mk H; clear H; rotate_right; subst c13; rw [if_pos rfl] at H; have H' := Aside0.mk H; clear H
          all_goals
            have p11 : 0 ≤ (x3_2 : Int) := od_; have q11 : x3_2 < (a0.size : Int) := od_; have hx11 := bt_at a0 x3_2; replace p11 := eq_true p11; replace q11 := eq_true q11
          · go_wp2_with (first | ((with_reducible refine gate_callee (f := 156) rfl ?_); refine goesL_ (some 26) rfl rfl Try.func156 (by kernel_rfl) rfl #[.int .u8 (bt a0 x3_2)] rfl ar_ ?_; (with_reducible refine (impl_isLetter.calls (bt a0 x3_2) true _ A12.out).mono ?_); rintro e w' ⟨rfl, ⟨nd, rfl⟩⟩; refine ⟨_, rfl, ?_⟩))
            go_roundg k2
            case measure => have := HJ1.out; have := HK2.out; omega
            case rel => exact ⟨(wrap64 (x3_2 + 1)), sm_, H', ⟨by have := HJ1.out; have := HK2.out; omega⟩, by repeat (first | exact Drawn0.refl _ | apply Drawn0.step)⟩
          all_goals
            go_wp2_with (first | ((with_reducible refine gate_callee (f := 156) rfl ?_); refine goesL_ (some 26) rfl rfl Try.func156 (by kernel_rfl) rfl #[.int .u8 (bt a0 x3_2)] rfl ar_ ?_; (with_reducible refine (impl_isLetter.calls (bt a0 x3_2) false _ A12.out).mono ?_); rintro e w' ⟨rfl, ⟨nd, rfl⟩⟩; refine ⟨_, rfl, ?_⟩; have p14 : 0 ≤ (x3_2 : Int) := od_; have q14 : x3_2 < (a0.size : Int) := od_; have hx14 := bt_at a0 x3_2; replace p14 := eq_true p14; replace q14 := eq_true q14) | (go_at_call 157; (with_reducible refine (impl_isFigure.calls (bt a0 x3_2) _ _ A15.out).mono ?_); rintro e w' ⟨rfl, ⟨nd, rfl⟩⟩))
          rotate_left
          · go_ret; exact rd_
          go_roundg k2
          case measure => have := HJ1.out; have := HK2.out; omega
          case rel => exact ⟨(wrap64 (x3_2 + 1)), sm_, H', ⟨by have := HJ1.out; have := HK2.out; omega⟩, by repeat (first | exact Drawn0.refl _ | apply Drawn0.step)⟩
def impl_labelsOk.l0 : Nat → List ByteArray → List ByteArray → Int → Int → Option (Bool)
  | 0, _, _, _, _ => none
  | k + 1, x0, x8, x9, x10 => if x10 < x9 then (if 0 ≤ x10 then (if x10 < (x8.length : Int) then ((impl_NameOk.f k (rdOf ByteArray.empty x8 x10)).bind fun t102 => (if t102 = true then (if x10 > 0 then (if 0 ≤ (wrap64 (x10 - 1)) then (if (wrap64 (x10 - 1)) < (x0.length : Int) then (if ((Op.bytesLess ((rdOf ByteArray.empty x0 (wrap64 (x10 - 1))).toList) ((rdOf ByteArray.empty x8 x10).toList)) = true) then (impl_labelsOk.l0 k x0 x8 x9 (wrap64 (x10 + 1))) else (some false)) else (none)) else (none)) else (impl_labelsOk.l0 k x0 x8 x9 (wrap64 (x10 + 1)))) else (some false))) else (none)) else (none)) else (some true)
def impl_labelsOk.f (k : Nat) (l0 : List ByteArray) : Option (Bool) := if (l0.length : Int) > 3 then (some false) else (impl_labelsOk.l0 k l0 l0 (l0.length : Int) 0)
set_option maxHeartbeats 8000000 in
set_option maxRecDepth 100000 in
theorem impl_labelsOk.calls (k : Nat) (A0 : Option Addr) (c0 : Nat) (l0 : List ByteArray) (r : Bool) (w : World) (hr0 : Kd.C Kd.string w A0 l0.length l0) (hc0 : l0.length ≤ c0) (h : impl_labelsOk.f k l0 = some r) :
    Calls Try.prog 80 #[.slice A0 l0.length c0] w fun e w' => e = .returned (.bool r) ∧ Drawn0 w w' := by
  have HR0 := Aside0.mk hr0; have HC0 := Aside0.mk hc0; clear hr0 hc0; have H : (if (l0.length : Int) > 3 then (some false) else (impl_labelsOk.l0 k l0 l0 (l0.length : Int) 0)) = some r := h; clear h; by_cases c2 : (l0.length : Int) > 3; rotate_left; rw [if_neg c2] at H; have c2b0 : decide (3 < (l0.length : Int)) = false := decide_eq_false c2; have c2b1 : decide (3 < l0.length) = false := decide_eq_false (by omega); clear c2; have H' := Aside0.mk H; clear H; rotate_right; rw [if_pos c2] at H; have c2b0 : decide (3 < (l0.length : Int)) = true := decide_eq_true c2; have c2b1 : decide (3 < l0.length) = true := decide_eq_true (by omega); clear c2; obtain rfl := Option.some.inj H
  all_goals
    go_enter Try.func80, Try.ntmps80
    go_wp2
  · go_ret; exact rd_
  go_loopg [10] k (fun kq v10 w' => ∃ (x10_1 : Int), v10 = .int .i64 x10_1 ∧ Aside0 (impl_labelsOk.l0 kq l0 l0 (l0.length : Int) x10_1 = some r) ∧ Aside0 (kq ≤ k) ∧ Drawn0 w w')
  case atStart => exact ⟨(0), sm_, H', ⟨Nat.le_refl _⟩, by repeat (first | exact Drawn0.refl _ | apply Drawn0.step)⟩
  case round =>
    clear H'
    try clear c2
    try clear c2b0
    try clear c2b1
    try clear p2
    obtain ⟨x10_1, rfl, HA, HK1, ⟨m1, rfl⟩⟩ := hrel
    cases gk with
    | zero => exact absurd HA.out (by simp [impl_labelsOk.l0])
    | succ k1 =>
      have H := HA.out; clear HA; simp only [impl_labelsOk.l0] at H; by_cases c3 : x10_1 < (l0.length : Int); rotate_left; rw [if_neg c3] at H; have c3b0 := df_ c3; clear c3; obtain rfl := Option.some.inj H; rotate_right; rw [if_pos c3] at H; have c3b0 := dt_ c3; clear c3; by_cases c4 : 0 ≤ x10_1; rotate_left
      · rw [if_neg c4] at H; exact absurd H (by simp)
      rotate_right; rw [if_pos c4] at H; have c4b0 := dt_ c4; clear c4; by_cases c5 : x10_1 < (l0.length : Int); rotate_left
      · rw [if_neg c5] at H; exact absurd H (by simp)
      rotate_right; rw [if_pos c5] at H; have c5b0 := dt_ c5; clear c5; replace H := ob_ H; obtain ⟨t102, A6, H⟩ := H; by_cases c7 : t102 = true; rotate_left; replace c7 := Bool.eq_false_iff.mpr c7; subst c7; rw [fe_] at H; obtain rfl := Option.some.inj H; rotate_right; subst c7; rw [if_pos rfl] at H; by_cases c8 : x10_1 > 0
      · rw [if_pos c8] at H; have c8b0 : decide (0 < x10_1) = true := decide_eq_true c8; clear c8; obtain ⟨ji9, hji9⟩ : ∃ j_ : Int, (wrap64 (x10_1 - 1)) = j_ := ⟨_, rfl⟩
        replace H : (if 0 ≤ (ji9) then (if (ji9) < (l0.length : Int) then (if ((Op.bytesLess ((rdOf ByteArray.empty l0 (ji9)).toList) ((rdOf ByteArray.empty l0 x10_1).toList)) = true) then (impl_labelsOk.l0 k1 l0 l0 (l0.length : Int) (wrap64 (x10_1 + 1))) else (some false)) else (none)) else (none)) = some r := by first | (rw [hji9] at H; exact H) | (simp only [hji9] at H ⊢; exact H)
        (try rw [hji9] at A6); have hji9w : (IntKind.i64.wrap (x10_1 - 1)) = ji9 := (i64_w _).trans hji9; by_cases c10 : 0 ≤ (ji9); rotate_left
        · rw [if_neg c10] at H; exact absurd H (by simp)
        rotate_right; rw [if_pos c10] at H; have c10b0 := dt_ c10; clear c10; by_cases c11 : (ji9) < (l0.length : Int); rotate_left
        · rw [if_neg c11] at H; exact absurd H (by simp)
        rotate_right; rw [if_pos c11] at H; have c11b0 := dt_ c11; clear c11; by_cases c12 : ((Op.bytesLess ((rdOf ByteArray.empty l0 (ji9)).toList) ((rdOf ByteArray.empty l0 x10_1).toList)) = true); rotate_left; rw [if_neg c12] at H
        have c12b0 : (Op.bytesLess ((rdOf ByteArray.empty l0 (ji9)).toList) ((rdOf ByteArray.empty l0 x10_1).toList)) = false := by simpa using c12
        clear c12; obtain rfl := Option.some.inj H; rotate_right; rw [if_pos c12] at H; have c12b0 : (Op.bytesLess ((rdOf ByteArray.empty l0 (ji9)).toList) ((rdOf ByteArray.empty l0 x10_1).toList)) = true := c12; clear c12; have H' := Aside0.mk H; clear H
        all_goals
          have p101 : 0 ≤ (x10_1 : Int) := od_; have q101 : x10_1 < (l0.length : Int) := od_; obtain ⟨ad101, e101, hx101_0⟩ := Kd.at_string HR0.out x10_1 p101 q101
          cases e101
          replace p101 := eq_true p101; replace q101 := eq_true q101
          go_wp2_with (first | ((with_reducible refine gate_callee (f := 82) rfl ?_); refine goesL_ (some 16) rfl rfl Try.func82 (by kernel_rfl) rfl #[.string (rdOf ByteArray.empty l0 x10_1)] rfl ar_ ?_; (with_reducible refine (impl_NameOk.calls k1 (rdOf ByteArray.empty l0 x10_1) true _ A6.out).mono ?_); rintro e w' ⟨rfl, ⟨nd, rfl⟩⟩; refine ⟨_, rfl, ?_⟩; have p103 : 0 ≤ ((ji9) : Int) := od_; have q103 : (ji9) < (l0.length : Int) := od_; obtain ⟨ad103, e103, hx103_0⟩ := Kd.at_string HR0.out (ji9) p103 q103; obtain rfl : ad101 = ad103 := (by injection e103); replace p103 := eq_true p103; replace q103 := eq_true q103))
        rotate_left
        · go_ret; exact ⟨by first | rfl | (simp; done) | (simp only [← hji9] <;> (first | rfl | simp)) | (simp [*]; done), by repeat (first | exact Drawn0.refl _ | apply Drawn0.step)⟩
        go_roundg k1
        case measure => have := HK1.out; omega
        case rel => exact ⟨(wrap64 (x10_1 + 1)), sm_, H', ⟨by have := HK1.out; omega⟩, by repeat (first | exact Drawn0.refl _ | apply Drawn0.step)⟩
      rw [if_neg c8] at H; have c8b0 : decide (0 < x10_1) = false := decide_eq_false c8; clear c8; have H' := Aside0.mk H; clear H; rotate_left 2
      · go_wp2
        go_ret; exact rd_
      all_goals
        have p101 : 0 ≤ (x10_1 : Int) := od_; have q101 : x10_1 < (l0.length : Int) := od_; obtain ⟨ad101, e101, hx101_0⟩ := Kd.at_string HR0.out x10_1 p101 q101
        cases e101
        replace p101 := eq_true p101; replace q101 := eq_true q101
        go_wp2_with (first | ((with_reducible refine gate_callee (f := 82) rfl ?_); refine goesL_ (some 16) rfl rfl Try.func82 (by kernel_rfl) rfl #[.string (rdOf ByteArray.empty l0 x10_1)] rfl ar_ ?_; (with_reducible refine (impl_NameOk.calls k1 (rdOf ByteArray.empty l0 x10_1) _ _ A6.out).mono ?_); rintro e w' ⟨rfl, ⟨nd, rfl⟩⟩; refine ⟨_, rfl, ?_⟩))
      rotate_left
      · go_ret; exact rd_
      go_roundg k1
      case measure => have := HK1.out; omega
      case rel => exact ⟨(wrap64 (x10_1 + 1)), sm_, H', ⟨by have := HK1.out; omega⟩, by repeat (first | exact Drawn0.refl _ | apply Drawn0.step)⟩
def impl_textFits.l0 : Nat → ByteArray → Int → Option (Bool)
  | 0, _, _ => none
  | k + 1, x0, x3 => if x3 < (x0.size : Int) then (if 0 ≤ x3 then (if (bt x0 x3) < 32 then (some false) else (if (bt x0 x3) > 126 then (some false) else (if (bt x0 x3) = 39 then (some false) else (impl_textFits.l0 k x0 (wrap64 (x3 + 1)))))) else (none)) else (some true)
def impl_textFits.f (k : Nat) (a0 : ByteArray) : Option (Bool) := if (a0.size : Int) > 16 then (some false) else (impl_textFits.l0 k a0 0)
set_option maxHeartbeats 8000000 in
set_option maxRecDepth 100000 in
theorem impl_textFits.calls (k : Nat) (a0 : ByteArray) (r : Bool) (w : World) (h : impl_textFits.f k a0 = some r) :
    Calls Try.prog 186 #[.string a0] w fun e w' => e = .returned (.bool r) ∧ Drawn0 w w' := by
  have H : (if (a0.size : Int) > 16 then (some false) else (impl_textFits.l0 k a0 0)) = some r := h; clear h; by_cases c2 : (a0.size : Int) > 16; rotate_left; rw [if_neg c2] at H; have c2b0 : decide (16 < (a0.size : Int)) = false := decide_eq_false c2; have c2b1 : decide (16 < a0.size) = false := decide_eq_false (by omega); clear c2; have H' := Aside0.mk H; clear H; rotate_right; rw [if_pos c2] at H; have c2b0 : decide (16 < (a0.size : Int)) = true := decide_eq_true c2; have c2b1 : decide (16 < a0.size) = true := decide_eq_true (by omega); clear c2; obtain rfl := Option.some.inj H
  all_goals
    go_enter Try.func186, Try.ntmps186
    go_wp2
  · go_ret; exact rd_
  go_loopg [3] k (fun kq v3 w' => ∃ (x3_1 : Int), v3 = .int .i64 x3_1 ∧ Aside0 (impl_textFits.l0 kq a0 x3_1 = some r) ∧ Aside0 (kq ≤ k) ∧ Drawn0 w w')
  case atStart => exact ⟨(0), sm_, H', ⟨Nat.le_refl _⟩, by repeat (first | exact Drawn0.refl _ | apply Drawn0.step)⟩
  case round =>
    clear H'
    try clear c1
    try clear c2
    try clear c2b0
    try clear c2b1
    try clear p2
    obtain ⟨x3_1, rfl, HA, HK1, ⟨m1, rfl⟩⟩ := hrel
    cases gk with
    | zero => exact absurd HA.out (by simp [impl_textFits.l0])
    | succ k1 =>
      have H := HA.out; clear HA; simp only [impl_textFits.l0] at H; by_cases c3 : x3_1 < (a0.size : Int); rotate_left; rw [if_neg c3] at H; have c3b0 := df_ c3; clear c3; obtain rfl := Option.some.inj H; rotate_right; rw [if_pos c3] at H; have c3b0 := dt_ c3; clear c3; by_cases c4 : 0 ≤ x3_1; rotate_left
      · rw [if_neg c4] at H; exact absurd H (by simp)
      rotate_right; rw [if_pos c4] at H; have c4b0 := dt_ c4; clear c4; by_cases c6 : (bt a0 x3_1) < 32; rotate_left; rw [if_neg c6] at H; have c6b0 := df_ c6; clear c6; by_cases c8 : (bt a0 x3_1) > 126; rotate_left; rw [if_neg c8] at H; have c8b0 : decide (126 < (bt a0 x3_1)) = false := decide_eq_false c8; clear c8; by_cases c10 : (bt a0 x3_1) = 39; rotate_left; rw [if_neg c10] at H; have c10b0 := bf_ c10; have c10b1 := nt_ c10; have H' := Aside0.mk H; clear H; rotate_right; rw [if_pos c10] at H; have c10b0 := bt__ c10; have c10b1 := nf__ c10; clear c10; obtain rfl := Option.some.inj H; rotate_right; rw [if_pos c8] at H; have c8b0 : decide (126 < (bt a0 x3_1)) = true := decide_eq_true c8; clear c8; obtain rfl := Option.some.inj H; rotate_right; rw [if_pos c6] at H; have c6b0 := dt_ c6; clear c6; obtain rfl := Option.some.inj H; rotate_left 4
      · go_wp2
        go_ret; exact rd_
      all_goals
        have p5 : 0 ≤ (x3_1 : Int) := od_; have q5 : x3_1 < (a0.size : Int) := od_; have hx5 := bt_at a0 x3_1; replace p5 := eq_true p5; replace q5 := eq_true q5
      · go_wp2
        go_ret; exact rd_
      all_goals
        have p7 : 0 ≤ (x3_1 : Int) := od_; have q7 : x3_1 < (a0.size : Int) := od_; have hx7 := bt_at a0 x3_1; replace p7 := eq_true p7; replace q7 := eq_true q7
      · go_wp2
        go_ret; exact rd_
      all_goals
        have p9 : 0 ≤ (x3_1 : Int) := od_; have q9 : x3_1 < (a0.size : Int) := od_; have hx9 := bt_at a0 x3_1; replace p9 := eq_true p9; replace q9 := eq_true q9
        go_wp2
      · go_ret; exact rd_
      go_roundg k1
      case measure => have := HK1.out; omega
      case rel => exact ⟨(wrap64 (x3_1 + 1)), sm_, H', ⟨by have := HK1.out; omega⟩, by repeat (first | exact Drawn0.refl _ | apply Drawn0.step)⟩
end Go.Proofs.Ytcchmhmbjhgfdaa.G
