-- Printed by a program of this claim's writer (wip/gen), out of the translation. Lean checks it.
import Derived.Test.YtcchmhmbjhgfdaaGx0
namespace Go.Proofs.Ytcchmhmbjhgfdaa.G
open Go.RowKit Go.Proofs.YtcchmhmbjhgfdaaW.PrintWords Go.Proofs.YtcchmhmbjhgfdaaW.PrintLast Go.Proofs.YtcchmhmbjhgfdaaW.PrintMore
attribute [local go_sem] max2_int min2_int max_two min_two max_three min_three max_four min_four Own.str_gtr Own.str_leq Own.str_geq Own.sto_fn   -- for this text's walks alone
open Own
set_option linter.unusedVariables false
set_option linter.unusedSimpArgs false

/-! ### impl_edgesIn_1: function 155 -/
def impl_edgesIn_1.f (a0_0 : Int) (a0_1 : ByteArray) (a0_2 : Int) (a0_3 : Int) (l0_4 : List (S140)) : Option (Int) := some a0_0
set_option maxHeartbeats 8000000 in
set_option maxRecDepth 100000 in
theorem impl_edgesIn_1.calls (a0_0 : Int) (a0_1 : ByteArray) (a0_2 : Int) (a0_3 : Int) (A0_4 : Option Addr) (c0_4 : Nat) (l0_4 : List (S140)) (r : Int) (w : World) (hr0_4 : Kd.C k140 w A0_4 l0_4.length l0_4) (hc0_4 : l0_4.length ≤ c0_4) (h : impl_edgesIn_1.f a0_0 a0_1 a0_2 a0_3 l0_4 = some r) :
    Calls Try.prog 155 #[.agg #[.int .i64 a0_0, .string a0_1, .int .i64 a0_2, .int .i64 a0_3, .slice A0_4 l0_4.length c0_4]] w fun e w' => e = .returned (.int .i64 r) ∧ Below w.heap.size w w' := by
  have hu104 := Try.underlying104
  have HR0_4 := Aside0.mk hr0_4
  have HC0_4 := Aside0.mk hc0_4
  clear hr0_4 hc0_4
  have HB := Aside0.mk (Below.refl w.heap.size w)
  have H : (some a0_0) = some r := h
  clear h
  obtain rfl := Option.some.inj H
  go_enter Try.func155, Try.ntmps155
  go_wp2_with (first | ((with_reducible refine gate_dst (N := 1) rfl ?_); refine bx_ 1 #[.int .i64 a0_0, .string a0_1, .int .i64 a0_2, .int .i64 a0_3, .slice A0_4 l0_4.length c0_4] 104 ?_; intro gb271 hg w2 hbox hb; have BK271 := Aside0.mk (hbox); have GW271 := gw_ hg; have GE271 := gw_ hg; replace HB := bs_ hb; clear hb hbox hg; obtain ⟨hcz3_0, hcz3_1, hcz3_2, hcz3_3, hcz3_4, hfz3_0, hfz3_1, hfz3_2, hfz3_3, hfz3_4⟩ := blk5 BK271))
  go_ret
  exact re_

/-! ### impl_edgesIn: function 78 -/
def impl_edgesIn.f (l0_0 : List (S99)) (l0_1 : List (S104)) (a0_2 : Int) (a0_3 : Int) : Option ((List (S104)) × Bool) := some (l0_1, true)
set_option maxHeartbeats 8000000 in
set_option maxRecDepth 100000 in
theorem impl_edgesIn.calls (A0_0 : Option Addr) (c0_0 : Nat) (l0_0 : List (S99)) (P0_1_ : Nat → Prop) (A0_1 : Option Addr) (c0_1 : Nat) (l0_1 : List (S104)) (a0_2 : Int) (a0_3 : Int) (r1 : List (S104)) (r2 : Bool) (w : World) (hr0_0 : Kd.C k99 w A0_0 l0_0.length l0_0) (hc0_0 : l0_0.length ≤ c0_0) (hs0_1 : Kd.V k104 104 w w.heap.size (fun k_ => P0_1_ k_) (.slice A0_1 l0_1.length c0_1) l0_1) (h : impl_edgesIn.f l0_0 l0_1 a0_2 a0_3 = some (r1, r2)) :
    Calls Try.prog 78 #[.agg #[.slice A0_0 l0_0.length c0_0, .slice A0_1 l0_1.length c0_1, .int .i64 a0_2, .int .i64 a0_3]] w fun e w' => ∃ v0_ : Value, e = .returned (.agg #[v0_, .func (.func 155) #[] #[]]) ∧ Kd.V k104 104 w' w.heap.size (fun k_ => (P0_1_ k_ ∨ w.heap.size ≤ k_)) v0_ r1 ∧ Below w.heap.size w w' := by
  have hu31 := Try.underlying31
  have hu115 := Try.underlying115
  have HR0_0 := Aside0.mk hr0_0
  have HC0_0 := Aside0.mk hc0_0
  clear hr0_0 hc0_0
  have HO0_1 := Aside0.mk (show Kd.V k104 104 w w.heap.size (fun k_ => (P0_1_ k_ ∨ w.heap.size ≤ k_)) (.slice A0_1 l0_1.length c0_1) l0_1 from Kd.V_mono hs0_1 (fun k_ hk => .inl hk))
  have HB := Aside0.mk (Below.refl w.heap.size w)
  have H : (some (l0_1, true)) = some (r1, r2) := h
  clear h
  simp only [Option.some.injEq, Prod.mk.injEq] at H
  obtain ⟨rfl, rfl⟩ := H
  go_enter Try.func78, Try.ntmps78
  go_wp2_with (first | ((with_reducible refine gate_dst (N := 1) rfl ?_); refine bx_ 1 #[.slice A0_0 l0_0.length c0_0, .slice A0_1 l0_1.length c0_1, .int .i64 a0_2, .int .i64 a0_3] 31 ?_; intro gb272 hg w2 hbox hb; have BK272 := Aside0.mk (hbox); have GW272 := gw_ hg; have GE272 := gw_ hg; replace HO0_1 := Aside0.mk (Kd.V_below (Kd.V_elderB (by (with_reducible repeat (first | apply Kd.V_alloc | apply Kd.V_drewN | apply Kd.V_drew)); first | exact HO0_1.out | exact Kd.V_mono (HO0_1.out) (fun _ h_ => by simpa only [and_assoc, and_comm, and_left_comm] using h_)) gb272 (Nat.le_of_eq hg.symm)) hb); replace HB := bs_ hb; clear hb hbox hg) | ((with_reducible refine gate_dst (N := 2) rfl ?_); refine bx_ 2 #[.slice none 0 0, .nilFunc] 115 ?_; intro gb273 hg w3 hbox hb; have BK273 := Aside0.mk (hbox); have GW273 := gw_ hg; have GE273 := gw_ hg; have NB272_273 := nlt_ hg BK272; have NB273_272 := ngt_ hg BK272; replace HO0_1 := Aside0.mk (Kd.V_below (Kd.V_elderB (by (with_reducible repeat (first | apply Kd.V_alloc | apply Kd.V_drewN | apply Kd.V_drew)); first | exact HO0_1.out | exact Kd.V_mono (HO0_1.out) (fun _ h_ => by simpa only [and_assoc, and_comm, and_left_comm] using h_)) gb273 (Nat.le_of_eq hg.symm)) hb); replace BK272 := bb_ BK272 hb; replace HB := bs_ hb; clear hb hbox hg; have hnb4 := NB272_273.out; have hnc4 := NB273_272.out; obtain ⟨hcz5_0, hcz5_1, hcz5_2, hcz5_3, hfz5_0, hfz5_1, hfz5_2, hfz5_3⟩ := blk4 BK272; obtain ⟨hcz6_0, hcz6_1, hfz6_0, hfz6_1⟩ := blk2 BK273))
  refine bodyPost_ret (results_cell_row rfl _ _ gb273 115 #[.slice A0_1 l0_1.length c0_1, .func (.func 155) #[] #[]] (0, 0) _ rfl (by refine pe_ ?_; refine blk_put (cs := #[.slice A0_1 l0_1.length c0_1, .nilFunc]) ?_ 1 _ rfl; refine pe_ ?_; refine blk_put (cs := #[.slice none 0 0, .nilFunc]) ?_ 0 _ rfl; refine pe_ ?_; exact BK273.out) Try.underlying115 rfl (by kernel_rfl)) rfl ?_
  exact ⟨_, by first | rfl | (simp [errW_none, errW_some] <;> rfl) | (simp [*, errW_none, errW_some] <;> rfl), by (with_reducible repeat (first | apply Kd.V_alloc | apply Kd.V_drewN | apply Kd.V_drew)); first | exact Kd.V_mono (Kd.V_far (p := ⟨gb273, 1, none⟩) (Kd.V_far (p := ⟨gb273, 0, none⟩) (Kd.V_mono HO0_1.out (fun k_ hk => (⟨hk, hk.2⟩ : _ ∧ k_ ≠ gb273))) (fun _ hk => hk.2) (.slice A0_1 l0_1.length c0_1)) (fun _ hk => hk.2) (.func (.func 155) #[] #[])) (fun _ hk => hk.1.1.1) | exact Kd.V_mono (Kd.V_mono (Kd.V_far (p := ⟨gb273, 1, none⟩) (Kd.V_far (p := ⟨gb273, 0, none⟩) (Kd.V_mono HO0_1.out (fun k_ hk => (⟨hk, hk.2⟩ : _ ∧ k_ ≠ gb273))) (fun _ hk => hk.2) (.slice A0_1 l0_1.length c0_1)) (fun _ hk => hk.2) (.func (.func 155) #[] #[])) (fun _ hk => hk.1.1.1)) (fun _ h_ => by simpa only [and_assoc, and_comm, and_left_comm] using h_), bel_⟩

/-! ### impl_Edge_ascend: function 79 -/
def impl_Edge_ascend.l0 : Nat → Int → Int → List (S104) → Int → Int → Option (Bool)
  | 0, _, _, _, _, _ => none
  | k + 1, x1, x5, x10, x11, x12 => if x12 < x11 then (if 0 ≤ x12 then (if x12 < (x10.length : Int) then ((impl_edgesIn_1.f ((rd_T104 x10 x12).f0) ((rd_T104 x10 x12).f1) ((rd_T104 x10 x12).f2) ((rd_T104 x10 x12).f3) ((rd_T104 x10 x12).f4)).bind fun t277 => (if t277 ≤ x5 then (some false) else (if t277 ≥ x1 then (some false) else (impl_Edge_ascend.l0 k x1 t277 x10 x11 (wrap64 (x12 + 1)))))) else (none)) else (none)) else (some true)
def impl_Edge_ascend.f (k : Nat) (l0_0 : List (S104)) (a0_1 : Bool) (a1 : Int) : Option (Bool) := impl_Edge_ascend.l0 k a1 (-1) l0_0 (l0_0.length : Int) 0
set_option maxHeartbeats 8000000 in
set_option maxRecDepth 100000 in
theorem impl_Edge_ascend.calls (k : Nat) (A0_0 : Option Addr) (c0_0 : Nat) (l0_0 : List (S104)) (a0_1 : Bool) (a1 : Int) (r : Bool) (w : World) (hr0_0 : Kd.C k104 w A0_0 l0_0.length l0_0) (hc0_0 : l0_0.length ≤ c0_0) (h : impl_Edge_ascend.f k l0_0 a0_1 a1 = some r) :
    Calls Try.prog 79 #[.agg #[.slice A0_0 l0_0.length c0_0, .func (.func 155) #[] #[]], .int .i64 a1] w fun e w' => e = .returned (.bool r) ∧ Below w.heap.size w w' := by
  have hu115 := Try.underlying115
  have hu104 := Try.underlying104
  have HR0_0 := Aside0.mk hr0_0
  have HC0_0 := Aside0.mk hc0_0
  clear hr0_0 hc0_0
  have HB := Aside0.mk (Below.refl w.heap.size w)
  have H : (impl_Edge_ascend.l0 k a1 (-1) l0_0 (l0_0.length : Int) 0) = some r := h
  clear h
  have H' := Aside0.mk H
  clear H
  go_enter Try.func79, Try.ntmps79
  go_wp2_with (first | ((with_reducible refine gate_dst (N := 2) rfl ?_); refine bx_ 2 #[.slice A0_0 l0_0.length c0_0, .func (.func 155) #[] #[]] 115 ?_; intro gb274 hg w3 hbox hb; have BK274 := Aside0.mk (hbox); have GW274 := gw_ hg; have GE274 := gw_ hg; replace HB := bs_ hb; clear hb hbox hg; obtain ⟨hcz4_0, hcz4_1, hfz4_0, hfz4_1⟩ := blk2 BK274))
  go_loopg [5, 12] k (fun kq v5 v12 w' => ∃ (x5_1 : Int) (x12_1 : Int), v5 = .int .i64 x5_1 ∧ v12 = .int .i64 x12_1 ∧ Aside0 (impl_Edge_ascend.l0 kq a1 x5_1 l0_0 (l0_0.length : Int) x12_1 = some r) ∧ Aside0 (kq ≤ k) ∧ Aside0 (w'.heap[gb274]? = some (.cells #[(.slice A0_0 l0_0.length c0_0), .func (.func 155) #[] #[]] 115 (0, 0))) ∧ Aside0 (Below w.heap.size w w'))
  case atStart => exact ⟨((-1)), (0), sm_, sm_, H', ⟨Nat.le_refl _⟩, ⟨by refine pe_ ?_; exact BK274.out⟩, ⟨bel_⟩⟩
  case round =>
    clear H'
    try clear p2
    try clear hcz4_0 hcz4_1
    try clear hfz4_0 hfz4_1
    obtain ⟨x5_1, x12_1, rfl, rfl, HA, HK1, BK274, HB⟩ := hrel
    cases gk with
    | zero => exact absurd HA.out (by simp [impl_Edge_ascend.l0])
    | succ k1 =>
      have H := HA.out
      clear HA
      simp only [impl_Edge_ascend.l0] at H
      by_cases c5 : x12_1 < (l0_0.length : Int)
      rotate_left
      · rw [if_neg c5] at H
        have c5b0 : decide (x12_1 < (l0_0.length : Int)) = false := decide_eq_false c5
        clear c5
        obtain rfl := Option.some.inj H
        go_wp2
        go_ret
        exact re_
      rw [if_pos c5] at H
      have c5b0 : decide (x12_1 < (l0_0.length : Int)) = true := decide_eq_true c5
      clear c5
      by_cases c6 : 0 ≤ x12_1
      rotate_left
      · rw [if_neg c6] at H
        exact absurd H (by simp)
      rw [if_pos c6] at H
      have c6b0 : decide (0 ≤ x12_1) = true := decide_eq_true c6
      clear c6
      by_cases c7 : x12_1 < (l0_0.length : Int)
      rotate_left
      · rw [if_neg c7] at H
        exact absurd H (by simp)
      rw [if_pos c7] at H
      have c7b0 : decide (x12_1 < (l0_0.length : Int)) = true := decide_eq_true c7
      clear c7
      replace H := Option.bind_eq_some_iff.mp H
      obtain ⟨t277, A80, H⟩ := H
      replace H : (if t277 ≤ x5_1 then (some false) else (if t277 ≥ a1 then (some false) else (impl_Edge_ascend.l0 k1 a1 t277 l0_0 (l0_0.length : Int) (wrap64 (x12_1 + 1))))) = some r := H
      have A8 := Aside0.mk A80
      clear A80
      by_cases c9 : t277 ≤ x5_1
      · rw [if_pos c9] at H
        have c9b0 : decide (t277 ≤ x5_1) = true := decide_eq_true c9
        clear c9
        obtain rfl := Option.some.inj H
        have p275 : 0 ≤ (x12_1 : Int) := od_
        have q275 : x12_1 < (l0_0.length : Int) := od_
        obtain ⟨ad275, A275_4, c275_4, e275, hx275_0, hx275_1, hx275_2, hx275_3, hx275_4, hl275_4, hi275_4⟩ := at_T104 HR0_0.out x12_1 p275 q275
        cases e275
        replace hx275_0 := mv_ HB hx275_0
        replace hx275_1 := mv_ HB hx275_1
        replace hx275_2 := mv_ HB hx275_2
        replace hx275_3 := mv_ HB hx275_3
        replace hx275_4 := mv_ HB hx275_4
        have HR275_4 := Aside0.mk hi275_4
        have HC275_4 := Aside0.mk hl275_4
        clear hi275_4 hl275_4
        replace p275 := eq_true p275
        replace q275 := eq_true q275
        go_wp2_with (first | ((with_reducible refine gate_dst (N := 7) rfl ?_); refine bx_ 7 #[.int .i64 0, .string (⟨#[]⟩ : ByteArray), .int .i64 0, .int .i64 0, .slice none 0 0] 104 ?_; intro gb276 hg w10 hbox hb; have BK276 := Aside0.mk (hbox); have GW276 := gw_ hg; have GE276 := gw_ hg; have NB274_276 := nlt_ hg BK274; have NB276_274 := ngt_ hg BK274; replace BK274 := bb_ BK274 hb; replace HB := bs_ hb; clear hb hbox hg; have hnb11 := NB276_274.out; have hnc11 := NB274_276.out; obtain ⟨hcz12_0, hcz12_1, hcz12_2, hcz12_3, hcz12_4, hfz12_0, hfz12_1, hfz12_2, hfz12_3, hfz12_4⟩ := blk5 BK276; obtain ⟨hcz13_0, hcz13_1, hfz13_0, hfz13_1⟩ := blk2 BK274) | ((with_reducible refine gate_dst (N := 19) rfl ?_); refine goesT_ (some 19) rfl rfl Try.func155 (by kernel_rfl) rfl #[.agg #[.int .i64 ((rd_T104 l0_0 x12_1).f0), .string ((rd_T104 l0_0 x12_1).f1), .int .i64 ((rd_T104 l0_0 x12_1).f2), .int .i64 ((rd_T104 l0_0 x12_1).f3), .slice A275_4 ((rd_T104 l0_0 x12_1).f4).length c275_4]] rfl rfl ar_ ?_; (with_reducible refine (impl_edgesIn_1.calls ((rd_T104 l0_0 x12_1).f0) ((rd_T104 l0_0 x12_1).f1) ((rd_T104 l0_0 x12_1).f2) ((rd_T104 l0_0 x12_1).f3) _ _ ((rd_T104 l0_0 x12_1).f4) t277 _ ?side1 ?side2 A8.out).mono ?_); (case side1 => exact Kd.C_below HR275_4.out (bel_)); (case side2 => exact HC275_4.out); rintro e w14 ⟨rfl, hb⟩; refine ⟨_, rfl, ?_⟩; replace BK274 := Aside0.mk (blk_below (g := gb274) (o := .cells #[.slice (some ad275) l0_0.length c0_0, .func (.func 155) #[] #[]] 115 (0, 0)) (by refine pe_ ?_; refine blk_far ?_ NB274_276.out _; refine pe_ ?_; refine blk_far ?_ NB274_276.out _; refine pe_ ?_; refine blk_far ?_ NB274_276.out _; refine pe_ ?_; refine blk_far ?_ NB274_276.out _; refine pe_ ?_; refine blk_far ?_ NB274_276.out _; refine pe_ ?_; exact BK274.out) hb); replace BK276 := Aside0.mk (blk_below (g := gb276) (o := .cells #[.int .i64 ((rd_T104 l0_0 x12_1).f0), .string ((rd_T104 l0_0 x12_1).f1), .int .i64 ((rd_T104 l0_0 x12_1).f2), .int .i64 ((rd_T104 l0_0 x12_1).f3), .slice A275_4 ((rd_T104 l0_0 x12_1).f4).length c275_4] 104 (0, 0)) (by refine pe_ ?_; refine blk_put (cs := #[.int .i64 ((rd_T104 l0_0 x12_1).f0), .string ((rd_T104 l0_0 x12_1).f1), .int .i64 ((rd_T104 l0_0 x12_1).f2), .int .i64 ((rd_T104 l0_0 x12_1).f3), .slice none 0 0]) ?_ 4 _ rfl; refine pe_ ?_; refine blk_put (cs := #[.int .i64 ((rd_T104 l0_0 x12_1).f0), .string ((rd_T104 l0_0 x12_1).f1), .int .i64 ((rd_T104 l0_0 x12_1).f2), .int .i64 0, .slice none 0 0]) ?_ 3 _ rfl; refine pe_ ?_; refine blk_put (cs := #[.int .i64 ((rd_T104 l0_0 x12_1).f0), .string ((rd_T104 l0_0 x12_1).f1), .int .i64 0, .int .i64 0, .slice none 0 0]) ?_ 2 _ rfl; refine pe_ ?_; refine blk_put (cs := #[.int .i64 ((rd_T104 l0_0 x12_1).f0), .string (⟨#[]⟩ : ByteArray), .int .i64 0, .int .i64 0, .slice none 0 0]) ?_ 1 _ rfl; refine pe_ ?_; refine blk_put (cs := #[.int .i64 0, .string (⟨#[]⟩ : ByteArray), .int .i64 0, .int .i64 0, .slice none 0 0]) ?_ 0 _ rfl; refine pe_ ?_; exact BK276.out) hb); replace HB := bs_ hb; (try clear hb); (try clear hb2); (try clear hk); (try clear hi)))
        go_ret
        exact re_
      rw [if_neg c9] at H
      have c9b0 : decide (t277 ≤ x5_1) = false := decide_eq_false c9
      clear c9
      by_cases c15 : t277 ≥ a1
      · rw [if_pos c15] at H
        have c15b0 : decide (a1 ≤ t277) = true := decide_eq_true c15
        clear c15
        obtain rfl := Option.some.inj H
        have p275 : 0 ≤ (x12_1 : Int) := od_
        have q275 : x12_1 < (l0_0.length : Int) := od_
        obtain ⟨ad275, A275_4, c275_4, e275, hx275_0, hx275_1, hx275_2, hx275_3, hx275_4, hl275_4, hi275_4⟩ := at_T104 HR0_0.out x12_1 p275 q275
        cases e275
        replace hx275_0 := mv_ HB hx275_0
        replace hx275_1 := mv_ HB hx275_1
        replace hx275_2 := mv_ HB hx275_2
        replace hx275_3 := mv_ HB hx275_3
        replace hx275_4 := mv_ HB hx275_4
        have HR275_4 := Aside0.mk hi275_4
        have HC275_4 := Aside0.mk hl275_4
        clear hi275_4 hl275_4
        replace p275 := eq_true p275
        replace q275 := eq_true q275
        go_wp2_with (first | ((with_reducible refine gate_dst (N := 7) rfl ?_); refine bx_ 7 #[.int .i64 0, .string (⟨#[]⟩ : ByteArray), .int .i64 0, .int .i64 0, .slice none 0 0] 104 ?_; intro gb276 hg w16 hbox hb; have BK276 := Aside0.mk (hbox); have GW276 := gw_ hg; have GE276 := gw_ hg; have NB274_276 := nlt_ hg BK274; have NB276_274 := ngt_ hg BK274; replace BK274 := bb_ BK274 hb; replace HB := bs_ hb; clear hb hbox hg; have hnb17 := NB276_274.out; have hnc17 := NB274_276.out; obtain ⟨hcz18_0, hcz18_1, hcz18_2, hcz18_3, hcz18_4, hfz18_0, hfz18_1, hfz18_2, hfz18_3, hfz18_4⟩ := blk5 BK276; obtain ⟨hcz19_0, hcz19_1, hfz19_0, hfz19_1⟩ := blk2 BK274) | ((with_reducible refine gate_dst (N := 19) rfl ?_); refine goesT_ (some 19) rfl rfl Try.func155 (by kernel_rfl) rfl #[.agg #[.int .i64 ((rd_T104 l0_0 x12_1).f0), .string ((rd_T104 l0_0 x12_1).f1), .int .i64 ((rd_T104 l0_0 x12_1).f2), .int .i64 ((rd_T104 l0_0 x12_1).f3), .slice A275_4 ((rd_T104 l0_0 x12_1).f4).length c275_4]] rfl rfl ar_ ?_; (with_reducible refine (impl_edgesIn_1.calls ((rd_T104 l0_0 x12_1).f0) ((rd_T104 l0_0 x12_1).f1) ((rd_T104 l0_0 x12_1).f2) ((rd_T104 l0_0 x12_1).f3) _ _ ((rd_T104 l0_0 x12_1).f4) t277 _ ?side1 ?side2 A8.out).mono ?_); (case side1 => exact Kd.C_below HR275_4.out (bel_)); (case side2 => exact HC275_4.out); rintro e w20 ⟨rfl, hb⟩; refine ⟨_, rfl, ?_⟩; replace BK274 := Aside0.mk (blk_below (g := gb274) (o := .cells #[.slice (some ad275) l0_0.length c0_0, .func (.func 155) #[] #[]] 115 (0, 0)) (by refine pe_ ?_; refine blk_far ?_ NB274_276.out _; refine pe_ ?_; refine blk_far ?_ NB274_276.out _; refine pe_ ?_; refine blk_far ?_ NB274_276.out _; refine pe_ ?_; refine blk_far ?_ NB274_276.out _; refine pe_ ?_; refine blk_far ?_ NB274_276.out _; refine pe_ ?_; exact BK274.out) hb); replace BK276 := Aside0.mk (blk_below (g := gb276) (o := .cells #[.int .i64 ((rd_T104 l0_0 x12_1).f0), .string ((rd_T104 l0_0 x12_1).f1), .int .i64 ((rd_T104 l0_0 x12_1).f2), .int .i64 ((rd_T104 l0_0 x12_1).f3), .slice A275_4 ((rd_T104 l0_0 x12_1).f4).length c275_4] 104 (0, 0)) (by refine pe_ ?_; refine blk_put (cs := #[.int .i64 ((rd_T104 l0_0 x12_1).f0), .string ((rd_T104 l0_0 x12_1).f1), .int .i64 ((rd_T104 l0_0 x12_1).f2), .int .i64 ((rd_T104 l0_0 x12_1).f3), .slice none 0 0]) ?_ 4 _ rfl; refine pe_ ?_; refine blk_put (cs := #[.int .i64 ((rd_T104 l0_0 x12_1).f0), .string ((rd_T104 l0_0 x12_1).f1), .int .i64 ((rd_T104 l0_0 x12_1).f2), .int .i64 0, .slice none 0 0]) ?_ 3 _ rfl; refine pe_ ?_; refine blk_put (cs := #[.int .i64 ((rd_T104 l0_0 x12_1).f0), .string ((rd_T104 l0_0 x12_1).f1), .int .i64 0, .int .i64 0, .slice none 0 0]) ?_ 2 _ rfl; refine pe_ ?_; refine blk_put (cs := #[.int .i64 ((rd_T104 l0_0 x12_1).f0), .string (⟨#[]⟩ : ByteArray), .int .i64 0, .int .i64 0, .slice none 0 0]) ?_ 1 _ rfl; refine pe_ ?_; refine blk_put (cs := #[.int .i64 0, .string (⟨#[]⟩ : ByteArray), .int .i64 0, .int .i64 0, .slice none 0 0]) ?_ 0 _ rfl; refine pe_ ?_; exact BK276.out) hb); replace HB := bs_ hb; (try clear hb); (try clear hb2); (try clear hk); (try clear hi)))
        go_ret
        exact re_
      rw [if_neg c15] at H
      have c15b0 : decide (a1 ≤ t277) = false := decide_eq_false c15
      clear c15
      have H' := Aside0.mk H
      clear H
      have p275 : 0 ≤ (x12_1 : Int) := od_
      have q275 : x12_1 < (l0_0.length : Int) := od_
      obtain ⟨ad275, A275_4, c275_4, e275, hx275_0, hx275_1, hx275_2, hx275_3, hx275_4, hl275_4, hi275_4⟩ := at_T104 HR0_0.out x12_1 p275 q275
      cases e275
      replace hx275_0 := mv_ HB hx275_0
      replace hx275_1 := mv_ HB hx275_1
      replace hx275_2 := mv_ HB hx275_2
      replace hx275_3 := mv_ HB hx275_3
      replace hx275_4 := mv_ HB hx275_4
      have HR275_4 := Aside0.mk hi275_4
      have HC275_4 := Aside0.mk hl275_4
      clear hi275_4 hl275_4
      replace p275 := eq_true p275
      replace q275 := eq_true q275
      go_wp2_with (first | ((with_reducible refine gate_dst (N := 7) rfl ?_); refine bx_ 7 #[.int .i64 0, .string (⟨#[]⟩ : ByteArray), .int .i64 0, .int .i64 0, .slice none 0 0] 104 ?_; intro gb276 hg w21 hbox hb; have BK276 := Aside0.mk (hbox); have GW276 := gw_ hg; have GE276 := gw_ hg; have NB274_276 := nlt_ hg BK274; have NB276_274 := ngt_ hg BK274; replace BK274 := bb_ BK274 hb; replace HB := bs_ hb; clear hb hbox hg; have hnb22 := NB276_274.out; have hnc22 := NB274_276.out; obtain ⟨hcz23_0, hcz23_1, hcz23_2, hcz23_3, hcz23_4, hfz23_0, hfz23_1, hfz23_2, hfz23_3, hfz23_4⟩ := blk5 BK276; obtain ⟨hcz24_0, hcz24_1, hfz24_0, hfz24_1⟩ := blk2 BK274) | ((with_reducible refine gate_dst (N := 19) rfl ?_); refine goesT_ (some 19) rfl rfl Try.func155 (by kernel_rfl) rfl #[.agg #[.int .i64 ((rd_T104 l0_0 x12_1).f0), .string ((rd_T104 l0_0 x12_1).f1), .int .i64 ((rd_T104 l0_0 x12_1).f2), .int .i64 ((rd_T104 l0_0 x12_1).f3), .slice A275_4 ((rd_T104 l0_0 x12_1).f4).length c275_4]] rfl rfl ar_ ?_; (with_reducible refine (impl_edgesIn_1.calls ((rd_T104 l0_0 x12_1).f0) ((rd_T104 l0_0 x12_1).f1) ((rd_T104 l0_0 x12_1).f2) ((rd_T104 l0_0 x12_1).f3) _ _ ((rd_T104 l0_0 x12_1).f4) t277 _ ?side1 ?side2 A8.out).mono ?_); (case side1 => exact Kd.C_below HR275_4.out (bel_)); (case side2 => exact HC275_4.out); rintro e w25 ⟨rfl, hb⟩; refine ⟨_, rfl, ?_⟩; replace BK274 := Aside0.mk (blk_below (g := gb274) (o := .cells #[.slice (some ad275) l0_0.length c0_0, .func (.func 155) #[] #[]] 115 (0, 0)) (by refine pe_ ?_; refine blk_far ?_ NB274_276.out _; refine pe_ ?_; refine blk_far ?_ NB274_276.out _; refine pe_ ?_; refine blk_far ?_ NB274_276.out _; refine pe_ ?_; refine blk_far ?_ NB274_276.out _; refine pe_ ?_; refine blk_far ?_ NB274_276.out _; refine pe_ ?_; exact BK274.out) hb); replace BK276 := Aside0.mk (blk_below (g := gb276) (o := .cells #[.int .i64 ((rd_T104 l0_0 x12_1).f0), .string ((rd_T104 l0_0 x12_1).f1), .int .i64 ((rd_T104 l0_0 x12_1).f2), .int .i64 ((rd_T104 l0_0 x12_1).f3), .slice A275_4 ((rd_T104 l0_0 x12_1).f4).length c275_4] 104 (0, 0)) (by refine pe_ ?_; refine blk_put (cs := #[.int .i64 ((rd_T104 l0_0 x12_1).f0), .string ((rd_T104 l0_0 x12_1).f1), .int .i64 ((rd_T104 l0_0 x12_1).f2), .int .i64 ((rd_T104 l0_0 x12_1).f3), .slice none 0 0]) ?_ 4 _ rfl; refine pe_ ?_; refine blk_put (cs := #[.int .i64 ((rd_T104 l0_0 x12_1).f0), .string ((rd_T104 l0_0 x12_1).f1), .int .i64 ((rd_T104 l0_0 x12_1).f2), .int .i64 0, .slice none 0 0]) ?_ 3 _ rfl; refine pe_ ?_; refine blk_put (cs := #[.int .i64 ((rd_T104 l0_0 x12_1).f0), .string ((rd_T104 l0_0 x12_1).f1), .int .i64 0, .int .i64 0, .slice none 0 0]) ?_ 2 _ rfl; refine pe_ ?_; refine blk_put (cs := #[.int .i64 ((rd_T104 l0_0 x12_1).f0), .string (⟨#[]⟩ : ByteArray), .int .i64 0, .int .i64 0, .slice none 0 0]) ?_ 1 _ rfl; refine pe_ ?_; refine blk_put (cs := #[.int .i64 0, .string (⟨#[]⟩ : ByteArray), .int .i64 0, .int .i64 0, .slice none 0 0]) ?_ 0 _ rfl; refine pe_ ?_; exact BK276.out) hb); replace HB := bs_ hb; (try clear hb); (try clear hb2); (try clear hk); (try clear hi)))
      go_roundg k1
      case measure => have := HK1.out; omega
      case rel => exact ⟨(t277), (wrap64 (x12_1 + 1)), sm_, sm_, H', ⟨by have := HK1.out; omega⟩, ⟨by refine pe_ ?_; exact BK274.out⟩, ⟨bel_⟩⟩

/-! ### impl_isLetter: function 156 -/
def impl_isLetter.f (a0 : Int) : Option (Bool) := if a0 ≥ 97 then (if a0 ≤ 122 then (some true) else (if a0 ≥ 65 then (some (decide (a0 ≤ 90))) else (some false))) else (if a0 ≥ 65 then (some (decide (a0 ≤ 90))) else (some false))
set_option maxHeartbeats 8000000 in
set_option maxRecDepth 100000 in
theorem impl_isLetter.calls (a0 : Int) (r : Bool) (w : World) (h : impl_isLetter.f a0 = some r) :
    Calls Try.prog 156 #[.int .u8 a0] w fun e w' => e = .returned (.bool r) ∧ Drawn0 w w' := by
  have H : (if a0 ≥ 97 then (if a0 ≤ 122 then (some true) else (if a0 ≥ 65 then (some (decide (a0 ≤ 90))) else (some false))) else (if a0 ≥ 65 then (some (decide (a0 ≤ 90))) else (some false))) = some r := h
  clear h
  by_cases c2 : a0 ≥ 97
  rotate_left
  · rw [if_neg c2] at H
    have c2b0 : decide (97 ≤ a0) = false := decide_eq_false c2
    clear c2
    by_cases c5 : a0 ≥ 65
    · rw [if_pos c5] at H
      have c5b0 : decide (65 ≤ a0) = true := decide_eq_true c5
      clear c5
      obtain rfl := Option.some.inj H
      go_enter Try.func156, Try.ntmps156
      go_wp2
      go_ret
      exact rd_
    rw [if_neg c5] at H
    have c5b0 : decide (65 ≤ a0) = false := decide_eq_false c5
    clear c5
    obtain rfl := Option.some.inj H
    go_enter Try.func156, Try.ntmps156
    go_wp2
    go_ret
    exact rd_
  rw [if_pos c2] at H
  have c2b0 : decide (97 ≤ a0) = true := decide_eq_true c2
  clear c2
  by_cases c3 : a0 ≤ 122
  · rw [if_pos c3] at H
    have c3b0 : decide (a0 ≤ 122) = true := decide_eq_true c3
    clear c3
    obtain rfl := Option.some.inj H
    go_enter Try.func156, Try.ntmps156
    go_wp2
    go_ret
    exact rd_
  rw [if_neg c3] at H
  have c3b0 : decide (a0 ≤ 122) = false := decide_eq_false c3
  clear c3
  by_cases c4 : a0 ≥ 65
  · rw [if_pos c4] at H
    have c4b0 : decide (65 ≤ a0) = true := decide_eq_true c4
    clear c4
    obtain rfl := Option.some.inj H
    go_enter Try.func156, Try.ntmps156
    go_wp2
    go_ret
    exact rd_
  rw [if_neg c4] at H
  have c4b0 : decide (65 ≤ a0) = false := decide_eq_false c4
  clear c4
  obtain rfl := Option.some.inj H
  go_enter Try.func156, Try.ntmps156
  go_wp2
  go_ret
  exact rd_

/-! ### impl_isFigure: function 157 -/
def impl_isFigure.f (a0 : Int) : Option (Bool) := if a0 ≥ 48 then (some (decide (a0 ≤ 57))) else (some false)
set_option maxHeartbeats 8000000 in
set_option maxRecDepth 100000 in
theorem impl_isFigure.calls (a0 : Int) (r : Bool) (w : World) (h : impl_isFigure.f a0 = some r) :
    Calls Try.prog 157 #[.int .u8 a0] w fun e w' => e = .returned (.bool r) ∧ Drawn0 w w' := by
  have H : (if a0 ≥ 48 then (some (decide (a0 ≤ 57))) else (some false)) = some r := h
  clear h
  by_cases c2 : a0 ≥ 48
  · rw [if_pos c2] at H
    have c2b0 : decide (48 ≤ a0) = true := decide_eq_true c2
    clear c2
    obtain rfl := Option.some.inj H
    go_enter Try.func157, Try.ntmps157
    go_wp2
    go_ret
    exact rd_
  rw [if_neg c2] at H
  have c2b0 : decide (48 ≤ a0) = false := decide_eq_false c2
  clear c2
  obtain rfl := Option.some.inj H
  go_enter Try.func157, Try.ntmps157
  go_wp2
  go_ret
  exact rd_

/-! ### impl_NameOk: function 82 -/
mutual
def impl_NameOk.j0 : Nat → ByteArray → Bool → Option (Bool)
  | 0, _, _ => none
  | k + 1, x0, x16 => if x16 = true then (some false) else (impl_NameOk.l0 k x0 1)
def impl_NameOk.l0 : Nat → ByteArray → Int → Option (Bool)
  | 0, _, _ => none
  | k + 1, x0, x3 => if x3 < (x0.size : Int) then (if 0 ≤ x3 then ((impl_isLetter.f (bt x0 x3)).bind fun t279 => (if t279 = true then (impl_NameOk.l0 k x0 (wrap64 (x3 + 1))) else ((impl_isFigure.f (bt x0 x3)).bind fun t280 => (if t280 = true then (impl_NameOk.l0 k x0 (wrap64 (x3 + 1))) else (some false))))) else (none)) else (if x0.toList = ([77, 65, 84, 67, 72] : List UInt8) then (some false) else (if x0.toList = ([79, 80, 84, 73, 79, 78, 65, 76] : List UInt8) then (some false) else (if x0.toList = ([87, 72, 69, 82, 69] : List UInt8) then (some false) else (if x0.toList = ([85, 78, 87, 73, 78, 68] : List UInt8) then (some false) else (if x0.toList = ([87, 73, 84, 72] : List UInt8) then (some false) else (if x0.toList = ([82, 69, 84, 85, 82, 78] : List UInt8) then (some false) else (if x0.toList = ([67, 82, 69, 65, 84, 69] : List UInt8) then (some false) else (if x0.toList = ([83, 69, 84] : List UInt8) then (some false) else (if x0.toList = ([68, 69, 76, 69, 84, 69] : List UInt8) then (some false) else (if x0.toList = ([68, 69, 84, 65, 67, 72] : List UInt8) then (some false) else (if x0.toList = ([65, 83] : List UInt8) then (some false) else (if x0.toList = ([65, 78, 68] : List UInt8) then (some false) else (if x0.toList = ([79, 82] : List UInt8) then (some false) else (if x0.toList = ([78, 79, 84] : List UInt8) then (some false) else (if x0.toList = ([73, 83] : List UInt8) then (some false) else (if x0.toList = ([78, 85, 76, 76] : List UInt8) then (some false) else (if x0.toList = ([73, 78] : List UInt8) then (some false) else (if x0.toList = ([68, 73, 83, 84, 73, 78, 67, 84] : List UInt8) then (some false) else (if x0.toList = ([79, 82, 68, 69, 82] : List UInt8) then (some false) else (if x0.toList = ([66, 89] : List UInt8) then (some false) else (if x0.toList = ([68, 69, 83, 67] : List UInt8) then (some false) else (if x0.toList = ([83, 75, 73, 80] : List UInt8) then (some false) else (if x0.toList = ([76, 73, 77, 73, 84] : List UInt8) then (some false) else (if x0.toList = ([110, 117, 108, 108] : List UInt8) then (some false) else (if x0.toList = ([116, 114, 117, 101] : List UInt8) then (some false) else (if x0.toList = ([102, 97, 108, 115, 101] : List UInt8) then (some false) else (if x0.toList = ([99, 111, 117, 110, 116] : List UInt8) then (some false) else (if x0.toList = ([115, 117, 109] : List UInt8) then (some false) else (if x0.toList = ([115, 105, 122, 101] : List UInt8) then (some false) else (some true))))))))))))))))))))))))))))))
end
def impl_NameOk.f (k : Nat) (a0 : ByteArray) : Option (Bool) := if a0.toList = ([] : List UInt8) then (impl_NameOk.j0 k a0 true) else (if (a0.size : Int) > 8 then (impl_NameOk.j0 k a0 true) else (if 0 < (a0.size : Int) then ((impl_isLetter.f (bt a0 0)).bind fun t278 => (impl_NameOk.j0 k a0 (!t278))) else (none)))
set_option maxHeartbeats 8000000 in
set_option maxRecDepth 100000 in
theorem impl_NameOk.calls (k : Nat) (a0 : ByteArray) (r : Bool) (w : World) (h : impl_NameOk.f k a0 = some r) :
    Calls Try.prog 82 #[.string a0] w fun e w' => e = .returned (.bool r) ∧ Drawn0 w w' := by
  have H : (if a0.toList = ([] : List UInt8) then (impl_NameOk.j0 k a0 true) else (if (a0.size : Int) > 8 then (impl_NameOk.j0 k a0 true) else (if 0 < (a0.size : Int) then ((impl_isLetter.f (bt a0 0)).bind fun t278 => (impl_NameOk.j0 k a0 (!t278))) else (none)))) = some r := h
  clear h
  have HC2 := Aside0.mk H
  clear H
  go_enter Try.func82, Try.ntmps82
  go_upto_region 1 with (fail)
  go_cut [16] (fun v16 wc => ∃ (kq : Nat) (x16_1 : Bool), v16 = .bool x16_1 ∧ Aside0 (impl_NameOk.j0 kq a0 x16_1 = some r) ∧ Aside0 (kq ≤ k) ∧ Drawn0 w wc)
  case first =>
    have H := HC2.out
    clear HC2
    by_cases c3 : a0.toList = ([] : List UInt8)
    · rw [if_pos c3] at H
      have c3b0 : (a0.toList == ([] : List UInt8)) = true := beq_iff_eq.mpr c3
      have c3b1 : (a0.toList != ([] : List UInt8)) = false := bne_eq_false_iff_eq.mpr c3
      clear c3
      (first | rw [c3b0] | (simp only [i64_w, i32_w]; rw [c3b0]) | skip)
      have H' := Aside0.mk H
      clear H
      go_wp2
      go_meet
      case rel => exact ⟨_, (true), sm_, H', ⟨by first | omega | exact Nat.le_refl _⟩, by repeat (first | exact Drawn0.refl _ | apply Drawn0.step)⟩
    rw [if_neg c3] at H
    have c3b0 : (a0.toList == ([] : List UInt8)) = false := beq_eq_false_iff_ne.mpr c3
    have c3b1 : (a0.toList != ([] : List UInt8)) = true := bne_iff_ne.mpr c3
    (first | rw [c3b0] | (simp only [i64_w, i32_w]; rw [c3b0]) | skip)
    by_cases c4 : (a0.size : Int) > 8
    · rw [if_pos c4] at H
      have c4b0 : decide (8 < (a0.size : Int)) = true := decide_eq_true c4
      have c4b1 : decide (8 < a0.size) = true := decide_eq_true (by omega)
      clear c4
      have H' := Aside0.mk H
      clear H
      go_wp2
      go_meet
      case rel => exact ⟨_, (true), sm_, H', ⟨by first | omega | exact Nat.le_refl _⟩, by repeat (first | exact Drawn0.refl _ | apply Drawn0.step)⟩
    rw [if_neg c4] at H
    have c4b0 : decide (8 < (a0.size : Int)) = false := decide_eq_false c4
    have c4b1 : decide (8 < a0.size) = false := decide_eq_false (by omega)
    clear c4
    by_cases c5 : 0 < (a0.size : Int)
    rotate_left
    · rw [if_neg c5] at H
      exact absurd H (by simp)
    rw [if_pos c5] at H
    have c5b0 : decide (0 < (a0.size : Int)) = true := decide_eq_true c5
    have c5b1 : decide (0 < a0.size) = true := decide_eq_true (by omega)
    clear c5
    replace H := Option.bind_eq_some_iff.mp H
    obtain ⟨t278, A70, H⟩ := H
    replace H : (impl_NameOk.j0 k a0 (!t278)) = some r := H
    have A7 := Aside0.mk A70
    clear A70
    have H' := Aside0.mk H
    clear H
    have p6 : 0 ≤ (0 : Int) := (by omega)
    have q6 : 0 < a0.size := (by have : (0 : Int) < (a0.size : Int) := od_; omega)
    have hx6 : ∀ h : 0 < a0.size, ((a0[0]'h).toNat : Int) = bt a0 0 := bt_at a0 0
    clear p6
    have qi6 : (0 < (a0.size : Int)) = True := eq_true (od_)
    replace q6 := eq_true q6
    go_wp2_with (first | (go_at_call 156; (with_reducible refine (impl_isLetter.calls (bt a0 0) t278 _ A7.out).mono ?_); rintro e w' ⟨rfl, ⟨nd, rfl⟩⟩))
    go_meet
    case rel => exact ⟨_, (!t278), sm_, H', ⟨by first | omega | exact Nat.le_refl _⟩, by repeat (first | exact Drawn0.refl _ | apply Drawn0.step)⟩
  case rest =>
    clear HC2
    try clear p2
    try clear c3
    try clear c3b0
    try clear c3b1
    try clear c4
    try clear c4b0
    try clear c4b1
    try clear c5
    try clear c5b0
    try clear c5b1
    try clear p6
    try clear q6
    try clear hx6
    try clear qi6
    try clear p6
    try clear q6
    obtain ⟨kq, x16_1, rfl, HA, HJ1, ⟨mc1, rfl⟩⟩ := hcut
    cases kq with
    | zero => exact absurd HA.out (by simp [impl_NameOk.j0])
    | succ kj1 =>
      have H := HA.out
      clear HA
      simp only [impl_NameOk.j0] at H
      by_cases c8 : x16_1 = true
      · subst c8
        have H1 : (some false) = some r := by rw [if_pos rfl] at H; exact H
        clear H
        have H := H1
        clear H1
        obtain rfl := Option.some.inj H
        go_wp2
        go_ret
        exact rd_
      replace c8 := Bool.eq_false_iff.mpr c8
      subst c8
      have H1 : (impl_NameOk.l0 kj1 a0 1) = some r := by rw [if_neg (show ¬ (false = true) by decide)] at H; exact H
      clear H
      have H := H1
      clear H1
      have H' := Aside0.mk H
      clear H
      go_wp2
      go_loopg [3] kj1 (fun kq v3 w' => ∃ (x3_2 : Int), v3 = .int .i64 x3_2 ∧ Aside0 (impl_NameOk.l0 kq a0 x3_2 = some r) ∧ Aside0 (kq ≤ kj1) ∧ Drawn0 w w')
      case atStart => exact ⟨(1), sm_, H', ⟨Nat.le_refl _⟩, by repeat (first | exact Drawn0.refl _ | apply Drawn0.step)⟩
      case round =>
        clear H'
        try clear c1
        try clear p2
        try clear c3
        try clear c3b0
        try clear c3b1
        try clear c4
        try clear c4b0
        try clear c4b1
        try clear c5
        try clear c5b0
        try clear c5b1
        try clear p6
        try clear q6
        try clear hx6
        try clear qi6
        try clear c8
        try clear p2
        try clear p6
        try clear q6
        obtain ⟨x3_2, rfl, HA, HK2, ⟨m2, rfl⟩⟩ := hrel
        cases gk with
        | zero => exact absurd HA.out (by simp [impl_NameOk.l0])
        | succ k2 =>
          have H := HA.out
          clear HA
          simp only [impl_NameOk.l0] at H
          by_cases c9 : x3_2 < (a0.size : Int)
          · rw [if_pos c9] at H
            have c9b0 : decide (x3_2 < (a0.size : Int)) = true := decide_eq_true c9
            clear c9
            by_cases c10 : 0 ≤ x3_2
            rotate_left
            · rw [if_neg c10] at H
              exact absurd H (by simp)
            rw [if_pos c10] at H
            have c10b0 : decide (0 ≤ x3_2) = true := decide_eq_true c10
            clear c10
            replace H := Option.bind_eq_some_iff.mp H
            obtain ⟨t279, A120, H⟩ := H
            replace H : (if t279 = true then (impl_NameOk.l0 k2 a0 (wrap64 (x3_2 + 1))) else ((impl_isFigure.f (bt a0 x3_2)).bind fun t280 => (if t280 = true then (impl_NameOk.l0 k2 a0 (wrap64 (x3_2 + 1))) else (some false)))) = some r := H
            have A12 := Aside0.mk A120
            clear A120
            by_cases c13 : t279 = true
            · subst c13
              have H1 : (impl_NameOk.l0 k2 a0 (wrap64 (x3_2 + 1))) = some r := by rw [if_pos rfl] at H; exact H
              clear H
              have H := H1
              clear H1
              have H' := Aside0.mk H
              clear H
              have p11 : 0 ≤ (x3_2 : Int) := od_
              have q11 : x3_2 < (a0.size : Int) := od_
              have hx11 := bt_at a0 x3_2
              replace p11 := eq_true p11
              replace q11 := eq_true q11
              go_wp2_with (first | ((with_reducible refine gate_callee (f := 156) rfl ?_); refine goesL_ (some 26) rfl rfl Try.func156 (by kernel_rfl) rfl #[.int .u8 (bt a0 x3_2)] rfl ar_ ?_; (with_reducible refine (impl_isLetter.calls (bt a0 x3_2) true _ A12.out).mono ?_); rintro e w' ⟨rfl, ⟨nd, rfl⟩⟩; refine ⟨_, rfl, ?_⟩))
              go_roundg k2
              case measure => have := HJ1.out; have := HK2.out; omega
              case rel => exact ⟨(wrap64 (x3_2 + 1)), sm_, H', ⟨by have := HJ1.out; have := HK2.out; omega⟩, by repeat (first | exact Drawn0.refl _ | apply Drawn0.step)⟩
            replace c13 := Bool.eq_false_iff.mpr c13
            subst c13
            have H1 : ((impl_isFigure.f (bt a0 x3_2)).bind fun t280 => (if t280 = true then (impl_NameOk.l0 k2 a0 (wrap64 (x3_2 + 1))) else (some false))) = some r := by rw [if_neg (show ¬ (false = true) by decide)] at H; exact H
            clear H
            have H := H1
            clear H1
            replace H := Option.bind_eq_some_iff.mp H
            obtain ⟨t280, A150, H⟩ := H
            replace H : (if t280 = true then (impl_NameOk.l0 k2 a0 (wrap64 (x3_2 + 1))) else (some false)) = some r := H
            have A15 := Aside0.mk A150
            clear A150
            by_cases c16 : t280 = true
            · subst c16
              have H1 : (impl_NameOk.l0 k2 a0 (wrap64 (x3_2 + 1))) = some r := by rw [if_pos rfl] at H; exact H
              clear H
              have H := H1
              clear H1
              have H' := Aside0.mk H
              clear H
              have p11 : 0 ≤ (x3_2 : Int) := od_
              have q11 : x3_2 < (a0.size : Int) := od_
              have hx11 := bt_at a0 x3_2
              replace p11 := eq_true p11
              replace q11 := eq_true q11
              go_wp2_with (first | ((with_reducible refine gate_callee (f := 156) rfl ?_); refine goesL_ (some 26) rfl rfl Try.func156 (by kernel_rfl) rfl #[.int .u8 (bt a0 x3_2)] rfl ar_ ?_; (with_reducible refine (impl_isLetter.calls (bt a0 x3_2) false _ A12.out).mono ?_); rintro e w' ⟨rfl, ⟨nd, rfl⟩⟩; refine ⟨_, rfl, ?_⟩; have p14 : 0 ≤ (x3_2 : Int) := od_; have q14 : x3_2 < (a0.size : Int) := od_; have hx14 := bt_at a0 x3_2; replace p14 := eq_true p14; replace q14 := eq_true q14) | (go_at_call 157; (with_reducible refine (impl_isFigure.calls (bt a0 x3_2) true _ A15.out).mono ?_); rintro e w' ⟨rfl, ⟨nd, rfl⟩⟩))
              go_roundg k2
              case measure => have := HJ1.out; have := HK2.out; omega
              case rel => exact ⟨(wrap64 (x3_2 + 1)), sm_, H', ⟨by have := HJ1.out; have := HK2.out; omega⟩, by repeat (first | exact Drawn0.refl _ | apply Drawn0.step)⟩
            replace c16 := Bool.eq_false_iff.mpr c16
            subst c16
            have H1 : (some false) = some r := by rw [if_neg (show ¬ (false = true) by decide)] at H; exact H
            clear H
            have H := H1
            clear H1
            obtain rfl := Option.some.inj H
            have p11 : 0 ≤ (x3_2 : Int) := od_
            have q11 : x3_2 < (a0.size : Int) := od_
            have hx11 := bt_at a0 x3_2
            replace p11 := eq_true p11
            replace q11 := eq_true q11
            go_wp2_with (first | ((with_reducible refine gate_callee (f := 156) rfl ?_); refine goesL_ (some 26) rfl rfl Try.func156 (by kernel_rfl) rfl #[.int .u8 (bt a0 x3_2)] rfl ar_ ?_; (with_reducible refine (impl_isLetter.calls (bt a0 x3_2) false _ A12.out).mono ?_); rintro e w' ⟨rfl, ⟨nd, rfl⟩⟩; refine ⟨_, rfl, ?_⟩; have p14 : 0 ≤ (x3_2 : Int) := od_; have q14 : x3_2 < (a0.size : Int) := od_; have hx14 := bt_at a0 x3_2; replace p14 := eq_true p14; replace q14 := eq_true q14) | (go_at_call 157; (with_reducible refine (impl_isFigure.calls (bt a0 x3_2) false _ A15.out).mono ?_); rintro e w' ⟨rfl, ⟨nd, rfl⟩⟩))
            go_ret
            exact rd_
          rw [if_neg c9] at H
          have c9b0 : decide (x3_2 < (a0.size : Int)) = false := decide_eq_false c9
          clear c9
          by_cases c17 : a0.toList = ([77, 65, 84, 67, 72] : List UInt8)
          · rw [if_pos c17] at H
            have c17b0 : (a0.toList == ([77, 65, 84, 67, 72] : List UInt8)) = true := beq_iff_eq.mpr c17
            have c17b1 : (a0.toList != ([77, 65, 84, 67, 72] : List UInt8)) = false := bne_eq_false_iff_eq.mpr c17
            clear c17
            obtain rfl := Option.some.inj H
            go_wp2
            go_ret
            exact rd_
          rw [if_neg c17] at H
          have c17b0 : (a0.toList == ([77, 65, 84, 67, 72] : List UInt8)) = false := beq_eq_false_iff_ne.mpr c17
          have c17b1 : (a0.toList != ([77, 65, 84, 67, 72] : List UInt8)) = true := bne_iff_ne.mpr c17
          by_cases c18 : a0.toList = ([79, 80, 84, 73, 79, 78, 65, 76] : List UInt8)
          · rw [if_pos c18] at H
            have c18b0 : (a0.toList == ([79, 80, 84, 73, 79, 78, 65, 76] : List UInt8)) = true := beq_iff_eq.mpr c18
            have c18b1 : (a0.toList != ([79, 80, 84, 73, 79, 78, 65, 76] : List UInt8)) = false := bne_eq_false_iff_eq.mpr c18
            clear c18
            obtain rfl := Option.some.inj H
            go_wp2
            go_ret
            exact rd_
          rw [if_neg c18] at H
          have c18b0 : (a0.toList == ([79, 80, 84, 73, 79, 78, 65, 76] : List UInt8)) = false := beq_eq_false_iff_ne.mpr c18
          have c18b1 : (a0.toList != ([79, 80, 84, 73, 79, 78, 65, 76] : List UInt8)) = true := bne_iff_ne.mpr c18
          by_cases c19 : a0.toList = ([87, 72, 69, 82, 69] : List UInt8)
          · rw [if_pos c19] at H
            have c19b0 : (a0.toList == ([87, 72, 69, 82, 69] : List UInt8)) = true := beq_iff_eq.mpr c19
            have c19b1 : (a0.toList != ([87, 72, 69, 82, 69] : List UInt8)) = false := bne_eq_false_iff_eq.mpr c19
            clear c19
            obtain rfl := Option.some.inj H
            go_wp2
            go_ret
            exact rd_
          rw [if_neg c19] at H
          have c19b0 : (a0.toList == ([87, 72, 69, 82, 69] : List UInt8)) = false := beq_eq_false_iff_ne.mpr c19
          have c19b1 : (a0.toList != ([87, 72, 69, 82, 69] : List UInt8)) = true := bne_iff_ne.mpr c19
          by_cases c20 : a0.toList = ([85, 78, 87, 73, 78, 68] : List UInt8)
          · rw [if_pos c20] at H
            have c20b0 : (a0.toList == ([85, 78, 87, 73, 78, 68] : List UInt8)) = true := beq_iff_eq.mpr c20
            have c20b1 : (a0.toList != ([85, 78, 87, 73, 78, 68] : List UInt8)) = false := bne_eq_false_iff_eq.mpr c20
            clear c20
            obtain rfl := Option.some.inj H
            go_wp2
            go_ret
            exact rd_
          rw [if_neg c20] at H
          have c20b0 : (a0.toList == ([85, 78, 87, 73, 78, 68] : List UInt8)) = false := beq_eq_false_iff_ne.mpr c20
          have c20b1 : (a0.toList != ([85, 78, 87, 73, 78, 68] : List UInt8)) = true := bne_iff_ne.mpr c20
          by_cases c21 : a0.toList = ([87, 73, 84, 72] : List UInt8)
          · rw [if_pos c21] at H
            have c21b0 : (a0.toList == ([87, 73, 84, 72] : List UInt8)) = true := beq_iff_eq.mpr c21
            have c21b1 : (a0.toList != ([87, 73, 84, 72] : List UInt8)) = false := bne_eq_false_iff_eq.mpr c21
            clear c21
            obtain rfl := Option.some.inj H
            go_wp2
            go_ret
            exact rd_
          rw [if_neg c21] at H
          have c21b0 : (a0.toList == ([87, 73, 84, 72] : List UInt8)) = false := beq_eq_false_iff_ne.mpr c21
          have c21b1 : (a0.toList != ([87, 73, 84, 72] : List UInt8)) = true := bne_iff_ne.mpr c21
          by_cases c22 : a0.toList = ([82, 69, 84, 85, 82, 78] : List UInt8)
          · rw [if_pos c22] at H
            have c22b0 : (a0.toList == ([82, 69, 84, 85, 82, 78] : List UInt8)) = true := beq_iff_eq.mpr c22
            have c22b1 : (a0.toList != ([82, 69, 84, 85, 82, 78] : List UInt8)) = false := bne_eq_false_iff_eq.mpr c22
            clear c22
            obtain rfl := Option.some.inj H
            go_wp2
            go_ret
            exact rd_
          rw [if_neg c22] at H
          have c22b0 : (a0.toList == ([82, 69, 84, 85, 82, 78] : List UInt8)) = false := beq_eq_false_iff_ne.mpr c22
          have c22b1 : (a0.toList != ([82, 69, 84, 85, 82, 78] : List UInt8)) = true := bne_iff_ne.mpr c22
          by_cases c23 : a0.toList = ([67, 82, 69, 65, 84, 69] : List UInt8)
          · rw [if_pos c23] at H
            have c23b0 : (a0.toList == ([67, 82, 69, 65, 84, 69] : List UInt8)) = true := beq_iff_eq.mpr c23
            have c23b1 : (a0.toList != ([67, 82, 69, 65, 84, 69] : List UInt8)) = false := bne_eq_false_iff_eq.mpr c23
            clear c23
            obtain rfl := Option.some.inj H
            go_wp2
            go_ret
            exact rd_
          rw [if_neg c23] at H
          have c23b0 : (a0.toList == ([67, 82, 69, 65, 84, 69] : List UInt8)) = false := beq_eq_false_iff_ne.mpr c23
          have c23b1 : (a0.toList != ([67, 82, 69, 65, 84, 69] : List UInt8)) = true := bne_iff_ne.mpr c23
          by_cases c24 : a0.toList = ([83, 69, 84] : List UInt8)
          · rw [if_pos c24] at H
            have c24b0 : (a0.toList == ([83, 69, 84] : List UInt8)) = true := beq_iff_eq.mpr c24
            have c24b1 : (a0.toList != ([83, 69, 84] : List UInt8)) = false := bne_eq_false_iff_eq.mpr c24
            clear c24
            obtain rfl := Option.some.inj H
            go_wp2
            go_ret
            exact rd_
          rw [if_neg c24] at H
          have c24b0 : (a0.toList == ([83, 69, 84] : List UInt8)) = false := beq_eq_false_iff_ne.mpr c24
          have c24b1 : (a0.toList != ([83, 69, 84] : List UInt8)) = true := bne_iff_ne.mpr c24
          by_cases c25 : a0.toList = ([68, 69, 76, 69, 84, 69] : List UInt8)
          · rw [if_pos c25] at H
            have c25b0 : (a0.toList == ([68, 69, 76, 69, 84, 69] : List UInt8)) = true := beq_iff_eq.mpr c25
            have c25b1 : (a0.toList != ([68, 69, 76, 69, 84, 69] : List UInt8)) = false := bne_eq_false_iff_eq.mpr c25
            clear c25
            obtain rfl := Option.some.inj H
            go_wp2
            go_ret
            exact rd_
          rw [if_neg c25] at H
          have c25b0 : (a0.toList == ([68, 69, 76, 69, 84, 69] : List UInt8)) = false := beq_eq_false_iff_ne.mpr c25
          have c25b1 : (a0.toList != ([68, 69, 76, 69, 84, 69] : List UInt8)) = true := bne_iff_ne.mpr c25
          by_cases c26 : a0.toList = ([68, 69, 84, 65, 67, 72] : List UInt8)
          · rw [if_pos c26] at H
            have c26b0 : (a0.toList == ([68, 69, 84, 65, 67, 72] : List UInt8)) = true := beq_iff_eq.mpr c26
            have c26b1 : (a0.toList != ([68, 69, 84, 65, 67, 72] : List UInt8)) = false := bne_eq_false_iff_eq.mpr c26
            clear c26
            obtain rfl := Option.some.inj H
            go_wp2
            go_ret
            exact rd_
          rw [if_neg c26] at H
          have c26b0 : (a0.toList == ([68, 69, 84, 65, 67, 72] : List UInt8)) = false := beq_eq_false_iff_ne.mpr c26
          have c26b1 : (a0.toList != ([68, 69, 84, 65, 67, 72] : List UInt8)) = true := bne_iff_ne.mpr c26
          by_cases c27 : a0.toList = ([65, 83] : List UInt8)
          · rw [if_pos c27] at H
            have c27b0 : (a0.toList == ([65, 83] : List UInt8)) = true := beq_iff_eq.mpr c27
            have c27b1 : (a0.toList != ([65, 83] : List UInt8)) = false := bne_eq_false_iff_eq.mpr c27
            clear c27
            obtain rfl := Option.some.inj H
            go_wp2
            go_ret
            exact rd_
          rw [if_neg c27] at H
          have c27b0 : (a0.toList == ([65, 83] : List UInt8)) = false := beq_eq_false_iff_ne.mpr c27
          have c27b1 : (a0.toList != ([65, 83] : List UInt8)) = true := bne_iff_ne.mpr c27
          by_cases c28 : a0.toList = ([65, 78, 68] : List UInt8)
          · rw [if_pos c28] at H
            have c28b0 : (a0.toList == ([65, 78, 68] : List UInt8)) = true := beq_iff_eq.mpr c28
            have c28b1 : (a0.toList != ([65, 78, 68] : List UInt8)) = false := bne_eq_false_iff_eq.mpr c28
            clear c28
            obtain rfl := Option.some.inj H
            go_wp2
            go_ret
            exact rd_
          rw [if_neg c28] at H
          have c28b0 : (a0.toList == ([65, 78, 68] : List UInt8)) = false := beq_eq_false_iff_ne.mpr c28
          have c28b1 : (a0.toList != ([65, 78, 68] : List UInt8)) = true := bne_iff_ne.mpr c28
          by_cases c29 : a0.toList = ([79, 82] : List UInt8)
          · rw [if_pos c29] at H
            have c29b0 : (a0.toList == ([79, 82] : List UInt8)) = true := beq_iff_eq.mpr c29
            have c29b1 : (a0.toList != ([79, 82] : List UInt8)) = false := bne_eq_false_iff_eq.mpr c29
            clear c29
            obtain rfl := Option.some.inj H
            go_wp2
            go_ret
            exact rd_
          rw [if_neg c29] at H
          have c29b0 : (a0.toList == ([79, 82] : List UInt8)) = false := beq_eq_false_iff_ne.mpr c29
          have c29b1 : (a0.toList != ([79, 82] : List UInt8)) = true := bne_iff_ne.mpr c29
          by_cases c30 : a0.toList = ([78, 79, 84] : List UInt8)
          · rw [if_pos c30] at H
            have c30b0 : (a0.toList == ([78, 79, 84] : List UInt8)) = true := beq_iff_eq.mpr c30
            have c30b1 : (a0.toList != ([78, 79, 84] : List UInt8)) = false := bne_eq_false_iff_eq.mpr c30
            clear c30
            obtain rfl := Option.some.inj H
            go_wp2
            go_ret
            exact rd_
          rw [if_neg c30] at H
          have c30b0 : (a0.toList == ([78, 79, 84] : List UInt8)) = false := beq_eq_false_iff_ne.mpr c30
          have c30b1 : (a0.toList != ([78, 79, 84] : List UInt8)) = true := bne_iff_ne.mpr c30
          by_cases c31 : a0.toList = ([73, 83] : List UInt8)
          · rw [if_pos c31] at H
            have c31b0 : (a0.toList == ([73, 83] : List UInt8)) = true := beq_iff_eq.mpr c31
            have c31b1 : (a0.toList != ([73, 83] : List UInt8)) = false := bne_eq_false_iff_eq.mpr c31
            clear c31
            obtain rfl := Option.some.inj H
            go_wp2
            go_ret
            exact rd_
          rw [if_neg c31] at H
          have c31b0 : (a0.toList == ([73, 83] : List UInt8)) = false := beq_eq_false_iff_ne.mpr c31
          have c31b1 : (a0.toList != ([73, 83] : List UInt8)) = true := bne_iff_ne.mpr c31
          by_cases c32 : a0.toList = ([78, 85, 76, 76] : List UInt8)
          · rw [if_pos c32] at H
            have c32b0 : (a0.toList == ([78, 85, 76, 76] : List UInt8)) = true := beq_iff_eq.mpr c32
            have c32b1 : (a0.toList != ([78, 85, 76, 76] : List UInt8)) = false := bne_eq_false_iff_eq.mpr c32
            clear c32
            obtain rfl := Option.some.inj H
            go_wp2
            go_ret
            exact rd_
          rw [if_neg c32] at H
          have c32b0 : (a0.toList == ([78, 85, 76, 76] : List UInt8)) = false := beq_eq_false_iff_ne.mpr c32
          have c32b1 : (a0.toList != ([78, 85, 76, 76] : List UInt8)) = true := bne_iff_ne.mpr c32
          by_cases c33 : a0.toList = ([73, 78] : List UInt8)
          · rw [if_pos c33] at H
            have c33b0 : (a0.toList == ([73, 78] : List UInt8)) = true := beq_iff_eq.mpr c33
            have c33b1 : (a0.toList != ([73, 78] : List UInt8)) = false := bne_eq_false_iff_eq.mpr c33
            clear c33
            obtain rfl := Option.some.inj H
            go_wp2
            go_ret
            exact rd_
          rw [if_neg c33] at H
          have c33b0 : (a0.toList == ([73, 78] : List UInt8)) = false := beq_eq_false_iff_ne.mpr c33
          have c33b1 : (a0.toList != ([73, 78] : List UInt8)) = true := bne_iff_ne.mpr c33
          by_cases c34 : a0.toList = ([68, 73, 83, 84, 73, 78, 67, 84] : List UInt8)
          · rw [if_pos c34] at H
            have c34b0 : (a0.toList == ([68, 73, 83, 84, 73, 78, 67, 84] : List UInt8)) = true := beq_iff_eq.mpr c34
            have c34b1 : (a0.toList != ([68, 73, 83, 84, 73, 78, 67, 84] : List UInt8)) = false := bne_eq_false_iff_eq.mpr c34
            clear c34
            obtain rfl := Option.some.inj H
            go_wp2
            go_ret
            exact rd_
          rw [if_neg c34] at H
          have c34b0 : (a0.toList == ([68, 73, 83, 84, 73, 78, 67, 84] : List UInt8)) = false := beq_eq_false_iff_ne.mpr c34
          have c34b1 : (a0.toList != ([68, 73, 83, 84, 73, 78, 67, 84] : List UInt8)) = true := bne_iff_ne.mpr c34
          by_cases c35 : a0.toList = ([79, 82, 68, 69, 82] : List UInt8)
          · rw [if_pos c35] at H
            have c35b0 : (a0.toList == ([79, 82, 68, 69, 82] : List UInt8)) = true := beq_iff_eq.mpr c35
            have c35b1 : (a0.toList != ([79, 82, 68, 69, 82] : List UInt8)) = false := bne_eq_false_iff_eq.mpr c35
            clear c35
            obtain rfl := Option.some.inj H
            go_wp2
            go_ret
            exact rd_
          rw [if_neg c35] at H
          have c35b0 : (a0.toList == ([79, 82, 68, 69, 82] : List UInt8)) = false := beq_eq_false_iff_ne.mpr c35
          have c35b1 : (a0.toList != ([79, 82, 68, 69, 82] : List UInt8)) = true := bne_iff_ne.mpr c35
          by_cases c36 : a0.toList = ([66, 89] : List UInt8)
          · rw [if_pos c36] at H
            have c36b0 : (a0.toList == ([66, 89] : List UInt8)) = true := beq_iff_eq.mpr c36
            have c36b1 : (a0.toList != ([66, 89] : List UInt8)) = false := bne_eq_false_iff_eq.mpr c36
            clear c36
            obtain rfl := Option.some.inj H
            go_wp2
            go_ret
            exact rd_
          rw [if_neg c36] at H
          have c36b0 : (a0.toList == ([66, 89] : List UInt8)) = false := beq_eq_false_iff_ne.mpr c36
          have c36b1 : (a0.toList != ([66, 89] : List UInt8)) = true := bne_iff_ne.mpr c36
          by_cases c37 : a0.toList = ([68, 69, 83, 67] : List UInt8)
          · rw [if_pos c37] at H
            have c37b0 : (a0.toList == ([68, 69, 83, 67] : List UInt8)) = true := beq_iff_eq.mpr c37
            have c37b1 : (a0.toList != ([68, 69, 83, 67] : List UInt8)) = false := bne_eq_false_iff_eq.mpr c37
            clear c37
            obtain rfl := Option.some.inj H
            go_wp2
            go_ret
            exact rd_
          rw [if_neg c37] at H
          have c37b0 : (a0.toList == ([68, 69, 83, 67] : List UInt8)) = false := beq_eq_false_iff_ne.mpr c37
          have c37b1 : (a0.toList != ([68, 69, 83, 67] : List UInt8)) = true := bne_iff_ne.mpr c37
          by_cases c38 : a0.toList = ([83, 75, 73, 80] : List UInt8)
          · rw [if_pos c38] at H
            have c38b0 : (a0.toList == ([83, 75, 73, 80] : List UInt8)) = true := beq_iff_eq.mpr c38
            have c38b1 : (a0.toList != ([83, 75, 73, 80] : List UInt8)) = false := bne_eq_false_iff_eq.mpr c38
            clear c38
            obtain rfl := Option.some.inj H
            go_wp2
            go_ret
            exact rd_
          rw [if_neg c38] at H
          have c38b0 : (a0.toList == ([83, 75, 73, 80] : List UInt8)) = false := beq_eq_false_iff_ne.mpr c38
          have c38b1 : (a0.toList != ([83, 75, 73, 80] : List UInt8)) = true := bne_iff_ne.mpr c38
          by_cases c39 : a0.toList = ([76, 73, 77, 73, 84] : List UInt8)
          · rw [if_pos c39] at H
            have c39b0 : (a0.toList == ([76, 73, 77, 73, 84] : List UInt8)) = true := beq_iff_eq.mpr c39
            have c39b1 : (a0.toList != ([76, 73, 77, 73, 84] : List UInt8)) = false := bne_eq_false_iff_eq.mpr c39
            clear c39
            obtain rfl := Option.some.inj H
            go_wp2
            go_ret
            exact rd_
          rw [if_neg c39] at H
          have c39b0 : (a0.toList == ([76, 73, 77, 73, 84] : List UInt8)) = false := beq_eq_false_iff_ne.mpr c39
          have c39b1 : (a0.toList != ([76, 73, 77, 73, 84] : List UInt8)) = true := bne_iff_ne.mpr c39
          by_cases c40 : a0.toList = ([110, 117, 108, 108] : List UInt8)
          · rw [if_pos c40] at H
            have c40b0 : (a0.toList == ([110, 117, 108, 108] : List UInt8)) = true := beq_iff_eq.mpr c40
            have c40b1 : (a0.toList != ([110, 117, 108, 108] : List UInt8)) = false := bne_eq_false_iff_eq.mpr c40
            clear c40
            obtain rfl := Option.some.inj H
            go_wp2
            go_ret
            exact rd_
          rw [if_neg c40] at H
          have c40b0 : (a0.toList == ([110, 117, 108, 108] : List UInt8)) = false := beq_eq_false_iff_ne.mpr c40
          have c40b1 : (a0.toList != ([110, 117, 108, 108] : List UInt8)) = true := bne_iff_ne.mpr c40
          by_cases c41 : a0.toList = ([116, 114, 117, 101] : List UInt8)
          · rw [if_pos c41] at H
            have c41b0 : (a0.toList == ([116, 114, 117, 101] : List UInt8)) = true := beq_iff_eq.mpr c41
            have c41b1 : (a0.toList != ([116, 114, 117, 101] : List UInt8)) = false := bne_eq_false_iff_eq.mpr c41
            clear c41
            obtain rfl := Option.some.inj H
            go_wp2
            go_ret
            exact rd_
          rw [if_neg c41] at H
          have c41b0 : (a0.toList == ([116, 114, 117, 101] : List UInt8)) = false := beq_eq_false_iff_ne.mpr c41
          have c41b1 : (a0.toList != ([116, 114, 117, 101] : List UInt8)) = true := bne_iff_ne.mpr c41
          by_cases c42 : a0.toList = ([102, 97, 108, 115, 101] : List UInt8)
          · rw [if_pos c42] at H
            have c42b0 : (a0.toList == ([102, 97, 108, 115, 101] : List UInt8)) = true := beq_iff_eq.mpr c42
            have c42b1 : (a0.toList != ([102, 97, 108, 115, 101] : List UInt8)) = false := bne_eq_false_iff_eq.mpr c42
            clear c42
            obtain rfl := Option.some.inj H
            go_wp2
            go_ret
            exact rd_
          rw [if_neg c42] at H
          have c42b0 : (a0.toList == ([102, 97, 108, 115, 101] : List UInt8)) = false := beq_eq_false_iff_ne.mpr c42
          have c42b1 : (a0.toList != ([102, 97, 108, 115, 101] : List UInt8)) = true := bne_iff_ne.mpr c42
          by_cases c43 : a0.toList = ([99, 111, 117, 110, 116] : List UInt8)
          · rw [if_pos c43] at H
            have c43b0 : (a0.toList == ([99, 111, 117, 110, 116] : List UInt8)) = true := beq_iff_eq.mpr c43
            have c43b1 : (a0.toList != ([99, 111, 117, 110, 116] : List UInt8)) = false := bne_eq_false_iff_eq.mpr c43
            clear c43
            obtain rfl := Option.some.inj H
            go_wp2
            go_ret
            exact rd_
          rw [if_neg c43] at H
          have c43b0 : (a0.toList == ([99, 111, 117, 110, 116] : List UInt8)) = false := beq_eq_false_iff_ne.mpr c43
          have c43b1 : (a0.toList != ([99, 111, 117, 110, 116] : List UInt8)) = true := bne_iff_ne.mpr c43
          by_cases c44 : a0.toList = ([115, 117, 109] : List UInt8)
          · rw [if_pos c44] at H
            have c44b0 : (a0.toList == ([115, 117, 109] : List UInt8)) = true := beq_iff_eq.mpr c44
            have c44b1 : (a0.toList != ([115, 117, 109] : List UInt8)) = false := bne_eq_false_iff_eq.mpr c44
            clear c44
            obtain rfl := Option.some.inj H
            go_wp2
            go_ret
            exact rd_
          rw [if_neg c44] at H
          have c44b0 : (a0.toList == ([115, 117, 109] : List UInt8)) = false := beq_eq_false_iff_ne.mpr c44
          have c44b1 : (a0.toList != ([115, 117, 109] : List UInt8)) = true := bne_iff_ne.mpr c44
          by_cases c45 : a0.toList = ([115, 105, 122, 101] : List UInt8)
          · rw [if_pos c45] at H
            have c45b0 : (a0.toList == ([115, 105, 122, 101] : List UInt8)) = true := beq_iff_eq.mpr c45
            have c45b1 : (a0.toList != ([115, 105, 122, 101] : List UInt8)) = false := bne_eq_false_iff_eq.mpr c45
            clear c45
            obtain rfl := Option.some.inj H
            go_wp2
            go_ret
            exact rd_
          rw [if_neg c45] at H
          have c45b0 : (a0.toList == ([115, 105, 122, 101] : List UInt8)) = false := beq_eq_false_iff_ne.mpr c45
          have c45b1 : (a0.toList != ([115, 105, 122, 101] : List UInt8)) = true := bne_iff_ne.mpr c45
          obtain rfl := Option.some.inj H
          go_wp2
          go_ret
          exact rd_

end Go.Proofs.Ytcchmhmbjhgfdaa.G
