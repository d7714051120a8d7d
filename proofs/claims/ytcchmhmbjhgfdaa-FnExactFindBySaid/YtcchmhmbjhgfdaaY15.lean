import Derived.Test.YtcchmhmbjhgfdaaY3
import Derived.Test.YtcchmhmbjhgfdaaY14
namespace Go.Proofs.Ytcchmhmbjhgfdaa.G
open Go.RowKit Go.Proofs.YtcchmhmbjhgfdaaW.PrintWords Go.Proofs.YtcchmhmbjhgfdaaW.PrintLast Go.Proofs.YtcchmhmbjhgfdaaW.PrintMore
attribute [local go_sem] max2_int min2_int max_two min_two max_three min_three max_four min_four Own.str_gtr Own.str_leq Own.str_geq Own.sto_fn   -- for this text's walks alone
open Own
set_option linter.unusedVariables false
set_option linter.unusedSimpArgs false
mutual
def spec_l1Copy.l0 : Nat → Int → Int → Int → ByteArray → List (S49) → Int → Int → ByteArray → List (S49) → Option (Int × Int × ByteArray × (List (S49)))
  | 0, _, _, _, _, _, _, _, _, _ => none
  | k + 1, x4, x102000, x102001, x102002, x102003, x104000, x104001, x104002, x104003 => if x4 < (x102003.length : Int) then (if 0 ≤ x4 then ((spec_l1Copy.f k ((rd_T49 x102003 x4).f0) ((rd_T49 x102003 x4).f1) ((rd_T49 x102003 x4).f2) ((rd_T49 x102003 x4).f3)).bind fun bt105 => (if x104003.length < 2513169434916 then (spec_l1Copy.l0 k (wrap64 (x4 + 1)) x102000 x102001 x102002 x102003 x104000 x104001 x104002 (x104003 ++ [(⟨bt105.1, bt105.2.1, bt105.2.2.1, bt105.2.2.2⟩ : S49)])) else (none))) else (none)) else (some (x104000, x104001, x104002, x104003))
def spec_l1Copy.f : Nat → Int → Int → ByteArray → List (S49) → Option (Int × Int × ByteArray × (List (S49)))
  | 0, _, _, _, _ => none
  | k + 1, a0_0, a0_1, a0_2, l0_3 => spec_l1Copy.l0 k 0 a0_0 a0_1 a0_2 l0_3 a0_0 a0_1 a0_2 ([] : List (S49))
end
def spec_l1Copy.T5 : Bool × List (List Nat × List Nat) := (true, [([], []), ([0], [0]), ([], []), ([2], [2]), ([], []), ([3, 4], [3, 4]), ([5], [5]), ([6], [6]), ([7], [7]), ([1, 8, 7], [1, 8]), ([0, 1, 2, 3, 4, 5, 6, 7, 8, 9], []), ([10, 9, 9, 0, 1, 2, 3, 4, 5, 6, 7, 8, 9], [9, 10])])
def spec_l1Copy.B5 : List Nat := [0, 1, 0, 4, 0, 28, 60, 124, 252, 511, 1023, 2047]
theorem spec_l1Copy.tab5 : rtab .any (opsOf Try.f164 5) = spec_l1Copy.T5 := by kernel_rfl
theorem spec_l1Copy.bits5 : waitsOk spec_l1Copy.T5.2 spec_l1Copy.B5 = true := by kernel_rfl
set_option maxHeartbeats 8000000 in
set_option maxRecDepth 100000 in
theorem spec_l1Copy.calls (k : Nat) : ∀ (a0_0 : Int) (a0_1 : Int) (a0_2 : ByteArray) (A0_3 : Option Addr) (c0_3 : Nat) (l0_3 : List (S49)) (r1 : Int) (r2 : Int) (r3 : ByteArray) (r4 : List (S49)) (w : World) (hr0_3 : Kd.C k49 w A0_3 l0_3.length l0_3) (hc0_3 : l0_3.length ≤ c0_3) (h : spec_l1Copy.f k a0_0 a0_1 a0_2 l0_3 = some (r1, r2, r3, r4)),
    Calls Try.prog 164 #[.agg #[.int .i64 a0_0, .int .i64 a0_1, .string a0_2, .slice A0_3 l0_3.length c0_3]] w fun e w' => ∃ v3_ : Value, e = .returned (.agg #[.int .i64 r1, .int .i64 r2, .string r3, v3_]) ∧ Kd.R k49 49 w' w.heap.size (fun _ => True) v3_ r4 ∧ Below w.heap.size w w' := by
  induction k using Nat.strongRecOn with
  | _ k ih =>
  intro a0_0 a0_1 a0_2 A0_3 c0_3 l0_3 r1 r2 r3 r4 w hr0_3 hc0_3 h
  cases k with
  | zero => exact absurd h (by simp [spec_l1Copy.f])
  | succ k =>
  simp only [spec_l1Copy.f] at h; have hu49 := Try.underlying49; have HR0_3 := Aside0.mk hr0_3; have HC0_3 := Aside0.mk hc0_3; clear hr0_3 hc0_3; have HB := Aside0.mk (Below.refl w.heap.size w); have H : (spec_l1Copy.l0 k 0 a0_0 a0_1 a0_2 l0_3 a0_0 a0_1 a0_2 ([] : List (S49))) = some (r1, r2, r3, r4) := h; clear h; have H' := Aside0.mk H; clear H
  go_enter Try.func164, Try.ntmps164
  go_wp2_with (first | ((with_reducible refine gate_dst (N := 1) rfl ?_); refine bx_ 1 #[.int .i64 a0_0, .int .i64 a0_1, .string a0_2, .slice A0_3 l0_3.length c0_3] 49 ?_; intro gb101 hg w2 hbox hb; have BK101 := Aside0.mk (hbox); have GW101 := gw_ hg; have GE101 := gw_ hg; replace HB := bs_ hb; clear hb hbox hg) | ((with_reducible refine gate_dst (N := 2) rfl ?_); refine bx_ 2 #[.int .i64 0, .int .i64 0, .string (⟨#[]⟩ : ByteArray), .slice none 0 0] 49 ?_; intro gb102 hg w3 hbox hb; have BK102 := Aside0.mk (hbox); have GW102 := gw_ hg; have GE102 := gw_ hg; have NB101_102 := nlt_ hg BK101; have NB102_101 := ngt_ hg BK101; replace BK101 := bb_ BK101 hb; replace HB := bs_ hb; clear hb hbox hg; have hnb4 := NB101_102.out; have hnc4 := NB102_101.out; obtain ⟨hcz5_0, hcz5_1, hcz5_2, hcz5_3, hfz5_0, hfz5_1, hfz5_2, hfz5_3⟩ := blk4 BK101) | ((with_reducible refine gate_dst (N := 3) rfl ?_); refine bx_ 3 #[.int .i64 0, .int .i64 0, .string (⟨#[]⟩ : ByteArray), .slice none 0 0] 49 ?_; intro gb103 hg w6 hbox hb; have BK103 := Aside0.mk (hbox); have GW103 := gw_ hg; have GE103 := gw_ hg; have NB101_103 := nlt_ hg BK101; have NB103_101 := ngt_ hg BK101; have NB102_103 := nlt_ hg BK102; have NB103_102 := ngt_ hg BK102; replace BK101 := bb_ BK101 hb; replace BK102 := bb_ BK102 hb; replace HB := bs_ hb; clear hb hbox hg; have hnb7 := NB103_101.out; have hnc7 := NB101_103.out; have hnb8 := NB103_102.out; have hnc8 := NB102_103.out; obtain ⟨hcz9_0, hcz9_1, hcz9_2, hcz9_3, hfz9_0, hfz9_1, hfz9_2, hfz9_3⟩ := blk4 BK103))
  go_loopg [4] k (fun kq v4 w' => ∃ (x4_1 : Int) (x104003_1 : List (S49)) (u104003 : Value), v4 = .int .i64 x4_1 ∧ Aside0 (spec_l1Copy.l0 kq x4_1 a0_0 a0_1 a0_2 l0_3 a0_0 a0_1 a0_2 x104003_1 = some (r1, r2, r3, r4)) ∧ Aside0 (kq ≤ k) ∧ Aside0 (Kd.R k49 49 w' w.heap.size (fun k_ => k_ ≠ gb101 ∧ k_ ≠ gb102 ∧ k_ ≠ gb103) u104003 x104003_1) ∧ Aside0 (w'.heap[gb101]? = some (.cells #[.int .i64 a0_0, .int .i64 a0_1, .string a0_2, (.slice A0_3 l0_3.length c0_3)] 49 (0, 0))) ∧ Aside0 (w'.heap[gb102]? = some (.cells #[.int .i64 0, .int .i64 0, .string (⟨#[]⟩ : ByteArray), (.slice none 0 0)] 49 (0, 0))) ∧ Aside0 (w'.heap[gb103]? = some (.cells #[.int .i64 a0_0, .int .i64 a0_1, .string a0_2, u104003] 49 (0, 0))) ∧ Aside0 (Below w.heap.size w w'))
  case atStart => exact ⟨(0), (([] : List (S49))), (.slice none 0 0), sm_, H', ⟨Nat.le_refl _⟩, ⟨by first | exact Kd.R_nil _ _ _ _ _ | exact Kd.N_nil _ _ _ _ _ | exact Kd.V_nil _ _ _ _ _ | exact Kd.Q_nil _ _ _ _ _ | exact Kd.S_nil _ _ _ _ _⟩, ⟨by refine pe_ ?_; refine blk_far ?_ NB101_103.out _; refine pe_ ?_; refine blk_far ?_ NB101_103.out _; refine pe_ ?_; refine blk_far ?_ NB101_103.out _; refine pe_ ?_; refine blk_far ?_ NB101_103.out _; refine pe_ ?_; exact BK101.out⟩, ⟨by refine pe_ ?_; refine blk_far ?_ NB102_103.out _; refine pe_ ?_; refine blk_far ?_ NB102_103.out _; refine pe_ ?_; refine blk_far ?_ NB102_103.out _; refine pe_ ?_; refine blk_far ?_ NB102_103.out _; refine pe_ ?_; exact BK102.out⟩, ⟨by refine pe_ ?_; refine blk_put (cs := #[.int .i64 a0_0, .int .i64 a0_1, .string a0_2, .slice none 0 0]) ?_ 3 _ rfl; refine pe_ ?_; refine blk_put (cs := #[.int .i64 a0_0, .int .i64 a0_1, .string (⟨#[]⟩ : ByteArray), .slice none 0 0]) ?_ 2 _ rfl; refine pe_ ?_; refine blk_put (cs := #[.int .i64 a0_0, .int .i64 0, .string (⟨#[]⟩ : ByteArray), .slice none 0 0]) ?_ 1 _ rfl; refine pe_ ?_; refine blk_put (cs := #[.int .i64 0, .int .i64 0, .string (⟨#[]⟩ : ByteArray), .slice none 0 0]) ?_ 0 _ rfl; refine pe_ ?_; exact BK103.out⟩, ⟨bel_⟩⟩
  case round =>
    clear H'
    try clear c1
    try clear p2
    try clear c4
    try clear c7
    try clear c8
    try clear hcz5_0 hcz5_1 hcz5_2 hcz5_3
    try clear hcz9_0 hcz9_1 hcz9_2 hcz9_3
    try clear hfz5_0 hfz5_1 hfz5_2 hfz5_3
    try clear hfz9_0 hfz9_1 hfz9_2 hfz9_3
    obtain ⟨x4_1, x104003_1, u104003, rfl, HA, HK1, HO_104003, BK101, BK102, BK103, HB⟩ := hrel
    cases gk with
    | zero => exact absurd HA.out (by simp [spec_l1Copy.l0])
    | succ k1 =>
      have H := HA.out; clear HA; simp only [spec_l1Copy.l0] at H; by_cases c10 : x4_1 < (l0_3.length : Int); rotate_left; rw [if_neg c10] at H; have c10b0 := df_ c10; clear c10; simp only [Option.some.injEq, Prod.mk.injEq] at H; obtain ⟨rfl, rfl, rfl, rfl⟩ := H; have hnb23 := NB101_102.out; have hnc23 := NB102_101.out; have hnb24 := NB101_103.out; have hnc24 := NB103_101.out; rotate_right; rw [if_pos c10] at H; have c10b0 := dt_ c10; clear c10; by_cases c11 : 0 ≤ x4_1; rotate_left
      · rw [if_neg c11] at H; exact absurd H (by simp)
      rotate_right; rw [if_pos c11] at H; have c11b0 := dt_ c11; clear c11; replace H := ob_ H; obtain ⟨⟨t105, t106, t107, t108⟩, A12, H⟩ := H; by_cases c13 : x104003_1.length < 2513169434916; rotate_left
      · rw [if_neg c13] at H; exact absurd H (by simp)
      rotate_right; rw [if_pos c13] at H; have LMc13 := Aside0.mk c13; clear c13; obtain ⟨y111, hy111⟩ : ∃ y_ : List (S49), y_ = (x104003_1 ++ [(⟨t105, t106, t107, t108⟩ : S49)]) := ⟨_, rfl⟩
      replace H : (spec_l1Copy.l0 k1 (wrap64 (x4_1 + 1)) a0_0 a0_1 a0_2 l0_3 a0_0 a0_1 a0_2 y111) = some (r1, r2, r3, r4) := by first | (rw [hy111]; with_reducible exact H) | (have H2_ := (Option.bind_some _ _).symm.trans H; rw [hy111]; with_reducible exact H2_) | (have H2_ := (Option.bind_some _ _).symm.trans H; with_reducible exact H2_) | with_reducible exact H | (rw [hy111]; exact H) | exact H
      have Ny111 := Aside0.mk hy111; clear hy111; have H' := Aside0.mk H; clear H; have hnb14 := NB101_102.out; have hnc14 := NB102_101.out; have hnb15 := NB101_103.out; have hnc15 := NB103_101.out
      all_goals
        obtain ⟨hcz16_0, hcz16_1, hcz16_2, hcz16_3, hfz16_0, hfz16_1, hfz16_2, hfz16_3⟩ := blk4 BK101
      rotate_left
      · have hnb26 := NB103_102.out; have hnc26 := NB102_103.out; obtain ⟨hcz27_0, hcz27_1, hcz27_2, hcz27_3, hfz27_0, hfz27_1, hfz27_2, hfz27_3⟩ := blk4 BK103; obtain ⟨hcz28_0, hcz28_1, hcz28_2, hcz28_3, hfz28_0, hfz28_1, hfz28_2, hfz28_3⟩ := blk4 BK102; obtain ⟨Ao29, co29, eo29⟩ := Kd.R_slice HO_104003.out; subst eo29
        go_wp2
        refine bodyPost_ret (results_cell_row rfl _ _ gb102 49 #[.int .i64 a0_0, .int .i64 a0_1, .string a0_2, .slice Ao29 x104003_1.length co29] (0, 0) _ rfl (by refine pe_ ?_; refine blk_put (cs := #[.int .i64 a0_0, .int .i64 a0_1, .string a0_2, .slice none 0 0]) ?_ 3 _ rfl; refine pe_ ?_; refine blk_put (cs := #[.int .i64 a0_0, .int .i64 a0_1, .string (⟨#[]⟩ : ByteArray), .slice none 0 0]) ?_ 2 _ rfl; refine pe_ ?_; refine blk_put (cs := #[.int .i64 a0_0, .int .i64 0, .string (⟨#[]⟩ : ByteArray), .slice none 0 0]) ?_ 1 _ rfl; refine pe_ ?_; refine blk_put (cs := #[.int .i64 0, .int .i64 0, .string (⟨#[]⟩ : ByteArray), .slice none 0 0]) ?_ 0 _ rfl; refine pe_ ?_; exact BK102.out) Try.underlying49 rfl (by kernel_rfl)) rfl ?_; exact ⟨_, by first | rfl | (simp [errW_none, errW_some] <;> rfl) | (simp [*, errW_none, errW_some] <;> rfl), by (with_reducible repeat (first | apply Kd.R_alloc | apply Kd.R_drewN | apply Kd.R_drew)); exact Kd.R_mono (rf4 gb102 (Kd.R_mono HO_104003.out (fun k_ hk => (⟨hk, hk.2.1⟩ : _ ∧ k_ ≠ gb102))) (fun _ hk => hk.2)) (fun _ hk => trivial), bel_⟩
      try go_wp2
      replace HO_104003 := Aside0.mk (Kd.R_drew HO_104003.out); replace BK101 := Aside0.mk (blk_drew BK101.out); replace BK102 := Aside0.mk (blk_drew BK102.out); replace BK103 := Aside0.mk (blk_drew BK103.out); replace HB := Aside0.mk (below_drew1 HB.out); have p104 : 0 ≤ (x4_1 : Int) := od_; have q104 : x4_1 < (l0_3.length : Int) := od_; obtain ⟨ad104, A104_3, c104_3, e104, hx104_0, hx104_1, hx104_2, hx104_3, hl104_3, hi104_3⟩ := at_T49 HR0_3.out x4_1 p104 q104; have hw104_3 := hx104_3; have hw104_2 := hx104_2; have hw104_1 := hx104_1; have hw104_0 := hx104_0
      cases e104
      replace hx104_0 := mv_ HB hx104_0; replace hx104_1 := mv_ HB hx104_1; replace hx104_2 := mv_ HB hx104_2; replace hx104_3 := mv_ HB hx104_3; have HR104_3 := Aside0.mk hi104_3; have HC104_3 := Aside0.mk hl104_3; clear hi104_3 hl104_3; replace p104 := eq_true p104; replace q104 := eq_true q104
      refine start_ (n := 12) (S := fun w' => w'.cell? ⟨gb103, 0, none⟩ = some (.int .i64 a0_0) ∧ w'.cell? ⟨gb103, 1, none⟩ = some (.int .i64 a0_1) ∧ w'.cell? ⟨gb103, 2, none⟩ = some (.string a0_2) ∧ w'.cell? ⟨gb103, 3, none⟩ = some (u104003) ∧ w'.cell? ⟨gb101, 0, none⟩ = some (.int .i64 a0_0) ∧ w'.cell? ⟨gb101, 1, none⟩ = some (.int .i64 a0_1) ∧ w'.cell? ⟨gb101, 2, none⟩ = some (.string a0_2) ∧ w'.cell? ⟨gb101, 3, none⟩ = some (.slice (some ad104) l0_3.length c0_3) ∧ w'.cell? (ad104.add ((x4_1).toNat * 4)) = some (.int .i64 ((rd_T49 l0_3 x4_1).f0)) ∧ w'.cell? ⟨(ad104.add ((x4_1).toNat * 4)).block, (ad104.add ((x4_1).toNat * 4)).off + 1, none⟩ = some (.int .i64 ((rd_T49 l0_3 x4_1).f1)) ∧ w'.cell? ⟨(ad104.add ((x4_1).toNat * 4)).block, (ad104.add ((x4_1).toNat * 4)).off + 2, none⟩ = some (.string ((rd_T49 l0_3 x4_1).f2)) ∧ w'.cell? ⟨(ad104.add ((x4_1).toNat * 4)).block, (ad104.add ((x4_1).toNat * 4)).off + 3, none⟩ = some (.slice A104_3 ((rd_T49 l0_3 x4_1).f3).length c104_3)) (ds := [11]) #[false, false, false, false, false, false, false, false, false, false, false, false] (by kernel_rfl) rfl rfl ⟨(blkc BK103 0), (blkc BK103 1), (blkc BK103 2), (blkc BK103 3), (blkc BK101 0), (blkc BK101 1), (blkc BK101 2), (blkc BK101 3), (mv_ HB hw104_0 :), (mv_ HB hw104_1 :), (mv_ HB hw104_2 :), (mv_ HB hw104_3 :)⟩ (fun hHeld => ?_); refine with_tabW spec_l1Copy.tab5 spec_l1Copy.bits5 (fun HT_ HW_ => ?_)
      generalize wr.drew = w17 at HO_104003 BK101 BK102 BK103 HB HR104_3 hx104_0 hx104_1 hx104_2 hx104_3 hHeld ⊢; refine puA 0 (some 19) ?_; refine puA 2 (some 21) ?_; refine puA 4 (some 23) ?_; refine taA 1 (some 20) ?_; refine taA 3 (some 22) ?_; refine puA 5 (some 24) ?_; refine taA 6 (some 25) ?_; refine one_ (i := 7) (N := some 26) #[true, true, true, true, true, true, true, true, false, false, false, false] rfl rfl (one_of HT_.out (by kernel_rfl)) (by decide) (fun K hK => ?_); refine goes_ Try.func164 (by kernel_rfl) rfl #[.agg #[.int .i64 ((rd_T49 l0_3 x4_1).f0), .int .i64 ((rd_T49 l0_3 x4_1).f1), .string ((rd_T49 l0_3 x4_1).f2), .slice A104_3 ((rd_T49 l0_3 x4_1).f3).length c104_3]] (by rfl) rfl rfl ar_ ?_
      with_reducible refine (ih k1 (by have := HK1.out; omega) ((rd_T49 l0_3 x4_1).f0) ((rd_T49 l0_3 x4_1).f1) ((rd_T49 l0_3 x4_1).f2) _ _ ((rd_T49 l0_3 x4_1).f3) t105 t106 t107 t108 _ ?side1 ?side2 A12.out).mono ?_
      (case side1 => exact rdb_ HR104_3); (case side2 => exact HC104_3.out); rintro e w18 ⟨v109, rfl, ho0, hb⟩; refine ⟨_, rfl, ?_⟩; have HO110 := Aside0.mk (Kd.R_lower (Kd.R_newB (Kd.R_newB (Kd.R_newB (Kd.R_new' ho0 (Kd.R_lt (by (with_reducible repeat (first | apply Kd.R_alloc | apply Kd.R_drewN | apply Kd.R_drew)); exact HO_104003.out))) (g := gb101) (o := .cells #[.int .i64 a0_0, .int .i64 a0_1, .string a0_2, .slice (some ad104) l0_3.length c0_3] 49 (0, 0)) (bk_ BK101)) (g := gb102) (o := .cells #[.int .i64 0, .int .i64 0, .string (⟨#[]⟩ : ByteArray), .slice none 0 0] 49 (0, 0)) (bk_ BK102)) (g := gb103) (o := .cells #[.int .i64 a0_0, .int .i64 a0_1, .string a0_2, u104003] 49 (0, 0)) (bk_ BK103)) (below_size (bel_))); replace HO_104003 := Aside0.mk (Kd.R_elder' (by (with_reducible repeat (first | apply Kd.R_alloc | apply Kd.R_drewN | apply Kd.R_drew)); exact HO_104003.out) (Kd.R_base ho0) hb); replace BK101 := bb_ BK101 hb; replace BK102 := bb_ BK102 hb; replace BK103 := bb_ BK103 hb; replace HB := bs_ hb; (try clear hb); (try clear hb2); (try clear hk); (try clear hi); (try clear ho0); obtain ⟨Ao20, co20, eo20⟩ := Kd.R_slice HO110.out
      (first | subst eo20 | (injection eo20 with f1_ f2_ f3_; have f4_ := f1_.symm; have f5_ := f3_.symm; clear f1_ f2_ f3_; subst f4_; subst f5_))
      refine hK.out _ _ ⟨(blkc BK103 0), (blkc BK103 1), (blkc BK103 2), (blkc BK103 3), (blkc BK101 0), (blkc BK101 1), (blkc BK101 2), (blkc BK101 3), (mv_ HB hw104_0 :), (mv_ HB hw104_1 :), (mv_ HB hw104_2 :), (mv_ HB hw104_3 :)⟩ (fun hHeld => ?_); clear hK K; refine norm_ (a' := ?_) ?_ ?_; rotate_left
      · show Act.put _ (some 26) _ = _
        simp only [Act.put, List.setIfInBounds_toArray, List.set_cons_zero, List.set_cons_succ, i64_w, i32_w]
        rfl
      refine one_ (i := 8) (N := some 27) #[true, true, true, true, true, true, true, true, true, false, false, false] rfl rfl (one_of HT_.out (by kernel_rfl)) (by decide) (fun K hK => ?_); refine value_ (w1 := ?_) (v := ?_) (by rfl) rfl ?_ ?_; rotate_left 2
      · go_simp
        constructor
        · rfl
        rfl
      refine hK.out _ _ ⟨(blk_cell (blk_alloc BK103.out _) 0).trans rfl, (blk_cell (blk_alloc BK103.out _) 1).trans rfl, (blk_cell (blk_alloc BK103.out _) 2).trans rfl, (blk_cell (blk_alloc BK103.out _) 3).trans rfl, (blk_cell (blk_alloc BK101.out _) 0).trans rfl, (blk_cell (blk_alloc BK101.out _) 1).trans rfl, (blk_cell (blk_alloc BK101.out _) 2).trans rfl, (blk_cell (blk_alloc BK101.out _) 3).trans rfl, (World.cell?_alloc_lt _ _ _ (World.block_lt_of_cell? _ _ ((mv_ HB hw104_0 :)))).trans ((mv_ HB hw104_0 :)), (World.cell?_alloc_lt _ _ _ (World.block_lt_of_cell? _ _ ((mv_ HB hw104_1 :)))).trans ((mv_ HB hw104_1 :)), (World.cell?_alloc_lt _ _ _ (World.block_lt_of_cell? _ _ ((mv_ HB hw104_2 :)))).trans ((mv_ HB hw104_2 :)), (World.cell?_alloc_lt _ _ _ (World.block_lt_of_cell? _ _ ((mv_ HB hw104_3 :)))).trans ((mv_ HB hw104_3 :))⟩ (fun hHeld => ?_); clear hK K; refine norm_ (a' := ?_) ?_ ?_; rotate_left
      · show Act.put _ (some 27) _ = _
        simp only [Act.put, List.setIfInBounds_toArray, List.set_cons_zero, List.set_cons_succ, i64_w, i32_w]
        rfl
      refine one_ (i := 9) (N := some 28) #[true, true, true, true, true, true, true, true, true, true, false, false] rfl rfl (one_of HT_.out (by kernel_rfl)) (by decide) (fun K hK => ?_); refine Kd.R_append_step k49 (w0 := w) w.heap.size (by rfl) (.tmp 20) (.tmp 27) 47 49 (.agg #[(.int .i64 0), (.int .i64 0), (.string ⟨#[]⟩), (.slice none 0 0)]) 56 rfl Try.underlying47 info49 rfl (by decide) (by omega) u104003 x104003_1 (⟨t105, t106, t107, t108⟩ : S49) [.int .i64 t105, .int .i64 t106, .string t107, .slice Ao20 t108.length co20] (fun k_ => k_ ≠ gb101 ∧ k_ ≠ gb102 ∧ k_ ≠ gb103) (fun k_ => ((fun k_ => k_ ≠ gb101 ∧ k_ ≠ gb102 ∧ k_ ≠ gb103)) k_ ∧ some k_ ≠ (u104003 : Value).ownBlock) rfl rfl ?aP (fun _ hk => hk) ?aF ?aO ?aB ?aS ?aL ?_; (case aP => exact k49_mkM _ _ _ (⟨t105, t106, t107, t108⟩ : S49) (Kd.R_mono (HO110.out) (fun k_ hk => ⟨⟨hk.1.1.2, ⟨hk.1.2, hk.2⟩⟩, hk.1.1.1.2⟩))); (case aB => exact (bel_)); (case aF => exact (fun k_ hk => ⟨Kd.freshB (g := gb101) (o := .cells #[.int .i64 a0_0, .int .i64 a0_1, .string a0_2, .slice (some ad104) l0_3.length c0_3] 49 (0, 0)) (bk_ BK101) k_ hk, Kd.freshB (g := gb102) (o := .cells #[.int .i64 0, .int .i64 0, .string (⟨#[]⟩ : ByteArray), .slice none 0 0] 49 (0, 0)) (bk_ BK102) k_ hk, Kd.freshB (g := gb103) (o := .cells #[.int .i64 a0_0, .int .i64 a0_1, .string a0_2, u104003] 49 (0, 0)) (bk_ BK103) k_ hk⟩))
      (case aO => exact (by (with_reducible repeat (first | apply Kd.R_alloc | apply Kd.R_drewN | apply Kd.R_drew)); exact Kd.R_mono HO_104003.out (fun _ hk => ⟨hk.1.1, ⟨hk.1.2.1, hk.1.2.2⟩⟩))); (case aS => exact (below_size (bel_))); (case aL => have := LMc13.out; omega)
      intro v112 w19 ho hb hg hat
      rw [← Ny111.out] at ho; have HO113 := Aside0.mk (ho); replace BK101 := Aside0.mk (blk_grown (g := gb101) (o := .cells #[.int .i64 a0_0, .int .i64 a0_1, .string a0_2, .slice (some ad104) l0_3.length c0_3] 49 (0, 0)) (bk_ BK101) hg (Kd.R_away HO_104003.out (fun _ hk => hk.1.1))); replace BK102 := Aside0.mk (blk_grown (g := gb102) (o := .cells #[.int .i64 0, .int .i64 0, .string (⟨#[]⟩ : ByteArray), .slice none 0 0] 49 (0, 0)) (bk_ BK102) hg (Kd.R_away HO_104003.out (fun _ hk => hk.1.2.1))); replace BK103 := Aside0.mk (blk_grown (g := gb103) (o := .cells #[.int .i64 a0_0, .int .i64 a0_1, .string a0_2, u104003] 49 (0, 0)) (bk_ BK103) hg (Kd.R_away HO_104003.out (fun _ hk => hk.1.2.2))); replace HB := Aside0.mk (hb); clear HO_104003 HO110; clear ho hb hg hat; obtain ⟨Ao21, co21, eo21⟩ := Kd.R_slice HO113.out
      (first | subst eo21 | (injection eo21 with f1_ f2_ f3_; have f4_ := f1_.symm; have f5_ := f3_.symm; clear f1_ f2_ f3_; subst f4_; subst f5_))
      refine hK.out _ _ ⟨(blkc BK103 0), (blkc BK103 1), (blkc BK103 2), (blkc BK103 3), (blkc BK101 0), (blkc BK101 1), (blkc BK101 2), (blkc BK101 3), (mv_ HB hw104_0 :), (mv_ HB hw104_1 :), (mv_ HB hw104_2 :), (mv_ HB hw104_3 :)⟩ (fun hHeld => ?_); clear hK K; refine norm_ (a' := ?_) ?_ ?_; rotate_left
      · show Act.put _ (some 28) _ = _
        simp only [Act.put, List.setIfInBounds_toArray, List.set_cons_zero, List.set_cons_succ, i64_w, i32_w]
        rfl
      refine puA 10 (some 29) ?_; refine last_ (i := 11) (N := none) #[true, true, true, true, true, true, true, true, true, true, true, true] rfl rfl (one_of HT_.out (by kernel_rfl)) (by decide) (fun K hK => ?_); have hs22 : w19.cell? ⟨gb103, 3, none⟩ = some (u104003) := (blkc BK103 3); have hfs22 := blk_frozen BK103.out 3; have hns22_0 := NB101_103.out; have hns22_1 := NB102_103.out; have hms22_0 := NB103_101.out; have hms22_1 := NB103_102.out; refine skip_ (w1 := ?_) (by rfl) rfl ?_ ?_; rotate_left
      · go_simp
        rfl
      refine hK.out _ _ ?_; clear hK K; refine done_ (done_of HT_.out (by kernel_rfl)) ?_
      try go_wp2
      go_roundg k1
      case measure => have := HK1.out; omega
      case rel => exact ⟨(wrap64 (x4_1 + 1)), (y111), (.slice Ao21 y111.length co21), sm_, H', ⟨by have := HK1.out; omega⟩, ⟨by (with_reducible repeat (first | apply Kd.R_alloc | apply Kd.R_drewN | apply Kd.R_drew)); exact Kd.R_mono (rf1 gb103 (Kd.R_mono HO113.out (fun k_ hk => (⟨hk, hk.2.2⟩ : _ ∧ k_ ≠ gb103))) (fun _ hk => hk.2)) (fun _ hk => ⟨hk.1.1, ⟨hk.1.2.1, hk.1.2.2⟩⟩)⟩, ⟨by refine pe_ ?_; refine blk_far ?_ NB101_103.out _; refine pe_ ?_; exact BK101.out⟩, ⟨by refine pe_ ?_; refine blk_far ?_ NB102_103.out _; refine pe_ ?_; exact BK102.out⟩, ⟨by refine pe_ ?_; refine blk_put (cs := #[.int .i64 a0_0, .int .i64 a0_1, .string a0_2, u104003]) ?_ 3 _ rfl; refine pe_ ?_; exact BK103.out⟩, ⟨bel_⟩⟩
def spec_l2Get.l0 : Nat → ByteArray → List (S140) → Int → Option (Int × Int × ByteArray × (List (S49)))
  | 0, _, _, _ => none
  | k + 1, x2, x7, x9 => if x9 < (x7.length : Int) then (if 0 ≤ x9 then (if ((rd_T140 x7 x9).f0).toList = x2.toList then ((spec_l1Copy.f k ((rd_T140 x7 x9).f1.f0) ((rd_T140 x7 x9).f1.f1) ((rd_T140 x7 x9).f1.f2) ((rd_T140 x7 x9).f1.f3)).bind fun bt110 => (some (bt110.1, bt110.2.1, bt110.2.2.1, bt110.2.2.2))) else (spec_l2Get.l0 k x2 x7 (wrap64 (x9 + 1)))) else (none)) else (some (0, 0, (⟨#[]⟩ : ByteArray), ([] : List (S49))))
def spec_l2Get.f (k : Nat) (l0_0 : List (S99)) (l0_1 : List (S104)) (a0_2 : Int) (a0_3 : Int) (a1_0 : Int) (a1_1 : Int) (a1_2 : ByteArray) (l1_3 : List (S49)) (a2 : ByteArray) : Option (Int × Int × ByteArray × (List (S49))) := (spec_l2Of.f k l0_0 l0_1 a0_2 a0_3 a1_0 a1_1 a1_2 l1_3).bind fun bt104 => (spec_l2Get.l0 k a2 bt104.1 0)
set_option maxHeartbeats 8000000 in
set_option maxRecDepth 100000 in
theorem spec_l2Get.calls (k : Nat) (A0_0 : Option Addr) (c0_0 : Nat) (l0_0 : List (S99)) (A0_1 : Option Addr) (c0_1 : Nat) (l0_1 : List (S104)) (a0_2 : Int) (a0_3 : Int) (a1_0 : Int) (a1_1 : Int) (a1_2 : ByteArray) (A1_3 : Option Addr) (c1_3 : Nat) (l1_3 : List (S49)) (a2 : ByteArray) (r1 : Int) (r2 : Int) (r3 : ByteArray) (r4 : List (S49)) (w : World) (hr0_0 : Kd.C k99 w A0_0 l0_0.length l0_0) (hc0_0 : l0_0.length ≤ c0_0) (hr0_1 : Kd.C k104 w A0_1 l0_1.length l0_1) (hc0_1 : l0_1.length ≤ c0_1) (hr1_3 : Kd.C k49 w A1_3 l1_3.length l1_3) (hc1_3 : l1_3.length ≤ c1_3) (h : spec_l2Get.f k l0_0 l0_1 a0_2 a0_3 a1_0 a1_1 a1_2 l1_3 a2 = some (r1, r2, r3, r4)) :
    Calls Try.prog 95 #[.agg #[.slice A0_0 l0_0.length c0_0, .slice A0_1 l0_1.length c0_1, .int .i64 a0_2, .int .i64 a0_3], .agg #[.int .i64 a1_0, .int .i64 a1_1, .string a1_2, .slice A1_3 l1_3.length c1_3], .string a2] w fun e w' => ∃ v3_ : Value, e = .returned (.agg #[.int .i64 r1, .int .i64 r2, .string r3, v3_]) ∧ Kd.R k49 49 w' w.heap.size (fun _ => True) v3_ r4 ∧ Below w.heap.size w w' := by
  have hu31 := Try.underlying31; have hu49 := Try.underlying49; have HR0_0 := Aside0.mk hr0_0; have HC0_0 := Aside0.mk hc0_0; clear hr0_0 hc0_0; have HR0_1 := Aside0.mk hr0_1; have HC0_1 := Aside0.mk hc0_1; clear hr0_1 hc0_1; have HR1_3 := Aside0.mk hr1_3; have HC1_3 := Aside0.mk hc1_3; clear hr1_3 hc1_3; have HB := Aside0.mk (Below.refl w.heap.size w); have H : ((spec_l2Of.f k l0_0 l0_1 a0_2 a0_3 a1_0 a1_1 a1_2 l1_3).bind fun bt104 => (spec_l2Get.l0 k a2 bt104.1 0)) = some (r1, r2, r3, r4) := h; clear h; replace H := ob_ H; obtain ⟨⟨t104, t107⟩, A4, H⟩ := H; have H' := Aside0.mk H; clear H
  go_enter Try.func95, Try.ntmps95
  go_wp2_with (first | ((with_reducible refine gate_dst (N := 3) rfl ?_); refine bx_ 3 #[.slice A0_0 l0_0.length c0_0, .slice A0_1 l0_1.length c0_1, .int .i64 a0_2, .int .i64 a0_3] 31 ?_; intro gb101 hg w5 hbox hb; have BK101 := Aside0.mk (hbox); have GW101 := gw_ hg; have GE101 := gw_ hg; replace HB := bs_ hb; clear hb hbox hg) | ((with_reducible refine gate_dst (N := 4) rfl ?_); refine bx_ 4 #[.int .i64 a1_0, .int .i64 a1_1, .string a1_2, .slice A1_3 l1_3.length c1_3] 49 ?_; intro gb102 hg w6 hbox hb; have BK102 := Aside0.mk (hbox); have GW102 := gw_ hg; have GE102 := gw_ hg; have NB101_102 := nlt_ hg BK101; have NB102_101 := ngt_ hg BK101; replace BK101 := bb_ BK101 hb; replace HB := bs_ hb; clear hb hbox hg) | ((with_reducible refine gate_dst (N := 6) rfl ?_); refine bx_ 6 #[.int .i64 0, .int .i64 0, .string (⟨#[]⟩ : ByteArray), .slice none 0 0] 49 ?_; intro gb103 hg w7 hbox hb; have BK103 := Aside0.mk (hbox); have GW103 := gw_ hg; have GE103 := gw_ hg; have NB101_103 := nlt_ hg BK101; have NB103_101 := ngt_ hg BK101; have NB102_103 := nlt_ hg BK102; have NB103_102 := ngt_ hg BK102; replace BK101 := bb_ BK101 hb; replace BK102 := bb_ BK102 hb; replace HB := bs_ hb; clear hb hbox hg; have hnb8 := NB101_102.out; have hnc8 := NB102_101.out; have hnb9 := NB101_103.out; have hnc9 := NB103_101.out; obtain ⟨hcz10_0, hcz10_1, hcz10_2, hcz10_3, hfz10_0, hfz10_1, hfz10_2, hfz10_3⟩ := blk4 BK101; have hnb11 := NB102_103.out; have hnc11 := NB103_102.out; obtain ⟨hcz12_0, hcz12_1, hcz12_2, hcz12_3, hfz12_0, hfz12_1, hfz12_2, hfz12_3⟩ := blk4 BK102) | ((with_reducible refine gate_callee (f := 163) rfl ?_); refine goesL_ (some 13) rfl rfl Try.func163 (by kernel_rfl) rfl #[.agg #[.slice A0_0 l0_0.length c0_0, .slice A0_1 l0_1.length c0_1, .int .i64 a0_2, .int .i64 a0_3], .agg #[.int .i64 a1_0, .int .i64 a1_1, .string a1_2, .slice A1_3 l1_3.length c1_3]] rfl ar_ ?_; (with_reducible refine (spec_l2Of.calls k (fun k_ => k_ < w.heap.size) _ _ l0_0 (fun k_ => k_ < w.heap.size) _ _ l0_1 a0_2 a0_3 a1_0 a1_1 a1_2 _ _ l1_3 t104 t107 _ ?side1 ?side2 ?side3 ?side4 A4.out).mono ?_); (case side1 => exact Kd.V_mk HC0_0.out (Kd.F_below (Kd.C_F k99_heap HR0_0.out) (bel_))); (case side2 => exact Kd.V_mk HC0_1.out (Kd.F_below (Kd.C_F k104_heap HR0_1.out) (bel_))); (case side3 => exact rdb_ HR1_3); (case side4 => exact HC1_3.out); rintro e w13 ⟨v105, rfl, ho0, hb⟩; refine ⟨_, rfl, ?_⟩; have HO106 := Aside0.mk (Kd.V_lower (Kd.V_mono (ok' := fun k_ => k_ ≠ gb101 ∧ k_ ≠ gb102 ∧ k_ ≠ gb103) ho0 (fun k_ hk_ => ⟨Or.elim hk_ (fun hs_ => Or.elim hs_ (fun hs_ => fun e_ => Nat.not_le.2 hs_ (by rw [e_]; exact GW101.out)) (fun hs_ => fun e_ => Nat.not_le.2 hs_ (by rw [e_]; exact GW101.out))) (fun hn_ => (Kd.freshB (g := gb101) (o := .cells #[.slice A0_0 l0_0.length c0_0, .slice A0_1 l0_1.length c0_1, .int .i64 a0_2, .int .i64 a0_3] 31 (0, 0)) (bk_ BK101) k_ hn_)), Or.elim hk_ (fun hs_ => Or.elim hs_ (fun hs_ => fun e_ => Nat.not_le.2 hs_ (by rw [e_]; exact GW102.out)) (fun hs_ => fun e_ => Nat.not_le.2 hs_ (by rw [e_]; exact GW102.out))) (fun hn_ => (Kd.freshB (g := gb102) (o := .cells #[.int .i64 a1_0, .int .i64 a1_1, .string a1_2, .slice A1_3 l1_3.length c1_3] 49 (0, 0)) (bk_ BK102) k_ hn_)), Or.elim hk_ (fun hs_ => Or.elim hs_ (fun hs_ => fun e_ => Nat.not_le.2 hs_ (by rw [e_]; exact GW103.out)) (fun hs_ => fun e_ => Nat.not_le.2 hs_ (by rw [e_]; exact GW103.out))) (fun hn_ => (Kd.freshB (g := gb103) (o := .cells #[.int .i64 0, .int .i64 0, .string (⟨#[]⟩ : ByteArray), .slice none 0 0] 49 (0, 0)) (bk_ BK103) k_ hn_))⟩)) (below_size (bel_))); replace BK101 := bb_ BK101 hb; replace BK102 := bb_ BK102 hb; replace BK103 := bb_ BK103 hb; replace HB := bs_ hb; (try clear hb); (try clear hb2); (try clear hk); (try clear hi); (try clear ho0)))
  go_loopg [9] k (fun kq v9 w' => ∃ (x9_1 : Int) (x104000_1 : Int) (x104001_1 : Int) (x104002_1 : ByteArray), v9 = .int .i64 x9_1 ∧ Aside0 (spec_l2Get.l0 kq a2 t104 x9_1 = some (r1, r2, r3, r4)) ∧ Aside0 (kq ≤ k) ∧ Aside0 (Kd.V k140 140 w' w.heap.size (fun k_ => k_ ≠ gb101 ∧ k_ ≠ gb102 ∧ k_ ≠ gb103) v105 t104) ∧ Aside0 (w'.heap[gb101]? = some (.cells #[(.slice A0_0 l0_0.length c0_0), (.slice A0_1 l0_1.length c0_1), .int .i64 a0_2, .int .i64 a0_3] 31 (0, 0))) ∧ Aside0 (w'.heap[gb102]? = some (.cells #[.int .i64 a1_0, .int .i64 a1_1, .string a1_2, (.slice A1_3 l1_3.length c1_3)] 49 (0, 0))) ∧ Aside0 (w'.heap[gb103]? = some (.cells #[.int .i64 x104000_1, .int .i64 x104001_1, .string x104002_1, (.slice none 0 0)] 49 (0, 0))) ∧ Aside0 (Below w.heap.size w w'))
  case atStart => exact ⟨(0), (0), (0), ((⟨#[]⟩ : ByteArray)), sm_, H', ⟨Nat.le_refl _⟩, ⟨by (with_reducible repeat (first | apply Kd.V_alloc | apply Kd.V_drewN | apply Kd.V_drew)); first | exact HO106.out | exact Kd.V_mono (HO106.out) (fun _ h_ => by simpa only [and_assoc, and_comm, and_left_comm] using h_)⟩, ⟨by refine pe_ ?_; exact BK101.out⟩, ⟨by refine pe_ ?_; exact BK102.out⟩, ⟨by refine pe_ ?_; exact BK103.out⟩, ⟨bel_⟩⟩
  case round =>
    clear H'
    try clear c1
    try clear p2
    try clear c8
    try clear c9
    try clear c11
    try clear hcz10_0 hcz10_1 hcz10_2 hcz10_3
    try clear hcz12_0 hcz12_1 hcz12_2 hcz12_3
    try clear hfz10_0 hfz10_1 hfz10_2 hfz10_3
    try clear hfz12_0 hfz12_1 hfz12_2 hfz12_3
    obtain ⟨x9_1, x104000_1, x104001_1, x104002_1, rfl, HA, HK1, HO_7, BK101, BK102, BK103, HB⟩ := hrel
    cases gk with
    | zero => exact absurd HA.out (by simp [spec_l2Get.l0])
    | succ k1 =>
      have H := HA.out; clear HA; simp only [spec_l2Get.l0] at H; by_cases c14 : x9_1 < (t104.length : Int); rotate_left; rw [if_neg c14] at H; have c14b0 := df_ c14; clear c14; simp only [Option.some.injEq, Prod.mk.injEq] at H; obtain ⟨rfl, rfl, rfl, rfl⟩ := H; rotate_right; rw [if_pos c14] at H; have c14b0 := dt_ c14; clear c14; by_cases c15 : 0 ≤ x9_1; rotate_left
      · rw [if_neg c15] at H; exact absurd H (by simp)
      rotate_right; rw [if_pos c15] at H; have c15b0 := dt_ c15; clear c15; by_cases c16 : ((rd_T140 t104 x9_1).f0).toList = a2.toList; rotate_left; rw [if_neg c16] at H; have c16b0 := bf_ c16; have c16b1 := nt_ c16; have H' := Aside0.mk H; clear H; rotate_right; rw [if_pos c16] at H; have c16b0 := bt__ c16; have c16b1 := nf__ c16; clear c16; replace H := ob_ H; obtain ⟨⟨t110, t111, t112, t113⟩, A17, H⟩ := H; simp only [Option.some.injEq, Prod.mk.injEq] at H; obtain ⟨rfl, rfl, rfl, rfl⟩ := H
      all_goals
        obtain ⟨Ao18, co18, eo18⟩ := Kd.V_slice HO_7.out; subst eo18
      rotate_left 2
      · have hnb26 := NB103_101.out; have hnc26 := NB101_103.out; have hnb27 := NB103_102.out; have hnc27 := NB102_103.out; obtain ⟨hcz28_0, hcz28_1, hcz28_2, hcz28_3, hfz28_0, hfz28_1, hfz28_2, hfz28_3⟩ := blk4 BK103
        go_wp2
        refine bodyPost_ret (results_cell_row rfl _ _ gb103 49 #[.int .i64 0, .int .i64 0, .string (⟨#[]⟩ : ByteArray), .slice none 0 0] (0, 0) _ rfl (by refine pe_ ?_; refine blk_put (cs := #[.int .i64 0, .int .i64 0, .string (⟨#[]⟩ : ByteArray), .slice none 0 0]) ?_ 3 _ rfl; refine pe_ ?_; refine blk_put (cs := #[.int .i64 0, .int .i64 0, .string x104002_1, .slice none 0 0]) ?_ 2 _ rfl; refine pe_ ?_; refine blk_put (cs := #[.int .i64 0, .int .i64 x104001_1, .string x104002_1, .slice none 0 0]) ?_ 1 _ rfl; refine pe_ ?_; refine blk_put (cs := #[.int .i64 x104000_1, .int .i64 x104001_1, .string x104002_1, .slice none 0 0]) ?_ 0 _ rfl; refine pe_ ?_; exact BK103.out) Try.underlying49 rfl (by kernel_rfl)) rfl ?_; exact ⟨_, by first | rfl | (simp [errW_none, errW_some] <;> rfl) | (simp [*, errW_none, errW_some] <;> rfl), by first | exact Kd.R_nil _ _ _ _ _ | exact Kd.N_nil _ _ _ _ _ | exact Kd.V_nil _ _ _ _ _ | exact Kd.Q_nil _ _ _ _ _ | exact Kd.S_nil _ _ _ _ _, bel_⟩
      all_goals
        have p108 : 0 ≤ (x9_1 : Int) := od_; have q108 : x9_1 < (t104.length : Int) := od_; obtain ⟨ad108, A108_4, c108_4, e108, hx108_0, hx108_1, hx108_2, hx108_3, hx108_4, hl108_4, hi108_4⟩ := at_T140 (Kd.V_reads' HO_7.out).2.2 x9_1 p108 q108
        cases e108
        obtain ⟨ce108, hce108, hMe108, hcc108⟩ := Kd.V_get HO_7.out z140 x9_1 p108 (by first | exact q108 | exact od_ | (have e_ := (Kd.V_reads' HO_7.out).1; omega)); obtain ⟨ua108_4, uc108_4, rfl, ul108_4, ge108_4⟩ := k140_openF hMe108; have hv108_4 := hcc108 4 _ rfl; rw [add_field _ _ 4 (by omega)] at hv108_4; replace hv108_4 := Option.some.inj (hv108_4.symm.trans hx108_4)
        injection hv108_4 with hva_ hvn_ hvc_
        rw [hva_] at ge108_4; rw [hvc_] at ul108_4; have HL108_4 := Aside0.mk (show Kd.V k49 49 _ w.heap.size _ _ ((rd_T140 t104 x9_1).f1.f3) from Kd.V_mk ul108_4 ge108_4); clear hva_ hvn_ hvc_ ge108_4 ul108_4; clear hcc108 hce108; have HR108_4 := Aside0.mk hi108_4; have HC108_4 := Aside0.mk hl108_4; clear hi108_4 hl108_4; replace p108 := eq_true p108; replace q108 := eq_true q108
      rotate_left
      · go_wp2
        go_roundg k1
        case measure => have := HK1.out; omega
        case rel => exact ⟨(wrap64 (x9_1 + 1)), (x104000_1), (x104001_1), (x104002_1), sm_, H', ⟨by have := HK1.out; omega⟩, ⟨by (with_reducible repeat (first | apply Kd.V_alloc | apply Kd.V_drewN | apply Kd.V_drew)); first | exact HO_7.out | exact Kd.V_mono (HO_7.out) (fun _ h_ => by simpa only [and_assoc, and_comm, and_left_comm] using h_)⟩, ⟨by refine pe_ ?_; exact BK101.out⟩, ⟨by refine pe_ ?_; exact BK102.out⟩, ⟨by refine pe_ ?_; exact BK103.out⟩, ⟨bel_⟩⟩
      have p109 : 0 ≤ (x9_1 : Int) := od_; have q109 : x9_1 < (t104.length : Int) := od_; obtain ⟨ad109, A109_4, c109_4, e109, hx109_0, hx109_1, hx109_2, hx109_3, hx109_4, hl109_4, hi109_4⟩ := at_T140 (Kd.V_reads' HO_7.out).2.2 x9_1 p109 q109; obtain rfl : ad108 = ad109 := (by injection e109); obtain ⟨ce109, hce109, hMe109, hcc109⟩ := Kd.V_get HO_7.out z140 x9_1 p109 (by first | exact q109 | exact od_ | (have e_ := (Kd.V_reads' HO_7.out).1; omega)); obtain ⟨ua109_4, uc109_4, rfl, ul109_4, ge109_4⟩ := k140_openF hMe109; have hv109_4 := hcc109 4 _ rfl; rw [add_field _ _ 4 (by omega)] at hv109_4; replace hv109_4 := Option.some.inj (hv109_4.symm.trans hx109_4)
      injection hv109_4 with hva_ hvn_ hvc_
      rw [hva_] at ge109_4; rw [hvc_] at ul109_4; have HL109_4 := Aside0.mk (show Kd.V k49 49 _ w.heap.size _ _ ((rd_T140 t104 x9_1).f1.f3) from Kd.V_mk ul109_4 ge109_4); clear hva_ hvn_ hvc_ ge109_4 ul109_4; clear hcc109 hce109; have HR109_4 := Aside0.mk hi109_4; have HC109_4 := Aside0.mk hl109_4; clear hi109_4 hl109_4; replace p109 := eq_true p109; replace q109 := eq_true q109; have ea_ := Option.some.inj (hx108_4.symm.trans hx109_4)
      injection ea_ with ea_ en_ ec_
      subst ea_; subst ec_; clear en_
      go_wp2_with (first | ((with_reducible refine gate_callee (f := 164) rfl ?_); refine goesL_ (some 34) rfl rfl Try.func164 (by kernel_rfl) rfl #[.agg #[.int .i64 ((rd_T140 t104 x9_1).f1.f0), .int .i64 ((rd_T140 t104 x9_1).f1.f1), .string ((rd_T140 t104 x9_1).f1.f2), .slice A108_4 ((rd_T140 t104 x9_1).f1.f3).length c108_4]] rfl ar_ ?_; (with_reducible refine (spec_l1Copy.calls k1 ((rd_T140 t104 x9_1).f1.f0) ((rd_T140 t104 x9_1).f1.f1) ((rd_T140 t104 x9_1).f1.f2) _ _ ((rd_T140 t104 x9_1).f1.f3) t110 t111 t112 t113 _ ?side1 ?side2 A17.out).mono ?_); (case side1 => repeat (first | exact (by repeat (first | (with_reducible exact HR109_4.out) | (with_reducible refine Kd.C_alloc ?_ _) | (with_reducible refine Kd.C_drewN ?_ _) | (with_reducible refine Kd.C_drew ?_) | exact HR109_4.out)) | (with_reducible refine Kd.C_alloc ?_ _) | (with_reducible refine Kd.C_drewN ?_ _) | (with_reducible refine Kd.C_drew ?_))); (case side2 => exact HC109_4.out); rintro e w19 ⟨v114, rfl, ho0, hb⟩; refine ⟨_, rfl, ?_⟩; have HO115 := Aside0.mk (Kd.R_lower (Kd.R_newB (Kd.R_newB ho0 (g := gb102) (o := .cells #[.int .i64 a1_0, .int .i64 a1_1, .string a1_2, .slice A1_3 l1_3.length c1_3] 49 (0, 0)) (bk_ BK102)) (g := gb103) (o := .cells #[.int .i64 x104000_1, .int .i64 x104001_1, .string x104002_1, .slice none 0 0] 49 (0, 0)) (bk_ BK103)) (below_size (bel_))); replace HO_7 := Aside0.mk (Kd.V_elder' (by (with_reducible repeat (first | apply Kd.V_alloc | apply Kd.V_drewN | apply Kd.V_drew)); first | exact HO_7.out | exact Kd.V_mono (HO_7.out) (fun _ h_ => by simpa only [and_assoc, and_comm, and_left_comm] using h_)) (Kd.R_base ho0) hb); replace HL108_4 := Aside0.mk (Kd.V_elder' (by (with_reducible repeat (first | apply Kd.V_alloc | apply Kd.V_drewN | apply Kd.V_drew)); first | exact HL108_4.out | exact Kd.V_mono (HL108_4.out) (fun _ h_ => by simpa only [and_assoc, and_comm, and_left_comm] using h_)) (Kd.R_base ho0) hb); replace HL109_4 := Aside0.mk (Kd.V_elder' (by (with_reducible repeat (first | apply Kd.V_alloc | apply Kd.V_drewN | apply Kd.V_drew)); first | exact HL109_4.out | exact Kd.V_mono (HL109_4.out) (fun _ h_ => by simpa only [and_assoc, and_comm, and_left_comm] using h_)) (Kd.R_base ho0) hb); replace BK101 := bb_ BK101 hb; replace BK102 := bb_ BK102 hb; replace BK103 := bb_ BK103 hb; replace HR108_4 := Aside0.mk (Kd.C_below (by repeat (first | (with_reducible exact HR108_4.out) | (with_reducible refine Kd.C_alloc ?_ _) | (with_reducible refine Kd.C_drewN ?_ _) | (with_reducible refine Kd.C_drew ?_) | exact HR108_4.out)) hb); replace HR109_4 := Aside0.mk (Kd.C_below (by repeat (first | (with_reducible exact HR109_4.out) | (with_reducible refine Kd.C_alloc ?_ _) | (with_reducible refine Kd.C_drewN ?_ _) | (with_reducible refine Kd.C_drew ?_) | exact HR109_4.out)) hb); replace HB := bs_ hb; (try clear hb); (try clear hb2); (try clear hk); (try clear hi); (try clear ho0); have hnb20 := NB103_101.out; have hnc20 := NB101_103.out; have hnb21 := NB103_102.out; have hnc21 := NB102_103.out; obtain ⟨hcz22_0, hcz22_1, hcz22_2, hcz22_3, hfz22_0, hfz22_1, hfz22_2, hfz22_3⟩ := blk4 BK103; obtain ⟨Ao23, co23, eo23⟩ := Kd.R_slice HO115.out; subst eo23))
      refine bodyPost_ret (results_cell_row rfl _ _ gb103 49 #[.int .i64 t110, .int .i64 t111, .string t112, .slice Ao23 t113.length co23] (0, 0) _ rfl (by refine pe_ ?_; refine blk_put (cs := #[.int .i64 t110, .int .i64 t111, .string t112, .slice none 0 0]) ?_ 3 _ rfl; refine pe_ ?_; refine blk_put (cs := #[.int .i64 t110, .int .i64 t111, .string x104002_1, .slice none 0 0]) ?_ 2 _ rfl; refine pe_ ?_; refine blk_put (cs := #[.int .i64 t110, .int .i64 x104001_1, .string x104002_1, .slice none 0 0]) ?_ 1 _ rfl; refine pe_ ?_; refine blk_put (cs := #[.int .i64 x104000_1, .int .i64 x104001_1, .string x104002_1, .slice none 0 0]) ?_ 0 _ rfl; refine pe_ ?_; exact BK103.out) Try.underlying49 rfl (by kernel_rfl)) rfl ?_; exact ⟨_, by first | rfl | (simp [errW_none, errW_some] <;> rfl) | (simp [*, errW_none, errW_some] <;> rfl), by (with_reducible repeat (first | apply Kd.R_alloc | apply Kd.R_drewN | apply Kd.R_drew)); exact Kd.R_mono (rf4 gb103 (Kd.R_mono HO115.out (fun k_ hk => (⟨hk, hk.2⟩ : _ ∧ k_ ≠ gb103))) (fun _ hk => hk.2)) (fun _ hk => trivial), bel_⟩
mutual
def spec_l1Same.j0 : Nat → Bool → Int → Int → ByteArray → List (S49) → Int → Int → ByteArray → List (S49) → Option (Bool)
  | 0, _, _, _, _, _, _, _, _, _ => none
  | k + 1, x33, x102000, x102001, x102002, x102003, x103000, x103001, x103002, x103003 => if x33 = true then (some false) else (spec_l1Same.l0 k 0 x102000 x102001 x102002 x102003 x103000 x103001 x103002 x103003)
def spec_l1Same.l0 : Nat → Int → Int → Int → ByteArray → List (S49) → Int → Int → ByteArray → List (S49) → Option (Bool)
  | 0, _, _, _, _, _, _, _, _, _ => none
  | k + 1, x5, x102000, x102001, x102002, x102003, x103000, x103001, x103002, x103003 => if x5 < (x102003.length : Int) then (if 0 ≤ x5 then (if x5 < (x103003.length : Int) then ((spec_l1Same.f k ((rd_T49 x102003 x5).f0) ((rd_T49 x102003 x5).f1) ((rd_T49 x102003 x5).f2) ((rd_T49 x102003 x5).f3) ((rd_T49 x103003 x5).f0) ((rd_T49 x103003 x5).f1) ((rd_T49 x103003 x5).f2) ((rd_T49 x103003 x5).f3)).bind fun t105 => (if t105 = true then (spec_l1Same.l0 k (wrap64 (x5 + 1)) x102000 x102001 x102002 x102003 x103000 x103001 x103002 x103003) else (some false))) else (none)) else (none)) else (some true)
def spec_l1Same.f : Nat → Int → Int → ByteArray → List (S49) → Int → Int → ByteArray → List (S49) → Option (Bool)
  | 0, _, _, _, _, _, _, _, _ => none
  | k + 1, a0_0, a0_1, a0_2, l0_3, a1_0, a1_1, a1_2, l1_3 => if a0_0 = a1_0 then (if a0_1 = a1_1 then (if a0_2.toList = a1_2.toList then (spec_l1Same.j0 k ((l0_3.length : Int) != (l1_3.length : Int)) a0_0 a0_1 a0_2 l0_3 a1_0 a1_1 a1_2 l1_3) else (spec_l1Same.j0 k true a0_0 a0_1 a0_2 l0_3 a1_0 a1_1 a1_2 l1_3)) else (spec_l1Same.j0 k true a0_0 a0_1 a0_2 l0_3 a1_0 a1_1 a1_2 l1_3)) else (spec_l1Same.j0 k true a0_0 a0_1 a0_2 l0_3 a1_0 a1_1 a1_2 l1_3)
end
def spec_l1Same.T6 : Bool × List (List Nat × List Nat) := (true, [([], []), ([0], [0]), ([], []), ([1, 2], [1, 2]), ([3], [3]), ([], []), ([5], [5]), ([], []), ([6, 7], [6, 7]), ([8], [8]), ([4, 9], [4, 9]), ([10], [10])])
def spec_l1Same.B6 : List Nat := [0, 1, 0, 7, 15, 0, 32, 0, 224, 480, 1023, 2047]
theorem spec_l1Same.tab6 : rtab .any (opsOf Try.f168 6) = spec_l1Same.T6 := by kernel_rfl
theorem spec_l1Same.bits6 : waitsOk spec_l1Same.T6.2 spec_l1Same.B6 = true := by kernel_rfl
set_option maxHeartbeats 8000000 in
set_option maxRecDepth 100000 in
theorem spec_l1Same.calls (k : Nat) : ∀ (a0_0 : Int) (a0_1 : Int) (a0_2 : ByteArray) (A0_3 : Option Addr) (c0_3 : Nat) (l0_3 : List (S49)) (a1_0 : Int) (a1_1 : Int) (a1_2 : ByteArray) (A1_3 : Option Addr) (c1_3 : Nat) (l1_3 : List (S49)) (r : Bool) (w : World) (hr0_3 : Kd.C k49 w A0_3 l0_3.length l0_3) (hc0_3 : l0_3.length ≤ c0_3) (hr1_3 : Kd.C k49 w A1_3 l1_3.length l1_3) (hc1_3 : l1_3.length ≤ c1_3) (h : spec_l1Same.f k a0_0 a0_1 a0_2 l0_3 a1_0 a1_1 a1_2 l1_3 = some r),
    Calls Try.prog 168 #[.agg #[.int .i64 a0_0, .int .i64 a0_1, .string a0_2, .slice A0_3 l0_3.length c0_3], .agg #[.int .i64 a1_0, .int .i64 a1_1, .string a1_2, .slice A1_3 l1_3.length c1_3]] w fun e w' => e = .returned (.bool r) ∧ Below w.heap.size w w' := by
  induction k using Nat.strongRecOn with
  | _ k ih =>
  intro a0_0 a0_1 a0_2 A0_3 c0_3 l0_3 a1_0 a1_1 a1_2 A1_3 c1_3 l1_3 r w hr0_3 hc0_3 hr1_3 hc1_3 h
  cases k with
  | zero => exact absurd h (by simp [spec_l1Same.f])
  | succ k =>
  simp only [spec_l1Same.f] at h; have hu49 := Try.underlying49; have HR0_3 := Aside0.mk hr0_3; have HC0_3 := Aside0.mk hc0_3; clear hr0_3 hc0_3; have HR1_3 := Aside0.mk hr1_3; have HC1_3 := Aside0.mk hc1_3; clear hr1_3 hc1_3; have HB := Aside0.mk (Below.refl w.heap.size w); have H : (if a0_0 = a1_0 then (if a0_1 = a1_1 then (if a0_2.toList = a1_2.toList then (spec_l1Same.j0 k ((l0_3.length : Int) != (l1_3.length : Int)) a0_0 a0_1 a0_2 l0_3 a1_0 a1_1 a1_2 l1_3) else (spec_l1Same.j0 k true a0_0 a0_1 a0_2 l0_3 a1_0 a1_1 a1_2 l1_3)) else (spec_l1Same.j0 k true a0_0 a0_1 a0_2 l0_3 a1_0 a1_1 a1_2 l1_3)) else (spec_l1Same.j0 k true a0_0 a0_1 a0_2 l0_3 a1_0 a1_1 a1_2 l1_3)) = some r := h; clear h; have HC3 := Aside0.mk H; clear H
  go_enter Try.func168, Try.ntmps168
  go_upto_region 1 with (first | ((with_reducible refine gate_dst (N := 2) rfl ?_); (try (refine gate_guard (by rfl) ?_; dsimp only)); refine box_event ?hg (N := 2) ?hd (cs := #[.int .i64 a0_0, .int .i64 a0_1, .string a0_2, .slice A0_3 l0_3.length c0_3]) (t := 49) ?hr ?_; (case hd => rfl); (case hg => rfl); (case hr => first | (go_simp; done) | (go_simp; rfl)); intro gb101 hg w4 hbox hb; have BK101 := Aside0.mk (hbox); have GW101 := gw_ hg; have GE101 := gw_ hg; replace HB := bs_ hb; clear hb hbox hg) | ((with_reducible refine gate_dst (N := 3) rfl ?_); (try (refine gate_guard (by rfl) ?_; dsimp only)); refine box_event ?hg (N := 3) ?hd (cs := #[.int .i64 a1_0, .int .i64 a1_1, .string a1_2, .slice A1_3 l1_3.length c1_3]) (t := 49) ?hr ?_; (case hd => rfl); (case hg => rfl); (case hr => first | (go_simp; done) | (go_simp; rfl)); intro gb102 hg w5 hbox hb; have BK102 := Aside0.mk (hbox); have GW102 := gw_ hg; have GE102 := gw_ hg; have NB101_102 := nlt_ hg BK101; have NB102_101 := ngt_ hg BK101; replace BK101 := bb_ BK101 hb; replace HB := bs_ hb; clear hb hbox hg))
  (try simp only [Act.put, List.setIfInBounds_toArray, List.set_cons_zero, List.set_cons_succ])
  go_cut [33] (fun v33 wc => ∃ (kq : Nat) (x33_2 : Bool), v33 = .bool x33_2 ∧ Aside0 (spec_l1Same.j0 kq x33_2 a0_0 a0_1 a0_2 l0_3 a1_0 a1_1 a1_2 l1_3 = some r) ∧ Aside0 (kq ≤ k) ∧ Aside0 (wc.heap[gb101]? = some (.cells #[.int .i64 a0_0, .int .i64 a0_1, .string a0_2, (.slice A0_3 l0_3.length c0_3)] 49 (0, 0))) ∧ Aside0 (wc.heap[gb102]? = some (.cells #[.int .i64 a1_0, .int .i64 a1_1, .string a1_2, (.slice A1_3 l1_3.length c1_3)] 49 (0, 0))) ∧ Aside0 (Below w.heap.size w wc))
  case first =>
    have H := HC3.out; clear HC3; by_cases c6 : a0_0 = a1_0; rotate_left
    · rw [if_neg c6] at H; have c6b0 := bf_ c6; have c6b1 := nt_ c6
      (first | rw [c6b0] | (simp only [i64_w, i32_w]; rw [c6b0]) | skip)
      have H' := Aside0.mk H; clear H; have hnb18 := NB101_102.out; have hnc18 := NB102_101.out; obtain ⟨hcz19_0, hcz19_1, hcz19_2, hcz19_3, hfz19_0, hfz19_1, hfz19_2, hfz19_3⟩ := blk4 BK101; obtain ⟨hcz20_0, hcz20_1, hcz20_2, hcz20_3, hfz20_0, hfz20_1, hfz20_2, hfz20_3⟩ := blk4 BK102
      go_wp2
      go_meet
      case rel => exact ⟨_, (true), sm_, H', ⟨by first | omega | exact Nat.le_refl _⟩, ⟨by refine pe_ ?_; exact BK101.out⟩, ⟨by refine pe_ ?_; exact BK102.out⟩, ⟨bel_⟩⟩
    rw [if_pos c6] at H; have c6b0 := bt__ c6; have c6b1 := nf__ c6; clear c6
    (first | rw [c6b0] | (simp only [i64_w, i32_w]; rw [c6b0]) | skip)
    by_cases c7 : a0_1 = a1_1; rotate_left; rw [if_neg c7] at H; have c7b0 := bf_ c7; have c7b1 := nt_ c7; have H' := Aside0.mk H; clear H; have hnb15 := NB101_102.out; have hnc15 := NB102_101.out; rotate_right; rw [if_pos c7] at H; have c7b0 := bt__ c7; have c7b1 := nf__ c7; clear c7; by_cases c8 : a0_2.toList = a1_2.toList; rotate_left; rw [if_neg c8] at H; have c8b0 := bf_ c8; have c8b1 := nt_ c8; have H' := Aside0.mk H; clear H; have hnb12 := NB101_102.out; have hnc12 := NB102_101.out; rotate_right; rw [if_pos c8] at H; have c8b0 := bt__ c8; have c8b1 := nf__ c8; clear c8; have H' := Aside0.mk H; clear H; have hnb9 := NB101_102.out; have hnc9 := NB102_101.out
    all_goals
      obtain ⟨hcz16_0, hcz16_1, hcz16_2, hcz16_3, hfz16_0, hfz16_1, hfz16_2, hfz16_3⟩ := blk4 BK101; obtain ⟨hcz17_0, hcz17_1, hcz17_2, hcz17_3, hfz17_0, hfz17_1, hfz17_2, hfz17_3⟩ := blk4 BK102
      go_wp2
      go_meet
    · case rel => exact ⟨_, (((l0_3.length : Int) != (l1_3.length : Int))), sm_, H', ⟨by first | omega | exact Nat.le_refl _⟩, ⟨by refine pe_ ?_; exact BK101.out⟩, ⟨by refine pe_ ?_; exact BK102.out⟩, ⟨bel_⟩⟩
    all_goals
      case rel => exact ⟨_, (true), sm_, H', ⟨by first | omega | exact Nat.le_refl _⟩, ⟨by refine pe_ ?_; exact BK101.out⟩, ⟨by refine pe_ ?_; exact BK102.out⟩, ⟨bel_⟩⟩
  case rest =>
    clear HC3
    try clear c1
    try clear p2
    try clear c6
    try clear c6b0
    try clear c6b1
    try clear c7
    try clear c7b0
    try clear c7b1
    try clear c8
    try clear c8b0
    try clear c8b1
    try clear c9
    try clear c12
    try clear c15
    try clear c16
    try clear c18
    try clear hcz10_0 hcz10_1 hcz10_2 hcz10_3
    try clear hcz11_0 hcz11_1 hcz11_2 hcz11_3
    try clear hcz13_0 hcz13_1 hcz13_2 hcz13_3
    try clear hcz14_0 hcz14_1 hcz14_2 hcz14_3
    try clear hcz16_0 hcz16_1 hcz16_2 hcz16_3
    try clear hcz17_0 hcz17_1 hcz17_2 hcz17_3
    try clear hcz19_0 hcz19_1 hcz19_2 hcz19_3
    try clear hcz20_0 hcz20_1 hcz20_2 hcz20_3
    try clear hfz10_0 hfz10_1 hfz10_2 hfz10_3
    try clear hfz11_0 hfz11_1 hfz11_2 hfz11_3
    try clear hfz13_0 hfz13_1 hfz13_2 hfz13_3
    try clear hfz14_0 hfz14_1 hfz14_2 hfz14_3
    try clear hfz16_0 hfz16_1 hfz16_2 hfz16_3
    try clear hfz17_0 hfz17_1 hfz17_2 hfz17_3
    try clear hfz19_0 hfz19_1 hfz19_2 hfz19_3
    try clear hfz20_0 hfz20_1 hfz20_2 hfz20_3
    obtain ⟨kq, x33_2, rfl, HA, HJ2, BK101, BK102, HB⟩ := hcut
    cases kq with
    | zero => exact absurd HA.out (by simp [spec_l1Same.j0])
    | succ kj2 =>
      have H := HA.out; clear HA; simp only [spec_l1Same.j0] at H; by_cases c21 : x33_2 = true; rotate_left; replace c21 := Bool.eq_false_iff.mpr c21; subst c21; rw [fe_] at H; have H' := Aside0.mk H; clear H; rotate_right; subst c21; rw [if_pos rfl] at H; obtain rfl := Option.some.inj H
      all_goals
        go_wp2
      · go_ret; exact re_
      go_loopg [5] kj2 (fun kq v5 w' => ∃ (x5_2 : Int), v5 = .int .i64 x5_2 ∧ Aside0 (spec_l1Same.l0 kq x5_2 a0_0 a0_1 a0_2 l0_3 a1_0 a1_1 a1_2 l1_3 = some r) ∧ Aside0 (kq ≤ kj2) ∧ Aside0 (w'.heap[gb101]? = some (.cells #[.int .i64 a0_0, .int .i64 a0_1, .string a0_2, (.slice A0_3 l0_3.length c0_3)] 49 (0, 0))) ∧ Aside0 (w'.heap[gb102]? = some (.cells #[.int .i64 a1_0, .int .i64 a1_1, .string a1_2, (.slice A1_3 l1_3.length c1_3)] 49 (0, 0))) ∧ Aside0 (Below w.heap.size w w'))
      case atStart => exact ⟨(0), sm_, H', ⟨Nat.le_refl _⟩, ⟨by refine pe_ ?_; exact BK101.out⟩, ⟨by refine pe_ ?_; exact BK102.out⟩, ⟨bel_⟩⟩
      case round =>
        clear H'
        try clear c1
        try clear c2
        try clear p2
        try clear c6
        try clear c6b0
        try clear c6b1
        try clear c7
        try clear c7b0
        try clear c7b1
        try clear c8
        try clear c8b0
        try clear c8b1
        try clear c9
        try clear c12
        try clear c15
        try clear c16
        try clear c18
        try clear c21
        try clear hcz10_0 hcz10_1 hcz10_2 hcz10_3
        try clear hcz11_0 hcz11_1 hcz11_2 hcz11_3
        try clear hcz13_0 hcz13_1 hcz13_2 hcz13_3
        try clear hcz14_0 hcz14_1 hcz14_2 hcz14_3
        try clear hcz16_0 hcz16_1 hcz16_2 hcz16_3
        try clear hcz17_0 hcz17_1 hcz17_2 hcz17_3
        try clear hcz19_0 hcz19_1 hcz19_2 hcz19_3
        try clear hcz20_0 hcz20_1 hcz20_2 hcz20_3
        try clear hfz10_0 hfz10_1 hfz10_2 hfz10_3
        try clear hfz11_0 hfz11_1 hfz11_2 hfz11_3
        try clear hfz13_0 hfz13_1 hfz13_2 hfz13_3
        try clear hfz14_0 hfz14_1 hfz14_2 hfz14_3
        try clear hfz16_0 hfz16_1 hfz16_2 hfz16_3
        try clear hfz17_0 hfz17_1 hfz17_2 hfz17_3
        try clear hfz19_0 hfz19_1 hfz19_2 hfz19_3
        try clear hfz20_0 hfz20_1 hfz20_2 hfz20_3
        try clear p2
        obtain ⟨x5_2, rfl, HA, HK2, BK101, BK102, HB⟩ := hrel
        cases gk with
        | zero => exact absurd HA.out (by simp [spec_l1Same.l0])
        | succ k2 =>
          have H := HA.out; clear HA; simp only [spec_l1Same.l0] at H; by_cases c22 : x5_2 < (l0_3.length : Int); rotate_left; rw [if_neg c22] at H; have c22b0 := df_ c22; clear c22; obtain rfl := Option.some.inj H; have hnb35 := NB101_102.out; have hnc35 := NB102_101.out; rotate_right; rw [if_pos c22] at H; have c22b0 := dt_ c22; clear c22; by_cases c23 : 0 ≤ x5_2; rotate_left
          · rw [if_neg c23] at H; exact absurd H (by simp)
          rotate_right; rw [if_pos c23] at H; have c23b0 := dt_ c23; clear c23; by_cases c24 : x5_2 < (l1_3.length : Int); rotate_left
          · rw [if_neg c24] at H; exact absurd H (by simp)
          rotate_right; rw [if_pos c24] at H; have c24b0 := dt_ c24; clear c24; replace H := ob_ H; obtain ⟨t105, A25, H⟩ := H; by_cases c26 : t105 = true; rotate_left; replace c26 := Bool.eq_false_iff.mpr c26; subst c26; rw [fe_] at H; obtain rfl := Option.some.inj H; have hnb31 := NB101_102.out; have hnc31 := NB102_101.out; rotate_right; subst c26; rw [if_pos rfl] at H; have H' := Aside0.mk H; clear H; have hnb27 := NB101_102.out; have hnc27 := NB102_101.out
          all_goals
            obtain ⟨hcz28_0, hcz28_1, hcz28_2, hcz28_3, hfz28_0, hfz28_1, hfz28_2, hfz28_3⟩ := blk4 BK101
          rotate_left 2
          · go_wp2
            go_ret; exact re_
          all_goals
            try go_wp2
            replace BK101 := Aside0.mk (blk_drew BK101.out); replace BK102 := Aside0.mk (blk_drew BK102.out); replace HB := Aside0.mk (below_drew1 HB.out); have p103 : 0 ≤ (x5_2 : Int) := od_; have q103 : x5_2 < (l0_3.length : Int) := od_; obtain ⟨ad103, A103_3, c103_3, e103, hx103_0, hx103_1, hx103_2, hx103_3, hl103_3, hi103_3⟩ := at_T49 HR0_3.out x5_2 p103 q103; have hw103_3 := hx103_3; have hw103_2 := hx103_2; have hw103_1 := hx103_1; have hw103_0 := hx103_0
            cases e103
            replace hx103_0 := mv_ HB hx103_0; replace hx103_1 := mv_ HB hx103_1; replace hx103_2 := mv_ HB hx103_2; replace hx103_3 := mv_ HB hx103_3; have HR103_3 := Aside0.mk hi103_3; have HC103_3 := Aside0.mk hl103_3; clear hi103_3 hl103_3; replace p103 := eq_true p103; replace q103 := eq_true q103; have p104 : 0 ≤ (x5_2 : Int) := od_; have q104 : x5_2 < (l1_3.length : Int) := od_; obtain ⟨ad104, A104_3, c104_3, e104, hx104_0, hx104_1, hx104_2, hx104_3, hl104_3, hi104_3⟩ := at_T49 HR1_3.out x5_2 p104 q104; have hw104_3 := hx104_3; have hw104_2 := hx104_2; have hw104_1 := hx104_1; have hw104_0 := hx104_0
            cases e104
            replace hx104_0 := mv_ HB hx104_0; replace hx104_1 := mv_ HB hx104_1; replace hx104_2 := mv_ HB hx104_2; replace hx104_3 := mv_ HB hx104_3; have HR104_3 := Aside0.mk hi104_3; have HC104_3 := Aside0.mk hl104_3; clear hi104_3 hl104_3; replace p104 := eq_true p104; replace q104 := eq_true q104
            refine start_ (n := 12) (S := fun w' => w'.cell? ⟨gb101, 0, none⟩ = some (.int .i64 a0_0) ∧ w'.cell? ⟨gb101, 1, none⟩ = some (.int .i64 a0_1) ∧ w'.cell? ⟨gb101, 2, none⟩ = some (.string a0_2) ∧ w'.cell? ⟨gb101, 3, none⟩ = some (.slice (some ad103) l0_3.length c0_3) ∧ w'.cell? ⟨gb102, 0, none⟩ = some (.int .i64 a1_0) ∧ w'.cell? ⟨gb102, 1, none⟩ = some (.int .i64 a1_1) ∧ w'.cell? ⟨gb102, 2, none⟩ = some (.string a1_2) ∧ w'.cell? ⟨gb102, 3, none⟩ = some (.slice (some ad104) l1_3.length c1_3) ∧ w'.cell? (ad103.add ((x5_2).toNat * 4)) = some (.int .i64 ((rd_T49 l0_3 x5_2).f0)) ∧ w'.cell? ⟨(ad103.add ((x5_2).toNat * 4)).block, (ad103.add ((x5_2).toNat * 4)).off + 1, none⟩ = some (.int .i64 ((rd_T49 l0_3 x5_2).f1)) ∧ w'.cell? ⟨(ad103.add ((x5_2).toNat * 4)).block, (ad103.add ((x5_2).toNat * 4)).off + 2, none⟩ = some (.string ((rd_T49 l0_3 x5_2).f2)) ∧ w'.cell? ⟨(ad103.add ((x5_2).toNat * 4)).block, (ad103.add ((x5_2).toNat * 4)).off + 3, none⟩ = some (.slice A103_3 ((rd_T49 l0_3 x5_2).f3).length c103_3) ∧ w'.cell? (ad104.add ((x5_2).toNat * 4)) = some (.int .i64 ((rd_T49 l1_3 x5_2).f0)) ∧ w'.cell? ⟨(ad104.add ((x5_2).toNat * 4)).block, (ad104.add ((x5_2).toNat * 4)).off + 1, none⟩ = some (.int .i64 ((rd_T49 l1_3 x5_2).f1)) ∧ w'.cell? ⟨(ad104.add ((x5_2).toNat * 4)).block, (ad104.add ((x5_2).toNat * 4)).off + 2, none⟩ = some (.string ((rd_T49 l1_3 x5_2).f2)) ∧ w'.cell? ⟨(ad104.add ((x5_2).toNat * 4)).block, (ad104.add ((x5_2).toNat * 4)).off + 3, none⟩ = some (.slice A104_3 ((rd_T49 l1_3 x5_2).f3).length c104_3)) (ds := []) #[false, false, false, false, false, false, false, false, false, false, false, false] (by kernel_rfl) rfl rfl ⟨(blkc BK101 0), (blkc BK101 1), (blkc BK101 2), (blkc BK101 3), (blkc BK102 0), (blkc BK102 1), (blkc BK102 2), (blkc BK102 3), (mv_ HB hw103_0 :), (mv_ HB hw103_1 :), (mv_ HB hw103_2 :), (mv_ HB hw103_3 :), (mv_ HB hw104_0 :), (mv_ HB hw104_1 :), (mv_ HB hw104_2 :), (mv_ HB hw104_3 :)⟩ (fun hHeld => ?_); refine with_tabW spec_l1Same.tab6 spec_l1Same.bits6 (fun HT_ HW_ => ?_)
            generalize wr.drew = w29 at BK101 BK102 HB HR103_3 HR104_3 hx103_0 hx103_1 hx103_2 hx103_3 hx104_0 hx104_1 hx104_2 hx104_3 hHeld ⊢; refine puA 0 (some 41) ?_; refine puA 2 (some 43) ?_; refine puA 5 (some 46) ?_; refine puA 7 (some 48) ?_; refine taA 1 (some 42) ?_; refine puA 3 (some 44) ?_; refine taA 4 (some 45) ?_; refine taA 6 (some 47) ?_; refine puA 8 (some 49) ?_; refine taA 9 (some 50) ?_; refine one_ (i := 10) (N := some 51) #[true, true, true, true, true, true, true, true, true, true, true, false] rfl rfl (one_of HT_.out (by kernel_rfl)) (by decide) (fun K hK => ?_); refine goes_ Try.func168 (by kernel_rfl) rfl #[.agg #[.int .i64 ((rd_T49 l0_3 x5_2).f0), .int .i64 ((rd_T49 l0_3 x5_2).f1), .string ((rd_T49 l0_3 x5_2).f2), .slice A103_3 ((rd_T49 l0_3 x5_2).f3).length c103_3], .agg #[.int .i64 ((rd_T49 l1_3 x5_2).f0), .int .i64 ((rd_T49 l1_3 x5_2).f1), .string ((rd_T49 l1_3 x5_2).f2), .slice A104_3 ((rd_T49 l1_3 x5_2).f3).length c104_3]] (by rfl) rfl rfl ar_ ?_
          rotate_left
          · with_reducible refine (ih k2 (by have := HJ2.out; have := HK2.out; omega) ((rd_T49 l0_3 x5_2).f0) ((rd_T49 l0_3 x5_2).f1) ((rd_T49 l0_3 x5_2).f2) _ _ ((rd_T49 l0_3 x5_2).f3) ((rd_T49 l1_3 x5_2).f0) ((rd_T49 l1_3 x5_2).f1) ((rd_T49 l1_3 x5_2).f2) _ _ ((rd_T49 l1_3 x5_2).f3) false _ ?side1 ?side2 ?side3 ?side4 A25.out).mono ?_
            (case side1 => exact rdb_ HR103_3); (case side2 => exact HC103_3.out); (case side3 => exact rdb_ HR104_3); (case side4 => exact HC104_3.out); rintro e w34 ⟨rfl, hb⟩; refine ⟨_, rfl, ?_⟩; replace BK101 := bb_ BK101 hb; replace BK102 := bb_ BK102 hb; replace HB := bs_ hb; (try clear hb); (try clear hb2); (try clear hk); (try clear hi); refine hK.out _ _ ⟨(blkc BK101 0), (blkc BK101 1), (blkc BK101 2), (blkc BK101 3), (blkc BK102 0), (blkc BK102 1), (blkc BK102 2), (blkc BK102 3), (mv_ HB hw103_0 :), (mv_ HB hw103_1 :), (mv_ HB hw103_2 :), (mv_ HB hw103_3 :), (mv_ HB hw104_0 :), (mv_ HB hw104_1 :), (mv_ HB hw104_2 :), (mv_ HB hw104_3 :)⟩ (fun hHeld => ?_); clear hK K; refine norm_ (a' := ?_) ?_ ?_; rotate_left
            · show Act.put _ (some 51) _ = _
              simp only [Act.put, List.setIfInBounds_toArray, List.set_cons_zero, List.set_cons_succ, i64_w, i32_w]
              rfl
            refine puA 11 (some 52) ?_; refine done_ (done_of HT_.out (by kernel_rfl)) ?_
            try go_wp2
            go_ret; exact re_
          with_reducible refine (ih k2 (by have := HJ2.out; have := HK2.out; omega) ((rd_T49 l0_3 x5_2).f0) ((rd_T49 l0_3 x5_2).f1) ((rd_T49 l0_3 x5_2).f2) _ _ ((rd_T49 l0_3 x5_2).f3) ((rd_T49 l1_3 x5_2).f0) ((rd_T49 l1_3 x5_2).f1) ((rd_T49 l1_3 x5_2).f2) _ _ ((rd_T49 l1_3 x5_2).f3) true _ ?side1 ?side2 ?side3 ?side4 A25.out).mono ?_
          (case side1 => exact rdb_ HR103_3); (case side2 => exact HC103_3.out); (case side3 => exact rdb_ HR104_3); (case side4 => exact HC104_3.out); rintro e w30 ⟨rfl, hb⟩; refine ⟨_, rfl, ?_⟩; replace BK101 := bb_ BK101 hb; replace BK102 := bb_ BK102 hb; replace HB := bs_ hb; (try clear hb); (try clear hb2); (try clear hk); (try clear hi); refine hK.out _ _ ⟨(blkc BK101 0), (blkc BK101 1), (blkc BK101 2), (blkc BK101 3), (blkc BK102 0), (blkc BK102 1), (blkc BK102 2), (blkc BK102 3), (mv_ HB hw103_0 :), (mv_ HB hw103_1 :), (mv_ HB hw103_2 :), (mv_ HB hw103_3 :), (mv_ HB hw104_0 :), (mv_ HB hw104_1 :), (mv_ HB hw104_2 :), (mv_ HB hw104_3 :)⟩ (fun hHeld => ?_); clear hK K; refine norm_ (a' := ?_) ?_ ?_; rotate_left
          · show Act.put _ (some 51) _ = _
            simp only [Act.put, List.setIfInBounds_toArray, List.set_cons_zero, List.set_cons_succ, i64_w, i32_w]
            rfl
          refine puA 11 (some 52) ?_; refine done_ (done_of HT_.out (by kernel_rfl)) ?_
          try go_wp2
          go_roundg k2
          case measure => have := HJ2.out; have := HK2.out; omega
          case rel => exact ⟨(wrap64 (x5_2 + 1)), sm_, H', ⟨by have := HJ2.out; have := HK2.out; omega⟩, ⟨by refine pe_ ?_; exact BK101.out⟩, ⟨by refine pe_ ?_; exact BK102.out⟩, ⟨bel_⟩⟩
end Go.Proofs.Ytcchmhmbjhgfdaa.G
