import Derived.Test.YtcchmhmbjhgfdaaY3
import Derived.Test.YtcchmhmbjhgfdaaY12
namespace Go.Proofs.Ytcchmhmbjhgfdaa.G
open Go.RowKit Go.Proofs.YtcchmhmbjhgfdaaW.PrintWords Go.Proofs.YtcchmhmbjhgfdaaW.PrintLast Go.Proofs.YtcchmhmbjhgfdaaW.PrintMore
attribute [local go_sem] max2_int min2_int max_two min_two max_three min_three max_four min_four Own.str_gtr Own.str_leq Own.str_geq Own.sto_fn   -- for this text's walks alone
open Own
set_option linter.unusedVariables false
set_option linter.unusedSimpArgs false
def spec_l2Has.l0 : Nat → List ByteArray → ByteArray → Int → Option (Bool)
  | 0, _, _, _ => none
  | k + 1, x0, x1, x5 => if x5 < (x0.length : Int) then (if 0 ≤ x5 then (if (rdOf ByteArray.empty x0 x5).toList = x1.toList then (some true) else (spec_l2Has.l0 k x0 x1 (wrap64 (x5 + 1)))) else (none)) else (some false)
def spec_l2Has.f (k : Nat) (l0 : List ByteArray) (a1 : ByteArray) : Option (Bool) := spec_l2Has.l0 k l0 a1 0
set_option maxHeartbeats 8000000 in
set_option maxRecDepth 100000 in
theorem spec_l2Has.calls (k : Nat) (A0 : Option Addr) (c0 : Nat) (l0 : List ByteArray) (a1 : ByteArray) (r : Bool) (w : World) (hr0 : Kd.C Kd.string w A0 l0.length l0) (hc0 : l0.length ≤ c0) (h : spec_l2Has.f k l0 a1 = some r) :
    Calls Try.prog 160 #[.slice A0 l0.length c0, .string a1] w fun e w' => e = .returned (.bool r) ∧ Drawn0 w w' := by
  have HR0 := Aside0.mk hr0; have HC0 := Aside0.mk hc0; clear hr0 hc0; have H : (spec_l2Has.l0 k l0 a1 0) = some r := h; clear h; have H' := Aside0.mk H; clear H
  go_enter Try.func160, Try.ntmps160
  go_wp2
  go_loopg [5] k (fun kq v5 w' => ∃ (x5_1 : Int), v5 = .int .i64 x5_1 ∧ Aside0 (spec_l2Has.l0 kq l0 a1 x5_1 = some r) ∧ Aside0 (kq ≤ k) ∧ Drawn0 w w')
  case atStart => exact ⟨(0), sm_, H', ⟨Nat.le_refl _⟩, by repeat (first | exact Drawn0.refl _ | apply Drawn0.step)⟩
  case round =>
    clear H'
    try clear c1
    try clear p2
    obtain ⟨x5_1, rfl, HA, HK1, ⟨m1, rfl⟩⟩ := hrel
    cases gk with
    | zero => exact absurd HA.out (by simp [spec_l2Has.l0])
    | succ k1 =>
      have H := HA.out; clear HA; simp only [spec_l2Has.l0] at H; by_cases c3 : x5_1 < (l0.length : Int); rotate_left; rw [if_neg c3] at H; have c3b0 := df_ c3; clear c3; obtain rfl := Option.some.inj H; rotate_right; rw [if_pos c3] at H; have c3b0 := dt_ c3; clear c3; by_cases c4 : 0 ≤ x5_1; rotate_left
      · rw [if_neg c4] at H; exact absurd H (by simp)
      rotate_right; rw [if_pos c4] at H; have c4b0 := dt_ c4; clear c4; by_cases c5 : (rdOf ByteArray.empty l0 x5_1).toList = a1.toList; rotate_left; rw [if_neg c5] at H; have c5b0 := bf_ c5; have c5b1 := nt_ c5; have H' := Aside0.mk H; clear H; rotate_right; rw [if_pos c5] at H; have c5b0 := bt__ c5; have c5b1 := nf__ c5; clear c5; obtain rfl := Option.some.inj H; rotate_left 2
      · go_wp2
        go_ret; exact rd_
      all_goals
        have p101 : 0 ≤ (x5_1 : Int) := od_; have q101 : x5_1 < (l0.length : Int) := od_; obtain ⟨ad101, e101, hx101_0⟩ := Kd.at_string HR0.out x5_1 p101 q101
        cases e101
        replace p101 := eq_true p101; replace q101 := eq_true q101
        go_wp2
      · go_ret; exact rd_
      go_roundg k1
      case measure => have := HK1.out; omega
      case rel => exact ⟨(wrap64 (x5_1 + 1)), sm_, H', ⟨by have := HK1.out; omega⟩, by repeat (first | exact Drawn0.refl _ | apply Drawn0.step)⟩
def spec_l2With.l0 : Nat → ByteArray → List Int → Int → List (S99) → List (S104) → Int → Int → Option (List Int)
  | 0, _, _, _, _, _, _, _ => none
  | k + 1, x1, x5, x6, x102000, x102001, x102002, x102003 => if x6 < (x102000.length : Int) then (if x1.toList = ([] : List UInt8) then (if 0 ≤ x6 then (if x5.length < 17592186044416 then (spec_l2With.l0 k x1 (x5 ++ [(rd_T99 x102000 x6).f0]) (wrap64 (x6 + 1)) x102000 x102001 x102002 x102003) else (none)) else (none)) else (if 0 ≤ x6 then ((spec_l2Has.f k ((rd_T99 x102000 x6).f1) x1).bind fun t110 => (if t110 = true then (if x5.length < 17592186044416 then (spec_l2With.l0 k x1 (x5 ++ [(rd_T99 x102000 x6).f0]) (wrap64 (x6 + 1)) x102000 x102001 x102002 x102003) else (none)) else (spec_l2With.l0 k x1 x5 (wrap64 (x6 + 1)) x102000 x102001 x102002 x102003))) else (none))) else (some x5)
def spec_l2With.f (k : Nat) (l0_0 : List (S99)) (l0_1 : List (S104)) (a0_2 : Int) (a0_3 : Int) (a1 : ByteArray) : Option (List Int) := spec_l2With.l0 k a1 (([] : List Int)) 0 l0_0 l0_1 a0_2 a0_3
set_option maxHeartbeats 8000000 in
set_option maxRecDepth 100000 in
theorem spec_l2With.calls (k : Nat) (A0_0 : Option Addr) (c0_0 : Nat) (l0_0 : List (S99)) (A0_1 : Option Addr) (c0_1 : Nat) (l0_1 : List (S104)) (a0_2 : Int) (a0_3 : Int) (a1 : ByteArray) (r : List Int) (w : World) (hr0_0 : Kd.C k99 w A0_0 l0_0.length l0_0) (hc0_0 : l0_0.length ≤ c0_0) (hr0_1 : Kd.C k104 w A0_1 l0_1.length l0_1) (hc0_1 : l0_1.length ≤ c0_1) (h : spec_l2With.f k l0_0 l0_1 a0_2 a0_3 a1 = some r) :
    Calls Try.prog 91 #[.agg #[.slice A0_0 l0_0.length c0_0, .slice A0_1 l0_1.length c0_1, .int .i64 a0_2, .int .i64 a0_3], .string a1] w fun e w' => ∃ v0_ : Value, e = .returned (v0_) ∧ Kd.R (Kd.int .i64) 3 w' w.heap.size (fun _ => True) v0_ r ∧ Below w.heap.size w w' := by
  have hu31 := Try.underlying31; have HR0_0 := Aside0.mk hr0_0; have HC0_0 := Aside0.mk hc0_0; clear hr0_0 hc0_0; have HR0_1 := Aside0.mk hr0_1; have HC0_1 := Aside0.mk hc0_1; clear hr0_1 hc0_1; have HB := Aside0.mk (Below.refl w.heap.size w); have H : (spec_l2With.l0 k a1 (([] : List Int)) 0 l0_0 l0_1 a0_2 a0_3) = some r := h; clear h; obtain ⟨y102, hy102⟩ : ∃ y_ : List Int, y_ = (([] : List Int)) := ⟨_, rfl⟩
  replace H : (spec_l2With.l0 k a1 y102 0 l0_0 l0_1 a0_2 a0_3) = some r := by first | (rw [hy102]; with_reducible exact H) | (have H2_ := (Option.bind_some _ _).symm.trans H; rw [hy102]; with_reducible exact H2_) | (have H2_ := (Option.bind_some _ _).symm.trans H; with_reducible exact H2_) | with_reducible exact H | (rw [hy102]; exact H) | exact H
  have Ny102 := Aside0.mk hy102; clear hy102; have H' := Aside0.mk H; clear H
  go_enter Try.func91, Try.ntmps91
  go_wp2_with (first | ((with_reducible refine gate_dst (N := 2) rfl ?_); refine bx_ 2 #[.slice A0_0 l0_0.length c0_0, .slice A0_1 l0_1.length c0_1, .int .i64 a0_2, .int .i64 a0_3] 31 ?_; intro gb101 hg w3 hbox hb; have BK101 := Aside0.mk (hbox); have GW101 := gw_ hg; have GE101 := gw_ hg; replace HB := bs_ hb; clear hb hbox hg) | ((with_reducible refine gate_dst (N := 7) rfl ?_); refine Kd.R_lit (Kd.int .i64) _ 3 ?hg (N := 7) ?hd (xs := ([] : List Int)) (inner := []) (ok := fun _ => True) (okp := fun _ => True) ?hr ?hp (fun _ hk => hk) trivial (Below.refl _ _) (Nat.le_refl _) (by simp) ?_; (case hd => rfl); (case hg => rfl); (case hr => first | (go_simp; done) | (go_simp; rfl)); (case hp => exact (Reps.none _ _)); intro v103 w4 ho5 hb hg_ hnew_; clear hg_ hnew_; (first | rw [← Ny102.out] at ho5 | (simp only [Int.reduceToNat] at ho5; rw [← Ny102.out] at ho5)); have HO104 := Aside0.mk (Kd.R_lower ho5 (below_size (bel_))); replace BK101 := bb_ BK101 hb; replace HB := bs_ hb; clear hb ho5))
  go_loopg [5, 6] k (fun kq v5 v6 w' => ∃ (x5_1 : List Int) (x6_1 : Int), v6 = .int .i64 x6_1 ∧ Aside0 (spec_l2With.l0 kq a1 x5_1 x6_1 l0_0 l0_1 a0_2 a0_3 = some r) ∧ Aside0 (kq ≤ k) ∧ Aside0 (Kd.R (Kd.int .i64) 3 w' w.heap.size (fun _ => True) v5 x5_1) ∧ Aside0 (w'.heap[gb101]? = some (.cells #[(.slice A0_0 l0_0.length c0_0), (.slice A0_1 l0_1.length c0_1), .int .i64 a0_2, .int .i64 a0_3] 31 (0, 0))) ∧ Aside0 (Below w.heap.size w w'))
  case atStart => exact ⟨(y102), (0), sm_, H', ⟨Nat.le_refl _⟩, ⟨by (with_reducible repeat (first | apply Kd.R_alloc | apply Kd.R_drewN | apply Kd.R_drew)); exact HO104.out⟩, ⟨by refine pe_ ?_; exact BK101.out⟩, ⟨bel_⟩⟩
  case round =>
    clear H'
    try clear p2
    obtain ⟨x5_1, x6_1, rfl, HA, HK1, HO_5, BK101, HB⟩ := hrel
    cases gk with
    | zero => exact absurd HA.out (by simp [spec_l2With.l0])
    | succ k1 =>
      have H := HA.out; clear HA; simp only [spec_l2With.l0] at H; by_cases c6 : x6_1 < (l0_0.length : Int); rotate_left; rw [if_neg c6] at H; have c6b0 := df_ c6; clear c6; obtain rfl := Option.some.inj H; rotate_right; rw [if_pos c6] at H; have c6b0 := dt_ c6; clear c6; by_cases c7 : a1.toList = ([] : List UInt8); rotate_left; rw [if_neg c7] at H; have c7b0 := bf_ c7; have c7b1 := nt_ c7; by_cases c12 : 0 ≤ x6_1; rotate_left
      · rw [if_neg c12] at H; exact absurd H (by simp)
      rotate_right; rw [if_pos c12] at H; have c12b0 := dt_ c12; clear c12; replace H := ob_ H; obtain ⟨t110, A13, H⟩ := H; by_cases c14 : t110 = true; rotate_left; replace c14 := Bool.eq_false_iff.mpr c14; subst c14; rw [fe_] at H; have H' := Aside0.mk H; clear H; rotate_right; subst c14; rw [if_pos rfl] at H; by_cases c15 : x5_1.length < 17592186044416; rotate_left
      · rw [if_neg c15] at H; exact absurd H (by simp)
      rotate_right; rw [if_pos c15] at H; have LMc15 := Aside0.mk c15; clear c15; obtain ⟨y112, hy112⟩ : ∃ y_ : List Int, y_ = (x5_1 ++ [(rd_T99 l0_0 x6_1).f0]) := ⟨_, rfl⟩
      replace H : (spec_l2With.l0 k1 a1 y112 (wrap64 (x6_1 + 1)) l0_0 l0_1 a0_2 a0_3) = some r := by first | (rw [hy112]; with_reducible exact H) | (have H2_ := (Option.bind_some _ _).symm.trans H; rw [hy112]; with_reducible exact H2_) | (have H2_ := (Option.bind_some _ _).symm.trans H; with_reducible exact H2_) | with_reducible exact H | (rw [hy112]; exact H) | exact H
      have Ny112 := Aside0.mk hy112; clear hy112; have H' := Aside0.mk H; clear H; rotate_right; rw [if_pos c7] at H; have c7b0 := bt__ c7; have c7b1 := nf__ c7; clear c7; by_cases c8 : 0 ≤ x6_1; rotate_left
      · rw [if_neg c8] at H; exact absurd H (by simp)
      rotate_right; rw [if_pos c8] at H; have c8b0 := dt_ c8; clear c8; by_cases c9 : x5_1.length < 17592186044416; rotate_left
      · rw [if_neg c9] at H; exact absurd H (by simp)
      rotate_right; rw [if_pos c9] at H; have LMc9 := Aside0.mk c9; clear c9; obtain ⟨y106, hy106⟩ : ∃ y_ : List Int, y_ = (x5_1 ++ [(rd_T99 l0_0 x6_1).f0]) := ⟨_, rfl⟩
      replace H : (spec_l2With.l0 k1 a1 y106 (wrap64 (x6_1 + 1)) l0_0 l0_1 a0_2 a0_3) = some r := by first | (rw [hy106]; with_reducible exact H) | (have H2_ := (Option.bind_some _ _).symm.trans H; rw [hy106]; with_reducible exact H2_) | (have H2_ := (Option.bind_some _ _).symm.trans H; with_reducible exact H2_) | with_reducible exact H | (rw [hy106]; exact H) | exact H
      have Ny106 := Aside0.mk hy106; clear hy106; have H' := Aside0.mk H; clear H
      all_goals
        obtain ⟨hcz18_0, hcz18_1, hcz18_2, hcz18_3, hfz18_0, hfz18_1, hfz18_2, hfz18_3⟩ := blk4 BK101
      rotate_left 3
      · go_wp2
        go_ret; exact ⟨_, by first | rfl | (simp [errW_none, errW_some] <;> rfl) | (simp [*, errW_none, errW_some] <;> rfl), by (with_reducible repeat (first | apply Kd.R_alloc | apply Kd.R_drewN | apply Kd.R_drew)); exact HO_5.out, bel_⟩
      all_goals
        have p109 : 0 ≤ (x6_1 : Int) := od_; have q109 : x6_1 < (l0_0.length : Int) := od_; obtain ⟨ad109, A109_1, c109_1, A109_2, c109_2, e109, hx109_0, hx109_1, hx109_2, hl109_1, hi109_1, hl109_2, hi109_2⟩ := at_T99 HR0_0.out x6_1 p109 q109
        cases e109
        replace hx109_0 := mv_ HB hx109_0; replace hx109_1 := mv_ HB hx109_1; replace hx109_2 := mv_ HB hx109_2; have HR109_1 := Aside0.mk hi109_1; have HC109_1 := Aside0.mk hl109_1; clear hi109_1 hl109_1; have HR109_2 := Aside0.mk hi109_2; have HC109_2 := Aside0.mk hl109_2; clear hi109_2 hl109_2; replace p109 := eq_true p109; replace q109 := eq_true q109
      rotate_left
      · go_wp2_with (first | (go_at_call 160; (with_reducible refine (spec_l2Has.calls k1 _ _ ((rd_T99 l0_0 x6_1).f1) a1 true _ ?side1 ?side2 A13.out).mono ?_); (case side1 => exact rdb_ HR109_1); (case side2 => exact HC109_1.out); rintro e w' ⟨rfl, ⟨nd, rfl⟩⟩; have p111 : 0 ≤ (x6_1 : Int) := od_; have q111 : x6_1 < (l0_0.length : Int) := od_; obtain ⟨ad111, A111_1, c111_1, A111_2, c111_2, e111, hx111_0, hx111_1, hx111_2, hl111_1, hi111_1, hl111_2, hi111_2⟩ := at_T99 HR0_0.out x6_1 p111 q111; obtain rfl : ad109 = ad111 := (by injection e111); replace hx111_0 := mv_ HB hx111_0; replace hx111_1 := mv_ HB hx111_1; replace hx111_2 := mv_ HB hx111_2; have HR111_1 := Aside0.mk hi111_1; have HC111_1 := Aside0.mk hl111_1; clear hi111_1 hl111_1; have HR111_2 := Aside0.mk hi111_2; have HC111_2 := Aside0.mk hl111_2; clear hi111_2 hl111_2; replace p111 := eq_true p111; replace q111 := eq_true q111; have ea_ := Option.some.inj (hx109_1.symm.trans hx111_1); injection ea_ with ea_ en_ ec_; subst ea_; subst ec_; clear en_; have ea_ := Option.some.inj (hx109_2.symm.trans hx111_2); injection ea_ with ea_ en_ ec_; subst ea_; subst ec_; clear en_) | ((with_reducible refine gate_builtin (b := .append) (xs := #[.tmp 27, .tmp 34]) rfl ?_); at_builtin; refine Kd.R_append (Kd.int .i64) (w0 := w) w.heap.size rfl (.tmp 27) (.tmp 34) 35 3 (.int .i64 0) 8 rfl Try.underlying35 info3 rfl (by decide) (by omega) u5 x5_1 ((rd_T99 l0_0 x6_1).f0) [.int .i64 ((rd_T99 l0_0 x6_1).f0)] (fun _ => True) (fun _ => False) rfl rfl ?aP (fun _ hk => hk.elim) ?aF ?aO ?aB ?aS ?aL ?_; (case aP => exact rfl); (case aB => exact (bel_)); (case aF => exact (fun _ _ => trivial)); (case aO => exact (by (with_reducible repeat (first | apply Kd.R_alloc | apply Kd.R_drewN | apply Kd.R_drew)); exact HO_5.out)); (case aS => exact (below_size (bel_))); (case aL => have := LMc15.out; omega); intro v113 w17 ho hb hg hat; rw [← Ny112.out] at ho; have HO114 := Aside0.mk (ho); replace BK101 := Aside0.mk (blk_grown (g := gb101) (o := .cells #[.slice (some ad109) l0_0.length c0_0, .slice A0_1 l0_1.length c0_1, .int .i64 a0_2, .int .i64 a0_3] 31 (0, 0)) (bk_ BK101) hg (Kd.R_ne HO_5.out BK101.out (by decide))); replace HB := Aside0.mk (hb); clear HO_5; clear ho hb hg hat))
        go_roundg k1
        case measure => have := HK1.out; omega
        case rel => exact ⟨(y112), (wrap64 (x6_1 + 1)), sm_, H', ⟨by have := HK1.out; omega⟩, ⟨by (with_reducible repeat (first | apply Kd.R_alloc | apply Kd.R_drewN | apply Kd.R_drew)); exact HO114.out⟩, ⟨by refine pe_ ?_; exact BK101.out⟩, ⟨bel_⟩⟩
      rotate_right
      · go_wp2_with (first | ((with_reducible refine gate_builtin (b := .append) (xs := #[.tmp 27, .tmp 34]) rfl ?_); at_builtin; refine Kd.R_append (Kd.int .i64) (w0 := w) w.heap.size rfl (.tmp 27) (.tmp 34) 35 3 (.int .i64 0) 8 rfl Try.underlying35 info3 rfl (by decide) (by omega) u5 x5_1 ((rd_T99 l0_0 x6_1).f0) [.int .i64 ((rd_T99 l0_0 x6_1).f0)] (fun _ => True) (fun _ => False) rfl rfl ?aP (fun _ hk => hk.elim) ?aF ?aO ?aB ?aS ?aL ?_; (case aP => exact rfl); (case aB => exact (bel_)); (case aF => exact (fun _ _ => trivial)); (case aO => exact (by (with_reducible repeat (first | apply Kd.R_alloc | apply Kd.R_drewN | apply Kd.R_drew)); exact HO_5.out)); (case aS => exact (below_size (bel_))); (case aL => have := LMc9.out; omega); intro v107 w11 ho hb hg hat; rw [← Ny106.out] at ho; have HO108 := Aside0.mk (ho); replace BK101 := Aside0.mk (blk_grown (g := gb101) (o := .cells #[.slice (some ad109) l0_0.length c0_0, .slice A0_1 l0_1.length c0_1, .int .i64 a0_2, .int .i64 a0_3] 31 (0, 0)) (bk_ BK101) hg (Kd.R_ne HO_5.out BK101.out (by decide))); replace HB := Aside0.mk (hb); clear HO_5; clear ho hb hg hat))
        go_roundg k1
        case measure => have := HK1.out; omega
        case rel => exact ⟨(y106), (wrap64 (x6_1 + 1)), sm_, H', ⟨by have := HK1.out; omega⟩, ⟨by (with_reducible repeat (first | apply Kd.R_alloc | apply Kd.R_drewN | apply Kd.R_drew)); exact HO108.out⟩, ⟨by refine pe_ ?_; exact BK101.out⟩, ⟨bel_⟩⟩
      go_wp2_with (first | (go_at_call 160; (with_reducible refine (spec_l2Has.calls k1 _ _ ((rd_T99 l0_0 x6_1).f1) a1 false _ ?side1 ?side2 A13.out).mono ?_); (case side1 => exact rdb_ HR109_1); (case side2 => exact HC109_1.out); rintro e w' ⟨rfl, ⟨nd, rfl⟩⟩))
      go_roundg k1
      case measure => have := HK1.out; omega
      case rel => exact ⟨(x5_1), (wrap64 (x6_1 + 1)), sm_, H', ⟨by have := HK1.out; omega⟩, ⟨by (with_reducible repeat (first | apply Kd.R_alloc | apply Kd.R_drewN | apply Kd.R_drew)); exact HO_5.out⟩, ⟨by refine pe_ ?_; exact BK101.out⟩, ⟨bel_⟩⟩
def spec_l2Edge.l0 : Nat → Int → Int → List (S99) → List (S104) → Int → Int → Option (Int)
  | 0, _, _, _, _, _, _ => none
  | k + 1, x1, x5, x102000, x102001, x102002, x102003 => if x5 < (x102001.length : Int) then (if 0 ≤ x5 then (if ((rd_T104 x102001 x5).f0) = x1 then (some x5) else (spec_l2Edge.l0 k x1 (wrap64 (x5 + 1)) x102000 x102001 x102002 x102003)) else (none)) else (some (-1))
def spec_l2Edge.f (k : Nat) (l0_0 : List (S99)) (l0_1 : List (S104)) (a0_2 : Int) (a0_3 : Int) (a1 : Int) : Option (Int) := spec_l2Edge.l0 k a1 0 l0_0 l0_1 a0_2 a0_3
set_option maxHeartbeats 8000000 in
set_option maxRecDepth 100000 in
theorem spec_l2Edge.calls (k : Nat) (A0_0 : Option Addr) (c0_0 : Nat) (l0_0 : List (S99)) (A0_1 : Option Addr) (c0_1 : Nat) (l0_1 : List (S104)) (a0_2 : Int) (a0_3 : Int) (a1 : Int) (r : Int) (w : World) (hr0_0 : Kd.C k99 w A0_0 l0_0.length l0_0) (hc0_0 : l0_0.length ≤ c0_0) (hr0_1 : Kd.C k104 w A0_1 l0_1.length l0_1) (hc0_1 : l0_1.length ≤ c0_1) (h : spec_l2Edge.f k l0_0 l0_1 a0_2 a0_3 a1 = some r) :
    Calls Try.prog 118 #[.agg #[.slice A0_0 l0_0.length c0_0, .slice A0_1 l0_1.length c0_1, .int .i64 a0_2, .int .i64 a0_3], .int .i64 a1] w fun e w' => e = .returned (.int .i64 r) ∧ Below w.heap.size w w' := by
  have hu31 := Try.underlying31; have HR0_0 := Aside0.mk hr0_0; have HC0_0 := Aside0.mk hc0_0; clear hr0_0 hc0_0; have HR0_1 := Aside0.mk hr0_1; have HC0_1 := Aside0.mk hc0_1; clear hr0_1 hc0_1; have HB := Aside0.mk (Below.refl w.heap.size w); have H : (spec_l2Edge.l0 k a1 0 l0_0 l0_1 a0_2 a0_3) = some r := h; clear h; have H' := Aside0.mk H; clear H
  go_enter Try.func118, Try.ntmps118
  go_wp2_with (first | ((with_reducible refine gate_dst (N := 2) rfl ?_); refine bx_ 2 #[.slice A0_0 l0_0.length c0_0, .slice A0_1 l0_1.length c0_1, .int .i64 a0_2, .int .i64 a0_3] 31 ?_; intro gb101 hg w3 hbox hb; have BK101 := Aside0.mk (hbox); have GW101 := gw_ hg; have GE101 := gw_ hg; replace HB := bs_ hb; clear hb hbox hg))
  go_loopg [5] k (fun kq v5 w' => ∃ (x5_1 : Int), v5 = .int .i64 x5_1 ∧ Aside0 (spec_l2Edge.l0 kq a1 x5_1 l0_0 l0_1 a0_2 a0_3 = some r) ∧ Aside0 (kq ≤ k) ∧ Aside0 (w'.heap[gb101]? = some (.cells #[(.slice A0_0 l0_0.length c0_0), (.slice A0_1 l0_1.length c0_1), .int .i64 a0_2, .int .i64 a0_3] 31 (0, 0))) ∧ Aside0 (Below w.heap.size w w'))
  case atStart => exact ⟨(0), sm_, H', ⟨Nat.le_refl _⟩, ⟨by refine pe_ ?_; exact BK101.out⟩, ⟨bel_⟩⟩
  case round =>
    clear H'
    try clear c1
    try clear p2
    obtain ⟨x5_1, rfl, HA, HK1, BK101, HB⟩ := hrel
    cases gk with
    | zero => exact absurd HA.out (by simp [spec_l2Edge.l0])
    | succ k1 =>
      have H := HA.out; clear HA; simp only [spec_l2Edge.l0] at H; by_cases c4 : x5_1 < (l0_1.length : Int); rotate_left; rw [if_neg c4] at H; have c4b0 := df_ c4; clear c4; obtain rfl := Option.some.inj H; rotate_right; rw [if_pos c4] at H; have c4b0 := dt_ c4; clear c4; by_cases c5 : 0 ≤ x5_1; rotate_left
      · rw [if_neg c5] at H; exact absurd H (by simp)
      rotate_right; rw [if_pos c5] at H; have c5b0 := dt_ c5; clear c5; by_cases c6 : ((rd_T104 l0_1 x5_1).f0) = a1; rotate_left; rw [if_neg c6] at H; have c6b0 := bf_ c6; have c6b1 := nt_ c6; have H' := Aside0.mk H; clear H; rotate_right; rw [if_pos c6] at H; have c6b0 := bt__ c6; have c6b1 := nf__ c6; clear c6; obtain rfl := Option.some.inj H
      all_goals
        obtain ⟨hcz8_0, hcz8_1, hcz8_2, hcz8_3, hfz8_0, hfz8_1, hfz8_2, hfz8_3⟩ := blk4 BK101
      rotate_left 2
      · go_wp2
        go_ret; exact re_
      all_goals
        have p102 : 0 ≤ (x5_1 : Int) := od_; have q102 : x5_1 < (l0_1.length : Int) := od_; obtain ⟨ad102, A102_4, c102_4, e102, hx102_0, hx102_1, hx102_2, hx102_3, hx102_4, hl102_4, hi102_4⟩ := at_T104 HR0_1.out x5_1 p102 q102
        cases e102
        replace hx102_0 := mv_ HB hx102_0; replace hx102_1 := mv_ HB hx102_1; replace hx102_2 := mv_ HB hx102_2; replace hx102_3 := mv_ HB hx102_3; replace hx102_4 := mv_ HB hx102_4; have HR102_4 := Aside0.mk hi102_4; have HC102_4 := Aside0.mk hl102_4; clear hi102_4 hl102_4; replace p102 := eq_true p102; replace q102 := eq_true q102
        go_wp2
      · go_ret; exact re_
      go_roundg k1
      case measure => have := HK1.out; omega
      case rel => exact ⟨(wrap64 (x5_1 + 1)), sm_, H', ⟨by have := HK1.out; omega⟩, ⟨by refine pe_ ?_; exact BK101.out⟩, ⟨bel_⟩⟩
def spec_l2Of.j0 : Nat → Int → Int → Bool → List (S99) → List (S104) → Int → Int → Int → Int → ByteArray → List (S49) → Option ((List (S140)) × Bool)
  | 0, _, _, _, _, _, _, _, _, _, _, _ => none
  | k + 1, x6, x7, x16, x102000, x102001, x102002, x102003, x103000, x103001, x103002, x103003 => if x16 = true then (if 0 ≤ x6 then (if x6 < (x102000.length : Int) then (some ((rd_T99 x102000 x6).f2, true)) else (none)) else (none)) else (if x103000 = 6 then (if x7 ≥ 0 then (if 0 ≤ x7 then (if x7 < (x102001.length : Int) then (some ((rd_T104 x102001 x7).f4, true)) else (none)) else (none)) else (some ((([] : List (S140))), false))) else (some ((([] : List (S140))), false)))
def spec_l2Of.f (k : Nat) (l0_0 : List (S99)) (l0_1 : List (S104)) (a0_2 : Int) (a0_3 : Int) (a1_0 : Int) (a1_1 : Int) (a1_2 : ByteArray) (l1_3 : List (S49)) : Option ((List (S140)) × Bool) := (spec_l2Node.f k l0_0 l0_1 a0_2 a0_3 a1_1).bind fun t103 => ((spec_l2Edge.f k l0_0 l0_1 a0_2 a0_3 a1_1).bind fun t104 => (if a1_0 = 5 then (spec_l2Of.j0 k t103 t104 (decide (t103 ≥ 0)) l0_0 l0_1 a0_2 a0_3 a1_0 a1_1 a1_2 l1_3) else (spec_l2Of.j0 k t103 t104 false l0_0 l0_1 a0_2 a0_3 a1_0 a1_1 a1_2 l1_3)))
set_option maxHeartbeats 8000000 in
set_option maxRecDepth 100000 in
theorem spec_l2Of.calls (k : Nat) (P0_0_ : Nat → Prop) (A0_0 : Option Addr) (c0_0 : Nat) (l0_0 : List (S99)) (P0_1_ : Nat → Prop) (A0_1 : Option Addr) (c0_1 : Nat) (l0_1 : List (S104)) (a0_2 : Int) (a0_3 : Int) (a1_0 : Int) (a1_1 : Int) (a1_2 : ByteArray) (A1_3 : Option Addr) (c1_3 : Nat) (l1_3 : List (S49)) (r1 : List (S140)) (r2 : Bool) (w : World) (hs0_0 : Kd.V k99 99 w w.heap.size (fun k_ => P0_0_ k_) (.slice A0_0 l0_0.length c0_0) l0_0) (hs0_1 : Kd.V k104 104 w w.heap.size (fun k_ => P0_1_ k_) (.slice A0_1 l0_1.length c0_1) l0_1) (hr1_3 : Kd.C k49 w A1_3 l1_3.length l1_3) (hc1_3 : l1_3.length ≤ c1_3) (h : spec_l2Of.f k l0_0 l0_1 a0_2 a0_3 a1_0 a1_1 a1_2 l1_3 = some (r1, r2)) :
    Calls Try.prog 163 #[.agg #[.slice A0_0 l0_0.length c0_0, .slice A0_1 l0_1.length c0_1, .int .i64 a0_2, .int .i64 a0_3], .agg #[.int .i64 a1_0, .int .i64 a1_1, .string a1_2, .slice A1_3 l1_3.length c1_3]] w fun e w' => ∃ v0_ : Value, e = .returned (.tuple #[v0_, .bool r2]) ∧ Kd.V k140 140 w' w.heap.size (fun k_ => ((P0_0_ k_ ∨ P0_1_ k_) ∨ w.heap.size ≤ k_)) v0_ r1 ∧ Below w.heap.size w w' := by
  have hu31 := Try.underlying31; have hu49 := Try.underlying49; have HO0_0 := Aside0.mk (show Kd.V k99 99 w w.heap.size (fun k_ => ((P0_0_ k_ ∨ P0_1_ k_) ∨ w.heap.size ≤ k_)) (.slice A0_0 l0_0.length c0_0) l0_0 from Kd.V_mono hs0_0 (fun k_ hk => .inl (.inl hk))); have HO0_1 := Aside0.mk (show Kd.V k104 104 w w.heap.size (fun k_ => ((P0_0_ k_ ∨ P0_1_ k_) ∨ w.heap.size ≤ k_)) (.slice A0_1 l0_1.length c0_1) l0_1 from Kd.V_mono hs0_1 (fun k_ hk => .inl (.inr hk))); have HR1_3 := Aside0.mk hr1_3; have HC1_3 := Aside0.mk hc1_3; clear hr1_3 hc1_3; have HB := Aside0.mk (Below.refl w.heap.size w); have H : ((spec_l2Node.f k l0_0 l0_1 a0_2 a0_3 a1_1).bind fun t103 => ((spec_l2Edge.f k l0_0 l0_1 a0_2 a0_3 a1_1).bind fun t104 => (if a1_0 = 5 then (spec_l2Of.j0 k t103 t104 (decide (t103 ≥ 0)) l0_0 l0_1 a0_2 a0_3 a1_0 a1_1 a1_2 l1_3) else (spec_l2Of.j0 k t103 t104 false l0_0 l0_1 a0_2 a0_3 a1_0 a1_1 a1_2 l1_3)))) = some (r1, r2) := h; clear h; replace H := ob_ H; obtain ⟨t103, A3, H⟩ := H; replace H := ob_ H; obtain ⟨t104, A4, H⟩ := H; have HC5 := Aside0.mk H; clear H
  go_enter Try.func163, Try.ntmps163
  go_upto_region 3 with (first | ((with_reducible refine gate_dst (N := 2) rfl ?_); refine bx_ 2 #[.slice A0_0 l0_0.length c0_0, .slice A0_1 l0_1.length c0_1, .int .i64 a0_2, .int .i64 a0_3] 31 ?_; intro gb101 hg w6 hbox hb; have BK101 := Aside0.mk (hbox); have GW101 := gw_ hg; have GE101 := gw_ hg; replace HO0_0 := Aside0.mk (Kd.V_below (Kd.V_elderB (by (with_reducible repeat (first | apply Kd.V_alloc | apply Kd.V_drewN | apply Kd.V_drew)); first | exact HO0_0.out | exact Kd.V_mono (HO0_0.out) (fun _ h_ => by simpa only [and_assoc, and_comm, and_left_comm] using h_)) gb101 (Nat.le_of_eq hg.symm)) hb); replace HO0_1 := Aside0.mk (Kd.V_below (Kd.V_elderB (by (with_reducible repeat (first | apply Kd.V_alloc | apply Kd.V_drewN | apply Kd.V_drew)); first | exact HO0_1.out | exact Kd.V_mono (HO0_1.out) (fun _ h_ => by simpa only [and_assoc, and_comm, and_left_comm] using h_)) gb101 (Nat.le_of_eq hg.symm)) hb); replace HB := bs_ hb; clear hb hbox hg) | ((with_reducible refine gate_dst (N := 3) rfl ?_); refine bx_ 3 #[.int .i64 a1_0, .int .i64 a1_1, .string a1_2, .slice A1_3 l1_3.length c1_3] 49 ?_; intro gb102 hg w7 hbox hb; have BK102 := Aside0.mk (hbox); have GW102 := gw_ hg; have GE102 := gw_ hg; have NB101_102 := nlt_ hg BK101; have NB102_101 := ngt_ hg BK101; replace HO0_0 := Aside0.mk (Kd.V_below (Kd.V_elderB (by (with_reducible repeat (first | apply Kd.V_alloc | apply Kd.V_drewN | apply Kd.V_drew)); first | exact HO0_0.out | exact Kd.V_mono (HO0_0.out) (fun _ h_ => by simpa only [and_assoc, and_comm, and_left_comm] using h_)) gb102 (Nat.le_of_eq hg.symm)) hb); replace HO0_1 := Aside0.mk (Kd.V_below (Kd.V_elderB (by (with_reducible repeat (first | apply Kd.V_alloc | apply Kd.V_drewN | apply Kd.V_drew)); first | exact HO0_1.out | exact Kd.V_mono (HO0_1.out) (fun _ h_ => by simpa only [and_assoc, and_comm, and_left_comm] using h_)) gb102 (Nat.le_of_eq hg.symm)) hb); replace BK101 := bb_ BK101 hb; replace HB := bs_ hb; clear hb hbox hg; have hnb8 := NB101_102.out; have hnc8 := NB102_101.out; obtain ⟨hcz9_0, hcz9_1, hcz9_2, hcz9_3, hfz9_0, hfz9_1, hfz9_2, hfz9_3⟩ := blk4 BK101; obtain ⟨hcz10_0, hcz10_1, hcz10_2, hcz10_3, hfz10_0, hfz10_1, hfz10_2, hfz10_3⟩ := blk4 BK102) | ((with_reducible refine gate_callee (f := 73) rfl ?_); refine goesL_ (some 11) rfl rfl Try.func73 (by kernel_rfl) rfl #[.agg #[.slice A0_0 l0_0.length c0_0, .slice A0_1 l0_1.length c0_1, .int .i64 a0_2, .int .i64 a0_3], .int .i64 a1_1] rfl ar_ ?_; (with_reducible refine (spec_l2Node.calls k _ _ l0_0 _ _ l0_1 a0_2 a0_3 a1_1 t103 _ ?side1 ?side2 ?side3 ?side4 A3.out).mono ?_); (case side1 => repeat (first | exact (Kd.V_reads' HO0_0.out).2.2 | (with_reducible refine Kd.C_alloc ?_ _) | (with_reducible refine Kd.C_drewN ?_ _) | (with_reducible refine Kd.C_drew ?_))); (case side2 => exact (Kd.V_reads' HO0_0.out).2.1); (case side3 => repeat (first | exact (Kd.V_reads' HO0_1.out).2.2 | (with_reducible refine Kd.C_alloc ?_ _) | (with_reducible refine Kd.C_drewN ?_ _) | (with_reducible refine Kd.C_drew ?_))); (case side4 => exact (Kd.V_reads' HO0_1.out).2.1); rintro e w11 ⟨rfl, hb⟩; refine ⟨_, rfl, ?_⟩; replace HO0_0 := Aside0.mk (Kd.V_below (by (with_reducible repeat (first | apply Kd.V_alloc | apply Kd.V_drewN | apply Kd.V_drew)); first | exact HO0_0.out | exact Kd.V_mono (HO0_0.out) (fun _ h_ => by simpa only [and_assoc, and_comm, and_left_comm] using h_)) hb); replace HO0_1 := Aside0.mk (Kd.V_below (by (with_reducible repeat (first | apply Kd.V_alloc | apply Kd.V_drewN | apply Kd.V_drew)); first | exact HO0_1.out | exact Kd.V_mono (HO0_1.out) (fun _ h_ => by simpa only [and_assoc, and_comm, and_left_comm] using h_)) hb); replace BK101 := bb_ BK101 hb; replace BK102 := bb_ BK102 hb; replace HB := bs_ hb; (try clear hb); (try clear hb2); (try clear hk); (try clear hi); obtain ⟨hcz12_0, hcz12_1, hcz12_2, hcz12_3, hfz12_0, hfz12_1, hfz12_2, hfz12_3⟩ := blk4 BK101; obtain ⟨hcz13_0, hcz13_1, hcz13_2, hcz13_3, hfz13_0, hfz13_1, hfz13_2, hfz13_3⟩ := blk4 BK102) | ((with_reducible refine gate_callee (f := 118) rfl ?_); refine goesL_ (some 15) rfl rfl Try.func118 (by kernel_rfl) rfl #[.agg #[.slice A0_0 l0_0.length c0_0, .slice A0_1 l0_1.length c0_1, .int .i64 a0_2, .int .i64 a0_3], .int .i64 a1_1] rfl ar_ ?_; (with_reducible refine (spec_l2Edge.calls k _ _ l0_0 _ _ l0_1 a0_2 a0_3 a1_1 t104 _ ?side1 ?side2 ?side3 ?side4 A4.out).mono ?_); (case side1 => repeat (first | exact (Kd.V_reads' HO0_0.out).2.2 | (with_reducible refine Kd.C_alloc ?_ _) | (with_reducible refine Kd.C_drewN ?_ _) | (with_reducible refine Kd.C_drew ?_))); (case side2 => exact (Kd.V_reads' HO0_0.out).2.1); (case side3 => repeat (first | exact (Kd.V_reads' HO0_1.out).2.2 | (with_reducible refine Kd.C_alloc ?_ _) | (with_reducible refine Kd.C_drewN ?_ _) | (with_reducible refine Kd.C_drew ?_))); (case side4 => exact (Kd.V_reads' HO0_1.out).2.1); rintro e w14 ⟨rfl, hb⟩; refine ⟨_, rfl, ?_⟩; replace HO0_0 := Aside0.mk (Kd.V_below (by (with_reducible repeat (first | apply Kd.V_alloc | apply Kd.V_drewN | apply Kd.V_drew)); first | exact HO0_0.out | exact Kd.V_mono (HO0_0.out) (fun _ h_ => by simpa only [and_assoc, and_comm, and_left_comm] using h_)) hb); replace HO0_1 := Aside0.mk (Kd.V_below (by (with_reducible repeat (first | apply Kd.V_alloc | apply Kd.V_drewN | apply Kd.V_drew)); first | exact HO0_1.out | exact Kd.V_mono (HO0_1.out) (fun _ h_ => by simpa only [and_assoc, and_comm, and_left_comm] using h_)) hb); replace BK101 := bb_ BK101 hb; replace BK102 := bb_ BK102 hb; replace HB := bs_ hb; (try clear hb); (try clear hb2); (try clear hk); (try clear hi)))
  (try simp only [Act.put, List.setIfInBounds_toArray, List.set_cons_zero, List.set_cons_succ])
  go_cut [16] (fun v16 wc => ∃ (kq : Nat) (x16_4 : Bool), v16 = .bool x16_4 ∧ Aside0 (spec_l2Of.j0 kq t103 t104 x16_4 l0_0 l0_1 a0_2 a0_3 a1_0 a1_1 a1_2 l1_3 = some (r1, r2)) ∧ Aside0 (kq ≤ k) ∧ Aside0 (Kd.V k99 99 wc w.heap.size (fun k_ => ((P0_0_ k_ ∨ P0_1_ k_) ∨ w.heap.size ≤ k_) ∧ k_ ≠ gb101 ∧ k_ ≠ gb102) (.slice A0_0 l0_0.length c0_0) l0_0) ∧ Aside0 (Kd.V k104 104 wc w.heap.size (fun k_ => ((P0_0_ k_ ∨ P0_1_ k_) ∨ w.heap.size ≤ k_) ∧ k_ ≠ gb101 ∧ k_ ≠ gb102) (.slice A0_1 l0_1.length c0_1) l0_1) ∧ Aside0 (wc.heap[gb101]? = some (.cells #[(.slice A0_0 l0_0.length c0_0), (.slice A0_1 l0_1.length c0_1), .int .i64 a0_2, .int .i64 a0_3] 31 (0, 0))) ∧ Aside0 (wc.heap[gb102]? = some (.cells #[.int .i64 a1_0, .int .i64 a1_1, .string a1_2, (.slice A1_3 l1_3.length c1_3)] 49 (0, 0))) ∧ Aside0 (Below w.heap.size w wc))
  case first =>
    have H := HC5.out; clear HC5; by_cases c15 : a1_0 = 5; rotate_left; rw [if_neg c15] at H; have c15b0 := bf_ c15; have c15b1 := nt_ c15; rotate_right; rw [if_pos c15] at H; have c15b0 := bt__ c15; have c15b1 := nf__ c15; clear c15
    all_goals
      (first | rw [c15b0] | (simp only [i64_w, i32_w]; rw [c15b0]) | skip)
      have H' := Aside0.mk H; clear H; have hnb18 := NB102_101.out; have hnc18 := NB101_102.out; obtain ⟨hcz19_0, hcz19_1, hcz19_2, hcz19_3, hfz19_0, hfz19_1, hfz19_2, hfz19_3⟩ := blk4 BK102
      go_wp2
      go_meet
    · case rel => exact ⟨_, (decide (t103 ≥ 0)), sm_, H', ⟨by first | omega | exact Nat.le_refl _⟩, ⟨by (with_reducible repeat (first | apply Kd.V_alloc | apply Kd.V_drewN | apply Kd.V_drew)); first | exact Kd.V_mono HO0_0.out (fun _ hk => ⟨hk.1.1, ⟨hk.1.2, hk.2⟩⟩) | exact Kd.V_mono (Kd.V_mono HO0_0.out (fun _ hk => ⟨hk.1.1, ⟨hk.1.2, hk.2⟩⟩)) (fun _ h_ => by simpa only [and_assoc, and_comm, and_left_comm] using h_)⟩, ⟨by (with_reducible repeat (first | apply Kd.V_alloc | apply Kd.V_drewN | apply Kd.V_drew)); first | exact Kd.V_mono HO0_1.out (fun _ hk => ⟨hk.1.1, ⟨hk.1.2, hk.2⟩⟩) | exact Kd.V_mono (Kd.V_mono HO0_1.out (fun _ hk => ⟨hk.1.1, ⟨hk.1.2, hk.2⟩⟩)) (fun _ h_ => by simpa only [and_assoc, and_comm, and_left_comm] using h_)⟩, ⟨by refine pe_ ?_; exact BK101.out⟩, ⟨by refine pe_ ?_; exact BK102.out⟩, ⟨bel_⟩⟩
    case rel => exact ⟨_, (false), sm_, H', ⟨by first | omega | exact Nat.le_refl _⟩, ⟨by (with_reducible repeat (first | apply Kd.V_alloc | apply Kd.V_drewN | apply Kd.V_drew)); first | exact Kd.V_mono HO0_0.out (fun _ hk => ⟨hk.1.1, ⟨hk.1.2, hk.2⟩⟩) | exact Kd.V_mono (Kd.V_mono HO0_0.out (fun _ hk => ⟨hk.1.1, ⟨hk.1.2, hk.2⟩⟩)) (fun _ h_ => by simpa only [and_assoc, and_comm, and_left_comm] using h_)⟩, ⟨by (with_reducible repeat (first | apply Kd.V_alloc | apply Kd.V_drewN | apply Kd.V_drew)); first | exact Kd.V_mono HO0_1.out (fun _ hk => ⟨hk.1.1, ⟨hk.1.2, hk.2⟩⟩) | exact Kd.V_mono (Kd.V_mono HO0_1.out (fun _ hk => ⟨hk.1.1, ⟨hk.1.2, hk.2⟩⟩)) (fun _ h_ => by simpa only [and_assoc, and_comm, and_left_comm] using h_)⟩, ⟨by refine pe_ ?_; exact BK101.out⟩, ⟨by refine pe_ ?_; exact BK102.out⟩, ⟨bel_⟩⟩
  case rest =>
    clear HC5
    try clear c1
    try clear p2
    try clear c7
    try clear c8
    try clear c11
    try clear c15
    try clear c15b0
    try clear c15b1
    try clear c16
    try clear c18
    try clear hcz10_0 hcz10_1 hcz10_2 hcz10_3
    try clear hcz12_0 hcz12_1 hcz12_2 hcz12_3
    try clear hcz13_0 hcz13_1 hcz13_2 hcz13_3
    try clear hcz17_0 hcz17_1 hcz17_2 hcz17_3
    try clear hcz19_0 hcz19_1 hcz19_2 hcz19_3
    try clear hcz9_0 hcz9_1 hcz9_2 hcz9_3
    try clear hfz10_0 hfz10_1 hfz10_2 hfz10_3
    try clear hfz12_0 hfz12_1 hfz12_2 hfz12_3
    try clear hfz13_0 hfz13_1 hfz13_2 hfz13_3
    try clear hfz17_0 hfz17_1 hfz17_2 hfz17_3
    try clear hfz19_0 hfz19_1 hfz19_2 hfz19_3
    try clear hfz9_0 hfz9_1 hfz9_2 hfz9_3
    obtain ⟨kq, x16_4, rfl, HA, HJ4, HO_102000, HO_102001, BK101, BK102, HB⟩ := hcut
    cases kq with
    | zero => exact absurd HA.out (by simp [spec_l2Of.j0])
    | succ kj4 =>
      have H := HA.out; clear HA; simp only [spec_l2Of.j0] at H; by_cases c20 : x16_4 = true; rotate_left
      · replace c20 := Bool.eq_false_iff.mpr c20; subst c20; rw [fe_] at H; by_cases c25 : a1_0 = 6; rotate_left; rw [if_neg c25] at H; have c25b0 := bf_ c25; have c25b1 := nt_ c25; obtain ⟨y110, hy110⟩ : ∃ y_ : List (S140), y_ = (([] : List (S140))) := ⟨_, rfl⟩
        replace H : (some (y110, false)) = some (r1, r2) := by first | (rw [hy110]; with_reducible exact H) | (have H2_ := (Option.bind_some _ _).symm.trans H; rw [hy110]; with_reducible exact H2_) | (have H2_ := (Option.bind_some _ _).symm.trans H; with_reducible exact H2_) | with_reducible exact H | (rw [hy110]; exact H) | exact H
        have Ny110 := Aside0.mk hy110; clear hy110; simp only [Option.some.injEq, Prod.mk.injEq] at H; obtain ⟨rfl, rfl⟩ := H; have hnb36 := NB102_101.out; have hnc36 := NB101_102.out; rotate_right; rw [if_pos c25] at H; have c25b0 := bt__ c25; have c25b1 := nf__ c25; clear c25; by_cases c26 : t104 ≥ 0; rotate_left; rw [if_neg c26] at H; have c26b0 : decide (0 ≤ t104) = false := decide_eq_false c26; clear c26; obtain ⟨y107, hy107⟩ : ∃ y_ : List (S140), y_ = (([] : List (S140))) := ⟨_, rfl⟩
        replace H : (some (y107, false)) = some (r1, r2) := by first | (rw [hy107]; with_reducible exact H) | (have H2_ := (Option.bind_some _ _).symm.trans H; rw [hy107]; with_reducible exact H2_) | (have H2_ := (Option.bind_some _ _).symm.trans H; with_reducible exact H2_) | with_reducible exact H | (rw [hy107]; exact H) | exact H
        have Ny107 := Aside0.mk hy107; clear hy107; simp only [Option.some.injEq, Prod.mk.injEq] at H; obtain ⟨rfl, rfl⟩ := H; have hnb32 := NB102_101.out; have hnc32 := NB101_102.out; rotate_right; rw [if_pos c26] at H; have c26b0 : decide (0 ≤ t104) = true := decide_eq_true c26; clear c26; by_cases c27 : 0 ≤ t104; rotate_left
        · rw [if_neg c27] at H; exact absurd H (by simp)
        rotate_right; rw [if_pos c27] at H; have c27b0 := dt_ c27; clear c27; by_cases c28 : t104 < (l0_1.length : Int); rotate_left
        · rw [if_neg c28] at H; exact absurd H (by simp)
        rotate_right; rw [if_pos c28] at H; have c28b0 := dt_ c28; clear c28; simp only [Option.some.injEq, Prod.mk.injEq] at H; obtain ⟨rfl, rfl⟩ := H; have hnb29 := NB102_101.out; have hnc29 := NB101_102.out
        all_goals
          obtain ⟨hcz30_0, hcz30_1, hcz30_2, hcz30_3, hfz30_0, hfz30_1, hfz30_2, hfz30_3⟩ := blk4 BK102
        rotate_left 2
        · go_wp2_with (first | ((with_reducible refine gate_dst (N := 44) rfl ?_); refine Kd.R_lit k140 _ 140 ?hg (N := 44) ?hd (xs := ([] : List (S140))) (inner := []) (ok := fun _ => True) (okp := fun _ => True) ?hr ?hp (fun _ hk => hk) trivial (Below.refl _ _) (Nat.le_refl _) (by simp) ?_; (case hd => rfl); (case hg => rfl); (case hr => first | (go_simp; done) | (go_simp; rfl)); (case hp => exact (Reps.none _ _)); intro v111 w38 ho39 hb hg_ hnew_; clear hg_ hnew_; (first | rw [← Ny110.out] at ho39 | (simp only [Int.reduceToNat] at ho39; rw [← Ny110.out] at ho39)); have HO112 := Aside0.mk (Kd.R_lower (Kd.R_newB (Kd.R_newM (M := fun k_ => (w.heap.size ≤ k_)) ho39 (below_size (bel_)) (fun k_ h_ => h_)) (g := gb102) (o := .cells #[.int .i64 a1_0, .int .i64 a1_1, .string a1_2, .slice A1_3 l1_3.length c1_3] 49 (0, 0)) (bk_ BK102)) (below_size (bel_))); replace HO_102000 := Aside0.mk (Kd.V_elder' (by (with_reducible repeat (first | apply Kd.V_alloc | apply Kd.V_drewN | apply Kd.V_drew)); first | exact HO_102000.out | exact Kd.V_mono (HO_102000.out) (fun _ h_ => by simpa only [and_assoc, and_comm, and_left_comm] using h_)) (Kd.R_base ho39) hb); replace HO_102001 := Aside0.mk (Kd.V_elder' (by (with_reducible repeat (first | apply Kd.V_alloc | apply Kd.V_drewN | apply Kd.V_drew)); first | exact HO_102001.out | exact Kd.V_mono (HO_102001.out) (fun _ h_ => by simpa only [and_assoc, and_comm, and_left_comm] using h_)) (Kd.R_base ho39) hb); replace BK101 := bb_ BK101 hb; replace BK102 := bb_ BK102 hb; replace HB := bs_ hb; clear hb ho39))
          go_ret2
          exact ⟨_, by first | rfl | (simp [errW_none, errW_some] <;> rfl) | (simp [*, errW_none, errW_some] <;> rfl), Kd.V_mono (Kd.R_V (by (with_reducible repeat (first | apply Kd.R_alloc | apply Kd.R_drewN | apply Kd.R_drew)); exact Kd.R_mono HO112.out (fun _ hk => hk.1.1))) (fun k_ hk => by first | exact ⟨(.inr (hk.1)), hk.2⟩ | exact (.inr (hk))), bel_⟩
        rotate_left
        · go_wp2_with (first | ((with_reducible refine gate_dst (N := 44) rfl ?_); refine Kd.R_lit k140 _ 140 ?hg (N := 44) ?hd (xs := ([] : List (S140))) (inner := []) (ok := fun _ => True) (okp := fun _ => True) ?hr ?hp (fun _ hk => hk) trivial (Below.refl _ _) (Nat.le_refl _) (by simp) ?_; (case hd => rfl); (case hg => rfl); (case hr => first | (go_simp; done) | (go_simp; rfl)); (case hp => exact (Reps.none _ _)); intro v108 w34 ho35 hb hg_ hnew_; clear hg_ hnew_; (first | rw [← Ny107.out] at ho35 | (simp only [Int.reduceToNat] at ho35; rw [← Ny107.out] at ho35)); have HO109 := Aside0.mk (Kd.R_lower (Kd.R_newB (Kd.R_newM (M := fun k_ => (w.heap.size ≤ k_)) ho35 (below_size (bel_)) (fun k_ h_ => h_)) (g := gb102) (o := .cells #[.int .i64 a1_0, .int .i64 a1_1, .string a1_2, .slice A1_3 l1_3.length c1_3] 49 (0, 0)) (bk_ BK102)) (below_size (bel_))); replace HO_102000 := Aside0.mk (Kd.V_elder' (by (with_reducible repeat (first | apply Kd.V_alloc | apply Kd.V_drewN | apply Kd.V_drew)); first | exact HO_102000.out | exact Kd.V_mono (HO_102000.out) (fun _ h_ => by simpa only [and_assoc, and_comm, and_left_comm] using h_)) (Kd.R_base ho35) hb); replace HO_102001 := Aside0.mk (Kd.V_elder' (by (with_reducible repeat (first | apply Kd.V_alloc | apply Kd.V_drewN | apply Kd.V_drew)); first | exact HO_102001.out | exact Kd.V_mono (HO_102001.out) (fun _ h_ => by simpa only [and_assoc, and_comm, and_left_comm] using h_)) (Kd.R_base ho35) hb); replace BK101 := bb_ BK101 hb; replace BK102 := bb_ BK102 hb; replace HB := bs_ hb; clear hb ho35))
          go_ret2
          exact ⟨_, by first | rfl | (simp [errW_none, errW_some] <;> rfl) | (simp [*, errW_none, errW_some] <;> rfl), Kd.V_mono (Kd.R_V (by (with_reducible repeat (first | apply Kd.R_alloc | apply Kd.R_drewN | apply Kd.R_drew)); exact Kd.R_mono HO109.out (fun _ hk => hk.1.1))) (fun k_ hk => by first | exact ⟨(.inr (hk.1)), hk.2⟩ | exact (.inr (hk))), bel_⟩
        obtain ⟨hcz31_0, hcz31_1, hcz31_2, hcz31_3, hfz31_0, hfz31_1, hfz31_2, hfz31_3⟩ := blk4 BK101; have p106 : 0 ≤ (t104 : Int) := od_; have q106 : t104 < (l0_1.length : Int) := od_; obtain ⟨ad106, A106_4, c106_4, e106, hx106_0, hx106_1, hx106_2, hx106_3, hx106_4, hl106_4, hi106_4⟩ := at_T104 (Kd.V_reads' HO_102001.out).2.2 t104 p106 q106
        cases e106
        obtain ⟨ce106, hce106, hMe106, hcc106⟩ := Kd.V_get HO_102001.out z104 t104 p106 (by first | exact q106 | exact od_ | (have e_ := (Kd.V_reads' HO_102001.out).1; omega)); obtain ⟨ua106_4, uc106_4, rfl, ul106_4, ge106_4⟩ := k104_openF hMe106; have hv106_4 := hcc106 4 _ rfl; rw [add_field _ _ 4 (by omega)] at hv106_4; replace hv106_4 := Option.some.inj (hv106_4.symm.trans hx106_4)
        injection hv106_4 with hva_ hvn_ hvc_
        rw [hva_] at ge106_4; rw [hvc_] at ul106_4; have HL106_4 := Aside0.mk (show Kd.V k140 140 _ w.heap.size _ _ ((rd_T104 l0_1 t104).f4) from Kd.V_mk ul106_4 ge106_4); clear hva_ hvn_ hvc_ ge106_4 ul106_4; clear hcc106 hce106; have HR106_4 := Aside0.mk hi106_4; have HC106_4 := Aside0.mk hl106_4; clear hi106_4 hl106_4; replace p106 := eq_true p106; replace q106 := eq_true q106
        go_wp2
        go_ret2
        exact ⟨_, by first | rfl | (simp [errW_none, errW_some] <;> rfl) | (simp [*, errW_none, errW_some] <;> rfl), by (with_reducible repeat (first | apply Kd.V_alloc | apply Kd.V_drewN | apply Kd.V_drew)); first | exact Kd.V_mono HL106_4.out (fun _ hk => hk.1) | exact Kd.V_mono (Kd.V_mono HL106_4.out (fun _ hk => hk.1)) (fun _ h_ => by simpa only [and_assoc, and_comm, and_left_comm] using h_), bel_⟩
      rotate_right; subst c20; rw [if_pos rfl] at H; by_cases c21 : 0 ≤ t103; rotate_left
      · rw [if_neg c21] at H; exact absurd H (by simp)
      rotate_right; rw [if_pos c21] at H; have c21b0 := dt_ c21; clear c21; by_cases c22 : t103 < (l0_0.length : Int); rotate_left
      · rw [if_neg c22] at H; exact absurd H (by simp)
      rotate_right; rw [if_pos c22] at H; have c22b0 := dt_ c22; clear c22; simp only [Option.some.injEq, Prod.mk.injEq] at H; obtain ⟨rfl, rfl⟩ := H; have hnb23 := NB101_102.out; have hnc23 := NB102_101.out; obtain ⟨hcz24_0, hcz24_1, hcz24_2, hcz24_3, hfz24_0, hfz24_1, hfz24_2, hfz24_3⟩ := blk4 BK101; have p105 : 0 ≤ (t103 : Int) := od_; have q105 : t103 < (l0_0.length : Int) := od_; obtain ⟨ad105, A105_1, c105_1, A105_2, c105_2, e105, hx105_0, hx105_1, hx105_2, hl105_1, hi105_1, hl105_2, hi105_2⟩ := at_T99 (Kd.V_reads' HO_102000.out).2.2 t103 p105 q105
      cases e105
      obtain ⟨ce105, hce105, hMe105, hcc105⟩ := Kd.V_get HO_102000.out z99 t103 p105 (by first | exact q105 | exact od_ | (have e_ := (Kd.V_reads' HO_102000.out).1; omega)); obtain ⟨ua105_1, uc105_1, ua105_2, uc105_2, rfl, ul105_1, ge105_1, ul105_2, ge105_2⟩ := k99_openF hMe105; have hv105_1 := hcc105 1 _ rfl; rw [add_field _ _ 1 (by omega)] at hv105_1; replace hv105_1 := Option.some.inj (hv105_1.symm.trans hx105_1)
      injection hv105_1 with hva_ hvn_ hvc_
      rw [hva_] at ge105_1; rw [hvc_] at ul105_1; have HL105_1 := Aside0.mk (show Kd.V Kd.string 9 _ w.heap.size _ _ ((rd_T99 l0_0 t103).f1) from Kd.V_mk ul105_1 ge105_1); clear hva_ hvn_ hvc_ ge105_1 ul105_1; have hv105_2 := hcc105 2 _ rfl; rw [add_field _ _ 2 (by omega)] at hv105_2; replace hv105_2 := Option.some.inj (hv105_2.symm.trans hx105_2)
      injection hv105_2 with hva_ hvn_ hvc_
      rw [hva_] at ge105_2; rw [hvc_] at ul105_2; have HL105_2 := Aside0.mk (show Kd.V k140 140 _ w.heap.size _ _ ((rd_T99 l0_0 t103).f2) from Kd.V_mk ul105_2 ge105_2); clear hva_ hvn_ hvc_ ge105_2 ul105_2; clear hcc105 hce105; have HR105_1 := Aside0.mk hi105_1; have HC105_1 := Aside0.mk hl105_1; clear hi105_1 hl105_1; have HR105_2 := Aside0.mk hi105_2; have HC105_2 := Aside0.mk hl105_2; clear hi105_2 hl105_2; replace p105 := eq_true p105; replace q105 := eq_true q105
      go_wp2
      go_ret2
      exact ⟨_, by first | rfl | (simp [errW_none, errW_some] <;> rfl) | (simp [*, errW_none, errW_some] <;> rfl), by (with_reducible repeat (first | apply Kd.V_alloc | apply Kd.V_drewN | apply Kd.V_drew)); first | exact Kd.V_mono HL105_2.out (fun _ hk => hk.1) | exact Kd.V_mono (Kd.V_mono HL105_2.out (fun _ hk => hk.1)) (fun _ h_ => by simpa only [and_assoc, and_comm, and_left_comm] using h_), bel_⟩
end Go.Proofs.Ytcchmhmbjhgfdaa.G
