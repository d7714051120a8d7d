-- Printed by a program of this claim's writer (wip/gen), out of the translation. Lean checks it.
import Derived.Test.YtejikddbdhahaaaGx0
import Derived.Test.YtejikddbdhahaaaGx4
namespace Go.Proofs.Ytejikddbdhahaaa.G
open Go.RowKit Go.Proofs.YtejikddbdhahaaaW.PrintWords Go.Proofs.YtejikddbdhahaaaW.PrintLast Go.Proofs.YtejikddbdhahaaaW.PrintMore
attribute [local go_sem] max2_int min2_int max_two min_two max_three min_three max_four min_four Own.str_gtr Own.str_leq Own.str_geq   -- for this text's walks alone
open Own
set_option linter.unusedVariables false
set_option linter.unusedSimpArgs false

/-! ### spec_l1Equal: function 68 -/
mutual
def spec_l1Equal.j0 : Nat → Bool → Int → Int → ByteArray → List (S31) → Int → Int → ByteArray → List (S31) → Option (Int × Int × ByteArray × (List (S31)))
  | 0, _, _, _, _, _, _, _, _, _ => none
  | k + 1, x15, x122000, x122001, x122002, x122003, x123000, x123001, x123002, x123003 => if x15 = true then (some (0, 0, (⟨#[]⟩ : ByteArray), ([] : List (S31)))) else (if x122000 = 4 then (spec_l1Equal.j1 k (x123000 != 4) x122000 x122001 x122002 x122003 x123000 x123001 x123002 x123003) else (spec_l1Equal.j1 k true x122000 x122001 x122002 x122003 x123000 x123001 x123002 x123003))
def spec_l1Equal.j1 : Nat → Bool → Int → Int → ByteArray → List (S31) → Int → Int → ByteArray → List (S31) → Option (Int × Int × ByteArray × (List (S31)))
  | 0, _, _, _, _, _, _, _, _, _ => none
  | k + 1, x24, x122000, x122001, x122002, x122003, x123000, x123001, x123002, x123003 => if x24 = true then ((spec_l1Same.f k x122000 x122001 x122002 x122003 x123000 x123001 x123002 x123003).bind fun t124 => ((spec_l1Bool.f t124).bind fun bt125 => (some (bt125.1, bt125.2.1, bt125.2.2.1, bt125.2.2.2)))) else (if (x122003.length : Int) = (x123003.length : Int) then (spec_l1Equal.l0 k true 0 x122000 x122001 x122002 x122003 x123000 x123001 x123002 x123003) else ((spec_l1Bool.f false).bind fun bt131 => (some (bt131.1, bt131.2.1, bt131.2.2.1, bt131.2.2.2))))
def spec_l1Equal.l0 : Nat → Bool → Int → Int → Int → ByteArray → List (S31) → Int → Int → ByteArray → List (S31) → Option (Int × Int × ByteArray × (List (S31)))
  | 0, _, _, _, _, _, _, _, _, _, _ => none
  | k + 1, x5, x6, x122000, x122001, x122002, x122003, x123000, x123001, x123002, x123003 => if x6 < (x122003.length : Int) then (if 0 ≤ x6 then (if x6 < (x123003.length : Int) then ((spec_l1Equal.f k ((rd_T31 x122003 x6).f0) ((rd_T31 x122003 x6).f1) ((rd_T31 x122003 x6).f2) ((rd_T31 x122003 x6).f3) ((rd_T31 x123003 x6).f0) ((rd_T31 x123003 x6).f1) ((rd_T31 x123003 x6).f2) ((rd_T31 x123003 x6).f3)).bind fun bt139 => (if bt139.1 = 1 then (spec_l1Equal.j3 k x5 x6 (bt139.2.1 == 0) x122000 x122001 x122002 x122003 x123000 x123001 x123002 x123003 bt139.1 bt139.2.1 bt139.2.2.1 bt139.2.2.2) else (spec_l1Equal.j3 k x5 x6 false x122000 x122001 x122002 x122003 x123000 x123001 x123002 x123003 bt139.1 bt139.2.1 bt139.2.2.1 bt139.2.2.2))) else (none)) else (none)) else (if x5 = true then ((spec_l1Bool.f true).bind fun bt146 => (some (bt146.1, bt146.2.1, bt146.2.2.1, bt146.2.2.2))) else (some (0, 0, (⟨#[]⟩ : ByteArray), ([] : List (S31)))))
def spec_l1Equal.j3 : Nat → Bool → Int → Bool → Int → Int → ByteArray → List (S31) → Int → Int → ByteArray → List (S31) → Int → Int → ByteArray → List (S31) → Option (Int × Int × ByteArray × (List (S31)))
  | 0, _, _, _, _, _, _, _, _, _, _, _, _, _, _, _ => none
  | k + 1, x5, x6, x62, x122000, x122001, x122002, x122003, x123000, x123001, x123002, x123003, x146000, x146001, x146002, x146003 => if x62 = true then (some (x146000, x146001, x146002, x146003)) else (if x5 = true then (spec_l1Equal.l0 k (x146000 == 1) (wrap64 (x6 + 1)) x122000 x122001 x122002 x122003 x123000 x123001 x123002 x123003) else (spec_l1Equal.l0 k false (wrap64 (x6 + 1)) x122000 x122001 x122002 x122003 x123000 x123001 x123002 x123003))
def spec_l1Equal.f : Nat → Int → Int → ByteArray → List (S31) → Int → Int → ByteArray → List (S31) → Option (Int × Int × ByteArray × (List (S31)))
  | 0, _, _, _, _, _, _, _, _ => none
  | k + 1, a0_0, a0_1, a0_2, l0_3, a1_0, a1_1, a1_2, l1_3 => if a0_0 = 0 then (spec_l1Equal.j0 k true a0_0 a0_1 a0_2 l0_3 a1_0 a1_1 a1_2 l1_3) else (spec_l1Equal.j0 k (a1_0 == 0) a0_0 a0_1 a0_2 l0_3 a1_0 a1_1 a1_2 l1_3)
end
def spec_l1Equal.T11 : Bool × List (List Nat × List Nat) := (true, [([], []), ([0], [0]), ([], []), ([1, 2], [1, 2]), ([3], [3]), ([], []), ([5], [5]), ([], []), ([6, 7], [6, 7]), ([8], [8]), ([4, 9], [4, 9]), ([], []), ([11, 10, 10, 0, 1, 2, 3, 4, 5, 6, 7, 8, 9, 10, 11], [10, 11])])
def spec_l1Equal.B11 : List Nat := [0, 1, 0, 7, 15, 0, 32, 0, 224, 480, 1023, 0, 4095]
theorem spec_l1Equal.tab11 : rtab .any (opsOf Try.f68 11) = spec_l1Equal.T11 := by kernel_rfl
theorem spec_l1Equal.bits11 : waitsOk spec_l1Equal.T11.2 spec_l1Equal.B11 = true := by kernel_rfl
set_option maxHeartbeats 8000000 in
set_option maxRecDepth 100000 in
theorem spec_l1Equal.calls (k : Nat) : ∀ (a0_0 : Int) (a0_1 : Int) (a0_2 : ByteArray) (A0_3 : Option Addr) (c0_3 : Nat) (l0_3 : List (S31)) (a1_0 : Int) (a1_1 : Int) (a1_2 : ByteArray) (A1_3 : Option Addr) (c1_3 : Nat) (l1_3 : List (S31)) (r1 : Int) (r2 : Int) (r3 : ByteArray) (r4 : List (S31)) (w : World) (hr0_3 : Kd.C k31 w A0_3 l0_3.length l0_3) (hc0_3 : l0_3.length ≤ c0_3) (hr1_3 : Kd.C k31 w A1_3 l1_3.length l1_3) (hc1_3 : l1_3.length ≤ c1_3) (h : spec_l1Equal.f k a0_0 a0_1 a0_2 l0_3 a1_0 a1_1 a1_2 l1_3 = some (r1, r2, r3, r4)),
    Calls Try.prog 68 #[.agg #[.int .i64 a0_0, .int .i64 a0_1, .string a0_2, .slice A0_3 l0_3.length c0_3], .agg #[.int .i64 a1_0, .int .i64 a1_1, .string a1_2, .slice A1_3 l1_3.length c1_3]] w fun e w' => ∃ v3_ : Value, e = .returned (.agg #[.int .i64 r1, .int .i64 r2, .string r3, v3_]) ∧ Kd.R k31 31 w' w.heap.size (fun _ => True) v3_ r4 ∧ Below w.heap.size w w' := by
  induction k using Nat.strongRecOn with
  | _ k ih =>
  intro a0_0 a0_1 a0_2 A0_3 c0_3 l0_3 a1_0 a1_1 a1_2 A1_3 c1_3 l1_3 r1 r2 r3 r4 w hr0_3 hc0_3 hr1_3 hc1_3 h
  cases k with
  | zero => exact absurd h (by simp [spec_l1Equal.f])
  | succ k =>
  simp only [spec_l1Equal.f] at h
  have hu31 := Try.underlying31
  have HR0_3 := Aside0.mk hr0_3
  have HC0_3 := Aside0.mk hc0_3
  clear hr0_3 hc0_3
  have HR1_3 := Aside0.mk hr1_3
  have HC1_3 := Aside0.mk hc1_3
  clear hr1_3 hc1_3
  have HB := Aside0.mk (Below.refl w.heap.size w)
  have H : (if a0_0 = 0 then (spec_l1Equal.j0 k true a0_0 a0_1 a0_2 l0_3 a1_0 a1_1 a1_2 l1_3) else (spec_l1Equal.j0 k (a1_0 == 0) a0_0 a0_1 a0_2 l0_3 a1_0 a1_1 a1_2 l1_3)) = some (r1, r2, r3, r4) := h
  clear h
  have HC3 := Aside0.mk H
  clear H
  go_enter Try.func68, Try.ntmps68
  go_upto_region 1 with (first | ((with_reducible refine gate_dst (N := 2) rfl ?_); refine bx_ 2 #[.int .i64 a0_0, .int .i64 a0_1, .string a0_2, .slice A0_3 l0_3.length c0_3] 31 ?_; intro gb121 hg w4 hbox hb; have BK121 := Aside0.mk (hbox); have GW121 := gw_ hg; have GE121 := gw_ hg; replace HB := bs_ hb; clear hb hbox hg) | ((with_reducible refine gate_dst (N := 3) rfl ?_); refine bx_ 3 #[.int .i64 a1_0, .int .i64 a1_1, .string a1_2, .slice A1_3 l1_3.length c1_3] 31 ?_; intro gb122 hg w5 hbox hb; have BK122 := Aside0.mk (hbox); have GW122 := gw_ hg; have GE122 := gw_ hg; have NB121_122 := nlt_ hg BK121; have NB122_121 := ngt_ hg BK121; replace BK121 := bb_ BK121 hb; replace HB := bs_ hb; clear hb hbox hg) | ((with_reducible refine gate_dst (N := 4) rfl ?_); refine bx_ 4 #[.int .i64 0, .int .i64 0, .string (⟨#[]⟩ : ByteArray), .slice none 0 0] 31 ?_; intro gb123 hg w6 hbox hb; have BK123 := Aside0.mk (hbox); have GW123 := gw_ hg; have GE123 := gw_ hg; have NB121_123 := nlt_ hg BK121; have NB123_121 := ngt_ hg BK121; have NB122_123 := nlt_ hg BK122; have NB123_122 := ngt_ hg BK122; replace BK121 := bb_ BK121 hb; replace BK122 := bb_ BK122 hb; replace HB := bs_ hb; clear hb hbox hg))
  (try simp only [Act.put, List.setIfInBounds_toArray, List.set_cons_zero, List.set_cons_succ])
  go_cut [15] (fun v15 wc => ∃ (kq : Nat) (x15_2 : Bool), v15 = .bool x15_2 ∧ Aside0 (spec_l1Equal.j0 kq x15_2 a0_0 a0_1 a0_2 l0_3 a1_0 a1_1 a1_2 l1_3 = some (r1, r2, r3, r4)) ∧ Aside0 (kq ≤ k) ∧ Aside0 (wc.heap[gb121]? = some (.cells #[.int .i64 a0_0, .int .i64 a0_1, .string a0_2, (.slice A0_3 l0_3.length c0_3)] 31 (0, 0))) ∧ Aside0 (wc.heap[gb122]? = some (.cells #[.int .i64 a1_0, .int .i64 a1_1, .string a1_2, (.slice A1_3 l1_3.length c1_3)] 31 (0, 0))) ∧ Aside0 (wc.heap[gb123]? = some (.cells #[.int .i64 0, .int .i64 0, .string (⟨#[]⟩ : ByteArray), (.slice none 0 0)] 31 (0, 0))) ∧ Aside0 (Below w.heap.size w wc))
  case first =>
    have H := HC3.out
    clear HC3
    by_cases c7 : a0_0 = 0
    · rw [if_pos c7] at H
      have c7b0 : (a0_0 == 0) = true := beq_iff_eq.mpr c7
      have c7b1 : (a0_0 != 0) = false := bne_eq_false_iff_eq.mpr c7
      clear c7
      (first | rw [c7b0] | (simp only [i64_w, i32_w]; rw [c7b0]) | skip)
      have H' := Aside0.mk H
      clear H
      have hnb8 := NB121_122.out
      have hnc8 := NB122_121.out
      have hnb9 := NB121_123.out
      have hnc9 := NB123_121.out
      obtain ⟨hcz10_0, hcz10_1, hcz10_2, hcz10_3, hfz10_0, hfz10_1, hfz10_2, hfz10_3⟩ := blk4 BK121
      go_wp2
      go_meet
      case rel => exact ⟨_, (true), sm_, H', ⟨by first | omega | exact Nat.le_refl _⟩, ⟨by refine pe_ ?_; exact BK121.out⟩, ⟨by refine pe_ ?_; exact BK122.out⟩, ⟨by refine pe_ ?_; exact BK123.out⟩, ⟨bel_⟩⟩
    rw [if_neg c7] at H
    have c7b0 : (a0_0 == 0) = false := beq_eq_false_iff_ne.mpr c7
    have c7b1 : (a0_0 != 0) = true := bne_iff_ne.mpr c7
    (first | rw [c7b0] | (simp only [i64_w, i32_w]; rw [c7b0]) | skip)
    have H' := Aside0.mk H
    clear H
    have hnb11 := NB121_122.out
    have hnc11 := NB122_121.out
    have hnb12 := NB121_123.out
    have hnc12 := NB123_121.out
    obtain ⟨hcz13_0, hcz13_1, hcz13_2, hcz13_3, hfz13_0, hfz13_1, hfz13_2, hfz13_3⟩ := blk4 BK121
    have hnb14 := NB122_123.out
    have hnc14 := NB123_122.out
    obtain ⟨hcz15_0, hcz15_1, hcz15_2, hcz15_3, hfz15_0, hfz15_1, hfz15_2, hfz15_3⟩ := blk4 BK122
    go_wp2
    go_meet
    case rel => exact ⟨_, ((a1_0 == 0)), sm_, H', ⟨by first | omega | exact Nat.le_refl _⟩, ⟨by refine pe_ ?_; exact BK121.out⟩, ⟨by refine pe_ ?_; exact BK122.out⟩, ⟨by refine pe_ ?_; exact BK123.out⟩, ⟨bel_⟩⟩
  case rest =>
    clear HC3
    try clear c1
    try clear p2
    try clear c6
    try clear c7
    try clear c7b0
    try clear c7b1
    try clear c8
    try clear c9
    try clear c11
    try clear c12
    try clear c14
    try clear hcz10_0 hcz10_1 hcz10_2 hcz10_3
    try clear hcz13_0 hcz13_1 hcz13_2 hcz13_3
    try clear hcz15_0 hcz15_1 hcz15_2 hcz15_3
    try clear hfz10_0 hfz10_1 hfz10_2 hfz10_3
    try clear hfz13_0 hfz13_1 hfz13_2 hfz13_3
    try clear hfz15_0 hfz15_1 hfz15_2 hfz15_3
    obtain ⟨kq, x15_2, rfl, HA, HJ2, BK121, BK122, BK123, HB⟩ := hcut
    cases kq with
    | zero => exact absurd HA.out (by simp [spec_l1Equal.j0])
    | succ kj2 =>
      have H := HA.out
      clear HA
      simp only [spec_l1Equal.j0] at H
      by_cases c16 : x15_2 = true
      · subst c16
        have H1 : (some (0, 0, (⟨#[]⟩ : ByteArray), ([] : List (S31)))) = some (r1, r2, r3, r4) := by rw [if_pos rfl] at H; exact H
        clear H
        have H := H1
        clear H1
        simp only [Option.some.injEq, Prod.mk.injEq] at H
        obtain ⟨rfl, rfl, rfl, rfl⟩ := H
        have hnb17 := NB123_121.out
        have hnc17 := NB121_123.out
        have hnb18 := NB123_122.out
        have hnc18 := NB122_123.out
        obtain ⟨hcz19_0, hcz19_1, hcz19_2, hcz19_3, hfz19_0, hfz19_1, hfz19_2, hfz19_3⟩ := blk4 BK123
        go_wp2
        refine bodyPost_ret (results_cell_row rfl _ _ gb123 31 #[.int .i64 0, .int .i64 0, .string (⟨#[]⟩ : ByteArray), .slice none 0 0] (0, 0) _ rfl (by refine pe_ ?_; refine blk_put (cs := #[.int .i64 0, .int .i64 0, .string (⟨#[]⟩ : ByteArray), .slice none 0 0]) ?_ 3 _ rfl; refine pe_ ?_; refine blk_put (cs := #[.int .i64 0, .int .i64 0, .string (⟨#[]⟩ : ByteArray), .slice none 0 0]) ?_ 2 _ rfl; refine pe_ ?_; refine blk_put (cs := #[.int .i64 0, .int .i64 0, .string (⟨#[]⟩ : ByteArray), .slice none 0 0]) ?_ 1 _ rfl; refine pe_ ?_; refine blk_put (cs := #[.int .i64 0, .int .i64 0, .string (⟨#[]⟩ : ByteArray), .slice none 0 0]) ?_ 0 _ rfl; refine pe_ ?_; exact BK123.out) Try.underlying31 rfl (by kernel_rfl)) rfl ?_
        exact ⟨_, by first | rfl | (simp [errW_none, errW_some] <;> rfl) | (simp [*, errW_none, errW_some] <;> rfl), by first | exact Kd.R_nil _ _ _ _ _ | exact Kd.N_nil _ _ _ _ _ | exact Kd.V_nil _ _ _ _ _ | exact Kd.Q_nil _ _ _ _ _ | exact Kd.S_nil _ _ _ _ _, bel_⟩
      replace c16 := Bool.eq_false_iff.mpr c16
      subst c16
      have H1 : (if a0_0 = 4 then (spec_l1Equal.j1 kj2 (a1_0 != 4) a0_0 a0_1 a0_2 l0_3 a1_0 a1_1 a1_2 l1_3) else (spec_l1Equal.j1 kj2 true a0_0 a0_1 a0_2 l0_3 a1_0 a1_1 a1_2 l1_3)) = some (r1, r2, r3, r4) := by rw [if_neg (show ¬ (false = true) by decide)] at H; exact H
      clear H
      have H := H1
      clear H1
      have HC20 := Aside0.mk H
      clear H
      go_upto_region 3 with (fail)
      go_cut [24] (fun v24 wc => ∃ (kq : Nat) (x24_19 : Bool), v24 = .bool x24_19 ∧ Aside0 (spec_l1Equal.j1 kq x24_19 a0_0 a0_1 a0_2 l0_3 a1_0 a1_1 a1_2 l1_3 = some (r1, r2, r3, r4)) ∧ Aside0 (kq ≤ kj2) ∧ Aside0 (wc.heap[gb121]? = some (.cells #[.int .i64 a0_0, .int .i64 a0_1, .string a0_2, (.slice A0_3 l0_3.length c0_3)] 31 (0, 0))) ∧ Aside0 (wc.heap[gb122]? = some (.cells #[.int .i64 a1_0, .int .i64 a1_1, .string a1_2, (.slice A1_3 l1_3.length c1_3)] 31 (0, 0))) ∧ Aside0 (wc.heap[gb123]? = some (.cells #[.int .i64 0, .int .i64 0, .string (⟨#[]⟩ : ByteArray), (.slice none 0 0)] 31 (0, 0))) ∧ Aside0 (Below w.heap.size w wc))
      case first =>
        have H := HC20.out
        clear HC20
        by_cases c21 : a0_0 = 4
        · rw [if_pos c21] at H
          have c21b0 : (a0_0 == 4) = true := beq_iff_eq.mpr c21
          have c21b1 : (a0_0 != 4) = false := bne_eq_false_iff_eq.mpr c21
          clear c21
          (first | rw [c21b0] | (simp only [i64_w, i32_w]; rw [c21b0]) | skip)
          have H' := Aside0.mk H
          clear H
          have hnb22 := NB121_122.out
          have hnc22 := NB122_121.out
          have hnb23 := NB121_123.out
          have hnc23 := NB123_121.out
          obtain ⟨hcz24_0, hcz24_1, hcz24_2, hcz24_3, hfz24_0, hfz24_1, hfz24_2, hfz24_3⟩ := blk4 BK121
          have hnb25 := NB122_123.out
          have hnc25 := NB123_122.out
          obtain ⟨hcz26_0, hcz26_1, hcz26_2, hcz26_3, hfz26_0, hfz26_1, hfz26_2, hfz26_3⟩ := blk4 BK122
          go_wp2
          go_meet
          case rel => exact ⟨_, ((a1_0 != 4)), sm_, H', ⟨by have := HJ2.out; first | omega | exact Nat.le_refl _⟩, ⟨by refine pe_ ?_; exact BK121.out⟩, ⟨by refine pe_ ?_; exact BK122.out⟩, ⟨by refine pe_ ?_; exact BK123.out⟩, ⟨bel_⟩⟩
        rw [if_neg c21] at H
        have c21b0 : (a0_0 == 4) = false := beq_eq_false_iff_ne.mpr c21
        have c21b1 : (a0_0 != 4) = true := bne_iff_ne.mpr c21
        (first | rw [c21b0] | (simp only [i64_w, i32_w]; rw [c21b0]) | skip)
        have H' := Aside0.mk H
        clear H
        have hnb27 := NB121_122.out
        have hnc27 := NB122_121.out
        have hnb28 := NB121_123.out
        have hnc28 := NB123_121.out
        obtain ⟨hcz29_0, hcz29_1, hcz29_2, hcz29_3, hfz29_0, hfz29_1, hfz29_2, hfz29_3⟩ := blk4 BK121
        go_wp2
        go_meet
        case rel => exact ⟨_, (true), sm_, H', ⟨by have := HJ2.out; first | omega | exact Nat.le_refl _⟩, ⟨by refine pe_ ?_; exact BK121.out⟩, ⟨by refine pe_ ?_; exact BK122.out⟩, ⟨by refine pe_ ?_; exact BK123.out⟩, ⟨bel_⟩⟩
      case rest =>
        clear HC20
        try clear c1
        try clear c2
        try clear p2
        try clear c6
        try clear c7
        try clear c7b0
        try clear c7b1
        try clear c8
        try clear c9
        try clear c11
        try clear c12
        try clear c14
        try clear c16
        try clear c17
        try clear c18
        try clear c21
        try clear c21b0
        try clear c21b1
        try clear c22
        try clear c23
        try clear c25
        try clear c27
        try clear c28
        try clear hcz10_0 hcz10_1 hcz10_2 hcz10_3
        try clear hcz13_0 hcz13_1 hcz13_2 hcz13_3
        try clear hcz15_0 hcz15_1 hcz15_2 hcz15_3
        try clear hcz19_0 hcz19_1 hcz19_2 hcz19_3
        try clear hcz24_0 hcz24_1 hcz24_2 hcz24_3
        try clear hcz26_0 hcz26_1 hcz26_2 hcz26_3
        try clear hcz29_0 hcz29_1 hcz29_2 hcz29_3
        try clear hfz10_0 hfz10_1 hfz10_2 hfz10_3
        try clear hfz13_0 hfz13_1 hfz13_2 hfz13_3
        try clear hfz15_0 hfz15_1 hfz15_2 hfz15_3
        try clear hfz19_0 hfz19_1 hfz19_2 hfz19_3
        try clear hfz24_0 hfz24_1 hfz24_2 hfz24_3
        try clear hfz26_0 hfz26_1 hfz26_2 hfz26_3
        try clear hfz29_0 hfz29_1 hfz29_2 hfz29_3
        try clear p2
        obtain ⟨kq, x24_19, rfl, HA, HJ19, BK121, BK122, BK123, HB⟩ := hcut
        cases kq with
        | zero => exact absurd HA.out (by simp [spec_l1Equal.j1])
        | succ kj19 =>
          have H := HA.out
          clear HA
          simp only [spec_l1Equal.j1] at H
          by_cases c30 : x24_19 = true
          · subst c30
            have H1 : ((spec_l1Same.f kj19 a0_0 a0_1 a0_2 l0_3 a1_0 a1_1 a1_2 l1_3).bind fun t124 => ((spec_l1Bool.f t124).bind fun bt125 => (some (bt125.1, bt125.2.1, bt125.2.2.1, bt125.2.2.2)))) = some (r1, r2, r3, r4) := by rw [if_pos rfl] at H; exact H
            clear H
            have H := H1
            clear H1
            replace H := Option.bind_eq_some_iff.mp H
            obtain ⟨t124, A310, H⟩ := H
            replace H : ((spec_l1Bool.f t124).bind fun bt125 => (some (bt125.1, bt125.2.1, bt125.2.2.1, bt125.2.2.2))) = some (r1, r2, r3, r4) := H
            have A31 := Aside0.mk A310
            clear A310
            replace H := Option.bind_eq_some_iff.mp H
            obtain ⟨⟨t125, t126, t127, t128⟩, A320, H⟩ := H
            replace H : (some (t125, t126, t127, t128)) = some (r1, r2, r3, r4) := H
            have A32 := Aside0.mk A320
            clear A320
            simp only [Option.some.injEq, Prod.mk.injEq] at H
            obtain ⟨rfl, rfl, rfl, rfl⟩ := H
            have hnb33 := NB121_122.out
            have hnc33 := NB122_121.out
            have hnb34 := NB121_123.out
            have hnc34 := NB123_121.out
            obtain ⟨hcz35_0, hcz35_1, hcz35_2, hcz35_3, hfz35_0, hfz35_1, hfz35_2, hfz35_3⟩ := blk4 BK121
            have hnb36 := NB122_123.out
            have hnc36 := NB123_122.out
            obtain ⟨hcz37_0, hcz37_1, hcz37_2, hcz37_3, hfz37_0, hfz37_1, hfz37_2, hfz37_3⟩ := blk4 BK122
            go_wp2_with (first | ((with_reducible refine gate_callee (f := 51) rfl ?_); refine goesL_ (some 27) rfl rfl Try.func51 (by kernel_rfl) rfl #[.agg #[.int .i64 a0_0, .int .i64 a0_1, .string a0_2, .slice A0_3 l0_3.length c0_3], .agg #[.int .i64 a1_0, .int .i64 a1_1, .string a1_2, .slice A1_3 l1_3.length c1_3]] rfl ar_ ?_; (with_reducible refine (spec_l1Same.calls kj19 a0_0 a0_1 a0_2 _ _ l0_3 a1_0 a1_1 a1_2 _ _ l1_3 t124 _ ?side1 ?side2 ?side3 ?side4 A31.out).mono ?_); (case side1 => exact rdb_ HR0_3); (case side2 => exact HC0_3.out); (case side3 => exact rdb_ HR1_3); (case side4 => exact HC1_3.out); rintro e w38 ⟨rfl, hb⟩; refine ⟨_, rfl, ?_⟩; replace BK121 := bb_ BK121 hb; replace BK122 := bb_ BK122 hb; replace BK123 := bb_ BK123 hb; replace HB := bs_ hb; (try clear hb); (try clear hb2); (try clear hk); (try clear hi)) | ((with_reducible refine gate_callee (f := 86) rfl ?_); refine goesL_ (some 28) rfl rfl Try.func86 (by kernel_rfl) rfl #[.bool t124] rfl ar_ ?_; (with_reducible refine (spec_l1Bool.calls t124 t125 t126 t127 t128 _ A32.out).mono ?_); rintro e w39 ⟨v129, rfl, ho0, hb⟩; refine ⟨_, rfl, ?_⟩; have HO130 := Aside0.mk (Kd.R_lower (Kd.R_newB (Kd.R_newB (Kd.R_newB ho0 (g := gb121) (o := .cells #[.int .i64 a0_0, .int .i64 a0_1, .string a0_2, .slice A0_3 l0_3.length c0_3] 31 (0, 0)) (bk_ BK121)) (g := gb122) (o := .cells #[.int .i64 a1_0, .int .i64 a1_1, .string a1_2, .slice A1_3 l1_3.length c1_3] 31 (0, 0)) (bk_ BK122)) (g := gb123) (o := .cells #[.int .i64 0, .int .i64 0, .string (⟨#[]⟩ : ByteArray), .slice none 0 0] 31 (0, 0)) (bk_ BK123)) (below_size (bel_))); replace BK121 := bb_ BK121 hb; replace BK122 := bb_ BK122 hb; replace BK123 := bb_ BK123 hb; replace HB := bs_ hb; (try clear hb); (try clear hb2); (try clear hk); (try clear hi); (try clear ho0); obtain ⟨hcz40_0, hcz40_1, hcz40_2, hcz40_3, hfz40_0, hfz40_1, hfz40_2, hfz40_3⟩ := blk4 BK123; obtain ⟨Ao41, co41, eo41⟩ := Kd.R_slice HO130.out; subst eo41))
            refine bodyPost_ret (results_cell_row rfl _ _ gb123 31 #[.int .i64 t125, .int .i64 t126, .string t127, .slice Ao41 t128.length co41] (0, 0) _ rfl (by refine pe_ ?_; refine blk_put (cs := #[.int .i64 t125, .int .i64 t126, .string t127, .slice none 0 0]) ?_ 3 _ rfl; refine pe_ ?_; refine blk_put (cs := #[.int .i64 t125, .int .i64 t126, .string (⟨#[]⟩ : ByteArray), .slice none 0 0]) ?_ 2 _ rfl; refine pe_ ?_; refine blk_put (cs := #[.int .i64 t125, .int .i64 0, .string (⟨#[]⟩ : ByteArray), .slice none 0 0]) ?_ 1 _ rfl; refine pe_ ?_; refine blk_put (cs := #[.int .i64 0, .int .i64 0, .string (⟨#[]⟩ : ByteArray), .slice none 0 0]) ?_ 0 _ rfl; refine pe_ ?_; exact BK123.out) Try.underlying31 rfl (by kernel_rfl)) rfl ?_
            exact ⟨_, by first | rfl | (simp [errW_none, errW_some] <;> rfl) | (simp [*, errW_none, errW_some] <;> rfl), by (with_reducible repeat (first | apply Kd.R_alloc | apply Kd.R_drewN | apply Kd.R_drew)); exact Kd.R_mono (rf4 gb123 (Kd.R_mono HO130.out (fun k_ hk => (⟨hk, hk.2⟩ : _ ∧ k_ ≠ gb123))) (fun _ hk => hk.2)) (fun _ hk => trivial), bel_⟩
          replace c30 := Bool.eq_false_iff.mpr c30
          subst c30
          have H1 : (if (l0_3.length : Int) = (l1_3.length : Int) then (spec_l1Equal.l0 kj19 true 0 a0_0 a0_1 a0_2 l0_3 a1_0 a1_1 a1_2 l1_3) else ((spec_l1Bool.f false).bind fun bt131 => (some (bt131.1, bt131.2.1, bt131.2.2.1, bt131.2.2.2)))) = some (r1, r2, r3, r4) := by rw [if_neg (show ¬ (false = true) by decide)] at H; exact H
          clear H
          have H := H1
          clear H1
          by_cases c42 : (l0_3.length : Int) = (l1_3.length : Int)
          rotate_left
          · rw [if_neg c42] at H
            have c42b0 : ((l0_3.length : Int) == (l1_3.length : Int)) = false := beq_eq_false_iff_ne.mpr c42
            have c42b1 : ((l0_3.length : Int) != (l1_3.length : Int)) = true := bne_iff_ne.mpr c42
            have c42b2 : (l0_3.length == l1_3.length) = false := by first | simpa using c42 | (simp at c42 ⊢; omega)
            replace H := Option.bind_eq_some_iff.mp H
            obtain ⟨⟨t131, t132, t133, t134⟩, A1010, H⟩ := H
            replace H : (some (t131, t132, t133, t134)) = some (r1, r2, r3, r4) := H
            have A101 := Aside0.mk A1010
            clear A1010
            simp only [Option.some.injEq, Prod.mk.injEq] at H
            obtain ⟨rfl, rfl, rfl, rfl⟩ := H
            have hnb102 := NB121_122.out
            have hnc102 := NB122_121.out
            have hnb103 := NB121_123.out
            have hnc103 := NB123_121.out
            obtain ⟨hcz104_0, hcz104_1, hcz104_2, hcz104_3, hfz104_0, hfz104_1, hfz104_2, hfz104_3⟩ := blk4 BK121
            have hnb105 := NB122_123.out
            have hnc105 := NB123_122.out
            obtain ⟨hcz106_0, hcz106_1, hcz106_2, hcz106_3, hfz106_0, hfz106_1, hfz106_2, hfz106_3⟩ := blk4 BK122
            go_wp2_with (first | ((with_reducible refine gate_callee (f := 86) rfl ?_); refine goesL_ (some 36) rfl rfl Try.func86 (by kernel_rfl) rfl #[.bool false] rfl ar_ ?_; (with_reducible refine (spec_l1Bool.calls false t131 t132 t133 t134 _ A101.out).mono ?_); rintro e w107 ⟨v135, rfl, ho0, hb⟩; refine ⟨_, rfl, ?_⟩; have HO136 := Aside0.mk (Kd.R_lower (Kd.R_newB (Kd.R_newB (Kd.R_newB ho0 (g := gb121) (o := .cells #[.int .i64 a0_0, .int .i64 a0_1, .string a0_2, .slice A0_3 l0_3.length c0_3] 31 (0, 0)) (bk_ BK121)) (g := gb122) (o := .cells #[.int .i64 a1_0, .int .i64 a1_1, .string a1_2, .slice A1_3 l1_3.length c1_3] 31 (0, 0)) (bk_ BK122)) (g := gb123) (o := .cells #[.int .i64 0, .int .i64 0, .string (⟨#[]⟩ : ByteArray), .slice none 0 0] 31 (0, 0)) (bk_ BK123)) (below_size (bel_))); replace BK121 := bb_ BK121 hb; replace BK122 := bb_ BK122 hb; replace BK123 := bb_ BK123 hb; replace HB := bs_ hb; (try clear hb); (try clear hb2); (try clear hk); (try clear hi); (try clear ho0); obtain ⟨hcz108_0, hcz108_1, hcz108_2, hcz108_3, hfz108_0, hfz108_1, hfz108_2, hfz108_3⟩ := blk4 BK123; obtain ⟨Ao109, co109, eo109⟩ := Kd.R_slice HO136.out; subst eo109))
            refine bodyPost_ret (results_cell_row rfl _ _ gb123 31 #[.int .i64 t131, .int .i64 t132, .string t133, .slice Ao109 t134.length co109] (0, 0) _ rfl (by refine pe_ ?_; refine blk_put (cs := #[.int .i64 t131, .int .i64 t132, .string t133, .slice none 0 0]) ?_ 3 _ rfl; refine pe_ ?_; refine blk_put (cs := #[.int .i64 t131, .int .i64 t132, .string (⟨#[]⟩ : ByteArray), .slice none 0 0]) ?_ 2 _ rfl; refine pe_ ?_; refine blk_put (cs := #[.int .i64 t131, .int .i64 0, .string (⟨#[]⟩ : ByteArray), .slice none 0 0]) ?_ 1 _ rfl; refine pe_ ?_; refine blk_put (cs := #[.int .i64 0, .int .i64 0, .string (⟨#[]⟩ : ByteArray), .slice none 0 0]) ?_ 0 _ rfl; refine pe_ ?_; exact BK123.out) Try.underlying31 rfl (by kernel_rfl)) rfl ?_
            exact ⟨_, by first | rfl | (simp [errW_none, errW_some] <;> rfl) | (simp [*, errW_none, errW_some] <;> rfl), by (with_reducible repeat (first | apply Kd.R_alloc | apply Kd.R_drewN | apply Kd.R_drew)); exact Kd.R_mono (rf4 gb123 (Kd.R_mono HO136.out (fun k_ hk => (⟨hk, hk.2⟩ : _ ∧ k_ ≠ gb123))) (fun _ hk => hk.2)) (fun _ hk => trivial), bel_⟩
          rw [if_pos c42] at H
          have c42b0 : ((l0_3.length : Int) == (l1_3.length : Int)) = true := beq_iff_eq.mpr c42
          have c42b1 : ((l0_3.length : Int) != (l1_3.length : Int)) = false := bne_eq_false_iff_eq.mpr c42
          have c42b2 : (l0_3.length == l1_3.length) = true := by first | simpa using c42 | (simp at c42 ⊢; omega)
          clear c42
          have H' := Aside0.mk H
          clear H
          have hnb43 := NB121_122.out
          have hnc43 := NB122_121.out
          have hnb44 := NB121_123.out
          have hnc44 := NB123_121.out
          obtain ⟨hcz45_0, hcz45_1, hcz45_2, hcz45_3, hfz45_0, hfz45_1, hfz45_2, hfz45_3⟩ := blk4 BK121
          have hnb46 := NB122_123.out
          have hnc46 := NB123_122.out
          obtain ⟨hcz47_0, hcz47_1, hcz47_2, hcz47_3, hfz47_0, hfz47_1, hfz47_2, hfz47_3⟩ := blk4 BK122
          go_wp2
          go_loopg [5, 6] kj19 (fun kq v5 v6 w' => ∃ (x5_3 : Bool) (x6_3 : Int) (x124000_3 : Int) (x124001_3 : Int) (x124002_3 : ByteArray), v5 = .bool x5_3 ∧ v6 = .int .i64 x6_3 ∧ Aside0 (spec_l1Equal.l0 kq x5_3 x6_3 a0_0 a0_1 a0_2 l0_3 a1_0 a1_1 a1_2 l1_3 = some (r1, r2, r3, r4)) ∧ Aside0 (kq ≤ kj19) ∧ Aside0 (w'.heap[gb121]? = some (.cells #[.int .i64 a0_0, .int .i64 a0_1, .string a0_2, (.slice A0_3 l0_3.length c0_3)] 31 (0, 0))) ∧ Aside0 (w'.heap[gb122]? = some (.cells #[.int .i64 a1_0, .int .i64 a1_1, .string a1_2, (.slice A1_3 l1_3.length c1_3)] 31 (0, 0))) ∧ Aside0 (w'.heap[gb123]? = some (.cells #[.int .i64 x124000_3, .int .i64 x124001_3, .string x124002_3, (.slice none 0 0)] 31 (0, 0))) ∧ Aside0 (Below w.heap.size w w'))
          case atStart => exact ⟨(true), (0), (0), (0), ((⟨#[]⟩ : ByteArray)), sm_, sm_, H', ⟨Nat.le_refl _⟩, ⟨by refine pe_ ?_; exact BK121.out⟩, ⟨by refine pe_ ?_; exact BK122.out⟩, ⟨by refine pe_ ?_; exact BK123.out⟩, ⟨bel_⟩⟩
          case round =>
            clear H'
            try clear c1
            try clear c2
            try clear p2
            try clear c3
            try clear c4
            try clear c5
            try clear c6
            try clear c7
            try clear c7b0
            try clear c7b1
            try clear c8
            try clear c9
            try clear c11
            try clear c12
            try clear c14
            try clear c16
            try clear c17
            try clear c18
            try clear c21
            try clear c21b0
            try clear c21b1
            try clear c22
            try clear c23
            try clear c25
            try clear c27
            try clear c28
            try clear c30
            try clear c33
            try clear c34
            try clear c36
            try clear c42
            try clear c42b0
            try clear c42b1
            try clear c42b2
            try clear c43
            try clear c44
            try clear c46
            try clear hcz10_0 hcz10_1 hcz10_2 hcz10_3
            try clear hcz13_0 hcz13_1 hcz13_2 hcz13_3
            try clear hcz15_0 hcz15_1 hcz15_2 hcz15_3
            try clear hcz19_0 hcz19_1 hcz19_2 hcz19_3
            try clear hcz24_0 hcz24_1 hcz24_2 hcz24_3
            try clear hcz26_0 hcz26_1 hcz26_2 hcz26_3
            try clear hcz29_0 hcz29_1 hcz29_2 hcz29_3
            try clear hcz35_0 hcz35_1 hcz35_2 hcz35_3
            try clear hcz37_0 hcz37_1 hcz37_2 hcz37_3
            try clear hcz40_0 hcz40_1 hcz40_2 hcz40_3
            try clear hcz45_0 hcz45_1 hcz45_2 hcz45_3
            try clear hcz47_0 hcz47_1 hcz47_2 hcz47_3
            try clear hfz10_0 hfz10_1 hfz10_2 hfz10_3
            try clear hfz13_0 hfz13_1 hfz13_2 hfz13_3
            try clear hfz15_0 hfz15_1 hfz15_2 hfz15_3
            try clear hfz19_0 hfz19_1 hfz19_2 hfz19_3
            try clear hfz24_0 hfz24_1 hfz24_2 hfz24_3
            try clear hfz26_0 hfz26_1 hfz26_2 hfz26_3
            try clear hfz29_0 hfz29_1 hfz29_2 hfz29_3
            try clear hfz35_0 hfz35_1 hfz35_2 hfz35_3
            try clear hfz37_0 hfz37_1 hfz37_2 hfz37_3
            try clear hfz40_0 hfz40_1 hfz40_2 hfz40_3
            try clear hfz45_0 hfz45_1 hfz45_2 hfz45_3
            try clear hfz47_0 hfz47_1 hfz47_2 hfz47_3
            try clear p2
            obtain ⟨x5_3, x6_3, x124000_3, x124001_3, x124002_3, rfl, rfl, HA, HK3, BK121, BK122, BK123, HB⟩ := hrel
            cases gk with
            | zero => exact absurd HA.out (by simp [spec_l1Equal.l0])
            | succ k3 =>
              have H := HA.out
              clear HA
              simp only [spec_l1Equal.l0] at H
              by_cases c48 : x6_3 < (l0_3.length : Int)
              rotate_left
              · rw [if_neg c48] at H
                have c48b0 : decide (x6_3 < (l0_3.length : Int)) = false := decide_eq_false c48
                clear c48
                by_cases c87 : x5_3 = true
                · subst c87
                  have H1 : ((spec_l1Bool.f true).bind fun bt146 => (some (bt146.1, bt146.2.1, bt146.2.2.1, bt146.2.2.2))) = some (r1, r2, r3, r4) := by rw [if_pos rfl] at H; exact H
                  clear H
                  have H := H1
                  clear H1
                  replace H := Option.bind_eq_some_iff.mp H
                  obtain ⟨⟨t146, t147, t148, t149⟩, A880, H⟩ := H
                  replace H : (some (t146, t147, t148, t149)) = some (r1, r2, r3, r4) := H
                  have A88 := Aside0.mk A880
                  clear A880
                  simp only [Option.some.injEq, Prod.mk.injEq] at H
                  obtain ⟨rfl, rfl, rfl, rfl⟩ := H
                  have hnb89 := NB121_122.out
                  have hnc89 := NB122_121.out
                  have hnb90 := NB121_123.out
                  have hnc90 := NB123_121.out
                  obtain ⟨hcz91_0, hcz91_1, hcz91_2, hcz91_3, hfz91_0, hfz91_1, hfz91_2, hfz91_3⟩ := blk4 BK121
                  go_wp2_with (first | ((with_reducible refine gate_callee (f := 86) rfl ?_); refine goesL_ (some 73) rfl rfl Try.func86 (by kernel_rfl) rfl #[.bool true] rfl ar_ ?_; (with_reducible refine (spec_l1Bool.calls true t146 t147 t148 t149 _ A88.out).mono ?_); rintro e w92 ⟨v150, rfl, ho0, hb⟩; refine ⟨_, rfl, ?_⟩; have HO151 := Aside0.mk (Kd.R_lower (Kd.R_newB (Kd.R_newB (Kd.R_newB ho0 (g := gb121) (o := .cells #[.int .i64 a0_0, .int .i64 a0_1, .string a0_2, .slice A0_3 l0_3.length c0_3] 31 (0, 0)) (bk_ BK121)) (g := gb122) (o := .cells #[.int .i64 a1_0, .int .i64 a1_1, .string a1_2, .slice A1_3 l1_3.length c1_3] 31 (0, 0)) (bk_ BK122)) (g := gb123) (o := .cells #[.int .i64 x124000_3, .int .i64 x124001_3, .string x124002_3, .slice none 0 0] 31 (0, 0)) (bk_ BK123)) (below_size (bel_))); replace BK121 := bb_ BK121 hb; replace BK122 := bb_ BK122 hb; replace BK123 := bb_ BK123 hb; replace HB := bs_ hb; (try clear hb); (try clear hb2); (try clear hk); (try clear hi); (try clear ho0); have hnb93 := NB123_122.out; have hnc93 := NB122_123.out; obtain ⟨hcz94_0, hcz94_1, hcz94_2, hcz94_3, hfz94_0, hfz94_1, hfz94_2, hfz94_3⟩ := blk4 BK123; obtain ⟨Ao95, co95, eo95⟩ := Kd.R_slice HO151.out; subst eo95))
                  refine bodyPost_ret (results_cell_row rfl _ _ gb123 31 #[.int .i64 t146, .int .i64 t147, .string t148, .slice Ao95 t149.length co95] (0, 0) _ rfl (by refine pe_ ?_; refine blk_put (cs := #[.int .i64 t146, .int .i64 t147, .string t148, .slice none 0 0]) ?_ 3 _ rfl; refine pe_ ?_; refine blk_put (cs := #[.int .i64 t146, .int .i64 t147, .string x124002_3, .slice none 0 0]) ?_ 2 _ rfl; refine pe_ ?_; refine blk_put (cs := #[.int .i64 t146, .int .i64 x124001_3, .string x124002_3, .slice none 0 0]) ?_ 1 _ rfl; refine pe_ ?_; refine blk_put (cs := #[.int .i64 x124000_3, .int .i64 x124001_3, .string x124002_3, .slice none 0 0]) ?_ 0 _ rfl; refine pe_ ?_; exact BK123.out) Try.underlying31 rfl (by kernel_rfl)) rfl ?_
                  exact ⟨_, by first | rfl | (simp [errW_none, errW_some] <;> rfl) | (simp [*, errW_none, errW_some] <;> rfl), by (with_reducible repeat (first | apply Kd.R_alloc | apply Kd.R_drewN | apply Kd.R_drew)); exact Kd.R_mono (rf4 gb123 (Kd.R_mono HO151.out (fun k_ hk => (⟨hk, hk.2⟩ : _ ∧ k_ ≠ gb123))) (fun _ hk => hk.2)) (fun _ hk => trivial), bel_⟩
                replace c87 := Bool.eq_false_iff.mpr c87
                subst c87
                have H1 : (some (0, 0, (⟨#[]⟩ : ByteArray), ([] : List (S31)))) = some (r1, r2, r3, r4) := by rw [if_neg (show ¬ (false = true) by decide)] at H; exact H
                clear H
                have H := H1
                clear H1
                simp only [Option.some.injEq, Prod.mk.injEq] at H
                obtain ⟨rfl, rfl, rfl, rfl⟩ := H
                have hnb96 := NB121_122.out
                have hnc96 := NB122_121.out
                have hnb97 := NB121_123.out
                have hnc97 := NB123_121.out
                obtain ⟨hcz98_0, hcz98_1, hcz98_2, hcz98_3, hfz98_0, hfz98_1, hfz98_2, hfz98_3⟩ := blk4 BK121
                have hnb99 := NB123_122.out
                have hnc99 := NB122_123.out
                obtain ⟨hcz100_0, hcz100_1, hcz100_2, hcz100_3, hfz100_0, hfz100_1, hfz100_2, hfz100_3⟩ := blk4 BK123
                go_wp2
                refine bodyPost_ret (results_cell_row rfl _ _ gb123 31 #[.int .i64 0, .int .i64 0, .string (⟨#[]⟩ : ByteArray), .slice none 0 0] (0, 0) _ rfl (by refine pe_ ?_; refine blk_put (cs := #[.int .i64 0, .int .i64 0, .string (⟨#[]⟩ : ByteArray), .slice none 0 0]) ?_ 3 _ rfl; refine pe_ ?_; refine blk_put (cs := #[.int .i64 0, .int .i64 0, .string x124002_3, .slice none 0 0]) ?_ 2 _ rfl; refine pe_ ?_; refine blk_put (cs := #[.int .i64 0, .int .i64 x124001_3, .string x124002_3, .slice none 0 0]) ?_ 1 _ rfl; refine pe_ ?_; refine blk_put (cs := #[.int .i64 x124000_3, .int .i64 x124001_3, .string x124002_3, .slice none 0 0]) ?_ 0 _ rfl; refine pe_ ?_; exact BK123.out) Try.underlying31 rfl (by kernel_rfl)) rfl ?_
                exact ⟨_, by first | rfl | (simp [errW_none, errW_some] <;> rfl) | (simp [*, errW_none, errW_some] <;> rfl), by first | exact Kd.R_nil _ _ _ _ _ | exact Kd.N_nil _ _ _ _ _ | exact Kd.V_nil _ _ _ _ _ | exact Kd.Q_nil _ _ _ _ _ | exact Kd.S_nil _ _ _ _ _, bel_⟩
              rw [if_pos c48] at H
              have c48b0 : decide (x6_3 < (l0_3.length : Int)) = true := decide_eq_true c48
              clear c48
              by_cases c49 : 0 ≤ x6_3
              rotate_left
              · rw [if_neg c49] at H
                exact absurd H (by simp)
              rw [if_pos c49] at H
              have c49b0 : decide (0 ≤ x6_3) = true := decide_eq_true c49
              clear c49
              by_cases c50 : x6_3 < (l1_3.length : Int)
              rotate_left
              · rw [if_neg c50] at H
                exact absurd H (by simp)
              rw [if_pos c50] at H
              have c50b0 : decide (x6_3 < (l1_3.length : Int)) = true := decide_eq_true c50
              clear c50
              replace H := Option.bind_eq_some_iff.mp H
              obtain ⟨⟨t139, t140, t141, t142⟩, A510, H⟩ := H
              replace H : (if t139 = 1 then (spec_l1Equal.j3 k3 x5_3 x6_3 (t140 == 0) a0_0 a0_1 a0_2 l0_3 a1_0 a1_1 a1_2 l1_3 t139 t140 t141 t142) else (spec_l1Equal.j3 k3 x5_3 x6_3 false a0_0 a0_1 a0_2 l0_3 a1_0 a1_1 a1_2 l1_3 t139 t140 t141 t142)) = some (r1, r2, r3, r4) := H
              have A51 := Aside0.mk A510
              clear A510
              have HC52 := Aside0.mk H
              clear H
              have hnb53 := NB121_122.out
              have hnc53 := NB122_121.out
              have hnb54 := NB121_123.out
              have hnc54 := NB123_121.out
              obtain ⟨hcz55_0, hcz55_1, hcz55_2, hcz55_3, hfz55_0, hfz55_1, hfz55_2, hfz55_3⟩ := blk4 BK121
              try go_wp2
              replace BK121 := Aside0.mk (blk_drew BK121.out)
              replace BK122 := Aside0.mk (blk_drew BK122.out)
              replace BK123 := Aside0.mk (blk_drew BK123.out)
              replace HB := Aside0.mk (below_drew1 HB.out)
              have p137 : 0 ≤ (x6_3 : Int) := od_
              have q137 : x6_3 < (l0_3.length : Int) := od_
              obtain ⟨ad137, A137_3, c137_3, e137, hx137_0, hx137_1, hx137_2, hx137_3, hl137_3, hi137_3⟩ := at_T31 HR0_3.out x6_3 p137 q137
              have hw137_3 := hx137_3
              have hw137_2 := hx137_2
              have hw137_1 := hx137_1
              have hw137_0 := hx137_0
              cases e137
              replace hx137_0 := mv_ HB hx137_0
              replace hx137_1 := mv_ HB hx137_1
              replace hx137_2 := mv_ HB hx137_2
              replace hx137_3 := mv_ HB hx137_3
              have HR137_3 := Aside0.mk hi137_3
              have HC137_3 := Aside0.mk hl137_3
              clear hi137_3 hl137_3
              replace p137 := eq_true p137
              replace q137 := eq_true q137
              have p138 : 0 ≤ (x6_3 : Int) := od_
              have q138 : x6_3 < (l1_3.length : Int) := od_
              obtain ⟨ad138, A138_3, c138_3, e138, hx138_0, hx138_1, hx138_2, hx138_3, hl138_3, hi138_3⟩ := at_T31 HR1_3.out x6_3 p138 q138
              have hw138_3 := hx138_3
              have hw138_2 := hx138_2
              have hw138_1 := hx138_1
              have hw138_0 := hx138_0
              cases e138
              replace hx138_0 := mv_ HB hx138_0
              replace hx138_1 := mv_ HB hx138_1
              replace hx138_2 := mv_ HB hx138_2
              replace hx138_3 := mv_ HB hx138_3
              have HR138_3 := Aside0.mk hi138_3
              have HC138_3 := Aside0.mk hl138_3
              clear hi138_3 hl138_3
              replace p138 := eq_true p138
              replace q138 := eq_true q138
              refine start_ (n := 13) (S := fun w' => w'.cell? ⟨gb121, 0, none⟩ = some (.int .i64 a0_0) ∧ w'.cell? ⟨gb121, 1, none⟩ = some (.int .i64 a0_1) ∧ w'.cell? ⟨gb121, 2, none⟩ = some (.string a0_2) ∧ w'.cell? ⟨gb121, 3, none⟩ = some (.slice (some ad137) l0_3.length c0_3) ∧ w'.cell? ⟨gb122, 0, none⟩ = some (.int .i64 a1_0) ∧ w'.cell? ⟨gb122, 1, none⟩ = some (.int .i64 a1_1) ∧ w'.cell? ⟨gb122, 2, none⟩ = some (.string a1_2) ∧ w'.cell? ⟨gb122, 3, none⟩ = some (.slice (some ad138) l1_3.length c1_3) ∧ w'.cell? (ad137.add ((x6_3).toNat * 4)) = some (.int .i64 ((rd_T31 l0_3 x6_3).f0)) ∧ w'.cell? ⟨(ad137.add ((x6_3).toNat * 4)).block, (ad137.add ((x6_3).toNat * 4)).off + 1, none⟩ = some (.int .i64 ((rd_T31 l0_3 x6_3).f1)) ∧ w'.cell? ⟨(ad137.add ((x6_3).toNat * 4)).block, (ad137.add ((x6_3).toNat * 4)).off + 2, none⟩ = some (.string ((rd_T31 l0_3 x6_3).f2)) ∧ w'.cell? ⟨(ad137.add ((x6_3).toNat * 4)).block, (ad137.add ((x6_3).toNat * 4)).off + 3, none⟩ = some (.slice A137_3 ((rd_T31 l0_3 x6_3).f3).length c137_3) ∧ w'.cell? (ad138.add ((x6_3).toNat * 4)) = some (.int .i64 ((rd_T31 l1_3 x6_3).f0)) ∧ w'.cell? ⟨(ad138.add ((x6_3).toNat * 4)).block, (ad138.add ((x6_3).toNat * 4)).off + 1, none⟩ = some (.int .i64 ((rd_T31 l1_3 x6_3).f1)) ∧ w'.cell? ⟨(ad138.add ((x6_3).toNat * 4)).block, (ad138.add ((x6_3).toNat * 4)).off + 2, none⟩ = some (.string ((rd_T31 l1_3 x6_3).f2)) ∧ w'.cell? ⟨(ad138.add ((x6_3).toNat * 4)).block, (ad138.add ((x6_3).toNat * 4)).off + 3, none⟩ = some (.slice A138_3 ((rd_T31 l1_3 x6_3).f3).length c138_3)) (ds := []) #[false, false, false, false, false, false, false, false, false, false, false, false, false] (by kernel_rfl) rfl rfl ⟨(blkc BK121 0), (blkc BK121 1), (blkc BK121 2), (blkc BK121 3), (blkc BK122 0), (blkc BK122 1), (blkc BK122 2), (blkc BK122 3), (mv_ HB hw137_0), (mv_ HB hw137_1), (mv_ HB hw137_2), (mv_ HB hw137_3), (mv_ HB hw138_0), (mv_ HB hw138_1), (mv_ HB hw138_2), (mv_ HB hw138_3)⟩ (fun hHeld => ?_); refine with_tabW spec_l1Equal.tab11 spec_l1Equal.bits11 (fun HT_ HW_ => ?_)
              generalize wr.drew = w56 at BK121 BK122 BK123 HB HR137_3 HR138_3 hx137_0 hx137_1 hx137_2 hx137_3 hx138_0 hx138_1 hx138_2 hx138_3 hHeld ⊢
              refine puA 0 (some 44) ?_
              refine puA 2 (some 46) ?_
              refine puA 5 (some 49) ?_
              refine puA 7 (some 51) ?_
              refine taA 1 (some 45) ?_
              refine puA 3 (some 47) ?_
              refine taA 4 (some 48) ?_
              refine taA 6 (some 50) ?_
              refine puA 8 (some 52) ?_
              refine taA 9 (some 53) ?_
              refine join_ (σ := Value × Nat) 1 #[true, true, true, true, true, true, true, true, true, true, true, true, false] (fun s_ => [(54, .agg #[.int .i64 t139, .int .i64 t140, .string t141, s_.1]), (7, .pointer (some ⟨s_.2, 0, none⟩))]) (fun s_ w' => (w'.cell? ⟨gb121, 0, none⟩ = some (.int .i64 a0_0) ∧ w'.cell? ⟨gb121, 1, none⟩ = some (.int .i64 a0_1) ∧ w'.cell? ⟨gb121, 2, none⟩ = some (.string a0_2) ∧ w'.cell? ⟨gb121, 3, none⟩ = some (.slice (some ad137) l0_3.length c0_3) ∧ w'.cell? ⟨gb122, 0, none⟩ = some (.int .i64 a1_0) ∧ w'.cell? ⟨gb122, 1, none⟩ = some (.int .i64 a1_1) ∧ w'.cell? ⟨gb122, 2, none⟩ = some (.string a1_2) ∧ w'.cell? ⟨gb122, 3, none⟩ = some (.slice (some ad138) l1_3.length c1_3) ∧ w'.cell? (ad137.add ((x6_3).toNat * 4)) = some (.int .i64 ((rd_T31 l0_3 x6_3).f0)) ∧ w'.cell? ⟨(ad137.add ((x6_3).toNat * 4)).block, (ad137.add ((x6_3).toNat * 4)).off + 1, none⟩ = some (.int .i64 ((rd_T31 l0_3 x6_3).f1)) ∧ w'.cell? ⟨(ad137.add ((x6_3).toNat * 4)).block, (ad137.add ((x6_3).toNat * 4)).off + 2, none⟩ = some (.string ((rd_T31 l0_3 x6_3).f2)) ∧ w'.cell? ⟨(ad137.add ((x6_3).toNat * 4)).block, (ad137.add ((x6_3).toNat * 4)).off + 3, none⟩ = some (.slice A137_3 ((rd_T31 l0_3 x6_3).f3).length c137_3) ∧ w'.cell? (ad138.add ((x6_3).toNat * 4)) = some (.int .i64 ((rd_T31 l1_3 x6_3).f0)) ∧ w'.cell? ⟨(ad138.add ((x6_3).toNat * 4)).block, (ad138.add ((x6_3).toNat * 4)).off + 1, none⟩ = some (.int .i64 ((rd_T31 l1_3 x6_3).f1)) ∧ w'.cell? ⟨(ad138.add ((x6_3).toNat * 4)).block, (ad138.add ((x6_3).toNat * 4)).off + 2, none⟩ = some (.string ((rd_T31 l1_3 x6_3).f2)) ∧ w'.cell? ⟨(ad138.add ((x6_3).toNat * 4)).block, (ad138.add ((x6_3).toNat * 4)).off + 3, none⟩ = some (.slice A138_3 ((rd_T31 l1_3 x6_3).f3).length c138_3)) ∧ (Kd.R k31 31 w' w.heap.size (fun k_ => k_ ≠ gb121 ∧ k_ ≠ gb122 ∧ k_ ≠ gb123 ∧ k_ ≠ s_.2) s_.1 t142) ∧ (w'.heap[gb121]? = some (.cells #[.int .i64 a0_0, .int .i64 a0_1, .string a0_2, .slice (some ad137) l0_3.length c0_3] 31 (0, 0))) ∧ (w'.heap[gb122]? = some (.cells #[.int .i64 a1_0, .int .i64 a1_1, .string a1_2, .slice (some ad138) l1_3.length c1_3] 31 (0, 0))) ∧ (w'.heap[gb123]? = some (.cells #[.int .i64 x124000_3, .int .i64 x124001_3, .string x124002_3, .slice none 0 0] 31 (0, 0))) ∧ (w'.heap[s_.2]? = some (.cells #[.int .i64 0, .int .i64 0, .string (⟨#[]⟩ : ByteArray), .slice none 0 0] 31 (0, 0))) ∧ (w.heap.size ≤ s_.2) ∧ (w.heap.size ≤ s_.2) ∧ (gb121 ≠ s_.2) ∧ (s_.2 ≠ gb121) ∧ (gb122 ≠ s_.2) ∧ (s_.2 ≠ gb122) ∧ (gb123 ≠ s_.2) ∧ (s_.2 ≠ gb123) ∧ (Below w.heap.size w w')) ?_ ?_
              rotate_left
              · intro hCont
                refine two_ (i := 10) (j := 11) (Ni := some 54) (Nj := some 7) #[true, true, true, true, true, true, true, true, true, true, true, false, false] #[true, true, true, true, true, true, true, true, true, true, false, true, false] rfl rfl rfl rfl (two_of HT_.out (by kernel_rfl)) (by decide) (by decide) (fun K hK => ?_) (fun K hK => ?_)
                · skip
                  refine goes_ Try.func68 (by kernel_rfl) rfl #[.agg #[.int .i64 ((rd_T31 l0_3 x6_3).f0), .int .i64 ((rd_T31 l0_3 x6_3).f1), .string ((rd_T31 l0_3 x6_3).f2), .slice A137_3 ((rd_T31 l0_3 x6_3).f3).length c137_3], .agg #[.int .i64 ((rd_T31 l1_3 x6_3).f0), .int .i64 ((rd_T31 l1_3 x6_3).f1), .string ((rd_T31 l1_3 x6_3).f2), .slice A138_3 ((rd_T31 l1_3 x6_3).f3).length c138_3]] (by rfl) rfl rfl ar_ ?_
                  with_reducible refine (ih k3 (by have := HJ2.out; have := HJ19.out; have := HK3.out; omega) ((rd_T31 l0_3 x6_3).f0) ((rd_T31 l0_3 x6_3).f1) ((rd_T31 l0_3 x6_3).f2) _ _ ((rd_T31 l0_3 x6_3).f3) ((rd_T31 l1_3 x6_3).f0) ((rd_T31 l1_3 x6_3).f1) ((rd_T31 l1_3 x6_3).f2) _ _ ((rd_T31 l1_3 x6_3).f3) t139 t140 t141 t142 _ ?side1 ?side2 ?side3 ?side4 A51.out).mono ?_
                  (case side1 => exact rdb_ HR137_3)
                  (case side2 => exact HC137_3.out)
                  (case side3 => exact rdb_ HR138_3)
                  (case side4 => exact HC138_3.out)
                  rintro e w57 ⟨v143, rfl, ho0, hb⟩
                  refine ⟨_, rfl, ?_⟩
                  have HO144 := Aside0.mk (Kd.R_lower (Kd.R_newB (Kd.R_newB (Kd.R_newB ho0 (g := gb121) (o := .cells #[.int .i64 a0_0, .int .i64 a0_1, .string a0_2, .slice (some ad137) l0_3.length c0_3] 31 (0, 0)) (bk_ BK121)) (g := gb122) (o := .cells #[.int .i64 a1_0, .int .i64 a1_1, .string a1_2, .slice (some ad138) l1_3.length c1_3] 31 (0, 0)) (bk_ BK122)) (g := gb123) (o := .cells #[.int .i64 x124000_3, .int .i64 x124001_3, .string x124002_3, .slice none 0 0] 31 (0, 0)) (bk_ BK123)) (below_size (bel_)))
                  replace BK121 := bb_ BK121 hb
                  replace BK122 := bb_ BK122 hb
                  replace BK123 := bb_ BK123 hb
                  replace HB := bs_ hb
                  (try clear hb)
                  (try clear hb2)
                  (try clear hk)
                  (try clear hi)
                  (try clear ho0)
                  refine hK.out _ _ ⟨(blkc BK121 0), (blkc BK121 1), (blkc BK121 2), (blkc BK121 3), (blkc BK122 0), (blkc BK122 1), (blkc BK122 2), (blkc BK122 3), (mv_ HB hw137_0), (mv_ HB hw137_1), (mv_ HB hw137_2), (mv_ HB hw137_3), (mv_ HB hw138_0), (mv_ HB hw138_1), (mv_ HB hw138_2), (mv_ HB hw138_3)⟩ (fun hHeld => ?_)
                  clear hK K
                  refine norm_ (a' := ?_) ?_ ?_
                  rotate_left
                  · show Act.put _ (some 54) _ = _
                    simp only [Act.put, List.setIfInBounds_toArray, List.set_cons_zero, List.set_cons_succ, i64_w, i32_w]
                    rfl
                  refine one_ (i := 11) (N := some 7) #[true, true, true, true, true, true, true, true, true, true, true, true, false] rfl rfl (one_of HT_.out (by kernel_rfl)) (by decide) (fun K hK => ?_)
                  refine box_step ?hg (N := 7) ?hd (cs := #[.int .i64 0, .int .i64 0, .string (⟨#[]⟩ : ByteArray), .slice none 0 0]) (t := 31) ?hr ?_; (case hd => rfl); (case hg => rfl); (case hr => first | (go_simp; done) | (go_simp; rfl))
                  intro gb145 hg w58 hbox hb
                  have BK145 := Aside0.mk (hbox)
                  have GW145 := gw_ hg
                  have GE145 := gw_ hg
                  have NB121_145 := nlt_ hg BK121
                  have NB145_121 := ngt_ hg BK121
                  have NB122_145 := nlt_ hg BK122
                  have NB145_122 := ngt_ hg BK122
                  have NB123_145 := nlt_ hg BK123
                  have NB145_123 := ngt_ hg BK123
                  replace HO144 := Aside0.mk (Kd.R_below (Kd.R_elderB (by (with_reducible repeat (first | apply Kd.R_alloc | apply Kd.R_drewN | apply Kd.R_drew)); exact HO144.out) gb145 (Nat.le_of_eq hg.symm)) hb)
                  replace BK121 := bb_ BK121 hb
                  replace BK122 := bb_ BK122 hb
                  replace BK123 := bb_ BK123 hb
                  replace HB := bs_ hb
                  clear hb hbox hg
                  refine hK.out _ _ ⟨(blkc BK121 0), (blkc BK121 1), (blkc BK121 2), (blkc BK121 3), (blkc BK122 0), (blkc BK122 1), (blkc BK122 2), (blkc BK122 3), (mv_ HB hw137_0), (mv_ HB hw137_1), (mv_ HB hw137_2), (mv_ HB hw137_3), (mv_ HB hw138_0), (mv_ HB hw138_1), (mv_ HB hw138_2), (mv_ HB hw138_3)⟩ (fun hHeld => ?_)
                  clear hK K
                  refine norm_ (a' := ?_) ?_ ?_
                  rotate_left
                  · show Act.put _ (some 7) _ = _
                    simp only [Act.put, List.setIfInBounds_toArray, List.set_cons_zero, List.set_cons_succ, i64_w, i32_w]
                    rfl
                  exact norm_ (by simp only [putAll, Act.put, List.setIfInBounds_toArray, List.set_cons_zero, List.set_cons_succ]) (hCont (v143, gb145) _ ⟨hHeld, (by (with_reducible repeat (first | apply Kd.R_alloc | apply Kd.R_drewN | apply Kd.R_drew)); exact Kd.R_mono HO144.out (fun _ hk => ⟨hk.1.1.1.2, ⟨hk.1.1.2, ⟨hk.1.2, hk.2⟩⟩⟩)), (bk_ BK121), (bk_ BK122), (bk_ BK123), (bk_ BK145), GW145.out, GE145.out, NB121_145.out, NB145_121.out, NB122_145.out, NB145_122.out, NB123_145.out, NB145_123.out, (bel_)⟩)
                skip
                refine box_step ?hg (N := 7) ?hd (cs := #[.int .i64 0, .int .i64 0, .string (⟨#[]⟩ : ByteArray), .slice none 0 0]) (t := 31) ?hr ?_; (case hd => rfl); (case hg => rfl); (case hr => first | (go_simp; done) | (go_simp; rfl))
                intro gb145 hg w57 hbox hb
                have BK145 := Aside0.mk (hbox)
                have GW145 := gw_ hg
                have GE145 := gw_ hg
                have NB121_145 := nlt_ hg BK121
                have NB145_121 := ngt_ hg BK121
                have NB122_145 := nlt_ hg BK122
                have NB145_122 := ngt_ hg BK122
                have NB123_145 := nlt_ hg BK123
                have NB145_123 := ngt_ hg BK123
                replace BK121 := bb_ BK121 hb
                replace BK122 := bb_ BK122 hb
                replace BK123 := bb_ BK123 hb
                replace HB := bs_ hb
                clear hb hbox hg
                refine hK.out _ _ ⟨(blkc BK121 0), (blkc BK121 1), (blkc BK121 2), (blkc BK121 3), (blkc BK122 0), (blkc BK122 1), (blkc BK122 2), (blkc BK122 3), (mv_ HB hw137_0), (mv_ HB hw137_1), (mv_ HB hw137_2), (mv_ HB hw137_3), (mv_ HB hw138_0), (mv_ HB hw138_1), (mv_ HB hw138_2), (mv_ HB hw138_3)⟩ (fun hHeld => ?_)
                clear hK K
                refine norm_ (a' := ?_) ?_ ?_
                rotate_left
                · show Act.put _ (some 7) _ = _
                  simp only [Act.put, List.setIfInBounds_toArray, List.set_cons_zero, List.set_cons_succ, i64_w, i32_w]
                  rfl
                refine one_ (i := 10) (N := some 54) #[true, true, true, true, true, true, true, true, true, true, true, true, false] rfl rfl (one_of HT_.out (by kernel_rfl)) (by decide) (fun K hK => ?_)
                refine goes_ Try.func68 (by kernel_rfl) rfl #[.agg #[.int .i64 ((rd_T31 l0_3 x6_3).f0), .int .i64 ((rd_T31 l0_3 x6_3).f1), .string ((rd_T31 l0_3 x6_3).f2), .slice A137_3 ((rd_T31 l0_3 x6_3).f3).length c137_3], .agg #[.int .i64 ((rd_T31 l1_3 x6_3).f0), .int .i64 ((rd_T31 l1_3 x6_3).f1), .string ((rd_T31 l1_3 x6_3).f2), .slice A138_3 ((rd_T31 l1_3 x6_3).f3).length c138_3]] (by rfl) rfl rfl ar_ ?_
                with_reducible refine (ih k3 (by have := HJ2.out; have := HJ19.out; have := HK3.out; omega) ((rd_T31 l0_3 x6_3).f0) ((rd_T31 l0_3 x6_3).f1) ((rd_T31 l0_3 x6_3).f2) _ _ ((rd_T31 l0_3 x6_3).f3) ((rd_T31 l1_3 x6_3).f0) ((rd_T31 l1_3 x6_3).f1) ((rd_T31 l1_3 x6_3).f2) _ _ ((rd_T31 l1_3 x6_3).f3) t139 t140 t141 t142 _ ?side1 ?side2 ?side3 ?side4 A51.out).mono ?_
                (case side1 => exact rdb_ HR137_3)
                (case side2 => exact HC137_3.out)
                (case side3 => exact rdb_ HR138_3)
                (case side4 => exact HC138_3.out)
                rintro e w58 ⟨v143, rfl, ho0, hb⟩
                refine ⟨_, rfl, ?_⟩
                have HO144 := Aside0.mk (Kd.R_lower (Kd.R_newB (Kd.R_newB (Kd.R_newB (Kd.R_newB ho0 (g := gb121) (o := .cells #[.int .i64 a0_0, .int .i64 a0_1, .string a0_2, .slice (some ad137) l0_3.length c0_3] 31 (0, 0)) (bk_ BK121)) (g := gb122) (o := .cells #[.int .i64 a1_0, .int .i64 a1_1, .string a1_2, .slice (some ad138) l1_3.length c1_3] 31 (0, 0)) (bk_ BK122)) (g := gb123) (o := .cells #[.int .i64 x124000_3, .int .i64 x124001_3, .string x124002_3, .slice none 0 0] 31 (0, 0)) (bk_ BK123)) (g := gb145) (o := .cells #[.int .i64 0, .int .i64 0, .string (⟨#[]⟩ : ByteArray), .slice none 0 0] 31 (0, 0)) (bk_ BK145)) (below_size (bel_)))
                replace BK121 := bb_ BK121 hb
                replace BK122 := bb_ BK122 hb
                replace BK123 := bb_ BK123 hb
                replace BK145 := bb_ BK145 hb
                replace HB := bs_ hb
                (try clear hb)
                (try clear hb2)
                (try clear hk)
                (try clear hi)
                (try clear ho0)
                refine hK.out _ _ ⟨(blkc BK121 0), (blkc BK121 1), (blkc BK121 2), (blkc BK121 3), (blkc BK122 0), (blkc BK122 1), (blkc BK122 2), (blkc BK122 3), (mv_ HB hw137_0), (mv_ HB hw137_1), (mv_ HB hw137_2), (mv_ HB hw137_3), (mv_ HB hw138_0), (mv_ HB hw138_1), (mv_ HB hw138_2), (mv_ HB hw138_3)⟩ (fun hHeld => ?_)
                clear hK K
                refine norm_ (a' := ?_) ?_ ?_
                rotate_left
                · show Act.put _ (some 54) _ = _
                  simp only [Act.put, List.setIfInBounds_toArray, List.set_cons_zero, List.set_cons_succ, i64_w, i32_w]
                  rfl
                exact norm_ (by simp only [putAll, Act.put, List.setIfInBounds_toArray, List.set_cons_zero, List.set_cons_succ]) (hCont (v143, gb145) _ ⟨hHeld, (by (with_reducible repeat (first | apply Kd.R_alloc | apply Kd.R_drewN | apply Kd.R_drew)); exact Kd.R_mono HO144.out (fun _ hk => ⟨hk.1.1.1.2, ⟨hk.1.1.2, ⟨hk.1.2, hk.2⟩⟩⟩)), (bk_ BK121), (bk_ BK122), (bk_ BK123), (bk_ BK145), GW145.out, GE145.out, NB121_145.out, NB145_121.out, NB122_145.out, NB145_122.out, NB123_145.out, NB145_123.out, (bel_)⟩)
              rintro ⟨v143, gb145⟩ w59 ⟨hS_, h0_, h1_, h2_, h3_, h4_, h5_, h6_, h7_, h8_, h9_, h10_, h11_, h12_, h13_⟩
              have n0_ : Aside0 (Kd.R k31 31 w59 w.heap.size (fun k_ => k_ ≠ gb121 ∧ k_ ≠ gb122 ∧ k_ ≠ gb123 ∧ k_ ≠ gb145) v143 t142) := ⟨h0_⟩
              have n1_ : Aside0 (w59.heap[gb121]? = some (.cells #[.int .i64 a0_0, .int .i64 a0_1, .string a0_2, .slice (some ad137) l0_3.length c0_3] 31 (0, 0))) := ⟨h1_⟩
              have n2_ : Aside0 (w59.heap[gb122]? = some (.cells #[.int .i64 a1_0, .int .i64 a1_1, .string a1_2, .slice (some ad138) l1_3.length c1_3] 31 (0, 0))) := ⟨h2_⟩
              have n3_ : Aside0 (w59.heap[gb123]? = some (.cells #[.int .i64 x124000_3, .int .i64 x124001_3, .string x124002_3, .slice none 0 0] 31 (0, 0))) := ⟨h3_⟩
              have n4_ : Aside0 (w59.heap[gb145]? = some (.cells #[.int .i64 0, .int .i64 0, .string (⟨#[]⟩ : ByteArray), .slice none 0 0] 31 (0, 0))) := ⟨h4_⟩
              have n5_ : Aside0 (w.heap.size ≤ gb145) := ⟨h5_⟩
              have n6_ : Aside0 (w.heap.size ≤ gb145) := ⟨h6_⟩
              have n7_ : Aside0 (gb121 ≠ gb145) := ⟨h7_⟩
              have n8_ : Aside0 (gb145 ≠ gb121) := ⟨h8_⟩
              have n9_ : Aside0 (gb122 ≠ gb145) := ⟨h9_⟩
              have n10_ : Aside0 (gb145 ≠ gb122) := ⟨h10_⟩
              have n11_ : Aside0 (gb123 ≠ gb145) := ⟨h11_⟩
              have n12_ : Aside0 (gb145 ≠ gb123) := ⟨h12_⟩
              have n13_ : Aside0 (Below w.heap.size w w59) := ⟨h13_⟩
              clear BK121
              clear BK122
              clear BK123
              clear HB
              clear h0_ h1_ h2_ h3_ h4_ h5_ h6_ h7_ h8_ h9_ h10_ h11_ h12_ h13_
              have HO144 := n0_
              have BK121 := n1_
              have BK122 := n2_
              have BK123 := n3_
              have BK145 := n4_
              have GW145 := n5_
              have GE145 := n6_
              have NB121_145 := n7_
              have NB145_121 := n8_
              have NB122_145 := n9_
              have NB145_122 := n10_
              have NB123_145 := n11_
              have NB145_123 := n12_
              have HB := n13_
              clear n0_ n1_ n2_ n3_ n4_ n5_ n6_ n7_ n8_ n9_ n10_ n11_ n12_ n13_
              have hHeld : w59.cell? ⟨gb121, 0, none⟩ = some (.int .i64 a0_0) ∧ w59.cell? ⟨gb121, 1, none⟩ = some (.int .i64 a0_1) ∧ w59.cell? ⟨gb121, 2, none⟩ = some (.string a0_2) ∧ w59.cell? ⟨gb121, 3, none⟩ = some (.slice (some ad137) l0_3.length c0_3) ∧ w59.cell? ⟨gb122, 0, none⟩ = some (.int .i64 a1_0) ∧ w59.cell? ⟨gb122, 1, none⟩ = some (.int .i64 a1_1) ∧ w59.cell? ⟨gb122, 2, none⟩ = some (.string a1_2) ∧ w59.cell? ⟨gb122, 3, none⟩ = some (.slice (some ad138) l1_3.length c1_3) ∧ w59.cell? (ad137.add ((x6_3).toNat * 4)) = some (.int .i64 ((rd_T31 l0_3 x6_3).f0)) ∧ w59.cell? ⟨(ad137.add ((x6_3).toNat * 4)).block, (ad137.add ((x6_3).toNat * 4)).off + 1, none⟩ = some (.int .i64 ((rd_T31 l0_3 x6_3).f1)) ∧ w59.cell? ⟨(ad137.add ((x6_3).toNat * 4)).block, (ad137.add ((x6_3).toNat * 4)).off + 2, none⟩ = some (.string ((rd_T31 l0_3 x6_3).f2)) ∧ w59.cell? ⟨(ad137.add ((x6_3).toNat * 4)).block, (ad137.add ((x6_3).toNat * 4)).off + 3, none⟩ = some (.slice A137_3 ((rd_T31 l0_3 x6_3).f3).length c137_3) ∧ w59.cell? (ad138.add ((x6_3).toNat * 4)) = some (.int .i64 ((rd_T31 l1_3 x6_3).f0)) ∧ w59.cell? ⟨(ad138.add ((x6_3).toNat * 4)).block, (ad138.add ((x6_3).toNat * 4)).off + 1, none⟩ = some (.int .i64 ((rd_T31 l1_3 x6_3).f1)) ∧ w59.cell? ⟨(ad138.add ((x6_3).toNat * 4)).block, (ad138.add ((x6_3).toNat * 4)).off + 2, none⟩ = some (.string ((rd_T31 l1_3 x6_3).f2)) ∧ w59.cell? ⟨(ad138.add ((x6_3).toNat * 4)).block, (ad138.add ((x6_3).toNat * 4)).off + 3, none⟩ = some (.slice A138_3 ((rd_T31 l1_3 x6_3).f3).length c138_3) := hS_
              obtain ⟨Ao63, co63, eo63⟩ := Kd.R_slice HO144.out
              (first | subst eo63 | (injection eo63 with f1_ f2_ f3_; have f4_ := f1_.symm; have f5_ := f3_.symm; clear f1_ f2_ f3_; subst f4_; subst f5_))
              refine norm_ (a' := ?_) ?_ ?_
              rotate_left
              · simp only [putAll, Act.put, List.setIfInBounds_toArray, List.set_cons_zero, List.set_cons_succ]
                rfl
              refine one_ (i := 12) (N := none) #[true, true, true, true, true, true, true, true, true, true, true, true, true] rfl rfl (one_of HT_.out (by kernel_rfl)) (by decide) (fun K hK => ?_)
              have hs60 : w59.cell? ⟨gb145, 0, none⟩ = some (.int .i64 0) := (blkc BK145 0)
              have hfs60 := blk_frozen BK145.out 0
              have hns60_0 := NB121_145.out
              have hns60_1 := NB122_145.out
              have hns60_2 := NB123_145.out
              have hms60_0 := NB145_121.out
              have hms60_1 := NB145_122.out
              have hms60_2 := NB145_123.out
              have hs61 : w59.cell? ⟨gb145, 1, none⟩ = some (.int .i64 0) := (blkc BK145 1)
              have hfs61 := blk_frozen BK145.out 1
              have hns61_0 := NB121_145.out
              have hns61_1 := NB122_145.out
              have hns61_2 := NB123_145.out
              have hms61_0 := NB145_121.out
              have hms61_1 := NB145_122.out
              have hms61_2 := NB145_123.out
              have hs62 : w59.cell? ⟨gb145, 2, none⟩ = some (.string (⟨#[]⟩ : ByteArray)) := (blkc BK145 2)
              have hfs62 := blk_frozen BK145.out 2
              have hns62_0 := NB121_145.out
              have hns62_1 := NB122_145.out
              have hns62_2 := NB123_145.out
              have hms62_0 := NB145_121.out
              have hms62_1 := NB145_122.out
              have hms62_2 := NB145_123.out
              have hs64 : w59.cell? ⟨gb145, 3, none⟩ = some (.slice none 0 0) := (blkc BK145 3)
              have hfs64 := blk_frozen BK145.out 3
              have hns64_0 := NB121_145.out
              have hns64_1 := NB122_145.out
              have hns64_2 := NB123_145.out
              have hms64_0 := NB145_121.out
              have hms64_1 := NB145_122.out
              have hms64_2 := NB145_123.out
              refine skip_ (w1 := ?_) (by rfl) rfl ?_ ?_
              rotate_left
              · go_simp
                rfl
              refine hK.out _ _ ⟨(cf4 gb145 NB121_145.out hHeld.1), (cf4 gb145 NB121_145.out hHeld.2.1), (cf4 gb145 NB121_145.out hHeld.2.2.1), (cf4 gb145 NB121_145.out hHeld.2.2.2.1), (cf4 gb145 NB122_145.out hHeld.2.2.2.2.1), (cf4 gb145 NB122_145.out hHeld.2.2.2.2.2.1), (cf4 gb145 NB122_145.out hHeld.2.2.2.2.2.2.1), (cf4 gb145 NB122_145.out hHeld.2.2.2.2.2.2.2.1), (cf4 gb145 (fl_ hw137_0 GW145) hHeld.2.2.2.2.2.2.2.2.1), (cf4 gb145 (fl_ hw137_1 GW145) hHeld.2.2.2.2.2.2.2.2.2.1), (cf4 gb145 (fl_ hw137_2 GW145) hHeld.2.2.2.2.2.2.2.2.2.2.1), (cf4 gb145 (fl_ hw137_3 GW145) hHeld.2.2.2.2.2.2.2.2.2.2.2.1), (cf4 gb145 (fl_ hw138_0 GW145) hHeld.2.2.2.2.2.2.2.2.2.2.2.2.1), (cf4 gb145 (fl_ hw138_1 GW145) hHeld.2.2.2.2.2.2.2.2.2.2.2.2.2.1), (cf4 gb145 (fl_ hw138_2 GW145) hHeld.2.2.2.2.2.2.2.2.2.2.2.2.2.2.1), (cf4 gb145 (fl_ hw138_3 GW145) hHeld.2.2.2.2.2.2.2.2.2.2.2.2.2.2.2)⟩ (fun hHeld => ?_)
              clear hK K
              refine done_ (done_of HT_.out (by kernel_rfl)) ?_
              go_upto_region 12 with (fail)
              go_cut [62] (fun v62 wc => ∃ (kq : Nat) (x62_51 : Bool), v62 = .bool x62_51 ∧ Aside0 (spec_l1Equal.j3 kq x5_3 x6_3 x62_51 a0_0 a0_1 a0_2 l0_3 a1_0 a1_1 a1_2 l1_3 t139 t140 t141 t142 = some (r1, r2, r3, r4)) ∧ Aside0 (kq ≤ k3) ∧ Aside0 (Kd.R k31 31 wc w.heap.size (fun k_ => k_ ≠ gb121 ∧ k_ ≠ gb122 ∧ k_ ≠ gb123 ∧ k_ ≠ gb145) (.slice Ao63 t142.length co63) t142) ∧ Aside0 (wc.heap[gb121]? = some (.cells #[.int .i64 a0_0, .int .i64 a0_1, .string a0_2, (.slice (some ad137) l0_3.length c0_3)] 31 (0, 0))) ∧ Aside0 (wc.heap[gb122]? = some (.cells #[.int .i64 a1_0, .int .i64 a1_1, .string a1_2, (.slice (some ad138) l1_3.length c1_3)] 31 (0, 0))) ∧ Aside0 (wc.heap[gb123]? = some (.cells #[.int .i64 x124000_3, .int .i64 x124001_3, .string x124002_3, (.slice none 0 0)] 31 (0, 0))) ∧ Aside0 (wc.heap[gb145]? = some (.cells #[.int .i64 t139, .int .i64 t140, .string t141, (.slice Ao63 t142.length co63)] 31 (0, 0))) ∧ Aside0 (Below w.heap.size w wc))
              case first =>
                have H := HC52.out
                clear HC52
                by_cases c65 : t139 = 1
                · rw [if_pos c65] at H
                  have c65b0 : (t139 == 1) = true := beq_iff_eq.mpr c65
                  have c65b1 : (t139 != 1) = false := bne_eq_false_iff_eq.mpr c65
                  clear c65
                  (first | rw [c65b0] | (simp only [i64_w, i32_w]; rw [c65b0]) | skip)
                  have H' := Aside0.mk H
                  clear H
                  have hnb66 := NB145_121.out
                  have hnc66 := NB121_145.out
                  have hnb67 := NB145_122.out
                  have hnc67 := NB122_145.out
                  have hnb68 := NB145_123.out
                  have hnc68 := NB123_145.out
                  obtain ⟨hcz69_0, hcz69_1, hcz69_2, hcz69_3, hfz69_0, hfz69_1, hfz69_2, hfz69_3⟩ := blk4 BK145
                  go_wp2
                  go_meet
                  case rel => exact ⟨_, ((t140 == 0)), sm_, H', ⟨by have := HJ2.out; have := HJ19.out; have := HK3.out; first | omega | exact Nat.le_refl _⟩, ⟨by (with_reducible repeat (first | apply Kd.R_alloc | apply Kd.R_drewN | apply Kd.R_drew)); exact Kd.R_mono (rf4 gb145 (Kd.R_mono HO144.out (fun k_ hk => (⟨hk, hk.2.2.2⟩ : _ ∧ k_ ≠ gb145))) (fun _ hk => hk.2)) (fun _ hk => ⟨hk.1.1, ⟨hk.1.2.1, ⟨hk.1.2.2.1, hk.1.2.2.2⟩⟩⟩)⟩, ⟨by refine pe_ ?_; refine blk_far ?_ NB121_145.out _; refine pe_ ?_; refine blk_far ?_ NB121_145.out _; refine pe_ ?_; refine blk_far ?_ NB121_145.out _; refine pe_ ?_; refine blk_far ?_ NB121_145.out _; refine pe_ ?_; exact BK121.out⟩, ⟨by refine pe_ ?_; refine blk_far ?_ NB122_145.out _; refine pe_ ?_; refine blk_far ?_ NB122_145.out _; refine pe_ ?_; refine blk_far ?_ NB122_145.out _; refine pe_ ?_; refine blk_far ?_ NB122_145.out _; refine pe_ ?_; exact BK122.out⟩, ⟨by refine pe_ ?_; refine blk_far ?_ NB123_145.out _; refine pe_ ?_; refine blk_far ?_ NB123_145.out _; refine pe_ ?_; refine blk_far ?_ NB123_145.out _; refine pe_ ?_; refine blk_far ?_ NB123_145.out _; refine pe_ ?_; exact BK123.out⟩, ⟨by refine pe_ ?_; refine blk_put (cs := #[.int .i64 t139, .int .i64 t140, .string t141, .slice none 0 0]) ?_ 3 _ rfl; refine pe_ ?_; refine blk_put (cs := #[.int .i64 t139, .int .i64 t140, .string (⟨#[]⟩ : ByteArray), .slice none 0 0]) ?_ 2 _ rfl; refine pe_ ?_; refine blk_put (cs := #[.int .i64 t139, .int .i64 0, .string (⟨#[]⟩ : ByteArray), .slice none 0 0]) ?_ 1 _ rfl; refine pe_ ?_; refine blk_put (cs := #[.int .i64 0, .int .i64 0, .string (⟨#[]⟩ : ByteArray), .slice none 0 0]) ?_ 0 _ rfl; refine pe_ ?_; exact BK145.out⟩, ⟨bel_⟩⟩
                rw [if_neg c65] at H
                have c65b0 : (t139 == 1) = false := beq_eq_false_iff_ne.mpr c65
                have c65b1 : (t139 != 1) = true := bne_iff_ne.mpr c65
                (first | rw [c65b0] | (simp only [i64_w, i32_w]; rw [c65b0]) | skip)
                have H' := Aside0.mk H
                clear H
                have hnb70 := NB145_121.out
                have hnc70 := NB121_145.out
                have hnb71 := NB145_122.out
                have hnc71 := NB122_145.out
                have hnb72 := NB145_123.out
                have hnc72 := NB123_145.out
                obtain ⟨hcz73_0, hcz73_1, hcz73_2, hcz73_3, hfz73_0, hfz73_1, hfz73_2, hfz73_3⟩ := blk4 BK145
                go_wp2
                go_meet
                case rel => exact ⟨_, (false), sm_, H', ⟨by have := HJ2.out; have := HJ19.out; have := HK3.out; first | omega | exact Nat.le_refl _⟩, ⟨by (with_reducible repeat (first | apply Kd.R_alloc | apply Kd.R_drewN | apply Kd.R_drew)); exact Kd.R_mono (rf4 gb145 (Kd.R_mono HO144.out (fun k_ hk => (⟨hk, hk.2.2.2⟩ : _ ∧ k_ ≠ gb145))) (fun _ hk => hk.2)) (fun _ hk => ⟨hk.1.1, ⟨hk.1.2.1, ⟨hk.1.2.2.1, hk.1.2.2.2⟩⟩⟩)⟩, ⟨by refine pe_ ?_; refine blk_far ?_ NB121_145.out _; refine pe_ ?_; refine blk_far ?_ NB121_145.out _; refine pe_ ?_; refine blk_far ?_ NB121_145.out _; refine pe_ ?_; refine blk_far ?_ NB121_145.out _; refine pe_ ?_; exact BK121.out⟩, ⟨by refine pe_ ?_; refine blk_far ?_ NB122_145.out _; refine pe_ ?_; refine blk_far ?_ NB122_145.out _; refine pe_ ?_; refine blk_far ?_ NB122_145.out _; refine pe_ ?_; refine blk_far ?_ NB122_145.out _; refine pe_ ?_; exact BK122.out⟩, ⟨by refine pe_ ?_; refine blk_far ?_ NB123_145.out _; refine pe_ ?_; refine blk_far ?_ NB123_145.out _; refine pe_ ?_; refine blk_far ?_ NB123_145.out _; refine pe_ ?_; refine blk_far ?_ NB123_145.out _; refine pe_ ?_; exact BK123.out⟩, ⟨by refine pe_ ?_; refine blk_put (cs := #[.int .i64 t139, .int .i64 t140, .string t141, .slice none 0 0]) ?_ 3 _ rfl; refine pe_ ?_; refine blk_put (cs := #[.int .i64 t139, .int .i64 t140, .string (⟨#[]⟩ : ByteArray), .slice none 0 0]) ?_ 2 _ rfl; refine pe_ ?_; refine blk_put (cs := #[.int .i64 t139, .int .i64 0, .string (⟨#[]⟩ : ByteArray), .slice none 0 0]) ?_ 1 _ rfl; refine pe_ ?_; refine blk_put (cs := #[.int .i64 0, .int .i64 0, .string (⟨#[]⟩ : ByteArray), .slice none 0 0]) ?_ 0 _ rfl; refine pe_ ?_; exact BK145.out⟩, ⟨bel_⟩⟩
              case rest =>
                clear HC52
                try clear c1
                try clear p1
                try clear q1
                try clear hx1
                try clear c2
                try clear p2
                try clear c3
                try clear c4
                try clear c5
                try clear c6
                try clear c7
                try clear c7b0
                try clear c7b1
                try clear c8
                try clear c9
                try clear c11
                try clear c12
                try clear c13
                try clear p13
                try clear q13
                try clear hx13
                try clear c14
                try clear c16
                try clear c17
                try clear c18
                try clear c21
                try clear c21b0
                try clear c21b1
                try clear c22
                try clear c23
                try clear c25
                try clear c27
                try clear c28
                try clear c30
                try clear c33
                try clear c34
                try clear c36
                try clear c42
                try clear c42b0
                try clear c42b1
                try clear c42b2
                try clear c43
                try clear c44
                try clear c46
                try clear c48
                try clear c48b0
                try clear c49
                try clear c49b0
                try clear c50
                try clear c50b0
                try clear c53
                try clear c54
                try clear c65
                try clear c65b0
                try clear c65b1
                try clear c66
                try clear c67
                try clear c68
                try clear c70
                try clear c71
                try clear c72
                try clear hcz10_0 hcz10_1 hcz10_2 hcz10_3
                try clear hcz13_0 hcz13_1 hcz13_2 hcz13_3
                try clear hcz15_0 hcz15_1 hcz15_2 hcz15_3
                try clear hcz19_0 hcz19_1 hcz19_2 hcz19_3
                try clear hcz24_0 hcz24_1 hcz24_2 hcz24_3
                try clear hcz26_0 hcz26_1 hcz26_2 hcz26_3
                try clear hcz29_0 hcz29_1 hcz29_2 hcz29_3
                try clear hcz35_0 hcz35_1 hcz35_2 hcz35_3
                try clear hcz37_0 hcz37_1 hcz37_2 hcz37_3
                try clear hcz40_0 hcz40_1 hcz40_2 hcz40_3
                try clear hcz45_0 hcz45_1 hcz45_2 hcz45_3
                try clear hcz47_0 hcz47_1 hcz47_2 hcz47_3
                try clear hcz55_0 hcz55_1 hcz55_2 hcz55_3
                try clear hcz69_0 hcz69_1 hcz69_2 hcz69_3
                try clear hcz73_0 hcz73_1 hcz73_2 hcz73_3
                try clear hfz10_0 hfz10_1 hfz10_2 hfz10_3
                try clear hfz13_0 hfz13_1 hfz13_2 hfz13_3
                try clear hfz15_0 hfz15_1 hfz15_2 hfz15_3
                try clear hfz19_0 hfz19_1 hfz19_2 hfz19_3
                try clear hfz24_0 hfz24_1 hfz24_2 hfz24_3
                try clear hfz26_0 hfz26_1 hfz26_2 hfz26_3
                try clear hfz29_0 hfz29_1 hfz29_2 hfz29_3
                try clear hfz35_0 hfz35_1 hfz35_2 hfz35_3
                try clear hfz37_0 hfz37_1 hfz37_2 hfz37_3
                try clear hfz40_0 hfz40_1 hfz40_2 hfz40_3
                try clear hfz45_0 hfz45_1 hfz45_2 hfz45_3
                try clear hfz47_0 hfz47_1 hfz47_2 hfz47_3
                try clear hfz55_0 hfz55_1 hfz55_2 hfz55_3
                try clear hfz69_0 hfz69_1 hfz69_2 hfz69_3
                try clear hfz73_0 hfz73_1 hfz73_2 hfz73_3
                try clear hx137_0
                try clear hx137_1
                try clear hx137_2
                try clear hx137_3
                try clear hx138_0
                try clear hx138_1
                try clear hx138_2
                try clear hx138_3
                try clear p137
                try clear p138
                try clear p2
                try clear q137
                try clear q138
                obtain ⟨kq, x62_51, rfl, HA, HJ51, HO_146003, BK121, BK122, BK123, BK145, HB⟩ := hcut
                cases kq with
                | zero => exact absurd HA.out (by simp [spec_l1Equal.j3])
                | succ kj51 =>
                  have H := HA.out
                  clear HA
                  simp only [spec_l1Equal.j3] at H
                  by_cases c74 : x62_51 = true
                  · subst c74
                    have H1 : (some (t139, t140, t141, t142)) = some (r1, r2, r3, r4) := by rw [if_pos rfl] at H; exact H
                    clear H
                    have H := H1
                    clear H1
                    simp only [Option.some.injEq, Prod.mk.injEq] at H
                    obtain ⟨rfl, rfl, rfl, rfl⟩ := H
                    have hnb75 := NB145_121.out
                    have hnc75 := NB121_145.out
                    have hnb76 := NB145_122.out
                    have hnc76 := NB122_145.out
                    have hnb77 := NB145_123.out
                    have hnc77 := NB123_145.out
                    obtain ⟨hcz78_0, hcz78_1, hcz78_2, hcz78_3, hfz78_0, hfz78_1, hfz78_2, hfz78_3⟩ := blk4 BK145
                    have hnb79 := NB123_121.out
                    have hnc79 := NB121_123.out
                    have hnb80 := NB123_122.out
                    have hnc80 := NB122_123.out
                    obtain ⟨hcz81_0, hcz81_1, hcz81_2, hcz81_3, hfz81_0, hfz81_1, hfz81_2, hfz81_3⟩ := blk4 BK123
                    go_wp2
                    refine bodyPost_ret (results_cell_row rfl _ _ gb123 31 #[.int .i64 t139, .int .i64 t140, .string t141, .slice Ao63 t142.length co63] (0, 0) _ rfl (by refine pe_ ?_; refine blk_put (cs := #[.int .i64 t139, .int .i64 t140, .string t141, .slice none 0 0]) ?_ 3 _ rfl; refine pe_ ?_; refine blk_put (cs := #[.int .i64 t139, .int .i64 t140, .string x124002_3, .slice none 0 0]) ?_ 2 _ rfl; refine pe_ ?_; refine blk_put (cs := #[.int .i64 t139, .int .i64 x124001_3, .string x124002_3, .slice none 0 0]) ?_ 1 _ rfl; refine pe_ ?_; refine blk_put (cs := #[.int .i64 x124000_3, .int .i64 x124001_3, .string x124002_3, .slice none 0 0]) ?_ 0 _ rfl; refine pe_ ?_; exact BK123.out) Try.underlying31 rfl (by kernel_rfl)) rfl ?_
                    exact ⟨_, by first | rfl | (simp [errW_none, errW_some] <;> rfl) | (simp [*, errW_none, errW_some] <;> rfl), by (with_reducible repeat (first | apply Kd.R_alloc | apply Kd.R_drewN | apply Kd.R_drew)); exact Kd.R_mono (rf4 gb123 (Kd.R_mono HO_146003.out (fun k_ hk => (⟨hk, hk.2.2.1⟩ : _ ∧ k_ ≠ gb123))) (fun _ hk => hk.2)) (fun _ hk => trivial), bel_⟩
                  replace c74 := Bool.eq_false_iff.mpr c74
                  subst c74
                  have H1 : (if x5_3 = true then (spec_l1Equal.l0 kj51 (t139 == 1) (wrap64 (x6_3 + 1)) a0_0 a0_1 a0_2 l0_3 a1_0 a1_1 a1_2 l1_3) else (spec_l1Equal.l0 kj51 false (wrap64 (x6_3 + 1)) a0_0 a0_1 a0_2 l0_3 a1_0 a1_1 a1_2 l1_3)) = some (r1, r2, r3, r4) := by rw [if_neg (show ¬ (false = true) by decide)] at H; exact H
                  clear H
                  have H := H1
                  clear H1
                  by_cases c82 : x5_3 = true
                  · subst c82
                    have H1 : (spec_l1Equal.l0 kj51 (t139 == 1) (wrap64 (x6_3 + 1)) a0_0 a0_1 a0_2 l0_3 a1_0 a1_1 a1_2 l1_3) = some (r1, r2, r3, r4) := by rw [if_pos rfl] at H; exact H
                    clear H
                    have H := H1
                    clear H1
                    have H' := Aside0.mk H
                    clear H
                    have hnb83 := NB145_121.out
                    have hnc83 := NB121_145.out
                    have hnb84 := NB145_122.out
                    have hnc84 := NB122_145.out
                    have hnb85 := NB145_123.out
                    have hnc85 := NB123_145.out
                    obtain ⟨hcz86_0, hcz86_1, hcz86_2, hcz86_3, hfz86_0, hfz86_1, hfz86_2, hfz86_3⟩ := blk4 BK145
                    go_wp2
                    go_roundg kj51
                    case measure => have := HJ2.out; have := HJ19.out; have := HK3.out; have := HJ51.out; omega
                    case rel => exact ⟨((t139 == 1)), (wrap64 (x6_3 + 1)), (x124000_3), (x124001_3), (x124002_3), sm_, sm_, H', ⟨by have := HJ2.out; have := HJ19.out; have := HK3.out; have := HJ51.out; omega⟩, ⟨by refine pe_ ?_; exact BK121.out⟩, ⟨by refine pe_ ?_; exact BK122.out⟩, ⟨by refine pe_ ?_; exact BK123.out⟩, ⟨bel_⟩⟩
                  replace c82 := Bool.eq_false_iff.mpr c82
                  subst c82
                  have H1 : (spec_l1Equal.l0 kj51 false (wrap64 (x6_3 + 1)) a0_0 a0_1 a0_2 l0_3 a1_0 a1_1 a1_2 l1_3) = some (r1, r2, r3, r4) := by rw [if_neg (show ¬ (false = true) by decide)] at H; exact H
                  clear H
                  have H := H1
                  clear H1
                  have H' := Aside0.mk H
                  clear H
                  go_wp2
                  go_roundg kj51
                  case measure => have := HJ2.out; have := HJ19.out; have := HK3.out; have := HJ51.out; omega
                  case rel => exact ⟨(false), (wrap64 (x6_3 + 1)), (x124000_3), (x124001_3), (x124002_3), sm_, sm_, H', ⟨by have := HJ2.out; have := HJ19.out; have := HK3.out; have := HJ51.out; omega⟩, ⟨by refine pe_ ?_; exact BK121.out⟩, ⟨by refine pe_ ?_; exact BK122.out⟩, ⟨by refine pe_ ?_; exact BK123.out⟩, ⟨bel_⟩⟩

end Go.Proofs.Ytejikddbdhahaaa.G
