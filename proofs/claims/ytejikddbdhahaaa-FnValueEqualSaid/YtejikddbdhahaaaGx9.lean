-- Printed by a program of this claim's writer (wip/gen), out of the translation. Lean checks it.
import Derived.Test.YtejikddbdhahaaaGx0
import Derived.Test.YtejikddbdhahaaaGx8
namespace Go.Proofs.Ytejikddbdhahaaa.G
open Go.RowKit Go.Proofs.YtejikddbdhahaaaW.PrintWords Go.Proofs.YtejikddbdhahaaaW.PrintLast Go.Proofs.YtejikddbdhahaaaW.PrintMore
attribute [local go_sem] max2_int min2_int max_two min_two max_three min_three max_four min_four Own.str_gtr Own.str_leq Own.str_geq   -- for this text's walks alone
open Own
set_option linter.unusedVariables false
set_option linter.unusedSimpArgs false

/-! ### impl_equalOf: function 69 -/
mutual
def impl_equalOf.j0 : Nat → Bool → Int → Int → ByteArray → List (S31) → Int → Int → ByteArray → List (S31) → Option (Int × Int × ByteArray × (List (S31)))
  | 0, _, _, _, _, _, _, _, _, _ => none
  | k + 1, x15, x178000, x178001, x178002, x178003, x179000, x179001, x179002, x179003 => if x15 = true then (some (0, 0, (⟨#[]⟩ : ByteArray), ([] : List (S31)))) else (if x178000 = 4 then (if x179000 = 4 then (impl_equalOf.j1 k ((x178003.length : Int) != (x179003.length : Int)) x178000 x178001 x178002 x178003 x179000 x179001 x179002 x179003) else (impl_equalOf.j1 k true x178000 x178001 x178002 x178003 x179000 x179001 x179002 x179003)) else (impl_equalOf.j1 k true x178000 x178001 x178002 x178003 x179000 x179001 x179002 x179003))
def impl_equalOf.j1 : Nat → Bool → Int → Int → ByteArray → List (S31) → Int → Int → ByteArray → List (S31) → Option (Int × Int × ByteArray × (List (S31)))
  | 0, _, _, _, _, _, _, _, _, _ => none
  | k + 1, x33, x178000, x178001, x178002, x178003, x179000, x179001, x179002, x179003 => if x33 = true then ((impl_sameOf.f k x178000 x178001 x178002 x178003 x179000 x179001 x179002 x179003).bind fun t180 => ((impl_yesOrNo.f t180).bind fun bt181 => (some (bt181.1, bt181.2.1, bt181.2.2.1, bt181.2.2.2)))) else ((impl_yesOrNo.f true).bind fun bt187 => (impl_equalOf.l0 k (x178003.length : Int) 0 x178000 x178001 x178002 x178003 x179000 x179001 x179002 x179003 bt187.1 bt187.2.1 bt187.2.2.1 bt187.2.2.2))
def impl_equalOf.l0 : Nat → Int → Int → Int → Int → ByteArray → List (S31) → Int → Int → ByteArray → List (S31) → Int → Int → ByteArray → List (S31) → Option (Int × Int × ByteArray × (List (S31)))
  | 0, _, _, _, _, _, _, _, _, _, _, _, _, _, _ => none
  | k + 1, x41, x42, x178000, x178001, x178002, x178003, x179000, x179001, x179002, x179003, x194000, x194001, x194002, x194003 => if x42 < x41 then (if 0 ≤ x42 then (if x42 < (x178003.length : Int) then (if x42 < (x179003.length : Int) then ((impl_equalOf.f k ((rd_T31 x178003 x42).f0) ((rd_T31 x178003 x42).f1) ((rd_T31 x178003 x42).f2) ((rd_T31 x178003 x42).f3) ((rd_T31 x179003 x42).f0) ((rd_T31 x179003 x42).f1) ((rd_T31 x179003 x42).f2) ((rd_T31 x179003 x42).f3)).bind fun bt196 => ((impl_isNo.f bt196.1 bt196.2.1 bt196.2.2.1 bt196.2.2.2).bind fun t203 => (if t203 = true then (some (bt196.1, bt196.2.1, bt196.2.2.1, bt196.2.2.2)) else (if bt196.1 = 0 then (impl_equalOf.l0 k x41 (wrap64 (x42 + 1)) x178000 x178001 x178002 x178003 x179000 x179001 x179002 x179003 bt196.1 bt196.2.1 bt196.2.2.1 bt196.2.2.2) else (impl_equalOf.l0 k x41 (wrap64 (x42 + 1)) x178000 x178001 x178002 x178003 x179000 x179001 x179002 x179003 x194000 x194001 x194002 x194003))))) else (none)) else (none)) else (none)) else (some (x194000, x194001, x194002, x194003))
def impl_equalOf.f : Nat → Int → Int → ByteArray → List (S31) → Int → Int → ByteArray → List (S31) → Option (Int × Int × ByteArray × (List (S31)))
  | 0, _, _, _, _, _, _, _, _ => none
  | k + 1, a0_0, a0_1, a0_2, l0_3, a1_0, a1_1, a1_2, l1_3 => if a0_0 = 0 then (impl_equalOf.j0 k true a0_0 a0_1 a0_2 l0_3 a1_0 a1_1 a1_2 l1_3) else (impl_equalOf.j0 k (a1_0 == 0) a0_0 a0_1 a0_2 l0_3 a1_0 a1_1 a1_2 l1_3)
end
def impl_equalOf.T9 : Bool × List (List Nat × List Nat) := (true, [([], []), ([0], [0]), ([], []), ([1, 2], [1, 2]), ([3], [3]), ([], []), ([5], [5]), ([], []), ([6, 7], [6, 7]), ([8], [8]), ([4, 9], [4, 9]), ([], []), ([11, 10, 10, 0, 1, 2, 3, 4, 5, 6, 7, 8, 9, 10, 11], [10, 11])])
def impl_equalOf.B9 : List Nat := [0, 1, 0, 7, 15, 0, 32, 0, 224, 480, 1023, 0, 4095]
theorem impl_equalOf.tab9 : rtab .any (opsOf Try.f69 9) = impl_equalOf.T9 := by kernel_rfl
theorem impl_equalOf.bits9 : waitsOk impl_equalOf.T9.2 impl_equalOf.B9 = true := by kernel_rfl
set_option maxHeartbeats 8000000 in
set_option maxRecDepth 100000 in
theorem impl_equalOf.calls (k : Nat) : ∀ (a0_0 : Int) (a0_1 : Int) (a0_2 : ByteArray) (A0_3 : Option Addr) (c0_3 : Nat) (l0_3 : List (S31)) (a1_0 : Int) (a1_1 : Int) (a1_2 : ByteArray) (A1_3 : Option Addr) (c1_3 : Nat) (l1_3 : List (S31)) (r1 : Int) (r2 : Int) (r3 : ByteArray) (r4 : List (S31)) (w : World) (hr0_3 : Kd.C k31 w A0_3 l0_3.length l0_3) (hc0_3 : l0_3.length ≤ c0_3) (hr1_3 : Kd.C k31 w A1_3 l1_3.length l1_3) (hc1_3 : l1_3.length ≤ c1_3) (h : impl_equalOf.f k a0_0 a0_1 a0_2 l0_3 a1_0 a1_1 a1_2 l1_3 = some (r1, r2, r3, r4)),
    Calls Try.prog 69 #[.agg #[.int .i64 a0_0, .int .i64 a0_1, .string a0_2, .slice A0_3 l0_3.length c0_3], .agg #[.int .i64 a1_0, .int .i64 a1_1, .string a1_2, .slice A1_3 l1_3.length c1_3]] w fun e w' => ∃ v3_ : Value, e = .returned (.agg #[.int .i64 r1, .int .i64 r2, .string r3, v3_]) ∧ Kd.R k31 31 w' w.heap.size (fun _ => True) v3_ r4 ∧ Below w.heap.size w w' := by
  induction k using Nat.strongRecOn with
  | _ k ih =>
  intro a0_0 a0_1 a0_2 A0_3 c0_3 l0_3 a1_0 a1_1 a1_2 A1_3 c1_3 l1_3 r1 r2 r3 r4 w hr0_3 hc0_3 hr1_3 hc1_3 h
  cases k with
  | zero => exact absurd h (by simp [impl_equalOf.f])
  | succ k =>
  simp only [impl_equalOf.f] at h
  have hu31 := Try.underlying31
  have HR0_3 := Aside0.mk hr0_3
  have HC0_3 := Aside0.mk hc0_3
  clear hr0_3 hc0_3
  have HR1_3 := Aside0.mk hr1_3
  have HC1_3 := Aside0.mk hc1_3
  clear hr1_3 hc1_3
  have HB := Aside0.mk (Below.refl w.heap.size w)
  have H : (if a0_0 = 0 then (impl_equalOf.j0 k true a0_0 a0_1 a0_2 l0_3 a1_0 a1_1 a1_2 l1_3) else (impl_equalOf.j0 k (a1_0 == 0) a0_0 a0_1 a0_2 l0_3 a1_0 a1_1 a1_2 l1_3)) = some (r1, r2, r3, r4) := h
  clear h
  have HC3 := Aside0.mk H
  clear H
  go_enter Try.func69, Try.ntmps69
  go_upto_region 1 with (first | ((with_reducible refine gate_dst (N := 2) rfl ?_); (try (refine gate_guard (by rfl) ?_; dsimp only)); refine box_event ?hg (N := 2) ?hd (cs := #[.int .i64 a0_0, .int .i64 a0_1, .string a0_2, .slice A0_3 l0_3.length c0_3]) (t := 31) ?hr ?_; (case hd => rfl); (case hg => rfl); (case hr => first | (go_simp; done) | (go_simp; rfl)); intro gb177 hg w4 hbox hb; have BK177 := Aside0.mk (hbox); have GW177 := gw_ hg; have GE177 := gw_ hg; replace HB := bs_ hb; clear hb hbox hg) | ((with_reducible refine gate_dst (N := 3) rfl ?_); (try (refine gate_guard (by rfl) ?_; dsimp only)); refine box_event ?hg (N := 3) ?hd (cs := #[.int .i64 a1_0, .int .i64 a1_1, .string a1_2, .slice A1_3 l1_3.length c1_3]) (t := 31) ?hr ?_; (case hd => rfl); (case hg => rfl); (case hr => first | (go_simp; done) | (go_simp; rfl)); intro gb178 hg w5 hbox hb; have BK178 := Aside0.mk (hbox); have GW178 := gw_ hg; have GE178 := gw_ hg; have NB177_178 := nlt_ hg BK177; have NB178_177 := ngt_ hg BK177; replace BK177 := bb_ BK177 hb; replace HB := bs_ hb; clear hb hbox hg) | ((with_reducible refine gate_dst (N := 4) rfl ?_); (try (refine gate_guard (by rfl) ?_; dsimp only)); refine box_event ?hg (N := 4) ?hd (cs := #[.int .i64 0, .int .i64 0, .string (⟨#[]⟩ : ByteArray), .slice none 0 0]) (t := 31) ?hr ?_; (case hd => rfl); (case hg => rfl); (case hr => first | (go_simp; done) | (go_simp; rfl)); intro gb179 hg w6 hbox hb; have BK179 := Aside0.mk (hbox); have GW179 := gw_ hg; have GE179 := gw_ hg; have NB177_179 := nlt_ hg BK177; have NB179_177 := ngt_ hg BK177; have NB178_179 := nlt_ hg BK178; have NB179_178 := ngt_ hg BK178; replace BK177 := bb_ BK177 hb; replace BK178 := bb_ BK178 hb; replace HB := bs_ hb; clear hb hbox hg))
  (try simp only [Act.put, List.setIfInBounds_toArray, List.set_cons_zero, List.set_cons_succ])
  go_cut [15] (fun v15 wc => ∃ (kq : Nat) (x15_2 : Bool), v15 = .bool x15_2 ∧ Aside0 (impl_equalOf.j0 kq x15_2 a0_0 a0_1 a0_2 l0_3 a1_0 a1_1 a1_2 l1_3 = some (r1, r2, r3, r4)) ∧ Aside0 (kq ≤ k) ∧ Aside0 (wc.heap[gb177]? = some (.cells #[.int .i64 a0_0, .int .i64 a0_1, .string a0_2, (.slice A0_3 l0_3.length c0_3)] 31 (0, 0))) ∧ Aside0 (wc.heap[gb178]? = some (.cells #[.int .i64 a1_0, .int .i64 a1_1, .string a1_2, (.slice A1_3 l1_3.length c1_3)] 31 (0, 0))) ∧ Aside0 (wc.heap[gb179]? = some (.cells #[.int .i64 0, .int .i64 0, .string (⟨#[]⟩ : ByteArray), (.slice none 0 0)] 31 (0, 0))) ∧ Aside0 (Below w.heap.size w wc))
  case first =>
    have H := HC3.out
    clear HC3
    by_cases c7 : a0_0 = 0
    · rw [if_pos c7] at H
      have c7b0 : (a0_0 == 0) = true := beq_iff_eq.mpr c7
      have c7b1 : (a0_0 != 0) = false := bne_eq_false_iff_eq.mpr c7
      clear c7
      (first | rw [c7b0] | (simp only [i64_w, i32_w]; rw [c7b0]) | skip)
      have H' := Aside0.mk H
      clear H
      have hnb8 := NB177_178.out
      have hnc8 := NB178_177.out
      have hnb9 := NB177_179.out
      have hnc9 := NB179_177.out
      obtain ⟨hcz10_0, hcz10_1, hcz10_2, hcz10_3, hfz10_0, hfz10_1, hfz10_2, hfz10_3⟩ := blk4 BK177
      go_wp2
      go_meet
      case rel => exact ⟨_, (true), sm_, H', ⟨by first | omega | exact Nat.le_refl _⟩, ⟨by refine pe_ ?_; exact BK177.out⟩, ⟨by refine pe_ ?_; exact BK178.out⟩, ⟨by refine pe_ ?_; exact BK179.out⟩, ⟨bel_⟩⟩
    rw [if_neg c7] at H
    have c7b0 : (a0_0 == 0) = false := beq_eq_false_iff_ne.mpr c7
    have c7b1 : (a0_0 != 0) = true := bne_iff_ne.mpr c7
    (first | rw [c7b0] | (simp only [i64_w, i32_w]; rw [c7b0]) | skip)
    have H' := Aside0.mk H
    clear H
    have hnb11 := NB177_178.out
    have hnc11 := NB178_177.out
    have hnb12 := NB177_179.out
    have hnc12 := NB179_177.out
    obtain ⟨hcz13_0, hcz13_1, hcz13_2, hcz13_3, hfz13_0, hfz13_1, hfz13_2, hfz13_3⟩ := blk4 BK177
    have hnb14 := NB178_179.out
    have hnc14 := NB179_178.out
    obtain ⟨hcz15_0, hcz15_1, hcz15_2, hcz15_3, hfz15_0, hfz15_1, hfz15_2, hfz15_3⟩ := blk4 BK178
    go_wp2
    go_meet
    case rel => exact ⟨_, ((a1_0 == 0)), sm_, H', ⟨by first | omega | exact Nat.le_refl _⟩, ⟨by refine pe_ ?_; exact BK177.out⟩, ⟨by refine pe_ ?_; exact BK178.out⟩, ⟨by refine pe_ ?_; exact BK179.out⟩, ⟨bel_⟩⟩
  case rest =>
    clear HC3
    try clear c1
    try clear p2
    try clear c6
    try clear c7
    try clear c7b0
    try clear c7b1
    try clear c8
    try clear c9
    try clear c11
    try clear c12
    try clear c14
    try clear hcz10_0 hcz10_1 hcz10_2 hcz10_3
    try clear hcz13_0 hcz13_1 hcz13_2 hcz13_3
    try clear hcz15_0 hcz15_1 hcz15_2 hcz15_3
    try clear hfz10_0 hfz10_1 hfz10_2 hfz10_3
    try clear hfz13_0 hfz13_1 hfz13_2 hfz13_3
    try clear hfz15_0 hfz15_1 hfz15_2 hfz15_3
    obtain ⟨kq, x15_2, rfl, HA, HJ2, BK177, BK178, BK179, HB⟩ := hcut
    cases kq with
    | zero => exact absurd HA.out (by simp [impl_equalOf.j0])
    | succ kj2 =>
      have H := HA.out
      clear HA
      simp only [impl_equalOf.j0] at H
      by_cases c16 : x15_2 = true
      · subst c16
        have H1 : (some (0, 0, (⟨#[]⟩ : ByteArray), ([] : List (S31)))) = some (r1, r2, r3, r4) := by rw [if_pos rfl] at H; exact H
        clear H
        have H := H1
        clear H1
        simp only [Option.some.injEq, Prod.mk.injEq] at H
        obtain ⟨rfl, rfl, rfl, rfl⟩ := H
        have hnb17 := NB179_177.out
        have hnc17 := NB177_179.out
        have hnb18 := NB179_178.out
        have hnc18 := NB178_179.out
        obtain ⟨hcz19_0, hcz19_1, hcz19_2, hcz19_3, hfz19_0, hfz19_1, hfz19_2, hfz19_3⟩ := blk4 BK179
        go_wp2
        refine bodyPost_ret (results_cell_row rfl _ _ gb179 31 #[.int .i64 0, .int .i64 0, .string (⟨#[]⟩ : ByteArray), .slice none 0 0] (0, 0) _ rfl (by refine pe_ ?_; refine blk_put (cs := #[.int .i64 0, .int .i64 0, .string (⟨#[]⟩ : ByteArray), .slice none 0 0]) ?_ 3 _ rfl; refine pe_ ?_; refine blk_put (cs := #[.int .i64 0, .int .i64 0, .string (⟨#[]⟩ : ByteArray), .slice none 0 0]) ?_ 2 _ rfl; refine pe_ ?_; refine blk_put (cs := #[.int .i64 0, .int .i64 0, .string (⟨#[]⟩ : ByteArray), .slice none 0 0]) ?_ 1 _ rfl; refine pe_ ?_; refine blk_put (cs := #[.int .i64 0, .int .i64 0, .string (⟨#[]⟩ : ByteArray), .slice none 0 0]) ?_ 0 _ rfl; refine pe_ ?_; exact BK179.out) Try.underlying31 rfl (by kernel_rfl)) rfl ?_
        exact ⟨_, by first | rfl | (simp [errW_none, errW_some] <;> rfl) | (simp [*, errW_none, errW_some] <;> rfl), by first | exact Kd.R_nil _ _ _ _ _ | exact Kd.N_nil _ _ _ _ _ | exact Kd.V_nil _ _ _ _ _ | exact Kd.Q_nil _ _ _ _ _ | exact Kd.S_nil _ _ _ _ _, bel_⟩
      replace c16 := Bool.eq_false_iff.mpr c16
      subst c16
      have H1 : (if a0_0 = 4 then (if a1_0 = 4 then (impl_equalOf.j1 kj2 ((l0_3.length : Int) != (l1_3.length : Int)) a0_0 a0_1 a0_2 l0_3 a1_0 a1_1 a1_2 l1_3) else (impl_equalOf.j1 kj2 true a0_0 a0_1 a0_2 l0_3 a1_0 a1_1 a1_2 l1_3)) else (impl_equalOf.j1 kj2 true a0_0 a0_1 a0_2 l0_3 a1_0 a1_1 a1_2 l1_3)) = some (r1, r2, r3, r4) := by rw [if_neg (show ¬ (false = true) by decide)] at H; exact H
      clear H
      have H := H1
      clear H1
      have HC20 := Aside0.mk H
      clear H
      go_upto_region 3 with (fail)
      go_cut [33] (fun v33 wc => ∃ (kq : Nat) (x33_19 : Bool), v33 = .bool x33_19 ∧ Aside0 (impl_equalOf.j1 kq x33_19 a0_0 a0_1 a0_2 l0_3 a1_0 a1_1 a1_2 l1_3 = some (r1, r2, r3, r4)) ∧ Aside0 (kq ≤ kj2) ∧ Aside0 (wc.heap[gb177]? = some (.cells #[.int .i64 a0_0, .int .i64 a0_1, .string a0_2, (.slice A0_3 l0_3.length c0_3)] 31 (0, 0))) ∧ Aside0 (wc.heap[gb178]? = some (.cells #[.int .i64 a1_0, .int .i64 a1_1, .string a1_2, (.slice A1_3 l1_3.length c1_3)] 31 (0, 0))) ∧ Aside0 (wc.heap[gb179]? = some (.cells #[.int .i64 0, .int .i64 0, .string (⟨#[]⟩ : ByteArray), (.slice none 0 0)] 31 (0, 0))) ∧ Aside0 (Below w.heap.size w wc))
      case first =>
        have H := HC20.out
        clear HC20
        by_cases c21 : a0_0 = 4
        rotate_left
        · rw [if_neg c21] at H
          have c21b0 : (a0_0 == 4) = false := beq_eq_false_iff_ne.mpr c21
          have c21b1 : (a0_0 != 4) = true := bne_iff_ne.mpr c21
          (first | rw [c21b0] | (simp only [i64_w, i32_w]; rw [c21b0]) | skip)
          have H' := Aside0.mk H
          clear H
          have hnb33 := NB177_178.out
          have hnc33 := NB178_177.out
          have hnb34 := NB177_179.out
          have hnc34 := NB179_177.out
          obtain ⟨hcz35_0, hcz35_1, hcz35_2, hcz35_3, hfz35_0, hfz35_1, hfz35_2, hfz35_3⟩ := blk4 BK177
          go_wp2
          go_meet
          case rel => exact ⟨_, (true), sm_, H', ⟨by have := HJ2.out; first | omega | exact Nat.le_refl _⟩, ⟨by refine pe_ ?_; exact BK177.out⟩, ⟨by refine pe_ ?_; exact BK178.out⟩, ⟨by refine pe_ ?_; exact BK179.out⟩, ⟨bel_⟩⟩
        rw [if_pos c21] at H
        have c21b0 : (a0_0 == 4) = true := beq_iff_eq.mpr c21
        have c21b1 : (a0_0 != 4) = false := bne_eq_false_iff_eq.mpr c21
        clear c21
        (first | rw [c21b0] | (simp only [i64_w, i32_w]; rw [c21b0]) | skip)
        by_cases c22 : a1_0 = 4
        · rw [if_pos c22] at H
          have c22b0 : (a1_0 == 4) = true := beq_iff_eq.mpr c22
          have c22b1 : (a1_0 != 4) = false := bne_eq_false_iff_eq.mpr c22
          clear c22
          have H' := Aside0.mk H
          clear H
          have hnb23 := NB177_178.out
          have hnc23 := NB178_177.out
          have hnb24 := NB177_179.out
          have hnc24 := NB179_177.out
          obtain ⟨hcz25_0, hcz25_1, hcz25_2, hcz25_3, hfz25_0, hfz25_1, hfz25_2, hfz25_3⟩ := blk4 BK177
          have hnb26 := NB178_179.out
          have hnc26 := NB179_178.out
          obtain ⟨hcz27_0, hcz27_1, hcz27_2, hcz27_3, hfz27_0, hfz27_1, hfz27_2, hfz27_3⟩ := blk4 BK178
          go_wp2
          go_meet
          case rel => exact ⟨_, (((l0_3.length : Int) != (l1_3.length : Int))), sm_, H', ⟨by have := HJ2.out; first | omega | exact Nat.le_refl _⟩, ⟨by refine pe_ ?_; exact BK177.out⟩, ⟨by refine pe_ ?_; exact BK178.out⟩, ⟨by refine pe_ ?_; exact BK179.out⟩, ⟨bel_⟩⟩
        rw [if_neg c22] at H
        have c22b0 : (a1_0 == 4) = false := beq_eq_false_iff_ne.mpr c22
        have c22b1 : (a1_0 != 4) = true := bne_iff_ne.mpr c22
        have H' := Aside0.mk H
        clear H
        have hnb28 := NB177_178.out
        have hnc28 := NB178_177.out
        have hnb29 := NB177_179.out
        have hnc29 := NB179_177.out
        obtain ⟨hcz30_0, hcz30_1, hcz30_2, hcz30_3, hfz30_0, hfz30_1, hfz30_2, hfz30_3⟩ := blk4 BK177
        have hnb31 := NB178_179.out
        have hnc31 := NB179_178.out
        obtain ⟨hcz32_0, hcz32_1, hcz32_2, hcz32_3, hfz32_0, hfz32_1, hfz32_2, hfz32_3⟩ := blk4 BK178
        go_wp2
        go_meet
        case rel => exact ⟨_, (true), sm_, H', ⟨by have := HJ2.out; first | omega | exact Nat.le_refl _⟩, ⟨by refine pe_ ?_; exact BK177.out⟩, ⟨by refine pe_ ?_; exact BK178.out⟩, ⟨by refine pe_ ?_; exact BK179.out⟩, ⟨bel_⟩⟩
      case rest =>
        clear HC20
        try clear c1
        try clear c2
        try clear p2
        try clear c3
        try clear c6
        try clear c7
        try clear c7b0
        try clear c7b1
        try clear c8
        try clear c9
        try clear c11
        try clear c12
        try clear c14
        try clear c16
        try clear c17
        try clear c18
        try clear c21
        try clear c21b0
        try clear c21b1
        try clear c22
        try clear c22b0
        try clear c22b1
        try clear c23
        try clear c24
        try clear c26
        try clear c28
        try clear c29
        try clear c31
        try clear c33
        try clear c34
        try clear hcz10_0 hcz10_1 hcz10_2 hcz10_3
        try clear hcz13_0 hcz13_1 hcz13_2 hcz13_3
        try clear hcz15_0 hcz15_1 hcz15_2 hcz15_3
        try clear hcz19_0 hcz19_1 hcz19_2 hcz19_3
        try clear hcz25_0 hcz25_1 hcz25_2 hcz25_3
        try clear hcz27_0 hcz27_1 hcz27_2 hcz27_3
        try clear hcz30_0 hcz30_1 hcz30_2 hcz30_3
        try clear hcz32_0 hcz32_1 hcz32_2 hcz32_3
        try clear hcz35_0 hcz35_1 hcz35_2 hcz35_3
        try clear hfz10_0 hfz10_1 hfz10_2 hfz10_3
        try clear hfz13_0 hfz13_1 hfz13_2 hfz13_3
        try clear hfz15_0 hfz15_1 hfz15_2 hfz15_3
        try clear hfz19_0 hfz19_1 hfz19_2 hfz19_3
        try clear hfz25_0 hfz25_1 hfz25_2 hfz25_3
        try clear hfz27_0 hfz27_1 hfz27_2 hfz27_3
        try clear hfz30_0 hfz30_1 hfz30_2 hfz30_3
        try clear hfz32_0 hfz32_1 hfz32_2 hfz32_3
        try clear hfz35_0 hfz35_1 hfz35_2 hfz35_3
        try clear p2
        obtain ⟨kq, x33_19, rfl, HA, HJ19, BK177, BK178, BK179, HB⟩ := hcut
        cases kq with
        | zero => exact absurd HA.out (by simp [impl_equalOf.j1])
        | succ kj19 =>
          have H := HA.out
          clear HA
          simp only [impl_equalOf.j1] at H
          by_cases c36 : x33_19 = true
          · subst c36
            have H1 : ((impl_sameOf.f kj19 a0_0 a0_1 a0_2 l0_3 a1_0 a1_1 a1_2 l1_3).bind fun t180 => ((impl_yesOrNo.f t180).bind fun bt181 => (some (bt181.1, bt181.2.1, bt181.2.2.1, bt181.2.2.2)))) = some (r1, r2, r3, r4) := by rw [if_pos rfl] at H; exact H
            clear H
            have H := H1
            clear H1
            replace H := Option.bind_eq_some_iff.mp H
            obtain ⟨t180, A370, H⟩ := H
            replace H : ((impl_yesOrNo.f t180).bind fun bt181 => (some (bt181.1, bt181.2.1, bt181.2.2.1, bt181.2.2.2))) = some (r1, r2, r3, r4) := H
            have A37 := Aside0.mk A370
            clear A370
            replace H := Option.bind_eq_some_iff.mp H
            obtain ⟨⟨t181, t182, t183, t184⟩, A380, H⟩ := H
            replace H : (some (t181, t182, t183, t184)) = some (r1, r2, r3, r4) := H
            have A38 := Aside0.mk A380
            clear A380
            simp only [Option.some.injEq, Prod.mk.injEq] at H
            obtain ⟨rfl, rfl, rfl, rfl⟩ := H
            have hnb39 := NB177_178.out
            have hnc39 := NB178_177.out
            have hnb40 := NB177_179.out
            have hnc40 := NB179_177.out
            obtain ⟨hcz41_0, hcz41_1, hcz41_2, hcz41_3, hfz41_0, hfz41_1, hfz41_2, hfz41_3⟩ := blk4 BK177
            have hnb42 := NB178_179.out
            have hnc42 := NB179_178.out
            obtain ⟨hcz43_0, hcz43_1, hcz43_2, hcz43_3, hfz43_0, hfz43_1, hfz43_2, hfz43_3⟩ := blk4 BK178
            go_wp2_with (first | ((with_reducible refine gate_callee (f := 88) rfl ?_); refine goesL_ (some 36) rfl rfl Try.func88 (by kernel_rfl) rfl #[.agg #[.int .i64 a0_0, .int .i64 a0_1, .string a0_2, .slice A0_3 l0_3.length c0_3], .agg #[.int .i64 a1_0, .int .i64 a1_1, .string a1_2, .slice A1_3 l1_3.length c1_3]] rfl ar_ ?_; (with_reducible refine (impl_sameOf.calls kj19 a0_0 a0_1 a0_2 _ _ l0_3 a1_0 a1_1 a1_2 _ _ l1_3 t180 _ ?side1 ?side2 ?side3 ?side4 A37.out).mono ?_); (case side1 => exact rdb_ HR0_3); (case side2 => exact HC0_3.out); (case side3 => exact rdb_ HR1_3); (case side4 => exact HC1_3.out); rintro e w44 ⟨rfl, hb⟩; refine ⟨_, rfl, ?_⟩; replace BK177 := bb_ BK177 hb; replace BK178 := bb_ BK178 hb; replace BK179 := bb_ BK179 hb; replace HB := bs_ hb; (try clear hb); (try clear hb2); (try clear hk); (try clear hi)) | ((with_reducible refine gate_callee (f := 87) rfl ?_); refine goesL_ (some 37) rfl rfl Try.func87 (by kernel_rfl) rfl #[.bool t180] rfl ar_ ?_; (with_reducible refine (impl_yesOrNo.calls t180 t181 t182 t183 t184 _ A38.out).mono ?_); rintro e w45 ⟨v185, rfl, ho0, hb⟩; refine ⟨_, rfl, ?_⟩; have HO186 := Aside0.mk (Kd.R_lower (Kd.R_newB (Kd.R_newB (Kd.R_newB ho0 (g := gb177) (o := .cells #[.int .i64 a0_0, .int .i64 a0_1, .string a0_2, .slice A0_3 l0_3.length c0_3] 31 (0, 0)) (bk_ BK177)) (g := gb178) (o := .cells #[.int .i64 a1_0, .int .i64 a1_1, .string a1_2, .slice A1_3 l1_3.length c1_3] 31 (0, 0)) (bk_ BK178)) (g := gb179) (o := .cells #[.int .i64 0, .int .i64 0, .string (⟨#[]⟩ : ByteArray), .slice none 0 0] 31 (0, 0)) (bk_ BK179)) (below_size (bel_))); replace BK177 := bb_ BK177 hb; replace BK178 := bb_ BK178 hb; replace BK179 := bb_ BK179 hb; replace HB := bs_ hb; (try clear hb); (try clear hb2); (try clear hk); (try clear hi); (try clear ho0); obtain ⟨hcz46_0, hcz46_1, hcz46_2, hcz46_3, hfz46_0, hfz46_1, hfz46_2, hfz46_3⟩ := blk4 BK179; obtain ⟨Ao47, co47, eo47⟩ := Kd.R_slice HO186.out; subst eo47))
            refine bodyPost_ret (results_cell_row rfl _ _ gb179 31 #[.int .i64 t181, .int .i64 t182, .string t183, .slice Ao47 t184.length co47] (0, 0) _ rfl (by refine pe_ ?_; refine blk_put (cs := #[.int .i64 t181, .int .i64 t182, .string t183, .slice none 0 0]) ?_ 3 _ rfl; refine pe_ ?_; refine blk_put (cs := #[.int .i64 t181, .int .i64 t182, .string (⟨#[]⟩ : ByteArray), .slice none 0 0]) ?_ 2 _ rfl; refine pe_ ?_; refine blk_put (cs := #[.int .i64 t181, .int .i64 0, .string (⟨#[]⟩ : ByteArray), .slice none 0 0]) ?_ 1 _ rfl; refine pe_ ?_; refine blk_put (cs := #[.int .i64 0, .int .i64 0, .string (⟨#[]⟩ : ByteArray), .slice none 0 0]) ?_ 0 _ rfl; refine pe_ ?_; exact BK179.out) Try.underlying31 rfl (by kernel_rfl)) rfl ?_
            exact ⟨_, by first | rfl | (simp [errW_none, errW_some] <;> rfl) | (simp [*, errW_none, errW_some] <;> rfl), by (with_reducible repeat (first | apply Kd.R_alloc | apply Kd.R_drewN | apply Kd.R_drew)); exact Kd.R_mono (rf4 gb179 (Kd.R_mono HO186.out (fun k_ hk => (⟨hk, hk.2⟩ : _ ∧ k_ ≠ gb179))) (fun _ hk => hk.2)) (fun _ hk => trivial), bel_⟩
          replace c36 := Bool.eq_false_iff.mpr c36
          subst c36
          have H1 : ((impl_yesOrNo.f true).bind fun bt187 => (impl_equalOf.l0 kj19 (l0_3.length : Int) 0 a0_0 a0_1 a0_2 l0_3 a1_0 a1_1 a1_2 l1_3 bt187.1 bt187.2.1 bt187.2.2.1 bt187.2.2.2)) = some (r1, r2, r3, r4) := by rw [if_neg (show ¬ (false = true) by decide)] at H; exact H
          clear H
          have H := H1
          clear H1
          replace H := Option.bind_eq_some_iff.mp H
          obtain ⟨⟨t187, t188, t189, t190⟩, A480, H⟩ := H
          replace H : (impl_equalOf.l0 kj19 (l0_3.length : Int) 0 a0_0 a0_1 a0_2 l0_3 a1_0 a1_1 a1_2 l1_3 t187 t188 t189 t190) = some (r1, r2, r3, r4) := H
          have A48 := Aside0.mk A480
          clear A480
          have H' := Aside0.mk H
          clear H
          go_wp2_with (first | ((with_reducible refine gate_callee (f := 87) rfl ?_); refine goesL_ (some 38) rfl rfl Try.func87 (by kernel_rfl) rfl #[.bool true] rfl ar_ ?_; (with_reducible refine (impl_yesOrNo.calls true t187 t188 t189 t190 _ A48.out).mono ?_); rintro e w49 ⟨v191, rfl, ho0, hb⟩; refine ⟨_, rfl, ?_⟩; have HO192 := Aside0.mk (Kd.R_lower (Kd.R_newB (Kd.R_newB (Kd.R_newB ho0 (g := gb177) (o := .cells #[.int .i64 a0_0, .int .i64 a0_1, .string a0_2, .slice A0_3 l0_3.length c0_3] 31 (0, 0)) (bk_ BK177)) (g := gb178) (o := .cells #[.int .i64 a1_0, .int .i64 a1_1, .string a1_2, .slice A1_3 l1_3.length c1_3] 31 (0, 0)) (bk_ BK178)) (g := gb179) (o := .cells #[.int .i64 0, .int .i64 0, .string (⟨#[]⟩ : ByteArray), .slice none 0 0] 31 (0, 0)) (bk_ BK179)) (below_size (bel_))); replace BK177 := bb_ BK177 hb; replace BK178 := bb_ BK178 hb; replace BK179 := bb_ BK179 hb; replace HB := bs_ hb; (try clear hb); (try clear hb2); (try clear hk); (try clear hi); (try clear ho0)) | ((with_reducible refine gate_dst (N := 5) rfl ?_); (try (refine gate_guard (by rfl) ?_; dsimp only)); refine box_event ?hg (N := 5) ?hd (cs := #[.int .i64 0, .int .i64 0, .string (⟨#[]⟩ : ByteArray), .slice none 0 0]) (t := 31) ?hr ?_; (case hd => rfl); (case hg => rfl); (case hr => first | (go_simp; done) | (go_simp; rfl)); intro gb193 hg w50 hbox hb; have BK193 := Aside0.mk (hbox); have GW193 := gw_ hg; have GE193 := gw_ hg; have NB177_193 := nlt_ hg BK177; have NB193_177 := ngt_ hg BK177; have NB178_193 := nlt_ hg BK178; have NB193_178 := ngt_ hg BK178; have NB179_193 := nlt_ hg BK179; have NB193_179 := ngt_ hg BK179; replace HO192 := Aside0.mk (Kd.R_below (Kd.R_elderB (by (with_reducible repeat (first | apply Kd.R_alloc | apply Kd.R_drewN | apply Kd.R_drew)); exact HO192.out) gb193 (Nat.le_of_eq hg.symm)) hb); replace BK177 := bb_ BK177 hb; replace BK178 := bb_ BK178 hb; replace BK179 := bb_ BK179 hb; replace HB := bs_ hb; clear hb hbox hg; have hnb51 := NB193_177.out; have hnc51 := NB177_193.out; have hnb52 := NB193_178.out; have hnc52 := NB178_193.out; have hnb53 := NB193_179.out; have hnc53 := NB179_193.out; obtain ⟨hcz54_0, hcz54_1, hcz54_2, hcz54_3, hfz54_0, hfz54_1, hfz54_2, hfz54_3⟩ := blk4 BK193; obtain ⟨Ao55, co55, eo55⟩ := Kd.R_slice HO192.out; subst eo55; have hnb56 := NB177_178.out; have hnc56 := NB178_177.out; have hnb57 := NB177_179.out; have hnc57 := NB179_177.out; obtain ⟨hcz58_0, hcz58_1, hcz58_2, hcz58_3, hfz58_0, hfz58_1, hfz58_2, hfz58_3⟩ := blk4 BK177))
          go_loopg [42] kj19 (fun kq v42 w' => ∃ (x42_3 : Int) (x180000_3 : Int) (x180001_3 : Int) (x180002_3 : ByteArray) (x194000_3 : Int) (x194001_3 : Int) (x194002_3 : ByteArray) (x194003_3 : List (S31)) (u194003 : Value), v42 = .int .i64 x42_3 ∧ Aside0 (impl_equalOf.l0 kq (l0_3.length : Int) x42_3 a0_0 a0_1 a0_2 l0_3 a1_0 a1_1 a1_2 l1_3 x194000_3 x194001_3 x194002_3 x194003_3 = some (r1, r2, r3, r4)) ∧ Aside0 (kq ≤ kj19) ∧ Aside0 (Kd.R k31 31 w' w.heap.size (fun k_ => k_ ≠ gb177 ∧ k_ ≠ gb178 ∧ k_ ≠ gb179 ∧ k_ ≠ gb193) u194003 x194003_3) ∧ Aside0 (w'.heap[gb177]? = some (.cells #[.int .i64 a0_0, .int .i64 a0_1, .string a0_2, (.slice A0_3 l0_3.length c0_3)] 31 (0, 0))) ∧ Aside0 (w'.heap[gb178]? = some (.cells #[.int .i64 a1_0, .int .i64 a1_1, .string a1_2, (.slice A1_3 l1_3.length c1_3)] 31 (0, 0))) ∧ Aside0 (w'.heap[gb179]? = some (.cells #[.int .i64 x180000_3, .int .i64 x180001_3, .string x180002_3, (.slice none 0 0)] 31 (0, 0))) ∧ Aside0 (w'.heap[gb193]? = some (.cells #[.int .i64 x194000_3, .int .i64 x194001_3, .string x194002_3, u194003] 31 (0, 0))) ∧ Aside0 (Below w.heap.size w w'))
          case atStart => exact ⟨(0), (0), (0), ((⟨#[]⟩ : ByteArray)), (t187), (t188), (t189), (t190), (.slice Ao55 t190.length co55), sm_, H', ⟨Nat.le_refl _⟩, ⟨by (with_reducible repeat (first | apply Kd.R_alloc | apply Kd.R_drewN | apply Kd.R_drew)); exact Kd.R_mono (rf4 gb193 (Kd.R_mono HO192.out (fun k_ hk => (⟨hk, hk.2⟩ : _ ∧ k_ ≠ gb193))) (fun _ hk => hk.2)) (fun _ hk => ⟨hk.1.1.1.1.2, ⟨hk.1.1.1.2, ⟨hk.1.1.2, hk.1.2⟩⟩⟩)⟩, ⟨by refine pe_ ?_; refine blk_far ?_ NB177_193.out _; refine pe_ ?_; refine blk_far ?_ NB177_193.out _; refine pe_ ?_; refine blk_far ?_ NB177_193.out _; refine pe_ ?_; refine blk_far ?_ NB177_193.out _; refine pe_ ?_; exact BK177.out⟩, ⟨by refine pe_ ?_; refine blk_far ?_ NB178_193.out _; refine pe_ ?_; refine blk_far ?_ NB178_193.out _; refine pe_ ?_; refine blk_far ?_ NB178_193.out _; refine pe_ ?_; refine blk_far ?_ NB178_193.out _; refine pe_ ?_; exact BK178.out⟩, ⟨by refine pe_ ?_; refine blk_far ?_ NB179_193.out _; refine pe_ ?_; refine blk_far ?_ NB179_193.out _; refine pe_ ?_; refine blk_far ?_ NB179_193.out _; refine pe_ ?_; refine blk_far ?_ NB179_193.out _; refine pe_ ?_; exact BK179.out⟩, ⟨by refine pe_ ?_; refine blk_put (cs := #[.int .i64 t187, .int .i64 t188, .string t189, .slice none 0 0]) ?_ 3 _ rfl; refine pe_ ?_; refine blk_put (cs := #[.int .i64 t187, .int .i64 t188, .string (⟨#[]⟩ : ByteArray), .slice none 0 0]) ?_ 2 _ rfl; refine pe_ ?_; refine blk_put (cs := #[.int .i64 t187, .int .i64 0, .string (⟨#[]⟩ : ByteArray), .slice none 0 0]) ?_ 1 _ rfl; refine pe_ ?_; refine blk_put (cs := #[.int .i64 0, .int .i64 0, .string (⟨#[]⟩ : ByteArray), .slice none 0 0]) ?_ 0 _ rfl; refine pe_ ?_; exact BK193.out⟩, ⟨bel_⟩⟩
          case round =>
            clear H'
            try clear c1
            try clear c2
            try clear p2
            try clear c3
            try clear c4
            try clear c5
            try clear c6
            try clear c7
            try clear c7b0
            try clear c7b1
            try clear c8
            try clear c9
            try clear c11
            try clear c12
            try clear c14
            try clear c16
            try clear c17
            try clear c18
            try clear c21
            try clear c21b0
            try clear c21b1
            try clear c22
            try clear c22b0
            try clear c22b1
            try clear c23
            try clear c24
            try clear c26
            try clear c28
            try clear c29
            try clear c31
            try clear c33
            try clear c34
            try clear c36
            try clear c39
            try clear c40
            try clear c42
            try clear c51
            try clear c52
            try clear c53
            try clear c56
            try clear c57
            try clear hcz10_0 hcz10_1 hcz10_2 hcz10_3
            try clear hcz13_0 hcz13_1 hcz13_2 hcz13_3
            try clear hcz15_0 hcz15_1 hcz15_2 hcz15_3
            try clear hcz19_0 hcz19_1 hcz19_2 hcz19_3
            try clear hcz25_0 hcz25_1 hcz25_2 hcz25_3
            try clear hcz27_0 hcz27_1 hcz27_2 hcz27_3
            try clear hcz30_0 hcz30_1 hcz30_2 hcz30_3
            try clear hcz32_0 hcz32_1 hcz32_2 hcz32_3
            try clear hcz35_0 hcz35_1 hcz35_2 hcz35_3
            try clear hcz41_0 hcz41_1 hcz41_2 hcz41_3
            try clear hcz43_0 hcz43_1 hcz43_2 hcz43_3
            try clear hcz46_0 hcz46_1 hcz46_2 hcz46_3
            try clear hcz54_0 hcz54_1 hcz54_2 hcz54_3
            try clear hcz58_0 hcz58_1 hcz58_2 hcz58_3
            try clear hfz10_0 hfz10_1 hfz10_2 hfz10_3
            try clear hfz13_0 hfz13_1 hfz13_2 hfz13_3
            try clear hfz15_0 hfz15_1 hfz15_2 hfz15_3
            try clear hfz19_0 hfz19_1 hfz19_2 hfz19_3
            try clear hfz25_0 hfz25_1 hfz25_2 hfz25_3
            try clear hfz27_0 hfz27_1 hfz27_2 hfz27_3
            try clear hfz30_0 hfz30_1 hfz30_2 hfz30_3
            try clear hfz32_0 hfz32_1 hfz32_2 hfz32_3
            try clear hfz35_0 hfz35_1 hfz35_2 hfz35_3
            try clear hfz41_0 hfz41_1 hfz41_2 hfz41_3
            try clear hfz43_0 hfz43_1 hfz43_2 hfz43_3
            try clear hfz46_0 hfz46_1 hfz46_2 hfz46_3
            try clear hfz54_0 hfz54_1 hfz54_2 hfz54_3
            try clear hfz58_0 hfz58_1 hfz58_2 hfz58_3
            try clear p2
            obtain ⟨x42_3, x180000_3, x180001_3, x180002_3, x194000_3, x194001_3, x194002_3, x194003_3, u194003, rfl, HA, HK3, HO_194003, BK177, BK178, BK179, BK193, HB⟩ := hrel
            cases gk with
            | zero => exact absurd HA.out (by simp [impl_equalOf.l0])
            | succ k3 =>
              have H := HA.out
              clear HA
              simp only [impl_equalOf.l0] at H
              by_cases c59 : x42_3 < (l0_3.length : Int)
              rotate_left
              · rw [if_neg c59] at H
                have c59b0 : decide (x42_3 < (l0_3.length : Int)) = false := decide_eq_false c59
                clear c59
                simp only [Option.some.injEq, Prod.mk.injEq] at H
                obtain ⟨rfl, rfl, rfl, rfl⟩ := H
                have hnb123 := NB193_177.out
                have hnc123 := NB177_193.out
                have hnb124 := NB193_178.out
                have hnc124 := NB178_193.out
                have hnb125 := NB193_179.out
                have hnc125 := NB179_193.out
                obtain ⟨hcz126_0, hcz126_1, hcz126_2, hcz126_3, hfz126_0, hfz126_1, hfz126_2, hfz126_3⟩ := blk4 BK193
                have hnb127 := NB179_177.out
                have hnc127 := NB177_179.out
                have hnb128 := NB179_178.out
                have hnc128 := NB178_179.out
                obtain ⟨hcz129_0, hcz129_1, hcz129_2, hcz129_3, hfz129_0, hfz129_1, hfz129_2, hfz129_3⟩ := blk4 BK179
                obtain ⟨Ao130, co130, eo130⟩ := Kd.R_slice HO_194003.out
                subst eo130
                go_wp2
                refine bodyPost_ret (results_cell_row rfl _ _ gb179 31 #[.int .i64 x194000_3, .int .i64 x194001_3, .string x194002_3, .slice Ao130 x194003_3.length co130] (0, 0) _ rfl (by refine pe_ ?_; refine blk_put (cs := #[.int .i64 x194000_3, .int .i64 x194001_3, .string x194002_3, .slice none 0 0]) ?_ 3 _ rfl; refine pe_ ?_; refine blk_put (cs := #[.int .i64 x194000_3, .int .i64 x194001_3, .string x180002_3, .slice none 0 0]) ?_ 2 _ rfl; refine pe_ ?_; refine blk_put (cs := #[.int .i64 x194000_3, .int .i64 x180001_3, .string x180002_3, .slice none 0 0]) ?_ 1 _ rfl; refine pe_ ?_; refine blk_put (cs := #[.int .i64 x180000_3, .int .i64 x180001_3, .string x180002_3, .slice none 0 0]) ?_ 0 _ rfl; refine pe_ ?_; exact BK179.out) Try.underlying31 rfl (by kernel_rfl)) rfl ?_
                exact ⟨_, by first | rfl | (simp [errW_none, errW_some] <;> rfl) | (simp [*, errW_none, errW_some] <;> rfl), by (with_reducible repeat (first | apply Kd.R_alloc | apply Kd.R_drewN | apply Kd.R_drew)); exact Kd.R_mono (rf4 gb179 (Kd.R_mono HO_194003.out (fun k_ hk => (⟨hk, hk.2.2.1⟩ : _ ∧ k_ ≠ gb179))) (fun _ hk => hk.2)) (fun _ hk => trivial), bel_⟩
              rw [if_pos c59] at H
              have c59b0 : decide (x42_3 < (l0_3.length : Int)) = true := decide_eq_true c59
              clear c59
              by_cases c60 : 0 ≤ x42_3
              rotate_left
              · rw [if_neg c60] at H
                exact absurd H (by simp)
              rw [if_pos c60] at H
              have c60b0 : decide (0 ≤ x42_3) = true := decide_eq_true c60
              clear c60
              by_cases c61 : x42_3 < (l0_3.length : Int)
              rotate_left
              · rw [if_neg c61] at H
                exact absurd H (by simp)
              rw [if_pos c61] at H
              have c61b0 : decide (x42_3 < (l0_3.length : Int)) = true := decide_eq_true c61
              clear c61
              by_cases c62 : x42_3 < (l1_3.length : Int)
              rotate_left
              · rw [if_neg c62] at H
                exact absurd H (by simp)
              rw [if_pos c62] at H
              have c62b0 : decide (x42_3 < (l1_3.length : Int)) = true := decide_eq_true c62
              clear c62
              replace H := Option.bind_eq_some_iff.mp H
              obtain ⟨⟨t196, t197, t198, t199⟩, A630, H⟩ := H
              replace H : ((impl_isNo.f t196 t197 t198 t199).bind fun t203 => (if t203 = true then (some (t196, t197, t198, t199)) else (if t196 = 0 then (impl_equalOf.l0 k3 (l0_3.length : Int) (wrap64 (x42_3 + 1)) a0_0 a0_1 a0_2 l0_3 a1_0 a1_1 a1_2 l1_3 t196 t197 t198 t199) else (impl_equalOf.l0 k3 (l0_3.length : Int) (wrap64 (x42_3 + 1)) a0_0 a0_1 a0_2 l0_3 a1_0 a1_1 a1_2 l1_3 x194000_3 x194001_3 x194002_3 x194003_3)))) = some (r1, r2, r3, r4) := H
              have A63 := Aside0.mk A630
              clear A630
              replace H := Option.bind_eq_some_iff.mp H
              obtain ⟨t203, A640, H⟩ := H
              replace H : (if t203 = true then (some (t196, t197, t198, t199)) else (if t196 = 0 then (impl_equalOf.l0 k3 (l0_3.length : Int) (wrap64 (x42_3 + 1)) a0_0 a0_1 a0_2 l0_3 a1_0 a1_1 a1_2 l1_3 t196 t197 t198 t199) else (impl_equalOf.l0 k3 (l0_3.length : Int) (wrap64 (x42_3 + 1)) a0_0 a0_1 a0_2 l0_3 a1_0 a1_1 a1_2 l1_3 x194000_3 x194001_3 x194002_3 x194003_3))) = some (r1, r2, r3, r4) := H
              have A64 := Aside0.mk A640
              clear A640
              by_cases c65 : t203 = true
              · subst c65
                have H1 : (some (t196, t197, t198, t199)) = some (r1, r2, r3, r4) := by rw [if_pos rfl] at H; exact H
                clear H
                have H := H1
                clear H1
                simp only [Option.some.injEq, Prod.mk.injEq] at H
                obtain ⟨rfl, rfl, rfl, rfl⟩ := H
                try go_wp2
                replace HO_194003 := Aside0.mk (Kd.R_drew HO_194003.out)
                replace BK177 := Aside0.mk (blk_drew BK177.out)
                replace BK178 := Aside0.mk (blk_drew BK178.out)
                replace BK179 := Aside0.mk (blk_drew BK179.out)
                replace BK193 := Aside0.mk (blk_drew BK193.out)
                replace HB := Aside0.mk (below_drew1 HB.out)
                have p194 : 0 ≤ (x42_3 : Int) := od_
                have q194 : x42_3 < (l0_3.length : Int) := od_
                obtain ⟨ad194, A194_3, c194_3, e194, hx194_0, hx194_1, hx194_2, hx194_3, hl194_3, hi194_3⟩ := at_T31 HR0_3.out x42_3 p194 q194
                have hw194_3 := hx194_3
                have hw194_2 := hx194_2
                have hw194_1 := hx194_1
                have hw194_0 := hx194_0
                cases e194
                replace hx194_0 := mv_ HB hx194_0
                replace hx194_1 := mv_ HB hx194_1
                replace hx194_2 := mv_ HB hx194_2
                replace hx194_3 := mv_ HB hx194_3
                have HR194_3 := Aside0.mk hi194_3
                have HC194_3 := Aside0.mk hl194_3
                clear hi194_3 hl194_3
                replace p194 := eq_true p194
                replace q194 := eq_true q194
                have p195 : 0 ≤ (x42_3 : Int) := od_
                have q195 : x42_3 < (l1_3.length : Int) := od_
                obtain ⟨ad195, A195_3, c195_3, e195, hx195_0, hx195_1, hx195_2, hx195_3, hl195_3, hi195_3⟩ := at_T31 HR1_3.out x42_3 p195 q195
                have hw195_3 := hx195_3
                have hw195_2 := hx195_2
                have hw195_1 := hx195_1
                have hw195_0 := hx195_0
                cases e195
                replace hx195_0 := mv_ HB hx195_0
                replace hx195_1 := mv_ HB hx195_1
                replace hx195_2 := mv_ HB hx195_2
                replace hx195_3 := mv_ HB hx195_3
                have HR195_3 := Aside0.mk hi195_3
                have HC195_3 := Aside0.mk hl195_3
                clear hi195_3 hl195_3
                replace p195 := eq_true p195
                replace q195 := eq_true q195
                refine start_ (n := 13) (S := fun w' => w'.cell? ⟨gb177, 0, none⟩ = some (.int .i64 a0_0) ∧ w'.cell? ⟨gb177, 1, none⟩ = some (.int .i64 a0_1) ∧ w'.cell? ⟨gb177, 2, none⟩ = some (.string a0_2) ∧ w'.cell? ⟨gb177, 3, none⟩ = some (.slice (some ad194) l0_3.length c0_3) ∧ w'.cell? ⟨gb178, 0, none⟩ = some (.int .i64 a1_0) ∧ w'.cell? ⟨gb178, 1, none⟩ = some (.int .i64 a1_1) ∧ w'.cell? ⟨gb178, 2, none⟩ = some (.string a1_2) ∧ w'.cell? ⟨gb178, 3, none⟩ = some (.slice (some ad195) l1_3.length c1_3) ∧ w'.cell? (ad194.add ((x42_3).toNat * 4)) = some (.int .i64 ((rd_T31 l0_3 x42_3).f0)) ∧ w'.cell? ⟨(ad194.add ((x42_3).toNat * 4)).block, (ad194.add ((x42_3).toNat * 4)).off + 1, none⟩ = some (.int .i64 ((rd_T31 l0_3 x42_3).f1)) ∧ w'.cell? ⟨(ad194.add ((x42_3).toNat * 4)).block, (ad194.add ((x42_3).toNat * 4)).off + 2, none⟩ = some (.string ((rd_T31 l0_3 x42_3).f2)) ∧ w'.cell? ⟨(ad194.add ((x42_3).toNat * 4)).block, (ad194.add ((x42_3).toNat * 4)).off + 3, none⟩ = some (.slice A194_3 ((rd_T31 l0_3 x42_3).f3).length c194_3) ∧ w'.cell? (ad195.add ((x42_3).toNat * 4)) = some (.int .i64 ((rd_T31 l1_3 x42_3).f0)) ∧ w'.cell? ⟨(ad195.add ((x42_3).toNat * 4)).block, (ad195.add ((x42_3).toNat * 4)).off + 1, none⟩ = some (.int .i64 ((rd_T31 l1_3 x42_3).f1)) ∧ w'.cell? ⟨(ad195.add ((x42_3).toNat * 4)).block, (ad195.add ((x42_3).toNat * 4)).off + 2, none⟩ = some (.string ((rd_T31 l1_3 x42_3).f2)) ∧ w'.cell? ⟨(ad195.add ((x42_3).toNat * 4)).block, (ad195.add ((x42_3).toNat * 4)).off + 3, none⟩ = some (.slice A195_3 ((rd_T31 l1_3 x42_3).f3).length c195_3)) (ds := []) #[false, false, false, false, false, false, false, false, false, false, false, false, false] (by kernel_rfl) rfl rfl ⟨(blkc BK177 0), (blkc BK177 1), (blkc BK177 2), (blkc BK177 3), (blkc BK178 0), (blkc BK178 1), (blkc BK178 2), (blkc BK178 3), (mv_ HB hw194_0), (mv_ HB hw194_1), (mv_ HB hw194_2), (mv_ HB hw194_3), (mv_ HB hw195_0), (mv_ HB hw195_1), (mv_ HB hw195_2), (mv_ HB hw195_3)⟩ (fun hHeld => ?_); refine with_tabW impl_equalOf.tab9 impl_equalOf.bits9 (fun HT_ HW_ => ?_)
                generalize wr.drew = w66 at HO_194003 BK177 BK178 BK179 BK193 HB HR194_3 HR195_3 hx194_0 hx194_1 hx194_2 hx194_3 hx195_0 hx195_1 hx195_2 hx195_3 hHeld ⊢
                refine puA 0 (some 45) ?_
                refine puA 2 (some 47) ?_
                refine puA 5 (some 50) ?_
                refine puA 7 (some 52) ?_
                refine taA 1 (some 46) ?_
                refine puA 3 (some 48) ?_
                refine taA 4 (some 49) ?_
                refine taA 6 (some 51) ?_
                refine puA 8 (some 53) ?_
                refine taA 9 (some 54) ?_
                refine join_ (σ := Value × Nat) 1 #[true, true, true, true, true, true, true, true, true, true, true, true, false] (fun s_ => [(55, .agg #[.int .i64 t196, .int .i64 t197, .string t198, s_.1]), (7, .pointer (some ⟨s_.2, 0, none⟩))]) (fun s_ w' => (w'.cell? ⟨gb177, 0, none⟩ = some (.int .i64 a0_0) ∧ w'.cell? ⟨gb177, 1, none⟩ = some (.int .i64 a0_1) ∧ w'.cell? ⟨gb177, 2, none⟩ = some (.string a0_2) ∧ w'.cell? ⟨gb177, 3, none⟩ = some (.slice (some ad194) l0_3.length c0_3) ∧ w'.cell? ⟨gb178, 0, none⟩ = some (.int .i64 a1_0) ∧ w'.cell? ⟨gb178, 1, none⟩ = some (.int .i64 a1_1) ∧ w'.cell? ⟨gb178, 2, none⟩ = some (.string a1_2) ∧ w'.cell? ⟨gb178, 3, none⟩ = some (.slice (some ad195) l1_3.length c1_3) ∧ w'.cell? (ad194.add ((x42_3).toNat * 4)) = some (.int .i64 ((rd_T31 l0_3 x42_3).f0)) ∧ w'.cell? ⟨(ad194.add ((x42_3).toNat * 4)).block, (ad194.add ((x42_3).toNat * 4)).off + 1, none⟩ = some (.int .i64 ((rd_T31 l0_3 x42_3).f1)) ∧ w'.cell? ⟨(ad194.add ((x42_3).toNat * 4)).block, (ad194.add ((x42_3).toNat * 4)).off + 2, none⟩ = some (.string ((rd_T31 l0_3 x42_3).f2)) ∧ w'.cell? ⟨(ad194.add ((x42_3).toNat * 4)).block, (ad194.add ((x42_3).toNat * 4)).off + 3, none⟩ = some (.slice A194_3 ((rd_T31 l0_3 x42_3).f3).length c194_3) ∧ w'.cell? (ad195.add ((x42_3).toNat * 4)) = some (.int .i64 ((rd_T31 l1_3 x42_3).f0)) ∧ w'.cell? ⟨(ad195.add ((x42_3).toNat * 4)).block, (ad195.add ((x42_3).toNat * 4)).off + 1, none⟩ = some (.int .i64 ((rd_T31 l1_3 x42_3).f1)) ∧ w'.cell? ⟨(ad195.add ((x42_3).toNat * 4)).block, (ad195.add ((x42_3).toNat * 4)).off + 2, none⟩ = some (.string ((rd_T31 l1_3 x42_3).f2)) ∧ w'.cell? ⟨(ad195.add ((x42_3).toNat * 4)).block, (ad195.add ((x42_3).toNat * 4)).off + 3, none⟩ = some (.slice A195_3 ((rd_T31 l1_3 x42_3).f3).length c195_3)) ∧ (Kd.R k31 31 w' w.heap.size (fun k_ => some k_ ≠ (u194003 : Value).ownBlock ∧ k_ ≠ gb177 ∧ k_ ≠ gb178 ∧ k_ ≠ gb179 ∧ k_ ≠ gb193 ∧ k_ ≠ s_.2) s_.1 t199) ∧ (Kd.R k31 31 w' w.heap.size (fun k_ => some k_ ≠ (s_.1 : Value).ownBlock ∧ k_ ≠ gb177 ∧ k_ ≠ gb178 ∧ k_ ≠ gb179 ∧ k_ ≠ gb193 ∧ k_ ≠ s_.2) u194003 x194003_3) ∧ (w'.heap[gb177]? = some (.cells #[.int .i64 a0_0, .int .i64 a0_1, .string a0_2, .slice (some ad194) l0_3.length c0_3] 31 (0, 0))) ∧ (w'.heap[gb178]? = some (.cells #[.int .i64 a1_0, .int .i64 a1_1, .string a1_2, .slice (some ad195) l1_3.length c1_3] 31 (0, 0))) ∧ (w'.heap[gb179]? = some (.cells #[.int .i64 x180000_3, .int .i64 x180001_3, .string x180002_3, .slice none 0 0] 31 (0, 0))) ∧ (w'.heap[gb193]? = some (.cells #[.int .i64 x194000_3, .int .i64 x194001_3, .string x194002_3, u194003] 31 (0, 0))) ∧ (w'.heap[s_.2]? = some (.cells #[.int .i64 0, .int .i64 0, .string (⟨#[]⟩ : ByteArray), .slice none 0 0] 31 (0, 0))) ∧ (w.heap.size ≤ s_.2) ∧ (w.heap.size ≤ s_.2) ∧ (gb177 ≠ s_.2) ∧ (s_.2 ≠ gb177) ∧ (gb178 ≠ s_.2) ∧ (s_.2 ≠ gb178) ∧ (gb179 ≠ s_.2) ∧ (s_.2 ≠ gb179) ∧ (gb193 ≠ s_.2) ∧ (s_.2 ≠ gb193) ∧ (Below w.heap.size w w')) ?_ ?_
                rotate_left
                · intro hCont
                  refine two_ (i := 10) (j := 11) (Ni := some 55) (Nj := some 7) #[true, true, true, true, true, true, true, true, true, true, true, false, false] #[true, true, true, true, true, true, true, true, true, true, false, true, false] rfl rfl rfl rfl (two_of HT_.out (by kernel_rfl)) (by decide) (by decide) (fun K hK => ?_) (fun K hK => ?_)
                  · skip
                    refine goes_ Try.func69 (by kernel_rfl) rfl #[.agg #[.int .i64 ((rd_T31 l0_3 x42_3).f0), .int .i64 ((rd_T31 l0_3 x42_3).f1), .string ((rd_T31 l0_3 x42_3).f2), .slice A194_3 ((rd_T31 l0_3 x42_3).f3).length c194_3], .agg #[.int .i64 ((rd_T31 l1_3 x42_3).f0), .int .i64 ((rd_T31 l1_3 x42_3).f1), .string ((rd_T31 l1_3 x42_3).f2), .slice A195_3 ((rd_T31 l1_3 x42_3).f3).length c195_3]] (by rfl) rfl rfl ar_ ?_
                    with_reducible refine (ih k3 (by have := HJ2.out; have := HJ19.out; have := HK3.out; omega) ((rd_T31 l0_3 x42_3).f0) ((rd_T31 l0_3 x42_3).f1) ((rd_T31 l0_3 x42_3).f2) _ _ ((rd_T31 l0_3 x42_3).f3) ((rd_T31 l1_3 x42_3).f0) ((rd_T31 l1_3 x42_3).f1) ((rd_T31 l1_3 x42_3).f2) _ _ ((rd_T31 l1_3 x42_3).f3) t196 t197 t198 t199 _ ?side1 ?side2 ?side3 ?side4 A63.out).mono ?_
                    (case side1 => exact rdb_ HR194_3)
                    (case side2 => exact HC194_3.out)
                    (case side3 => exact rdb_ HR195_3)
                    (case side4 => exact HC195_3.out)
                    rintro e w67 ⟨v200, rfl, ho0, hb⟩
                    refine ⟨_, rfl, ?_⟩
                    have HO201 := Aside0.mk (Kd.R_lower (Kd.R_newB (Kd.R_newB (Kd.R_newB (Kd.R_newB (Kd.R_new' ho0 (Kd.R_lt (by (with_reducible repeat (first | apply Kd.R_alloc | apply Kd.R_drewN | apply Kd.R_drew)); exact HO_194003.out))) (g := gb177) (o := .cells #[.int .i64 a0_0, .int .i64 a0_1, .string a0_2, .slice (some ad194) l0_3.length c0_3] 31 (0, 0)) (bk_ BK177)) (g := gb178) (o := .cells #[.int .i64 a1_0, .int .i64 a1_1, .string a1_2, .slice (some ad195) l1_3.length c1_3] 31 (0, 0)) (bk_ BK178)) (g := gb179) (o := .cells #[.int .i64 x180000_3, .int .i64 x180001_3, .string x180002_3, .slice none 0 0] 31 (0, 0)) (bk_ BK179)) (g := gb193) (o := .cells #[.int .i64 x194000_3, .int .i64 x194001_3, .string x194002_3, u194003] 31 (0, 0)) (bk_ BK193)) (below_size (bel_)))
                    replace HO_194003 := Aside0.mk (Kd.R_elder' (by (with_reducible repeat (first | apply Kd.R_alloc | apply Kd.R_drewN | apply Kd.R_drew)); exact HO_194003.out) (Kd.R_base ho0) hb)
                    replace BK177 := bb_ BK177 hb
                    replace BK178 := bb_ BK178 hb
                    replace BK179 := bb_ BK179 hb
                    replace BK193 := bb_ BK193 hb
                    replace HB := bs_ hb
                    (try clear hb)
                    (try clear hb2)
                    (try clear hk)
                    (try clear hi)
                    (try clear ho0)
                    refine hK.out _ _ ⟨(blkc BK177 0), (blkc BK177 1), (blkc BK177 2), (blkc BK177 3), (blkc BK178 0), (blkc BK178 1), (blkc BK178 2), (blkc BK178 3), (mv_ HB hw194_0), (mv_ HB hw194_1), (mv_ HB hw194_2), (mv_ HB hw194_3), (mv_ HB hw195_0), (mv_ HB hw195_1), (mv_ HB hw195_2), (mv_ HB hw195_3)⟩ (fun hHeld => ?_)
                    clear hK K
                    refine norm_ (a' := ?_) ?_ ?_
                    rotate_left
                    · show Act.put _ (some 55) _ = _
                      simp only [Act.put, List.setIfInBounds_toArray, List.set_cons_zero, List.set_cons_succ, i64_w, i32_w]
                      rfl
                    refine one_ (i := 11) (N := some 7) #[true, true, true, true, true, true, true, true, true, true, true, true, false] rfl rfl (one_of HT_.out (by kernel_rfl)) (by decide) (fun K hK => ?_)
                    refine box_step ?hg (N := 7) ?hd (cs := #[.int .i64 0, .int .i64 0, .string (⟨#[]⟩ : ByteArray), .slice none 0 0]) (t := 31) ?hr ?_; (case hd => rfl); (case hg => rfl); (case hr => first | (go_simp; done) | (go_simp; rfl))
                    intro gb202 hg w68 hbox hb
                    have BK202 := Aside0.mk (hbox)
                    have GW202 := gw_ hg
                    have GE202 := gw_ hg
                    have NB177_202 := nlt_ hg BK177
                    have NB202_177 := ngt_ hg BK177
                    have NB178_202 := nlt_ hg BK178
                    have NB202_178 := ngt_ hg BK178
                    have NB179_202 := nlt_ hg BK179
                    have NB202_179 := ngt_ hg BK179
                    have NB193_202 := nlt_ hg BK193
                    have NB202_193 := ngt_ hg BK193
                    replace HO_194003 := Aside0.mk (Kd.R_below (Kd.R_elderB (by (with_reducible repeat (first | apply Kd.R_alloc | apply Kd.R_drewN | apply Kd.R_drew)); exact HO_194003.out) gb202 (Nat.le_of_eq hg.symm)) hb)
                    replace HO201 := Aside0.mk (Kd.R_below (Kd.R_elderB (by (with_reducible repeat (first | apply Kd.R_alloc | apply Kd.R_drewN | apply Kd.R_drew)); exact HO201.out) gb202 (Nat.le_of_eq hg.symm)) hb)
                    replace BK177 := bb_ BK177 hb
                    replace BK178 := bb_ BK178 hb
                    replace BK179 := bb_ BK179 hb
                    replace BK193 := bb_ BK193 hb
                    replace HB := bs_ hb
                    clear hb hbox hg
                    refine hK.out _ _ ⟨(blkc BK177 0), (blkc BK177 1), (blkc BK177 2), (blkc BK177 3), (blkc BK178 0), (blkc BK178 1), (blkc BK178 2), (blkc BK178 3), (mv_ HB hw194_0), (mv_ HB hw194_1), (mv_ HB hw194_2), (mv_ HB hw194_3), (mv_ HB hw195_0), (mv_ HB hw195_1), (mv_ HB hw195_2), (mv_ HB hw195_3)⟩ (fun hHeld => ?_)
                    clear hK K
                    refine norm_ (a' := ?_) ?_ ?_
                    rotate_left
                    · show Act.put _ (some 7) _ = _
                      simp only [Act.put, List.setIfInBounds_toArray, List.set_cons_zero, List.set_cons_succ, i64_w, i32_w]
                      rfl
                    exact norm_ (by simp only [putAll, Act.put, List.setIfInBounds_toArray, List.set_cons_zero, List.set_cons_succ]) (hCont (v200, gb202) _ ⟨hHeld, (by (with_reducible repeat (first | apply Kd.R_alloc | apply Kd.R_drewN | apply Kd.R_drew)); exact Kd.R_mono HO201.out (fun _ hk => ⟨hk.1.1.1.1.1.2, ⟨hk.1.1.1.1.2, ⟨hk.1.1.1.2, ⟨hk.1.1.2, ⟨hk.1.2, hk.2⟩⟩⟩⟩⟩)), (by (with_reducible repeat (first | apply Kd.R_alloc | apply Kd.R_drewN | apply Kd.R_drew)); exact Kd.R_mono HO_194003.out (fun _ hk => ⟨hk.1.2, ⟨hk.1.1.1, ⟨hk.1.1.2.1, ⟨hk.1.1.2.2.1, ⟨hk.1.1.2.2.2, hk.2⟩⟩⟩⟩⟩)), (bk_ BK177), (bk_ BK178), (bk_ BK179), (bk_ BK193), (bk_ BK202), GW202.out, GE202.out, NB177_202.out, NB202_177.out, NB178_202.out, NB202_178.out, NB179_202.out, NB202_179.out, NB193_202.out, NB202_193.out, (bel_)⟩)
                  skip
                  refine box_step ?hg (N := 7) ?hd (cs := #[.int .i64 0, .int .i64 0, .string (⟨#[]⟩ : ByteArray), .slice none 0 0]) (t := 31) ?hr ?_; (case hd => rfl); (case hg => rfl); (case hr => first | (go_simp; done) | (go_simp; rfl))
                  intro gb202 hg w67 hbox hb
                  have BK202 := Aside0.mk (hbox)
                  have GW202 := gw_ hg
                  have GE202 := gw_ hg
                  have NB177_202 := nlt_ hg BK177
                  have NB202_177 := ngt_ hg BK177
                  have NB178_202 := nlt_ hg BK178
                  have NB202_178 := ngt_ hg BK178
                  have NB179_202 := nlt_ hg BK179
                  have NB202_179 := ngt_ hg BK179
                  have NB193_202 := nlt_ hg BK193
                  have NB202_193 := ngt_ hg BK193
                  replace HO_194003 := Aside0.mk (Kd.R_below (Kd.R_elderB (by (with_reducible repeat (first | apply Kd.R_alloc | apply Kd.R_drewN | apply Kd.R_drew)); exact HO_194003.out) gb202 (Nat.le_of_eq hg.symm)) hb)
                  replace BK177 := bb_ BK177 hb
                  replace BK178 := bb_ BK178 hb
                  replace BK179 := bb_ BK179 hb
                  replace BK193 := bb_ BK193 hb
                  replace HB := bs_ hb
                  clear hb hbox hg
                  refine hK.out _ _ ⟨(blkc BK177 0), (blkc BK177 1), (blkc BK177 2), (blkc BK177 3), (blkc BK178 0), (blkc BK178 1), (blkc BK178 2), (blkc BK178 3), (mv_ HB hw194_0), (mv_ HB hw194_1), (mv_ HB hw194_2), (mv_ HB hw194_3), (mv_ HB hw195_0), (mv_ HB hw195_1), (mv_ HB hw195_2), (mv_ HB hw195_3)⟩ (fun hHeld => ?_)
                  clear hK K
                  refine norm_ (a' := ?_) ?_ ?_
                  rotate_left
                  · show Act.put _ (some 7) _ = _
                    simp only [Act.put, List.setIfInBounds_toArray, List.set_cons_zero, List.set_cons_succ, i64_w, i32_w]
                    rfl
                  refine one_ (i := 10) (N := some 55) #[true, true, true, true, true, true, true, true, true, true, true, true, false] rfl rfl (one_of HT_.out (by kernel_rfl)) (by decide) (fun K hK => ?_)
                  refine goes_ Try.func69 (by kernel_rfl) rfl #[.agg #[.int .i64 ((rd_T31 l0_3 x42_3).f0), .int .i64 ((rd_T31 l0_3 x42_3).f1), .string ((rd_T31 l0_3 x42_3).f2), .slice A194_3 ((rd_T31 l0_3 x42_3).f3).length c194_3], .agg #[.int .i64 ((rd_T31 l1_3 x42_3).f0), .int .i64 ((rd_T31 l1_3 x42_3).f1), .string ((rd_T31 l1_3 x42_3).f2), .slice A195_3 ((rd_T31 l1_3 x42_3).f3).length c195_3]] (by rfl) rfl rfl ar_ ?_
                  with_reducible refine (ih k3 (by have := HJ2.out; have := HJ19.out; have := HK3.out; omega) ((rd_T31 l0_3 x42_3).f0) ((rd_T31 l0_3 x42_3).f1) ((rd_T31 l0_3 x42_3).f2) _ _ ((rd_T31 l0_3 x42_3).f3) ((rd_T31 l1_3 x42_3).f0) ((rd_T31 l1_3 x42_3).f1) ((rd_T31 l1_3 x42_3).f2) _ _ ((rd_T31 l1_3 x42_3).f3) t196 t197 t198 t199 _ ?side1 ?side2 ?side3 ?side4 A63.out).mono ?_
                  (case side1 => exact rdb_ HR194_3)
                  (case side2 => exact HC194_3.out)
                  (case side3 => exact rdb_ HR195_3)
                  (case side4 => exact HC195_3.out)
                  rintro e w68 ⟨v200, rfl, ho0, hb⟩
                  refine ⟨_, rfl, ?_⟩
                  have HO201 := Aside0.mk (Kd.R_lower (Kd.R_newB (Kd.R_newB (Kd.R_newB (Kd.R_newB (Kd.R_newB (Kd.R_new' ho0 (Kd.R_lt (by (with_reducible repeat (first | apply Kd.R_alloc | apply Kd.R_drewN | apply Kd.R_drew)); exact HO_194003.out))) (g := gb177) (o := .cells #[.int .i64 a0_0, .int .i64 a0_1, .string a0_2, .slice (some ad194) l0_3.length c0_3] 31 (0, 0)) (bk_ BK177)) (g := gb178) (o := .cells #[.int .i64 a1_0, .int .i64 a1_1, .string a1_2, .slice (some ad195) l1_3.length c1_3] 31 (0, 0)) (bk_ BK178)) (g := gb179) (o := .cells #[.int .i64 x180000_3, .int .i64 x180001_3, .string x180002_3, .slice none 0 0] 31 (0, 0)) (bk_ BK179)) (g := gb193) (o := .cells #[.int .i64 x194000_3, .int .i64 x194001_3, .string x194002_3, u194003] 31 (0, 0)) (bk_ BK193)) (g := gb202) (o := .cells #[.int .i64 0, .int .i64 0, .string (⟨#[]⟩ : ByteArray), .slice none 0 0] 31 (0, 0)) (bk_ BK202)) (below_size (bel_)))
                  replace HO_194003 := Aside0.mk (Kd.R_elder' (by (with_reducible repeat (first | apply Kd.R_alloc | apply Kd.R_drewN | apply Kd.R_drew)); exact HO_194003.out) (Kd.R_base ho0) hb)
                  replace BK177 := bb_ BK177 hb
                  replace BK178 := bb_ BK178 hb
                  replace BK179 := bb_ BK179 hb
                  replace BK193 := bb_ BK193 hb
                  replace BK202 := bb_ BK202 hb
                  replace HB := bs_ hb
                  (try clear hb)
                  (try clear hb2)
                  (try clear hk)
                  (try clear hi)
                  (try clear ho0)
                  refine hK.out _ _ ⟨(blkc BK177 0), (blkc BK177 1), (blkc BK177 2), (blkc BK177 3), (blkc BK178 0), (blkc BK178 1), (blkc BK178 2), (blkc BK178 3), (mv_ HB hw194_0), (mv_ HB hw194_1), (mv_ HB hw194_2), (mv_ HB hw194_3), (mv_ HB hw195_0), (mv_ HB hw195_1), (mv_ HB hw195_2), (mv_ HB hw195_3)⟩ (fun hHeld => ?_)
                  clear hK K
                  refine norm_ (a' := ?_) ?_ ?_
                  rotate_left
                  · show Act.put _ (some 55) _ = _
                    simp only [Act.put, List.setIfInBounds_toArray, List.set_cons_zero, List.set_cons_succ, i64_w, i32_w]
                    rfl
                  exact norm_ (by simp only [putAll, Act.put, List.setIfInBounds_toArray, List.set_cons_zero, List.set_cons_succ]) (hCont (v200, gb202) _ ⟨hHeld, (by (with_reducible repeat (first | apply Kd.R_alloc | apply Kd.R_drewN | apply Kd.R_drew)); exact Kd.R_mono HO201.out (fun _ hk => ⟨hk.1.1.1.1.1.2, ⟨hk.1.1.1.1.2, ⟨hk.1.1.1.2, ⟨hk.1.1.2, ⟨hk.1.2, hk.2⟩⟩⟩⟩⟩)), (by (with_reducible repeat (first | apply Kd.R_alloc | apply Kd.R_drewN | apply Kd.R_drew)); exact Kd.R_mono HO_194003.out (fun _ hk => ⟨hk.2, ⟨hk.1.1.1, ⟨hk.1.1.2.1, ⟨hk.1.1.2.2.1, ⟨hk.1.1.2.2.2, hk.1.2⟩⟩⟩⟩⟩)), (bk_ BK177), (bk_ BK178), (bk_ BK179), (bk_ BK193), (bk_ BK202), GW202.out, GE202.out, NB177_202.out, NB202_177.out, NB178_202.out, NB202_178.out, NB179_202.out, NB202_179.out, NB193_202.out, NB202_193.out, (bel_)⟩)
                rintro ⟨v200, gb202⟩ w69 ⟨hS_, h0_, h1_, h2_, h3_, h4_, h5_, h6_, h7_, h8_, h9_, h10_, h11_, h12_, h13_, h14_, h15_, h16_, h17_⟩
                have n0_ : Aside0 (Kd.R k31 31 w69 w.heap.size (fun k_ => some k_ ≠ (u194003 : Value).ownBlock ∧ k_ ≠ gb177 ∧ k_ ≠ gb178 ∧ k_ ≠ gb179 ∧ k_ ≠ gb193 ∧ k_ ≠ gb202) v200 t199) := ⟨h0_⟩
                have n1_ : Aside0 (Kd.R k31 31 w69 w.heap.size (fun k_ => some k_ ≠ (v200 : Value).ownBlock ∧ k_ ≠ gb177 ∧ k_ ≠ gb178 ∧ k_ ≠ gb179 ∧ k_ ≠ gb193 ∧ k_ ≠ gb202) u194003 x194003_3) := ⟨h1_⟩
                have n2_ : Aside0 (w69.heap[gb177]? = some (.cells #[.int .i64 a0_0, .int .i64 a0_1, .string a0_2, .slice (some ad194) l0_3.length c0_3] 31 (0, 0))) := ⟨h2_⟩
                have n3_ : Aside0 (w69.heap[gb178]? = some (.cells #[.int .i64 a1_0, .int .i64 a1_1, .string a1_2, .slice (some ad195) l1_3.length c1_3] 31 (0, 0))) := ⟨h3_⟩
                have n4_ : Aside0 (w69.heap[gb179]? = some (.cells #[.int .i64 x180000_3, .int .i64 x180001_3, .string x180002_3, .slice none 0 0] 31 (0, 0))) := ⟨h4_⟩
                have n5_ : Aside0 (w69.heap[gb193]? = some (.cells #[.int .i64 x194000_3, .int .i64 x194001_3, .string x194002_3, u194003] 31 (0, 0))) := ⟨h5_⟩
                have n6_ : Aside0 (w69.heap[gb202]? = some (.cells #[.int .i64 0, .int .i64 0, .string (⟨#[]⟩ : ByteArray), .slice none 0 0] 31 (0, 0))) := ⟨h6_⟩
                have n7_ : Aside0 (w.heap.size ≤ gb202) := ⟨h7_⟩
                have n8_ : Aside0 (w.heap.size ≤ gb202) := ⟨h8_⟩
                have n9_ : Aside0 (gb177 ≠ gb202) := ⟨h9_⟩
                have n10_ : Aside0 (gb202 ≠ gb177) := ⟨h10_⟩
                have n11_ : Aside0 (gb178 ≠ gb202) := ⟨h11_⟩
                have n12_ : Aside0 (gb202 ≠ gb178) := ⟨h12_⟩
                have n13_ : Aside0 (gb179 ≠ gb202) := ⟨h13_⟩
                have n14_ : Aside0 (gb202 ≠ gb179) := ⟨h14_⟩
                have n15_ : Aside0 (gb193 ≠ gb202) := ⟨h15_⟩
                have n16_ : Aside0 (gb202 ≠ gb193) := ⟨h16_⟩
                have n17_ : Aside0 (Below w.heap.size w w69) := ⟨h17_⟩
                clear HO_194003
                clear BK177
                clear BK178
                clear BK179
                clear BK193
                clear HB
                clear h0_ h1_ h2_ h3_ h4_ h5_ h6_ h7_ h8_ h9_ h10_ h11_ h12_ h13_ h14_ h15_ h16_ h17_
                have HO201 := n0_
                have HO_194003 := n1_
                have BK177 := n2_
                have BK178 := n3_
                have BK179 := n4_
                have BK193 := n5_
                have BK202 := n6_
                have GW202 := n7_
                have GE202 := n8_
                have NB177_202 := n9_
                have NB202_177 := n10_
                have NB178_202 := n11_
                have NB202_178 := n12_
                have NB179_202 := n13_
                have NB202_179 := n14_
                have NB193_202 := n15_
                have NB202_193 := n16_
                have HB := n17_
                clear n0_ n1_ n2_ n3_ n4_ n5_ n6_ n7_ n8_ n9_ n10_ n11_ n12_ n13_ n14_ n15_ n16_ n17_
                have hHeld : w69.cell? ⟨gb177, 0, none⟩ = some (.int .i64 a0_0) ∧ w69.cell? ⟨gb177, 1, none⟩ = some (.int .i64 a0_1) ∧ w69.cell? ⟨gb177, 2, none⟩ = some (.string a0_2) ∧ w69.cell? ⟨gb177, 3, none⟩ = some (.slice (some ad194) l0_3.length c0_3) ∧ w69.cell? ⟨gb178, 0, none⟩ = some (.int .i64 a1_0) ∧ w69.cell? ⟨gb178, 1, none⟩ = some (.int .i64 a1_1) ∧ w69.cell? ⟨gb178, 2, none⟩ = some (.string a1_2) ∧ w69.cell? ⟨gb178, 3, none⟩ = some (.slice (some ad195) l1_3.length c1_3) ∧ w69.cell? (ad194.add ((x42_3).toNat * 4)) = some (.int .i64 ((rd_T31 l0_3 x42_3).f0)) ∧ w69.cell? ⟨(ad194.add ((x42_3).toNat * 4)).block, (ad194.add ((x42_3).toNat * 4)).off + 1, none⟩ = some (.int .i64 ((rd_T31 l0_3 x42_3).f1)) ∧ w69.cell? ⟨(ad194.add ((x42_3).toNat * 4)).block, (ad194.add ((x42_3).toNat * 4)).off + 2, none⟩ = some (.string ((rd_T31 l0_3 x42_3).f2)) ∧ w69.cell? ⟨(ad194.add ((x42_3).toNat * 4)).block, (ad194.add ((x42_3).toNat * 4)).off + 3, none⟩ = some (.slice A194_3 ((rd_T31 l0_3 x42_3).f3).length c194_3) ∧ w69.cell? (ad195.add ((x42_3).toNat * 4)) = some (.int .i64 ((rd_T31 l1_3 x42_3).f0)) ∧ w69.cell? ⟨(ad195.add ((x42_3).toNat * 4)).block, (ad195.add ((x42_3).toNat * 4)).off + 1, none⟩ = some (.int .i64 ((rd_T31 l1_3 x42_3).f1)) ∧ w69.cell? ⟨(ad195.add ((x42_3).toNat * 4)).block, (ad195.add ((x42_3).toNat * 4)).off + 2, none⟩ = some (.string ((rd_T31 l1_3 x42_3).f2)) ∧ w69.cell? ⟨(ad195.add ((x42_3).toNat * 4)).block, (ad195.add ((x42_3).toNat * 4)).off + 3, none⟩ = some (.slice A195_3 ((rd_T31 l1_3 x42_3).f3).length c195_3) := hS_
                obtain ⟨Ao73, co73, eo73⟩ := Kd.R_slice HO201.out
                (first | subst eo73 | (injection eo73 with f1_ f2_ f3_; have f4_ := f1_.symm; have f5_ := f3_.symm; clear f1_ f2_ f3_; subst f4_; subst f5_))
                refine norm_ (a' := ?_) ?_ ?_
                rotate_left
                · simp only [putAll, Act.put, List.setIfInBounds_toArray, List.set_cons_zero, List.set_cons_succ]
                  rfl
                refine one_ (i := 12) (N := none) #[true, true, true, true, true, true, true, true, true, true, true, true, true] rfl rfl (one_of HT_.out (by kernel_rfl)) (by decide) (fun K hK => ?_)
                have hs70 : w69.cell? ⟨gb202, 0, none⟩ = some (.int .i64 0) := (blkc BK202 0)
                have hfs70 := blk_frozen BK202.out 0
                have hns70_0 := NB177_202.out
                have hns70_1 := NB178_202.out
                have hns70_2 := NB179_202.out
                have hns70_3 := NB193_202.out
                have hms70_0 := NB202_177.out
                have hms70_1 := NB202_178.out
                have hms70_2 := NB202_179.out
                have hms70_3 := NB202_193.out
                have hs71 : w69.cell? ⟨gb202, 1, none⟩ = some (.int .i64 0) := (blkc BK202 1)
                have hfs71 := blk_frozen BK202.out 1
                have hns71_0 := NB177_202.out
                have hns71_1 := NB178_202.out
                have hns71_2 := NB179_202.out
                have hns71_3 := NB193_202.out
                have hms71_0 := NB202_177.out
                have hms71_1 := NB202_178.out
                have hms71_2 := NB202_179.out
                have hms71_3 := NB202_193.out
                have hs72 : w69.cell? ⟨gb202, 2, none⟩ = some (.string (⟨#[]⟩ : ByteArray)) := (blkc BK202 2)
                have hfs72 := blk_frozen BK202.out 2
                have hns72_0 := NB177_202.out
                have hns72_1 := NB178_202.out
                have hns72_2 := NB179_202.out
                have hns72_3 := NB193_202.out
                have hms72_0 := NB202_177.out
                have hms72_1 := NB202_178.out
                have hms72_2 := NB202_179.out
                have hms72_3 := NB202_193.out
                have hs74 : w69.cell? ⟨gb202, 3, none⟩ = some (.slice none 0 0) := (blkc BK202 3)
                have hfs74 := blk_frozen BK202.out 3
                have hns74_0 := NB177_202.out
                have hns74_1 := NB178_202.out
                have hns74_2 := NB179_202.out
                have hns74_3 := NB193_202.out
                have hms74_0 := NB202_177.out
                have hms74_1 := NB202_178.out
                have hms74_2 := NB202_179.out
                have hms74_3 := NB202_193.out
                refine skip_ (w1 := ?_) (by rfl) rfl ?_ ?_
                rotate_left
                · go_simp
                  rfl
                refine hK.out _ _ ⟨(cf4 gb202 NB177_202.out hHeld.1), (cf4 gb202 NB177_202.out hHeld.2.1), (cf4 gb202 NB177_202.out hHeld.2.2.1), (cf4 gb202 NB177_202.out hHeld.2.2.2.1), (cf4 gb202 NB178_202.out hHeld.2.2.2.2.1), (cf4 gb202 NB178_202.out hHeld.2.2.2.2.2.1), (cf4 gb202 NB178_202.out hHeld.2.2.2.2.2.2.1), (cf4 gb202 NB178_202.out hHeld.2.2.2.2.2.2.2.1), (cf4 gb202 (fl_ hw194_0 GW202) hHeld.2.2.2.2.2.2.2.2.1), (cf4 gb202 (fl_ hw194_1 GW202) hHeld.2.2.2.2.2.2.2.2.2.1), (cf4 gb202 (fl_ hw194_2 GW202) hHeld.2.2.2.2.2.2.2.2.2.2.1), (cf4 gb202 (fl_ hw194_3 GW202) hHeld.2.2.2.2.2.2.2.2.2.2.2.1), (cf4 gb202 (fl_ hw195_0 GW202) hHeld.2.2.2.2.2.2.2.2.2.2.2.2.1), (cf4 gb202 (fl_ hw195_1 GW202) hHeld.2.2.2.2.2.2.2.2.2.2.2.2.2.1), (cf4 gb202 (fl_ hw195_2 GW202) hHeld.2.2.2.2.2.2.2.2.2.2.2.2.2.2.1), (cf4 gb202 (fl_ hw195_3 GW202) hHeld.2.2.2.2.2.2.2.2.2.2.2.2.2.2.2)⟩ (fun hHeld => ?_)
                clear hK K
                refine done_ (done_of HT_.out (by kernel_rfl)) ?_
                have hnb75 := NB202_177.out
                have hnc75 := NB177_202.out
                have hnb76 := NB202_178.out
                have hnc76 := NB178_202.out
                have hnb77 := NB202_179.out
                have hnc77 := NB179_202.out
                have hnb78 := NB202_193.out
                have hnc78 := NB193_202.out
                obtain ⟨hcz79_0, hcz79_1, hcz79_2, hcz79_3, hfz79_0, hfz79_1, hfz79_2, hfz79_3⟩ := blk4 BK202
                try go_wp2_with (first | ((with_reducible refine gate_callee (f := 89) rfl ?_); refine goesL_ (some 57) rfl rfl Try.func89 (by kernel_rfl) rfl #[.agg #[.int .i64 t196, .int .i64 t197, .string t198, .slice Ao73 t199.length co73]] rfl ar_ ?_; (with_reducible refine (impl_isNo.calls t196 t197 t198 _ _ t199 true _ ?side1 ?side2 A64.out).mono ?_); (case side1 => refine (Kd.R_reads' (e := 31) (base := w.heap.size) (ok := fun k_ => (some k_ ≠ (u194003 : Value).ownBlock ∧ (k_ ≠ gb177 ∧ (k_ ≠ gb178 ∧ (k_ ≠ gb179 ∧ (k_ ≠ gb193 ∧ k_ ≠ gb202)))))) (n := t199.length) (c := co73) ?_).2.2; exact (by (with_reducible repeat (first | apply Kd.R_alloc | apply Kd.R_drewN | apply Kd.R_drew)); exact (Kd.R_mono (rf4 gb202 (Kd.R_mono HO201.out (fun k_ hk => (⟨hk, hk.2.2.2.2.2⟩ : _ ∧ k_ ≠ gb202))) (fun _ hk => hk.2)) (fun _ h_ => h_.1)))); (case side2 => exact (Kd.R_reads' HO201.out).2.1); rintro e w80 ⟨rfl, hb⟩; refine ⟨_, rfl, ?_⟩; replace HO_194003 := Aside0.mk (Kd.R_below (by (with_reducible repeat (first | apply Kd.R_alloc | apply Kd.R_drewN | apply Kd.R_drew)); exact (Kd.R_mono (rf4 gb202 (Kd.R_mono HO_194003.out (fun k_ hk => (⟨hk, hk.2.2.2.2.2⟩ : _ ∧ k_ ≠ gb202))) (fun _ hk => hk.2)) (fun _ h_ => h_.1))) hb); replace HO201 := Aside0.mk (Kd.R_below (by (with_reducible repeat (first | apply Kd.R_alloc | apply Kd.R_drewN | apply Kd.R_drew)); exact (Kd.R_mono (rf4 gb202 (Kd.R_mono HO201.out (fun k_ hk => (⟨hk, hk.2.2.2.2.2⟩ : _ ∧ k_ ≠ gb202))) (fun _ hk => hk.2)) (fun _ h_ => h_.1))) hb); replace BK177 := Aside0.mk (blk_below (g := gb177) (o := .cells #[.int .i64 a0_0, .int .i64 a0_1, .string a0_2, .slice (some ad194) l0_3.length c0_3] 31 (0, 0)) (by refine pe_ ?_; refine blk_far ?_ NB177_202.out _; refine pe_ ?_; refine blk_far ?_ NB177_202.out _; refine pe_ ?_; refine blk_far ?_ NB177_202.out _; refine pe_ ?_; refine blk_far ?_ NB177_202.out _; refine pe_ ?_; exact BK177.out) hb); replace BK178 := Aside0.mk (blk_below (g := gb178) (o := .cells #[.int .i64 a1_0, .int .i64 a1_1, .string a1_2, .slice (some ad195) l1_3.length c1_3] 31 (0, 0)) (by refine pe_ ?_; refine blk_far ?_ NB178_202.out _; refine pe_ ?_; refine blk_far ?_ NB178_202.out _; refine pe_ ?_; refine blk_far ?_ NB178_202.out _; refine pe_ ?_; refine blk_far ?_ NB178_202.out _; refine pe_ ?_; exact BK178.out) hb); replace BK179 := Aside0.mk (blk_below (g := gb179) (o := .cells #[.int .i64 x180000_3, .int .i64 x180001_3, .string x180002_3, .slice none 0 0] 31 (0, 0)) (by refine pe_ ?_; refine blk_far ?_ NB179_202.out _; refine pe_ ?_; refine blk_far ?_ NB179_202.out _; refine pe_ ?_; refine blk_far ?_ NB179_202.out _; refine pe_ ?_; refine blk_far ?_ NB179_202.out _; refine pe_ ?_; exact BK179.out) hb); replace BK193 := Aside0.mk (blk_below (g := gb193) (o := .cells #[.int .i64 x194000_3, .int .i64 x194001_3, .string x194002_3, u194003] 31 (0, 0)) (by refine pe_ ?_; refine blk_far ?_ NB193_202.out _; refine pe_ ?_; refine blk_far ?_ NB193_202.out _; refine pe_ ?_; refine blk_far ?_ NB193_202.out _; refine pe_ ?_; refine blk_far ?_ NB193_202.out _; refine pe_ ?_; exact BK193.out) hb); replace BK202 := Aside0.mk (blk_below (g := gb202) (o := .cells #[.int .i64 t196, .int .i64 t197, .string t198, .slice Ao73 t199.length co73] 31 (0, 0)) (by refine pe_ ?_; refine blk_put (cs := #[.int .i64 t196, .int .i64 t197, .string t198, .slice none 0 0]) ?_ 3 _ rfl; refine pe_ ?_; refine blk_put (cs := #[.int .i64 t196, .int .i64 t197, .string (⟨#[]⟩ : ByteArray), .slice none 0 0]) ?_ 2 _ rfl; refine pe_ ?_; refine blk_put (cs := #[.int .i64 t196, .int .i64 0, .string (⟨#[]⟩ : ByteArray), .slice none 0 0]) ?_ 1 _ rfl; refine pe_ ?_; refine blk_put (cs := #[.int .i64 0, .int .i64 0, .string (⟨#[]⟩ : ByteArray), .slice none 0 0]) ?_ 0 _ rfl; refine pe_ ?_; exact BK202.out) hb); replace HB := bs_ hb; (try clear hb); (try clear hb2); (try clear hk); (try clear hi); obtain ⟨hcz81_0, hcz81_1, hcz81_2, hcz81_3, hfz81_0, hfz81_1, hfz81_2, hfz81_3⟩ := blk4 BK202; have hnb82 := NB179_177.out; have hnc82 := NB177_179.out; have hnb83 := NB179_178.out; have hnc83 := NB178_179.out; have hnb84 := NB179_193.out; have hnc84 := NB193_179.out; obtain ⟨hcz85_0, hcz85_1, hcz85_2, hcz85_3, hfz85_0, hfz85_1, hfz85_2, hfz85_3⟩ := blk4 BK179))
                refine bodyPost_ret (results_cell_row rfl _ _ gb179 31 #[.int .i64 t196, .int .i64 t197, .string t198, .slice Ao73 t199.length co73] (0, 0) _ rfl (by refine pe_ ?_; refine blk_put (cs := #[.int .i64 t196, .int .i64 t197, .string t198, .slice none 0 0]) ?_ 3 _ rfl; refine pe_ ?_; refine blk_put (cs := #[.int .i64 t196, .int .i64 t197, .string x180002_3, .slice none 0 0]) ?_ 2 _ rfl; refine pe_ ?_; refine blk_put (cs := #[.int .i64 t196, .int .i64 x180001_3, .string x180002_3, .slice none 0 0]) ?_ 1 _ rfl; refine pe_ ?_; refine blk_put (cs := #[.int .i64 x180000_3, .int .i64 x180001_3, .string x180002_3, .slice none 0 0]) ?_ 0 _ rfl; refine pe_ ?_; exact BK179.out) Try.underlying31 rfl (by kernel_rfl)) rfl ?_
                exact ⟨_, by first | rfl | (simp [errW_none, errW_some] <;> rfl) | (simp [*, errW_none, errW_some] <;> rfl), by (with_reducible repeat (first | apply Kd.R_alloc | apply Kd.R_drewN | apply Kd.R_drew)); exact Kd.R_mono (rf4 gb179 (Kd.R_mono HO201.out (fun k_ hk => (⟨hk, hk.2.2.2.1⟩ : _ ∧ k_ ≠ gb179))) (fun _ hk => hk.2)) (fun _ hk => trivial), bel_⟩
              replace c65 := Bool.eq_false_iff.mpr c65
              subst c65
              have H1 : (if t196 = 0 then (impl_equalOf.l0 k3 (l0_3.length : Int) (wrap64 (x42_3 + 1)) a0_0 a0_1 a0_2 l0_3 a1_0 a1_1 a1_2 l1_3 t196 t197 t198 t199) else (impl_equalOf.l0 k3 (l0_3.length : Int) (wrap64 (x42_3 + 1)) a0_0 a0_1 a0_2 l0_3 a1_0 a1_1 a1_2 l1_3 x194000_3 x194001_3 x194002_3 x194003_3)) = some (r1, r2, r3, r4) := by rw [if_neg (show ¬ (false = true) by decide)] at H; exact H
              clear H
              have H := H1
              clear H1
              by_cases c86 : t196 = 0
              · rw [if_pos c86] at H
                have c86b0 : (t196 == 0) = true := beq_iff_eq.mpr c86
                have c86b1 : (t196 != 0) = false := bne_eq_false_iff_eq.mpr c86
                clear c86
                have H' := Aside0.mk H
                clear H
                try go_wp2
                replace HO_194003 := Aside0.mk (Kd.R_drew HO_194003.out)
                replace BK177 := Aside0.mk (blk_drew BK177.out)
                replace BK178 := Aside0.mk (blk_drew BK178.out)
                replace BK179 := Aside0.mk (blk_drew BK179.out)
                replace BK193 := Aside0.mk (blk_drew BK193.out)
                replace HB := Aside0.mk (below_drew1 HB.out)
                have p194 : 0 ≤ (x42_3 : Int) := od_
                have q194 : x42_3 < (l0_3.length : Int) := od_
                obtain ⟨ad194, A194_3, c194_3, e194, hx194_0, hx194_1, hx194_2, hx194_3, hl194_3, hi194_3⟩ := at_T31 HR0_3.out x42_3 p194 q194
                have hw194_3 := hx194_3
                have hw194_2 := hx194_2
                have hw194_1 := hx194_1
                have hw194_0 := hx194_0
                cases e194
                replace hx194_0 := mv_ HB hx194_0
                replace hx194_1 := mv_ HB hx194_1
                replace hx194_2 := mv_ HB hx194_2
                replace hx194_3 := mv_ HB hx194_3
                have HR194_3 := Aside0.mk hi194_3
                have HC194_3 := Aside0.mk hl194_3
                clear hi194_3 hl194_3
                replace p194 := eq_true p194
                replace q194 := eq_true q194
                have p195 : 0 ≤ (x42_3 : Int) := od_
                have q195 : x42_3 < (l1_3.length : Int) := od_
                obtain ⟨ad195, A195_3, c195_3, e195, hx195_0, hx195_1, hx195_2, hx195_3, hl195_3, hi195_3⟩ := at_T31 HR1_3.out x42_3 p195 q195
                have hw195_3 := hx195_3
                have hw195_2 := hx195_2
                have hw195_1 := hx195_1
                have hw195_0 := hx195_0
                cases e195
                replace hx195_0 := mv_ HB hx195_0
                replace hx195_1 := mv_ HB hx195_1
                replace hx195_2 := mv_ HB hx195_2
                replace hx195_3 := mv_ HB hx195_3
                have HR195_3 := Aside0.mk hi195_3
                have HC195_3 := Aside0.mk hl195_3
                clear hi195_3 hl195_3
                replace p195 := eq_true p195
                replace q195 := eq_true q195
                refine start_ (n := 13) (S := fun w' => w'.cell? ⟨gb177, 0, none⟩ = some (.int .i64 a0_0) ∧ w'.cell? ⟨gb177, 1, none⟩ = some (.int .i64 a0_1) ∧ w'.cell? ⟨gb177, 2, none⟩ = some (.string a0_2) ∧ w'.cell? ⟨gb177, 3, none⟩ = some (.slice (some ad194) l0_3.length c0_3) ∧ w'.cell? ⟨gb178, 0, none⟩ = some (.int .i64 a1_0) ∧ w'.cell? ⟨gb178, 1, none⟩ = some (.int .i64 a1_1) ∧ w'.cell? ⟨gb178, 2, none⟩ = some (.string a1_2) ∧ w'.cell? ⟨gb178, 3, none⟩ = some (.slice (some ad195) l1_3.length c1_3) ∧ w'.cell? (ad194.add ((x42_3).toNat * 4)) = some (.int .i64 ((rd_T31 l0_3 x42_3).f0)) ∧ w'.cell? ⟨(ad194.add ((x42_3).toNat * 4)).block, (ad194.add ((x42_3).toNat * 4)).off + 1, none⟩ = some (.int .i64 ((rd_T31 l0_3 x42_3).f1)) ∧ w'.cell? ⟨(ad194.add ((x42_3).toNat * 4)).block, (ad194.add ((x42_3).toNat * 4)).off + 2, none⟩ = some (.string ((rd_T31 l0_3 x42_3).f2)) ∧ w'.cell? ⟨(ad194.add ((x42_3).toNat * 4)).block, (ad194.add ((x42_3).toNat * 4)).off + 3, none⟩ = some (.slice A194_3 ((rd_T31 l0_3 x42_3).f3).length c194_3) ∧ w'.cell? (ad195.add ((x42_3).toNat * 4)) = some (.int .i64 ((rd_T31 l1_3 x42_3).f0)) ∧ w'.cell? ⟨(ad195.add ((x42_3).toNat * 4)).block, (ad195.add ((x42_3).toNat * 4)).off + 1, none⟩ = some (.int .i64 ((rd_T31 l1_3 x42_3).f1)) ∧ w'.cell? ⟨(ad195.add ((x42_3).toNat * 4)).block, (ad195.add ((x42_3).toNat * 4)).off + 2, none⟩ = some (.string ((rd_T31 l1_3 x42_3).f2)) ∧ w'.cell? ⟨(ad195.add ((x42_3).toNat * 4)).block, (ad195.add ((x42_3).toNat * 4)).off + 3, none⟩ = some (.slice A195_3 ((rd_T31 l1_3 x42_3).f3).length c195_3)) (ds := []) #[false, false, false, false, false, false, false, false, false, false, false, false, false] (by kernel_rfl) rfl rfl ⟨(blkc BK177 0), (blkc BK177 1), (blkc BK177 2), (blkc BK177 3), (blkc BK178 0), (blkc BK178 1), (blkc BK178 2), (blkc BK178 3), (mv_ HB hw194_0), (mv_ HB hw194_1), (mv_ HB hw194_2), (mv_ HB hw194_3), (mv_ HB hw195_0), (mv_ HB hw195_1), (mv_ HB hw195_2), (mv_ HB hw195_3)⟩ (fun hHeld => ?_); refine with_tabW impl_equalOf.tab9 impl_equalOf.bits9 (fun HT_ HW_ => ?_)
                generalize wr.drew = w87 at HO_194003 BK177 BK178 BK179 BK193 HB HR194_3 HR195_3 hx194_0 hx194_1 hx194_2 hx194_3 hx195_0 hx195_1 hx195_2 hx195_3 hHeld ⊢
                refine puA 0 (some 45) ?_
                refine puA 2 (some 47) ?_
                refine puA 5 (some 50) ?_
                refine puA 7 (some 52) ?_
                refine taA 1 (some 46) ?_
                refine puA 3 (some 48) ?_
                refine taA 4 (some 49) ?_
                refine taA 6 (some 51) ?_
                refine puA 8 (some 53) ?_
                refine taA 9 (some 54) ?_
                refine join_ (σ := Value × Nat) 1 #[true, true, true, true, true, true, true, true, true, true, true, true, false] (fun s_ => [(55, .agg #[.int .i64 t196, .int .i64 t197, .string t198, s_.1]), (7, .pointer (some ⟨s_.2, 0, none⟩))]) (fun s_ w' => (w'.cell? ⟨gb177, 0, none⟩ = some (.int .i64 a0_0) ∧ w'.cell? ⟨gb177, 1, none⟩ = some (.int .i64 a0_1) ∧ w'.cell? ⟨gb177, 2, none⟩ = some (.string a0_2) ∧ w'.cell? ⟨gb177, 3, none⟩ = some (.slice (some ad194) l0_3.length c0_3) ∧ w'.cell? ⟨gb178, 0, none⟩ = some (.int .i64 a1_0) ∧ w'.cell? ⟨gb178, 1, none⟩ = some (.int .i64 a1_1) ∧ w'.cell? ⟨gb178, 2, none⟩ = some (.string a1_2) ∧ w'.cell? ⟨gb178, 3, none⟩ = some (.slice (some ad195) l1_3.length c1_3) ∧ w'.cell? (ad194.add ((x42_3).toNat * 4)) = some (.int .i64 ((rd_T31 l0_3 x42_3).f0)) ∧ w'.cell? ⟨(ad194.add ((x42_3).toNat * 4)).block, (ad194.add ((x42_3).toNat * 4)).off + 1, none⟩ = some (.int .i64 ((rd_T31 l0_3 x42_3).f1)) ∧ w'.cell? ⟨(ad194.add ((x42_3).toNat * 4)).block, (ad194.add ((x42_3).toNat * 4)).off + 2, none⟩ = some (.string ((rd_T31 l0_3 x42_3).f2)) ∧ w'.cell? ⟨(ad194.add ((x42_3).toNat * 4)).block, (ad194.add ((x42_3).toNat * 4)).off + 3, none⟩ = some (.slice A194_3 ((rd_T31 l0_3 x42_3).f3).length c194_3) ∧ w'.cell? (ad195.add ((x42_3).toNat * 4)) = some (.int .i64 ((rd_T31 l1_3 x42_3).f0)) ∧ w'.cell? ⟨(ad195.add ((x42_3).toNat * 4)).block, (ad195.add ((x42_3).toNat * 4)).off + 1, none⟩ = some (.int .i64 ((rd_T31 l1_3 x42_3).f1)) ∧ w'.cell? ⟨(ad195.add ((x42_3).toNat * 4)).block, (ad195.add ((x42_3).toNat * 4)).off + 2, none⟩ = some (.string ((rd_T31 l1_3 x42_3).f2)) ∧ w'.cell? ⟨(ad195.add ((x42_3).toNat * 4)).block, (ad195.add ((x42_3).toNat * 4)).off + 3, none⟩ = some (.slice A195_3 ((rd_T31 l1_3 x42_3).f3).length c195_3)) ∧ (Kd.R k31 31 w' w.heap.size (fun k_ => some k_ ≠ (u194003 : Value).ownBlock ∧ k_ ≠ gb177 ∧ k_ ≠ gb178 ∧ k_ ≠ gb179 ∧ k_ ≠ gb193 ∧ k_ ≠ s_.2) s_.1 t199) ∧ (Kd.R k31 31 w' w.heap.size (fun k_ => some k_ ≠ (s_.1 : Value).ownBlock ∧ k_ ≠ gb177 ∧ k_ ≠ gb178 ∧ k_ ≠ gb179 ∧ k_ ≠ gb193 ∧ k_ ≠ s_.2) u194003 x194003_3) ∧ (w'.heap[gb177]? = some (.cells #[.int .i64 a0_0, .int .i64 a0_1, .string a0_2, .slice (some ad194) l0_3.length c0_3] 31 (0, 0))) ∧ (w'.heap[gb178]? = some (.cells #[.int .i64 a1_0, .int .i64 a1_1, .string a1_2, .slice (some ad195) l1_3.length c1_3] 31 (0, 0))) ∧ (w'.heap[gb179]? = some (.cells #[.int .i64 x180000_3, .int .i64 x180001_3, .string x180002_3, .slice none 0 0] 31 (0, 0))) ∧ (w'.heap[gb193]? = some (.cells #[.int .i64 x194000_3, .int .i64 x194001_3, .string x194002_3, u194003] 31 (0, 0))) ∧ (w'.heap[s_.2]? = some (.cells #[.int .i64 0, .int .i64 0, .string (⟨#[]⟩ : ByteArray), .slice none 0 0] 31 (0, 0))) ∧ (w.heap.size ≤ s_.2) ∧ (w.heap.size ≤ s_.2) ∧ (gb177 ≠ s_.2) ∧ (s_.2 ≠ gb177) ∧ (gb178 ≠ s_.2) ∧ (s_.2 ≠ gb178) ∧ (gb179 ≠ s_.2) ∧ (s_.2 ≠ gb179) ∧ (gb193 ≠ s_.2) ∧ (s_.2 ≠ gb193) ∧ (Below w.heap.size w w')) ?_ ?_
                rotate_left
                · intro hCont
                  refine two_ (i := 10) (j := 11) (Ni := some 55) (Nj := some 7) #[true, true, true, true, true, true, true, true, true, true, true, false, false] #[true, true, true, true, true, true, true, true, true, true, false, true, false] rfl rfl rfl rfl (two_of HT_.out (by kernel_rfl)) (by decide) (by decide) (fun K hK => ?_) (fun K hK => ?_)
                  · skip
                    refine goes_ Try.func69 (by kernel_rfl) rfl #[.agg #[.int .i64 ((rd_T31 l0_3 x42_3).f0), .int .i64 ((rd_T31 l0_3 x42_3).f1), .string ((rd_T31 l0_3 x42_3).f2), .slice A194_3 ((rd_T31 l0_3 x42_3).f3).length c194_3], .agg #[.int .i64 ((rd_T31 l1_3 x42_3).f0), .int .i64 ((rd_T31 l1_3 x42_3).f1), .string ((rd_T31 l1_3 x42_3).f2), .slice A195_3 ((rd_T31 l1_3 x42_3).f3).length c195_3]] (by rfl) rfl rfl ar_ ?_
                    with_reducible refine (ih k3 (by have := HJ2.out; have := HJ19.out; have := HK3.out; omega) ((rd_T31 l0_3 x42_3).f0) ((rd_T31 l0_3 x42_3).f1) ((rd_T31 l0_3 x42_3).f2) _ _ ((rd_T31 l0_3 x42_3).f3) ((rd_T31 l1_3 x42_3).f0) ((rd_T31 l1_3 x42_3).f1) ((rd_T31 l1_3 x42_3).f2) _ _ ((rd_T31 l1_3 x42_3).f3) t196 t197 t198 t199 _ ?side1 ?side2 ?side3 ?side4 A63.out).mono ?_
                    (case side1 => exact rdb_ HR194_3)
                    (case side2 => exact HC194_3.out)
                    (case side3 => exact rdb_ HR195_3)
                    (case side4 => exact HC195_3.out)
                    rintro e w88 ⟨v200, rfl, ho0, hb⟩
                    refine ⟨_, rfl, ?_⟩
                    have HO201 := Aside0.mk (Kd.R_lower (Kd.R_newB (Kd.R_newB (Kd.R_newB (Kd.R_newB (Kd.R_new' ho0 (Kd.R_lt (by (with_reducible repeat (first | apply Kd.R_alloc | apply Kd.R_drewN | apply Kd.R_drew)); exact HO_194003.out))) (g := gb177) (o := .cells #[.int .i64 a0_0, .int .i64 a0_1, .string a0_2, .slice (some ad194) l0_3.length c0_3] 31 (0, 0)) (bk_ BK177)) (g := gb178) (o := .cells #[.int .i64 a1_0, .int .i64 a1_1, .string a1_2, .slice (some ad195) l1_3.length c1_3] 31 (0, 0)) (bk_ BK178)) (g := gb179) (o := .cells #[.int .i64 x180000_3, .int .i64 x180001_3, .string x180002_3, .slice none 0 0] 31 (0, 0)) (bk_ BK179)) (g := gb193) (o := .cells #[.int .i64 x194000_3, .int .i64 x194001_3, .string x194002_3, u194003] 31 (0, 0)) (bk_ BK193)) (below_size (bel_)))
                    replace HO_194003 := Aside0.mk (Kd.R_elder' (by (with_reducible repeat (first | apply Kd.R_alloc | apply Kd.R_drewN | apply Kd.R_drew)); exact HO_194003.out) (Kd.R_base ho0) hb)
                    replace BK177 := bb_ BK177 hb
                    replace BK178 := bb_ BK178 hb
                    replace BK179 := bb_ BK179 hb
                    replace BK193 := bb_ BK193 hb
                    replace HB := bs_ hb
                    (try clear hb)
                    (try clear hb2)
                    (try clear hk)
                    (try clear hi)
                    (try clear ho0)
                    refine hK.out _ _ ⟨(blkc BK177 0), (blkc BK177 1), (blkc BK177 2), (blkc BK177 3), (blkc BK178 0), (blkc BK178 1), (blkc BK178 2), (blkc BK178 3), (mv_ HB hw194_0), (mv_ HB hw194_1), (mv_ HB hw194_2), (mv_ HB hw194_3), (mv_ HB hw195_0), (mv_ HB hw195_1), (mv_ HB hw195_2), (mv_ HB hw195_3)⟩ (fun hHeld => ?_)
                    clear hK K
                    refine norm_ (a' := ?_) ?_ ?_
                    rotate_left
                    · show Act.put _ (some 55) _ = _
                      simp only [Act.put, List.setIfInBounds_toArray, List.set_cons_zero, List.set_cons_succ, i64_w, i32_w]
                      rfl
                    refine one_ (i := 11) (N := some 7) #[true, true, true, true, true, true, true, true, true, true, true, true, false] rfl rfl (one_of HT_.out (by kernel_rfl)) (by decide) (fun K hK => ?_)
                    refine box_step ?hg (N := 7) ?hd (cs := #[.int .i64 0, .int .i64 0, .string (⟨#[]⟩ : ByteArray), .slice none 0 0]) (t := 31) ?hr ?_; (case hd => rfl); (case hg => rfl); (case hr => first | (go_simp; done) | (go_simp; rfl))
                    intro gb202 hg w89 hbox hb
                    have BK202 := Aside0.mk (hbox)
                    have GW202 := gw_ hg
                    have GE202 := gw_ hg
                    have NB177_202 := nlt_ hg BK177
                    have NB202_177 := ngt_ hg BK177
                    have NB178_202 := nlt_ hg BK178
                    have NB202_178 := ngt_ hg BK178
                    have NB179_202 := nlt_ hg BK179
                    have NB202_179 := ngt_ hg BK179
                    have NB193_202 := nlt_ hg BK193
                    have NB202_193 := ngt_ hg BK193
                    replace HO_194003 := Aside0.mk (Kd.R_below (Kd.R_elderB (by (with_reducible repeat (first | apply Kd.R_alloc | apply Kd.R_drewN | apply Kd.R_drew)); exact HO_194003.out) gb202 (Nat.le_of_eq hg.symm)) hb)
                    replace HO201 := Aside0.mk (Kd.R_below (Kd.R_elderB (by (with_reducible repeat (first | apply Kd.R_alloc | apply Kd.R_drewN | apply Kd.R_drew)); exact HO201.out) gb202 (Nat.le_of_eq hg.symm)) hb)
                    replace BK177 := bb_ BK177 hb
                    replace BK178 := bb_ BK178 hb
                    replace BK179 := bb_ BK179 hb
                    replace BK193 := bb_ BK193 hb
                    replace HB := bs_ hb
                    clear hb hbox hg
                    refine hK.out _ _ ⟨(blkc BK177 0), (blkc BK177 1), (blkc BK177 2), (blkc BK177 3), (blkc BK178 0), (blkc BK178 1), (blkc BK178 2), (blkc BK178 3), (mv_ HB hw194_0), (mv_ HB hw194_1), (mv_ HB hw194_2), (mv_ HB hw194_3), (mv_ HB hw195_0), (mv_ HB hw195_1), (mv_ HB hw195_2), (mv_ HB hw195_3)⟩ (fun hHeld => ?_)
                    clear hK K
                    refine norm_ (a' := ?_) ?_ ?_
                    rotate_left
                    · show Act.put _ (some 7) _ = _
                      simp only [Act.put, List.setIfInBounds_toArray, List.set_cons_zero, List.set_cons_succ, i64_w, i32_w]
                      rfl
                    exact norm_ (by simp only [putAll, Act.put, List.setIfInBounds_toArray, List.set_cons_zero, List.set_cons_succ]) (hCont (v200, gb202) _ ⟨hHeld, (by (with_reducible repeat (first | apply Kd.R_alloc | apply Kd.R_drewN | apply Kd.R_drew)); exact Kd.R_mono HO201.out (fun _ hk => ⟨hk.1.1.1.1.1.2, ⟨hk.1.1.1.1.2, ⟨hk.1.1.1.2, ⟨hk.1.1.2, ⟨hk.1.2, hk.2⟩⟩⟩⟩⟩)), (by (with_reducible repeat (first | apply Kd.R_alloc | apply Kd.R_drewN | apply Kd.R_drew)); exact Kd.R_mono HO_194003.out (fun _ hk => ⟨hk.1.2, ⟨hk.1.1.1, ⟨hk.1.1.2.1, ⟨hk.1.1.2.2.1, ⟨hk.1.1.2.2.2, hk.2⟩⟩⟩⟩⟩)), (bk_ BK177), (bk_ BK178), (bk_ BK179), (bk_ BK193), (bk_ BK202), GW202.out, GE202.out, NB177_202.out, NB202_177.out, NB178_202.out, NB202_178.out, NB179_202.out, NB202_179.out, NB193_202.out, NB202_193.out, (bel_)⟩)
                  skip
                  refine box_step ?hg (N := 7) ?hd (cs := #[.int .i64 0, .int .i64 0, .string (⟨#[]⟩ : ByteArray), .slice none 0 0]) (t := 31) ?hr ?_; (case hd => rfl); (case hg => rfl); (case hr => first | (go_simp; done) | (go_simp; rfl))
                  intro gb202 hg w88 hbox hb
                  have BK202 := Aside0.mk (hbox)
                  have GW202 := gw_ hg
                  have GE202 := gw_ hg
                  have NB177_202 := nlt_ hg BK177
                  have NB202_177 := ngt_ hg BK177
                  have NB178_202 := nlt_ hg BK178
                  have NB202_178 := ngt_ hg BK178
                  have NB179_202 := nlt_ hg BK179
                  have NB202_179 := ngt_ hg BK179
                  have NB193_202 := nlt_ hg BK193
                  have NB202_193 := ngt_ hg BK193
                  replace HO_194003 := Aside0.mk (Kd.R_below (Kd.R_elderB (by (with_reducible repeat (first | apply Kd.R_alloc | apply Kd.R_drewN | apply Kd.R_drew)); exact HO_194003.out) gb202 (Nat.le_of_eq hg.symm)) hb)
                  replace BK177 := bb_ BK177 hb
                  replace BK178 := bb_ BK178 hb
                  replace BK179 := bb_ BK179 hb
                  replace BK193 := bb_ BK193 hb
                  replace HB := bs_ hb
                  clear hb hbox hg
                  refine hK.out _ _ ⟨(blkc BK177 0), (blkc BK177 1), (blkc BK177 2), (blkc BK177 3), (blkc BK178 0), (blkc BK178 1), (blkc BK178 2), (blkc BK178 3), (mv_ HB hw194_0), (mv_ HB hw194_1), (mv_ HB hw194_2), (mv_ HB hw194_3), (mv_ HB hw195_0), (mv_ HB hw195_1), (mv_ HB hw195_2), (mv_ HB hw195_3)⟩ (fun hHeld => ?_)
                  clear hK K
                  refine norm_ (a' := ?_) ?_ ?_
                  rotate_left
                  · show Act.put _ (some 7) _ = _
                    simp only [Act.put, List.setIfInBounds_toArray, List.set_cons_zero, List.set_cons_succ, i64_w, i32_w]
                    rfl
                  refine one_ (i := 10) (N := some 55) #[true, true, true, true, true, true, true, true, true, true, true, true, false] rfl rfl (one_of HT_.out (by kernel_rfl)) (by decide) (fun K hK => ?_)
                  refine goes_ Try.func69 (by kernel_rfl) rfl #[.agg #[.int .i64 ((rd_T31 l0_3 x42_3).f0), .int .i64 ((rd_T31 l0_3 x42_3).f1), .string ((rd_T31 l0_3 x42_3).f2), .slice A194_3 ((rd_T31 l0_3 x42_3).f3).length c194_3], .agg #[.int .i64 ((rd_T31 l1_3 x42_3).f0), .int .i64 ((rd_T31 l1_3 x42_3).f1), .string ((rd_T31 l1_3 x42_3).f2), .slice A195_3 ((rd_T31 l1_3 x42_3).f3).length c195_3]] (by rfl) rfl rfl ar_ ?_
                  with_reducible refine (ih k3 (by have := HJ2.out; have := HJ19.out; have := HK3.out; omega) ((rd_T31 l0_3 x42_3).f0) ((rd_T31 l0_3 x42_3).f1) ((rd_T31 l0_3 x42_3).f2) _ _ ((rd_T31 l0_3 x42_3).f3) ((rd_T31 l1_3 x42_3).f0) ((rd_T31 l1_3 x42_3).f1) ((rd_T31 l1_3 x42_3).f2) _ _ ((rd_T31 l1_3 x42_3).f3) t196 t197 t198 t199 _ ?side1 ?side2 ?side3 ?side4 A63.out).mono ?_
                  (case side1 => exact rdb_ HR194_3)
                  (case side2 => exact HC194_3.out)
                  (case side3 => exact rdb_ HR195_3)
                  (case side4 => exact HC195_3.out)
                  rintro e w89 ⟨v200, rfl, ho0, hb⟩
                  refine ⟨_, rfl, ?_⟩
                  have HO201 := Aside0.mk (Kd.R_lower (Kd.R_newB (Kd.R_newB (Kd.R_newB (Kd.R_newB (Kd.R_newB (Kd.R_new' ho0 (Kd.R_lt (by (with_reducible repeat (first | apply Kd.R_alloc | apply Kd.R_drewN | apply Kd.R_drew)); exact HO_194003.out))) (g := gb177) (o := .cells #[.int .i64 a0_0, .int .i64 a0_1, .string a0_2, .slice (some ad194) l0_3.length c0_3] 31 (0, 0)) (bk_ BK177)) (g := gb178) (o := .cells #[.int .i64 a1_0, .int .i64 a1_1, .string a1_2, .slice (some ad195) l1_3.length c1_3] 31 (0, 0)) (bk_ BK178)) (g := gb179) (o := .cells #[.int .i64 x180000_3, .int .i64 x180001_3, .string x180002_3, .slice none 0 0] 31 (0, 0)) (bk_ BK179)) (g := gb193) (o := .cells #[.int .i64 x194000_3, .int .i64 x194001_3, .string x194002_3, u194003] 31 (0, 0)) (bk_ BK193)) (g := gb202) (o := .cells #[.int .i64 0, .int .i64 0, .string (⟨#[]⟩ : ByteArray), .slice none 0 0] 31 (0, 0)) (bk_ BK202)) (below_size (bel_)))
                  replace HO_194003 := Aside0.mk (Kd.R_elder' (by (with_reducible repeat (first | apply Kd.R_alloc | apply Kd.R_drewN | apply Kd.R_drew)); exact HO_194003.out) (Kd.R_base ho0) hb)
                  replace BK177 := bb_ BK177 hb
                  replace BK178 := bb_ BK178 hb
                  replace BK179 := bb_ BK179 hb
                  replace BK193 := bb_ BK193 hb
                  replace BK202 := bb_ BK202 hb
                  replace HB := bs_ hb
                  (try clear hb)
                  (try clear hb2)
                  (try clear hk)
                  (try clear hi)
                  (try clear ho0)
                  refine hK.out _ _ ⟨(blkc BK177 0), (blkc BK177 1), (blkc BK177 2), (blkc BK177 3), (blkc BK178 0), (blkc BK178 1), (blkc BK178 2), (blkc BK178 3), (mv_ HB hw194_0), (mv_ HB hw194_1), (mv_ HB hw194_2), (mv_ HB hw194_3), (mv_ HB hw195_0), (mv_ HB hw195_1), (mv_ HB hw195_2), (mv_ HB hw195_3)⟩ (fun hHeld => ?_)
                  clear hK K
                  refine norm_ (a' := ?_) ?_ ?_
                  rotate_left
                  · show Act.put _ (some 55) _ = _
                    simp only [Act.put, List.setIfInBounds_toArray, List.set_cons_zero, List.set_cons_succ, i64_w, i32_w]
                    rfl
                  exact norm_ (by simp only [putAll, Act.put, List.setIfInBounds_toArray, List.set_cons_zero, List.set_cons_succ]) (hCont (v200, gb202) _ ⟨hHeld, (by (with_reducible repeat (first | apply Kd.R_alloc | apply Kd.R_drewN | apply Kd.R_drew)); exact Kd.R_mono HO201.out (fun _ hk => ⟨hk.1.1.1.1.1.2, ⟨hk.1.1.1.1.2, ⟨hk.1.1.1.2, ⟨hk.1.1.2, ⟨hk.1.2, hk.2⟩⟩⟩⟩⟩)), (by (with_reducible repeat (first | apply Kd.R_alloc | apply Kd.R_drewN | apply Kd.R_drew)); exact Kd.R_mono HO_194003.out (fun _ hk => ⟨hk.2, ⟨hk.1.1.1, ⟨hk.1.1.2.1, ⟨hk.1.1.2.2.1, ⟨hk.1.1.2.2.2, hk.1.2⟩⟩⟩⟩⟩)), (bk_ BK177), (bk_ BK178), (bk_ BK179), (bk_ BK193), (bk_ BK202), GW202.out, GE202.out, NB177_202.out, NB202_177.out, NB178_202.out, NB202_178.out, NB179_202.out, NB202_179.out, NB193_202.out, NB202_193.out, (bel_)⟩)
                rintro ⟨v200, gb202⟩ w90 ⟨hS_, h0_, h1_, h2_, h3_, h4_, h5_, h6_, h7_, h8_, h9_, h10_, h11_, h12_, h13_, h14_, h15_, h16_, h17_⟩
                have n0_ : Aside0 (Kd.R k31 31 w90 w.heap.size (fun k_ => some k_ ≠ (u194003 : Value).ownBlock ∧ k_ ≠ gb177 ∧ k_ ≠ gb178 ∧ k_ ≠ gb179 ∧ k_ ≠ gb193 ∧ k_ ≠ gb202) v200 t199) := ⟨h0_⟩
                have n1_ : Aside0 (Kd.R k31 31 w90 w.heap.size (fun k_ => some k_ ≠ (v200 : Value).ownBlock ∧ k_ ≠ gb177 ∧ k_ ≠ gb178 ∧ k_ ≠ gb179 ∧ k_ ≠ gb193 ∧ k_ ≠ gb202) u194003 x194003_3) := ⟨h1_⟩
                have n2_ : Aside0 (w90.heap[gb177]? = some (.cells #[.int .i64 a0_0, .int .i64 a0_1, .string a0_2, .slice (some ad194) l0_3.length c0_3] 31 (0, 0))) := ⟨h2_⟩
                have n3_ : Aside0 (w90.heap[gb178]? = some (.cells #[.int .i64 a1_0, .int .i64 a1_1, .string a1_2, .slice (some ad195) l1_3.length c1_3] 31 (0, 0))) := ⟨h3_⟩
                have n4_ : Aside0 (w90.heap[gb179]? = some (.cells #[.int .i64 x180000_3, .int .i64 x180001_3, .string x180002_3, .slice none 0 0] 31 (0, 0))) := ⟨h4_⟩
                have n5_ : Aside0 (w90.heap[gb193]? = some (.cells #[.int .i64 x194000_3, .int .i64 x194001_3, .string x194002_3, u194003] 31 (0, 0))) := ⟨h5_⟩
                have n6_ : Aside0 (w90.heap[gb202]? = some (.cells #[.int .i64 0, .int .i64 0, .string (⟨#[]⟩ : ByteArray), .slice none 0 0] 31 (0, 0))) := ⟨h6_⟩
                have n7_ : Aside0 (w.heap.size ≤ gb202) := ⟨h7_⟩
                have n8_ : Aside0 (w.heap.size ≤ gb202) := ⟨h8_⟩
                have n9_ : Aside0 (gb177 ≠ gb202) := ⟨h9_⟩
                have n10_ : Aside0 (gb202 ≠ gb177) := ⟨h10_⟩
                have n11_ : Aside0 (gb178 ≠ gb202) := ⟨h11_⟩
                have n12_ : Aside0 (gb202 ≠ gb178) := ⟨h12_⟩
                have n13_ : Aside0 (gb179 ≠ gb202) := ⟨h13_⟩
                have n14_ : Aside0 (gb202 ≠ gb179) := ⟨h14_⟩
                have n15_ : Aside0 (gb193 ≠ gb202) := ⟨h15_⟩
                have n16_ : Aside0 (gb202 ≠ gb193) := ⟨h16_⟩
                have n17_ : Aside0 (Below w.heap.size w w90) := ⟨h17_⟩
                clear HO_194003
                clear BK177
                clear BK178
                clear BK179
                clear BK193
                clear HB
                clear h0_ h1_ h2_ h3_ h4_ h5_ h6_ h7_ h8_ h9_ h10_ h11_ h12_ h13_ h14_ h15_ h16_ h17_
                have HO201 := n0_
                have HO_194003 := n1_
                have BK177 := n2_
                have BK178 := n3_
                have BK179 := n4_
                have BK193 := n5_
                have BK202 := n6_
                have GW202 := n7_
                have GE202 := n8_
                have NB177_202 := n9_
                have NB202_177 := n10_
                have NB178_202 := n11_
                have NB202_178 := n12_
                have NB179_202 := n13_
                have NB202_179 := n14_
                have NB193_202 := n15_
                have NB202_193 := n16_
                have HB := n17_
                clear n0_ n1_ n2_ n3_ n4_ n5_ n6_ n7_ n8_ n9_ n10_ n11_ n12_ n13_ n14_ n15_ n16_ n17_
                have hHeld : w90.cell? ⟨gb177, 0, none⟩ = some (.int .i64 a0_0) ∧ w90.cell? ⟨gb177, 1, none⟩ = some (.int .i64 a0_1) ∧ w90.cell? ⟨gb177, 2, none⟩ = some (.string a0_2) ∧ w90.cell? ⟨gb177, 3, none⟩ = some (.slice (some ad194) l0_3.length c0_3) ∧ w90.cell? ⟨gb178, 0, none⟩ = some (.int .i64 a1_0) ∧ w90.cell? ⟨gb178, 1, none⟩ = some (.int .i64 a1_1) ∧ w90.cell? ⟨gb178, 2, none⟩ = some (.string a1_2) ∧ w90.cell? ⟨gb178, 3, none⟩ = some (.slice (some ad195) l1_3.length c1_3) ∧ w90.cell? (ad194.add ((x42_3).toNat * 4)) = some (.int .i64 ((rd_T31 l0_3 x42_3).f0)) ∧ w90.cell? ⟨(ad194.add ((x42_3).toNat * 4)).block, (ad194.add ((x42_3).toNat * 4)).off + 1, none⟩ = some (.int .i64 ((rd_T31 l0_3 x42_3).f1)) ∧ w90.cell? ⟨(ad194.add ((x42_3).toNat * 4)).block, (ad194.add ((x42_3).toNat * 4)).off + 2, none⟩ = some (.string ((rd_T31 l0_3 x42_3).f2)) ∧ w90.cell? ⟨(ad194.add ((x42_3).toNat * 4)).block, (ad194.add ((x42_3).toNat * 4)).off + 3, none⟩ = some (.slice A194_3 ((rd_T31 l0_3 x42_3).f3).length c194_3) ∧ w90.cell? (ad195.add ((x42_3).toNat * 4)) = some (.int .i64 ((rd_T31 l1_3 x42_3).f0)) ∧ w90.cell? ⟨(ad195.add ((x42_3).toNat * 4)).block, (ad195.add ((x42_3).toNat * 4)).off + 1, none⟩ = some (.int .i64 ((rd_T31 l1_3 x42_3).f1)) ∧ w90.cell? ⟨(ad195.add ((x42_3).toNat * 4)).block, (ad195.add ((x42_3).toNat * 4)).off + 2, none⟩ = some (.string ((rd_T31 l1_3 x42_3).f2)) ∧ w90.cell? ⟨(ad195.add ((x42_3).toNat * 4)).block, (ad195.add ((x42_3).toNat * 4)).off + 3, none⟩ = some (.slice A195_3 ((rd_T31 l1_3 x42_3).f3).length c195_3) := hS_
                obtain ⟨Ao94, co94, eo94⟩ := Kd.R_slice HO201.out
                (first | subst eo94 | (injection eo94 with f1_ f2_ f3_; have f4_ := f1_.symm; have f5_ := f3_.symm; clear f1_ f2_ f3_; subst f4_; subst f5_))
                refine norm_ (a' := ?_) ?_ ?_
                rotate_left
                · simp only [putAll, Act.put, List.setIfInBounds_toArray, List.set_cons_zero, List.set_cons_succ]
                  rfl
                refine one_ (i := 12) (N := none) #[true, true, true, true, true, true, true, true, true, true, true, true, true] rfl rfl (one_of HT_.out (by kernel_rfl)) (by decide) (fun K hK => ?_)
                have hs91 : w90.cell? ⟨gb202, 0, none⟩ = some (.int .i64 0) := (blkc BK202 0)
                have hfs91 := blk_frozen BK202.out 0
                have hns91_0 := NB177_202.out
                have hns91_1 := NB178_202.out
                have hns91_2 := NB179_202.out
                have hns91_3 := NB193_202.out
                have hms91_0 := NB202_177.out
                have hms91_1 := NB202_178.out
                have hms91_2 := NB202_179.out
                have hms91_3 := NB202_193.out
                have hs92 : w90.cell? ⟨gb202, 1, none⟩ = some (.int .i64 0) := (blkc BK202 1)
                have hfs92 := blk_frozen BK202.out 1
                have hns92_0 := NB177_202.out
                have hns92_1 := NB178_202.out
                have hns92_2 := NB179_202.out
                have hns92_3 := NB193_202.out
                have hms92_0 := NB202_177.out
                have hms92_1 := NB202_178.out
                have hms92_2 := NB202_179.out
                have hms92_3 := NB202_193.out
                have hs93 : w90.cell? ⟨gb202, 2, none⟩ = some (.string (⟨#[]⟩ : ByteArray)) := (blkc BK202 2)
                have hfs93 := blk_frozen BK202.out 2
                have hns93_0 := NB177_202.out
                have hns93_1 := NB178_202.out
                have hns93_2 := NB179_202.out
                have hns93_3 := NB193_202.out
                have hms93_0 := NB202_177.out
                have hms93_1 := NB202_178.out
                have hms93_2 := NB202_179.out
                have hms93_3 := NB202_193.out
                have hs95 : w90.cell? ⟨gb202, 3, none⟩ = some (.slice none 0 0) := (blkc BK202 3)
                have hfs95 := blk_frozen BK202.out 3
                have hns95_0 := NB177_202.out
                have hns95_1 := NB178_202.out
                have hns95_2 := NB179_202.out
                have hns95_3 := NB193_202.out
                have hms95_0 := NB202_177.out
                have hms95_1 := NB202_178.out
                have hms95_2 := NB202_179.out
                have hms95_3 := NB202_193.out
                refine skip_ (w1 := ?_) (by rfl) rfl ?_ ?_
                rotate_left
                · go_simp
                  rfl
                refine hK.out _ _ ⟨(cf4 gb202 NB177_202.out hHeld.1), (cf4 gb202 NB177_202.out hHeld.2.1), (cf4 gb202 NB177_202.out hHeld.2.2.1), (cf4 gb202 NB177_202.out hHeld.2.2.2.1), (cf4 gb202 NB178_202.out hHeld.2.2.2.2.1), (cf4 gb202 NB178_202.out hHeld.2.2.2.2.2.1), (cf4 gb202 NB178_202.out hHeld.2.2.2.2.2.2.1), (cf4 gb202 NB178_202.out hHeld.2.2.2.2.2.2.2.1), (cf4 gb202 (fl_ hw194_0 GW202) hHeld.2.2.2.2.2.2.2.2.1), (cf4 gb202 (fl_ hw194_1 GW202) hHeld.2.2.2.2.2.2.2.2.2.1), (cf4 gb202 (fl_ hw194_2 GW202) hHeld.2.2.2.2.2.2.2.2.2.2.1), (cf4 gb202 (fl_ hw194_3 GW202) hHeld.2.2.2.2.2.2.2.2.2.2.2.1), (cf4 gb202 (fl_ hw195_0 GW202) hHeld.2.2.2.2.2.2.2.2.2.2.2.2.1), (cf4 gb202 (fl_ hw195_1 GW202) hHeld.2.2.2.2.2.2.2.2.2.2.2.2.2.1), (cf4 gb202 (fl_ hw195_2 GW202) hHeld.2.2.2.2.2.2.2.2.2.2.2.2.2.2.1), (cf4 gb202 (fl_ hw195_3 GW202) hHeld.2.2.2.2.2.2.2.2.2.2.2.2.2.2.2)⟩ (fun hHeld => ?_)
                clear hK K
                refine done_ (done_of HT_.out (by kernel_rfl)) ?_
                have hnb96 := NB202_177.out
                have hnc96 := NB177_202.out
                have hnb97 := NB202_178.out
                have hnc97 := NB178_202.out
                have hnb98 := NB202_179.out
                have hnc98 := NB179_202.out
                have hnb99 := NB202_193.out
                have hnc99 := NB193_202.out
                obtain ⟨hcz100_0, hcz100_1, hcz100_2, hcz100_3, hfz100_0, hfz100_1, hfz100_2, hfz100_3⟩ := blk4 BK202
                try go_wp2_with (first | ((with_reducible refine gate_callee (f := 89) rfl ?_); refine goesL_ (some 57) rfl rfl Try.func89 (by kernel_rfl) rfl #[.agg #[.int .i64 t196, .int .i64 t197, .string t198, .slice Ao94 t199.length co94]] rfl ar_ ?_; (with_reducible refine (impl_isNo.calls t196 t197 t198 _ _ t199 false _ ?side1 ?side2 A64.out).mono ?_); (case side1 => refine (Kd.R_reads' (e := 31) (base := w.heap.size) (ok := fun k_ => (some k_ ≠ (u194003 : Value).ownBlock ∧ (k_ ≠ gb177 ∧ (k_ ≠ gb178 ∧ (k_ ≠ gb179 ∧ (k_ ≠ gb193 ∧ k_ ≠ gb202)))))) (n := t199.length) (c := co94) ?_).2.2; exact (by (with_reducible repeat (first | apply Kd.R_alloc | apply Kd.R_drewN | apply Kd.R_drew)); exact (Kd.R_mono (rf4 gb202 (Kd.R_mono HO201.out (fun k_ hk => (⟨hk, hk.2.2.2.2.2⟩ : _ ∧ k_ ≠ gb202))) (fun _ hk => hk.2)) (fun _ h_ => h_.1)))); (case side2 => exact (Kd.R_reads' HO201.out).2.1); rintro e w101 ⟨rfl, hb⟩; refine ⟨_, rfl, ?_⟩; replace HO_194003 := Aside0.mk (Kd.R_below (by (with_reducible repeat (first | apply Kd.R_alloc | apply Kd.R_drewN | apply Kd.R_drew)); exact (Kd.R_mono (rf4 gb202 (Kd.R_mono HO_194003.out (fun k_ hk => (⟨hk, hk.2.2.2.2.2⟩ : _ ∧ k_ ≠ gb202))) (fun _ hk => hk.2)) (fun _ h_ => h_.1))) hb); replace HO201 := Aside0.mk (Kd.R_below (by (with_reducible repeat (first | apply Kd.R_alloc | apply Kd.R_drewN | apply Kd.R_drew)); exact (Kd.R_mono (rf4 gb202 (Kd.R_mono HO201.out (fun k_ hk => (⟨hk, hk.2.2.2.2.2⟩ : _ ∧ k_ ≠ gb202))) (fun _ hk => hk.2)) (fun _ h_ => h_.1))) hb); replace BK177 := Aside0.mk (blk_below (g := gb177) (o := .cells #[.int .i64 a0_0, .int .i64 a0_1, .string a0_2, .slice (some ad194) l0_3.length c0_3] 31 (0, 0)) (by refine pe_ ?_; refine blk_far ?_ NB177_202.out _; refine pe_ ?_; refine blk_far ?_ NB177_202.out _; refine pe_ ?_; refine blk_far ?_ NB177_202.out _; refine pe_ ?_; refine blk_far ?_ NB177_202.out _; refine pe_ ?_; exact BK177.out) hb); replace BK178 := Aside0.mk (blk_below (g := gb178) (o := .cells #[.int .i64 a1_0, .int .i64 a1_1, .string a1_2, .slice (some ad195) l1_3.length c1_3] 31 (0, 0)) (by refine pe_ ?_; refine blk_far ?_ NB178_202.out _; refine pe_ ?_; refine blk_far ?_ NB178_202.out _; refine pe_ ?_; refine blk_far ?_ NB178_202.out _; refine pe_ ?_; refine blk_far ?_ NB178_202.out _; refine pe_ ?_; exact BK178.out) hb); replace BK179 := Aside0.mk (blk_below (g := gb179) (o := .cells #[.int .i64 x180000_3, .int .i64 x180001_3, .string x180002_3, .slice none 0 0] 31 (0, 0)) (by refine pe_ ?_; refine blk_far ?_ NB179_202.out _; refine pe_ ?_; refine blk_far ?_ NB179_202.out _; refine pe_ ?_; refine blk_far ?_ NB179_202.out _; refine pe_ ?_; refine blk_far ?_ NB179_202.out _; refine pe_ ?_; exact BK179.out) hb); replace BK193 := Aside0.mk (blk_below (g := gb193) (o := .cells #[.int .i64 x194000_3, .int .i64 x194001_3, .string x194002_3, u194003] 31 (0, 0)) (by refine pe_ ?_; refine blk_far ?_ NB193_202.out _; refine pe_ ?_; refine blk_far ?_ NB193_202.out _; refine pe_ ?_; refine blk_far ?_ NB193_202.out _; refine pe_ ?_; refine blk_far ?_ NB193_202.out _; refine pe_ ?_; exact BK193.out) hb); replace BK202 := Aside0.mk (blk_below (g := gb202) (o := .cells #[.int .i64 t196, .int .i64 t197, .string t198, .slice Ao94 t199.length co94] 31 (0, 0)) (by refine pe_ ?_; refine blk_put (cs := #[.int .i64 t196, .int .i64 t197, .string t198, .slice none 0 0]) ?_ 3 _ rfl; refine pe_ ?_; refine blk_put (cs := #[.int .i64 t196, .int .i64 t197, .string (⟨#[]⟩ : ByteArray), .slice none 0 0]) ?_ 2 _ rfl; refine pe_ ?_; refine blk_put (cs := #[.int .i64 t196, .int .i64 0, .string (⟨#[]⟩ : ByteArray), .slice none 0 0]) ?_ 1 _ rfl; refine pe_ ?_; refine blk_put (cs := #[.int .i64 0, .int .i64 0, .string (⟨#[]⟩ : ByteArray), .slice none 0 0]) ?_ 0 _ rfl; refine pe_ ?_; exact BK202.out) hb); replace HB := bs_ hb; (try clear hb); (try clear hb2); (try clear hk); (try clear hi); obtain ⟨hcz102_0, hcz102_1, hcz102_2, hcz102_3, hfz102_0, hfz102_1, hfz102_2, hfz102_3⟩ := blk4 BK202; have hnb103 := NB193_177.out; have hnc103 := NB177_193.out; have hnb104 := NB193_178.out; have hnc104 := NB178_193.out; have hnb105 := NB193_179.out; have hnc105 := NB179_193.out; obtain ⟨hcz106_0, hcz106_1, hcz106_2, hcz106_3, hfz106_0, hfz106_1, hfz106_2, hfz106_3⟩ := blk4 BK193))
                go_roundg k3
                case measure => have := HJ2.out; have := HJ19.out; have := HK3.out; omega
                case rel => exact ⟨(wrap64 (x42_3 + 1)), (x180000_3), (x180001_3), (x180002_3), (t196), (t197), (t198), (t199), (.slice Ao94 t199.length co94), sm_, H', ⟨by have := HJ2.out; have := HJ19.out; have := HK3.out; omega⟩, ⟨by (with_reducible repeat (first | apply Kd.R_alloc | apply Kd.R_drewN | apply Kd.R_drew)); exact Kd.R_mono (rf4 gb193 (Kd.R_mono HO201.out (fun k_ hk => (⟨hk, hk.2.2.2.2.1⟩ : _ ∧ k_ ≠ gb193))) (fun _ hk => hk.2)) (fun _ hk => ⟨hk.1.2.1, ⟨hk.1.2.2.1, ⟨hk.1.2.2.2.1, hk.1.2.2.2.2.1⟩⟩⟩)⟩, ⟨by refine pe_ ?_; refine blk_far ?_ NB177_193.out _; refine pe_ ?_; refine blk_far ?_ NB177_193.out _; refine pe_ ?_; refine blk_far ?_ NB177_193.out _; refine pe_ ?_; refine blk_far ?_ NB177_193.out _; refine pe_ ?_; exact BK177.out⟩, ⟨by refine pe_ ?_; refine blk_far ?_ NB178_193.out _; refine pe_ ?_; refine blk_far ?_ NB178_193.out _; refine pe_ ?_; refine blk_far ?_ NB178_193.out _; refine pe_ ?_; refine blk_far ?_ NB178_193.out _; refine pe_ ?_; exact BK178.out⟩, ⟨by refine pe_ ?_; refine blk_far ?_ NB179_193.out _; refine pe_ ?_; refine blk_far ?_ NB179_193.out _; refine pe_ ?_; refine blk_far ?_ NB179_193.out _; refine pe_ ?_; refine blk_far ?_ NB179_193.out _; refine pe_ ?_; exact BK179.out⟩, ⟨by refine pe_ ?_; refine blk_put (cs := #[.int .i64 t196, .int .i64 t197, .string t198, u194003]) ?_ 3 _ rfl; refine pe_ ?_; refine blk_put (cs := #[.int .i64 t196, .int .i64 t197, .string x194002_3, u194003]) ?_ 2 _ rfl; refine pe_ ?_; refine blk_put (cs := #[.int .i64 t196, .int .i64 x194001_3, .string x194002_3, u194003]) ?_ 1 _ rfl; refine pe_ ?_; refine blk_put (cs := #[.int .i64 x194000_3, .int .i64 x194001_3, .string x194002_3, u194003]) ?_ 0 _ rfl; refine pe_ ?_; exact BK193.out⟩, ⟨bel_⟩⟩
              rw [if_neg c86] at H
              have c86b0 : (t196 == 0) = false := beq_eq_false_iff_ne.mpr c86
              have c86b1 : (t196 != 0) = true := bne_iff_ne.mpr c86
              have H' := Aside0.mk H
              clear H
              try go_wp2
              replace HO_194003 := Aside0.mk (Kd.R_drew HO_194003.out)
              replace BK177 := Aside0.mk (blk_drew BK177.out)
              replace BK178 := Aside0.mk (blk_drew BK178.out)
              replace BK179 := Aside0.mk (blk_drew BK179.out)
              replace BK193 := Aside0.mk (blk_drew BK193.out)
              replace HB := Aside0.mk (below_drew1 HB.out)
              have p194 : 0 ≤ (x42_3 : Int) := od_
              have q194 : x42_3 < (l0_3.length : Int) := od_
              obtain ⟨ad194, A194_3, c194_3, e194, hx194_0, hx194_1, hx194_2, hx194_3, hl194_3, hi194_3⟩ := at_T31 HR0_3.out x42_3 p194 q194
              have hw194_3 := hx194_3
              have hw194_2 := hx194_2
              have hw194_1 := hx194_1
              have hw194_0 := hx194_0
              cases e194
              replace hx194_0 := mv_ HB hx194_0
              replace hx194_1 := mv_ HB hx194_1
              replace hx194_2 := mv_ HB hx194_2
              replace hx194_3 := mv_ HB hx194_3
              have HR194_3 := Aside0.mk hi194_3
              have HC194_3 := Aside0.mk hl194_3
              clear hi194_3 hl194_3
              replace p194 := eq_true p194
              replace q194 := eq_true q194
              have p195 : 0 ≤ (x42_3 : Int) := od_
              have q195 : x42_3 < (l1_3.length : Int) := od_
              obtain ⟨ad195, A195_3, c195_3, e195, hx195_0, hx195_1, hx195_2, hx195_3, hl195_3, hi195_3⟩ := at_T31 HR1_3.out x42_3 p195 q195
              have hw195_3 := hx195_3
              have hw195_2 := hx195_2
              have hw195_1 := hx195_1
              have hw195_0 := hx195_0
              cases e195
              replace hx195_0 := mv_ HB hx195_0
              replace hx195_1 := mv_ HB hx195_1
              replace hx195_2 := mv_ HB hx195_2
              replace hx195_3 := mv_ HB hx195_3
              have HR195_3 := Aside0.mk hi195_3
              have HC195_3 := Aside0.mk hl195_3
              clear hi195_3 hl195_3
              replace p195 := eq_true p195
              replace q195 := eq_true q195
              refine start_ (n := 13) (S := fun w' => w'.cell? ⟨gb177, 0, none⟩ = some (.int .i64 a0_0) ∧ w'.cell? ⟨gb177, 1, none⟩ = some (.int .i64 a0_1) ∧ w'.cell? ⟨gb177, 2, none⟩ = some (.string a0_2) ∧ w'.cell? ⟨gb177, 3, none⟩ = some (.slice (some ad194) l0_3.length c0_3) ∧ w'.cell? ⟨gb178, 0, none⟩ = some (.int .i64 a1_0) ∧ w'.cell? ⟨gb178, 1, none⟩ = some (.int .i64 a1_1) ∧ w'.cell? ⟨gb178, 2, none⟩ = some (.string a1_2) ∧ w'.cell? ⟨gb178, 3, none⟩ = some (.slice (some ad195) l1_3.length c1_3) ∧ w'.cell? (ad194.add ((x42_3).toNat * 4)) = some (.int .i64 ((rd_T31 l0_3 x42_3).f0)) ∧ w'.cell? ⟨(ad194.add ((x42_3).toNat * 4)).block, (ad194.add ((x42_3).toNat * 4)).off + 1, none⟩ = some (.int .i64 ((rd_T31 l0_3 x42_3).f1)) ∧ w'.cell? ⟨(ad194.add ((x42_3).toNat * 4)).block, (ad194.add ((x42_3).toNat * 4)).off + 2, none⟩ = some (.string ((rd_T31 l0_3 x42_3).f2)) ∧ w'.cell? ⟨(ad194.add ((x42_3).toNat * 4)).block, (ad194.add ((x42_3).toNat * 4)).off + 3, none⟩ = some (.slice A194_3 ((rd_T31 l0_3 x42_3).f3).length c194_3) ∧ w'.cell? (ad195.add ((x42_3).toNat * 4)) = some (.int .i64 ((rd_T31 l1_3 x42_3).f0)) ∧ w'.cell? ⟨(ad195.add ((x42_3).toNat * 4)).block, (ad195.add ((x42_3).toNat * 4)).off + 1, none⟩ = some (.int .i64 ((rd_T31 l1_3 x42_3).f1)) ∧ w'.cell? ⟨(ad195.add ((x42_3).toNat * 4)).block, (ad195.add ((x42_3).toNat * 4)).off + 2, none⟩ = some (.string ((rd_T31 l1_3 x42_3).f2)) ∧ w'.cell? ⟨(ad195.add ((x42_3).toNat * 4)).block, (ad195.add ((x42_3).toNat * 4)).off + 3, none⟩ = some (.slice A195_3 ((rd_T31 l1_3 x42_3).f3).length c195_3)) (ds := []) #[false, false, false, false, false, false, false, false, false, false, false, false, false] (by kernel_rfl) rfl rfl ⟨(blkc BK177 0), (blkc BK177 1), (blkc BK177 2), (blkc BK177 3), (blkc BK178 0), (blkc BK178 1), (blkc BK178 2), (blkc BK178 3), (mv_ HB hw194_0), (mv_ HB hw194_1), (mv_ HB hw194_2), (mv_ HB hw194_3), (mv_ HB hw195_0), (mv_ HB hw195_1), (mv_ HB hw195_2), (mv_ HB hw195_3)⟩ (fun hHeld => ?_); refine with_tabW impl_equalOf.tab9 impl_equalOf.bits9 (fun HT_ HW_ => ?_)
              generalize wr.drew = w107 at HO_194003 BK177 BK178 BK179 BK193 HB HR194_3 HR195_3 hx194_0 hx194_1 hx194_2 hx194_3 hx195_0 hx195_1 hx195_2 hx195_3 hHeld ⊢
              refine puA 0 (some 45) ?_
              refine puA 2 (some 47) ?_
              refine puA 5 (some 50) ?_
              refine puA 7 (some 52) ?_
              refine taA 1 (some 46) ?_
              refine puA 3 (some 48) ?_
              refine taA 4 (some 49) ?_
              refine taA 6 (some 51) ?_
              refine puA 8 (some 53) ?_
              refine taA 9 (some 54) ?_
              refine join_ (σ := Value × Nat) 1 #[true, true, true, true, true, true, true, true, true, true, true, true, false] (fun s_ => [(55, .agg #[.int .i64 t196, .int .i64 t197, .string t198, s_.1]), (7, .pointer (some ⟨s_.2, 0, none⟩))]) (fun s_ w' => (w'.cell? ⟨gb177, 0, none⟩ = some (.int .i64 a0_0) ∧ w'.cell? ⟨gb177, 1, none⟩ = some (.int .i64 a0_1) ∧ w'.cell? ⟨gb177, 2, none⟩ = some (.string a0_2) ∧ w'.cell? ⟨gb177, 3, none⟩ = some (.slice (some ad194) l0_3.length c0_3) ∧ w'.cell? ⟨gb178, 0, none⟩ = some (.int .i64 a1_0) ∧ w'.cell? ⟨gb178, 1, none⟩ = some (.int .i64 a1_1) ∧ w'.cell? ⟨gb178, 2, none⟩ = some (.string a1_2) ∧ w'.cell? ⟨gb178, 3, none⟩ = some (.slice (some ad195) l1_3.length c1_3) ∧ w'.cell? (ad194.add ((x42_3).toNat * 4)) = some (.int .i64 ((rd_T31 l0_3 x42_3).f0)) ∧ w'.cell? ⟨(ad194.add ((x42_3).toNat * 4)).block, (ad194.add ((x42_3).toNat * 4)).off + 1, none⟩ = some (.int .i64 ((rd_T31 l0_3 x42_3).f1)) ∧ w'.cell? ⟨(ad194.add ((x42_3).toNat * 4)).block, (ad194.add ((x42_3).toNat * 4)).off + 2, none⟩ = some (.string ((rd_T31 l0_3 x42_3).f2)) ∧ w'.cell? ⟨(ad194.add ((x42_3).toNat * 4)).block, (ad194.add ((x42_3).toNat * 4)).off + 3, none⟩ = some (.slice A194_3 ((rd_T31 l0_3 x42_3).f3).length c194_3) ∧ w'.cell? (ad195.add ((x42_3).toNat * 4)) = some (.int .i64 ((rd_T31 l1_3 x42_3).f0)) ∧ w'.cell? ⟨(ad195.add ((x42_3).toNat * 4)).block, (ad195.add ((x42_3).toNat * 4)).off + 1, none⟩ = some (.int .i64 ((rd_T31 l1_3 x42_3).f1)) ∧ w'.cell? ⟨(ad195.add ((x42_3).toNat * 4)).block, (ad195.add ((x42_3).toNat * 4)).off + 2, none⟩ = some (.string ((rd_T31 l1_3 x42_3).f2)) ∧ w'.cell? ⟨(ad195.add ((x42_3).toNat * 4)).block, (ad195.add ((x42_3).toNat * 4)).off + 3, none⟩ = some (.slice A195_3 ((rd_T31 l1_3 x42_3).f3).length c195_3)) ∧ (Kd.R k31 31 w' w.heap.size (fun k_ => some k_ ≠ (u194003 : Value).ownBlock ∧ k_ ≠ gb177 ∧ k_ ≠ gb178 ∧ k_ ≠ gb179 ∧ k_ ≠ gb193 ∧ k_ ≠ s_.2) s_.1 t199) ∧ (Kd.R k31 31 w' w.heap.size (fun k_ => some k_ ≠ (s_.1 : Value).ownBlock ∧ k_ ≠ gb177 ∧ k_ ≠ gb178 ∧ k_ ≠ gb179 ∧ k_ ≠ gb193 ∧ k_ ≠ s_.2) u194003 x194003_3) ∧ (w'.heap[gb177]? = some (.cells #[.int .i64 a0_0, .int .i64 a0_1, .string a0_2, .slice (some ad194) l0_3.length c0_3] 31 (0, 0))) ∧ (w'.heap[gb178]? = some (.cells #[.int .i64 a1_0, .int .i64 a1_1, .string a1_2, .slice (some ad195) l1_3.length c1_3] 31 (0, 0))) ∧ (w'.heap[gb179]? = some (.cells #[.int .i64 x180000_3, .int .i64 x180001_3, .string x180002_3, .slice none 0 0] 31 (0, 0))) ∧ (w'.heap[gb193]? = some (.cells #[.int .i64 x194000_3, .int .i64 x194001_3, .string x194002_3, u194003] 31 (0, 0))) ∧ (w'.heap[s_.2]? = some (.cells #[.int .i64 0, .int .i64 0, .string (⟨#[]⟩ : ByteArray), .slice none 0 0] 31 (0, 0))) ∧ (w.heap.size ≤ s_.2) ∧ (w.heap.size ≤ s_.2) ∧ (gb177 ≠ s_.2) ∧ (s_.2 ≠ gb177) ∧ (gb178 ≠ s_.2) ∧ (s_.2 ≠ gb178) ∧ (gb179 ≠ s_.2) ∧ (s_.2 ≠ gb179) ∧ (gb193 ≠ s_.2) ∧ (s_.2 ≠ gb193) ∧ (Below w.heap.size w w')) ?_ ?_
              rotate_left
              · intro hCont
                refine two_ (i := 10) (j := 11) (Ni := some 55) (Nj := some 7) #[true, true, true, true, true, true, true, true, true, true, true, false, false] #[true, true, true, true, true, true, true, true, true, true, false, true, false] rfl rfl rfl rfl (two_of HT_.out (by kernel_rfl)) (by decide) (by decide) (fun K hK => ?_) (fun K hK => ?_)
                · skip
                  refine goes_ Try.func69 (by kernel_rfl) rfl #[.agg #[.int .i64 ((rd_T31 l0_3 x42_3).f0), .int .i64 ((rd_T31 l0_3 x42_3).f1), .string ((rd_T31 l0_3 x42_3).f2), .slice A194_3 ((rd_T31 l0_3 x42_3).f3).length c194_3], .agg #[.int .i64 ((rd_T31 l1_3 x42_3).f0), .int .i64 ((rd_T31 l1_3 x42_3).f1), .string ((rd_T31 l1_3 x42_3).f2), .slice A195_3 ((rd_T31 l1_3 x42_3).f3).length c195_3]] (by rfl) rfl rfl ar_ ?_
                  with_reducible refine (ih k3 (by have := HJ2.out; have := HJ19.out; have := HK3.out; omega) ((rd_T31 l0_3 x42_3).f0) ((rd_T31 l0_3 x42_3).f1) ((rd_T31 l0_3 x42_3).f2) _ _ ((rd_T31 l0_3 x42_3).f3) ((rd_T31 l1_3 x42_3).f0) ((rd_T31 l1_3 x42_3).f1) ((rd_T31 l1_3 x42_3).f2) _ _ ((rd_T31 l1_3 x42_3).f3) t196 t197 t198 t199 _ ?side1 ?side2 ?side3 ?side4 A63.out).mono ?_
                  (case side1 => exact rdb_ HR194_3)
                  (case side2 => exact HC194_3.out)
                  (case side3 => exact rdb_ HR195_3)
                  (case side4 => exact HC195_3.out)
                  rintro e w108 ⟨v200, rfl, ho0, hb⟩
                  refine ⟨_, rfl, ?_⟩
                  have HO201 := Aside0.mk (Kd.R_lower (Kd.R_newB (Kd.R_newB (Kd.R_newB (Kd.R_newB (Kd.R_new' ho0 (Kd.R_lt (by (with_reducible repeat (first | apply Kd.R_alloc | apply Kd.R_drewN | apply Kd.R_drew)); exact HO_194003.out))) (g := gb177) (o := .cells #[.int .i64 a0_0, .int .i64 a0_1, .string a0_2, .slice (some ad194) l0_3.length c0_3] 31 (0, 0)) (bk_ BK177)) (g := gb178) (o := .cells #[.int .i64 a1_0, .int .i64 a1_1, .string a1_2, .slice (some ad195) l1_3.length c1_3] 31 (0, 0)) (bk_ BK178)) (g := gb179) (o := .cells #[.int .i64 x180000_3, .int .i64 x180001_3, .string x180002_3, .slice none 0 0] 31 (0, 0)) (bk_ BK179)) (g := gb193) (o := .cells #[.int .i64 x194000_3, .int .i64 x194001_3, .string x194002_3, u194003] 31 (0, 0)) (bk_ BK193)) (below_size (bel_)))
                  replace HO_194003 := Aside0.mk (Kd.R_elder' (by (with_reducible repeat (first | apply Kd.R_alloc | apply Kd.R_drewN | apply Kd.R_drew)); exact HO_194003.out) (Kd.R_base ho0) hb)
                  replace BK177 := bb_ BK177 hb
                  replace BK178 := bb_ BK178 hb
                  replace BK179 := bb_ BK179 hb
                  replace BK193 := bb_ BK193 hb
                  replace HB := bs_ hb
                  (try clear hb)
                  (try clear hb2)
                  (try clear hk)
                  (try clear hi)
                  (try clear ho0)
                  refine hK.out _ _ ⟨(blkc BK177 0), (blkc BK177 1), (blkc BK177 2), (blkc BK177 3), (blkc BK178 0), (blkc BK178 1), (blkc BK178 2), (blkc BK178 3), (mv_ HB hw194_0), (mv_ HB hw194_1), (mv_ HB hw194_2), (mv_ HB hw194_3), (mv_ HB hw195_0), (mv_ HB hw195_1), (mv_ HB hw195_2), (mv_ HB hw195_3)⟩ (fun hHeld => ?_)
                  clear hK K
                  refine norm_ (a' := ?_) ?_ ?_
                  rotate_left
                  · show Act.put _ (some 55) _ = _
                    simp only [Act.put, List.setIfInBounds_toArray, List.set_cons_zero, List.set_cons_succ, i64_w, i32_w]
                    rfl
                  refine one_ (i := 11) (N := some 7) #[true, true, true, true, true, true, true, true, true, true, true, true, false] rfl rfl (one_of HT_.out (by kernel_rfl)) (by decide) (fun K hK => ?_)
                  refine box_step ?hg (N := 7) ?hd (cs := #[.int .i64 0, .int .i64 0, .string (⟨#[]⟩ : ByteArray), .slice none 0 0]) (t := 31) ?hr ?_; (case hd => rfl); (case hg => rfl); (case hr => first | (go_simp; done) | (go_simp; rfl))
                  intro gb202 hg w109 hbox hb
                  have BK202 := Aside0.mk (hbox)
                  have GW202 := gw_ hg
                  have GE202 := gw_ hg
                  have NB177_202 := nlt_ hg BK177
                  have NB202_177 := ngt_ hg BK177
                  have NB178_202 := nlt_ hg BK178
                  have NB202_178 := ngt_ hg BK178
                  have NB179_202 := nlt_ hg BK179
                  have NB202_179 := ngt_ hg BK179
                  have NB193_202 := nlt_ hg BK193
                  have NB202_193 := ngt_ hg BK193
                  replace HO_194003 := Aside0.mk (Kd.R_below (Kd.R_elderB (by (with_reducible repeat (first | apply Kd.R_alloc | apply Kd.R_drewN | apply Kd.R_drew)); exact HO_194003.out) gb202 (Nat.le_of_eq hg.symm)) hb)
                  replace HO201 := Aside0.mk (Kd.R_below (Kd.R_elderB (by (with_reducible repeat (first | apply Kd.R_alloc | apply Kd.R_drewN | apply Kd.R_drew)); exact HO201.out) gb202 (Nat.le_of_eq hg.symm)) hb)
                  replace BK177 := bb_ BK177 hb
                  replace BK178 := bb_ BK178 hb
                  replace BK179 := bb_ BK179 hb
                  replace BK193 := bb_ BK193 hb
                  replace HB := bs_ hb
                  clear hb hbox hg
                  refine hK.out _ _ ⟨(blkc BK177 0), (blkc BK177 1), (blkc BK177 2), (blkc BK177 3), (blkc BK178 0), (blkc BK178 1), (blkc BK178 2), (blkc BK178 3), (mv_ HB hw194_0), (mv_ HB hw194_1), (mv_ HB hw194_2), (mv_ HB hw194_3), (mv_ HB hw195_0), (mv_ HB hw195_1), (mv_ HB hw195_2), (mv_ HB hw195_3)⟩ (fun hHeld => ?_)
                  clear hK K
                  refine norm_ (a' := ?_) ?_ ?_
                  rotate_left
                  · show Act.put _ (some 7) _ = _
                    simp only [Act.put, List.setIfInBounds_toArray, List.set_cons_zero, List.set_cons_succ, i64_w, i32_w]
                    rfl
                  exact norm_ (by simp only [putAll, Act.put, List.setIfInBounds_toArray, List.set_cons_zero, List.set_cons_succ]) (hCont (v200, gb202) _ ⟨hHeld, (by (with_reducible repeat (first | apply Kd.R_alloc | apply Kd.R_drewN | apply Kd.R_drew)); exact Kd.R_mono HO201.out (fun _ hk => ⟨hk.1.1.1.1.1.2, ⟨hk.1.1.1.1.2, ⟨hk.1.1.1.2, ⟨hk.1.1.2, ⟨hk.1.2, hk.2⟩⟩⟩⟩⟩)), (by (with_reducible repeat (first | apply Kd.R_alloc | apply Kd.R_drewN | apply Kd.R_drew)); exact Kd.R_mono HO_194003.out (fun _ hk => ⟨hk.1.2, ⟨hk.1.1.1, ⟨hk.1.1.2.1, ⟨hk.1.1.2.2.1, ⟨hk.1.1.2.2.2, hk.2⟩⟩⟩⟩⟩)), (bk_ BK177), (bk_ BK178), (bk_ BK179), (bk_ BK193), (bk_ BK202), GW202.out, GE202.out, NB177_202.out, NB202_177.out, NB178_202.out, NB202_178.out, NB179_202.out, NB202_179.out, NB193_202.out, NB202_193.out, (bel_)⟩)
                skip
                refine box_step ?hg (N := 7) ?hd (cs := #[.int .i64 0, .int .i64 0, .string (⟨#[]⟩ : ByteArray), .slice none 0 0]) (t := 31) ?hr ?_; (case hd => rfl); (case hg => rfl); (case hr => first | (go_simp; done) | (go_simp; rfl))
                intro gb202 hg w108 hbox hb
                have BK202 := Aside0.mk (hbox)
                have GW202 := gw_ hg
                have GE202 := gw_ hg
                have NB177_202 := nlt_ hg BK177
                have NB202_177 := ngt_ hg BK177
                have NB178_202 := nlt_ hg BK178
                have NB202_178 := ngt_ hg BK178
                have NB179_202 := nlt_ hg BK179
                have NB202_179 := ngt_ hg BK179
                have NB193_202 := nlt_ hg BK193
                have NB202_193 := ngt_ hg BK193
                replace HO_194003 := Aside0.mk (Kd.R_below (Kd.R_elderB (by (with_reducible repeat (first | apply Kd.R_alloc | apply Kd.R_drewN | apply Kd.R_drew)); exact HO_194003.out) gb202 (Nat.le_of_eq hg.symm)) hb)
                replace BK177 := bb_ BK177 hb
                replace BK178 := bb_ BK178 hb
                replace BK179 := bb_ BK179 hb
                replace BK193 := bb_ BK193 hb
                replace HB := bs_ hb
                clear hb hbox hg
                refine hK.out _ _ ⟨(blkc BK177 0), (blkc BK177 1), (blkc BK177 2), (blkc BK177 3), (blkc BK178 0), (blkc BK178 1), (blkc BK178 2), (blkc BK178 3), (mv_ HB hw194_0), (mv_ HB hw194_1), (mv_ HB hw194_2), (mv_ HB hw194_3), (mv_ HB hw195_0), (mv_ HB hw195_1), (mv_ HB hw195_2), (mv_ HB hw195_3)⟩ (fun hHeld => ?_)
                clear hK K
                refine norm_ (a' := ?_) ?_ ?_
                rotate_left
                · show Act.put _ (some 7) _ = _
                  simp only [Act.put, List.setIfInBounds_toArray, List.set_cons_zero, List.set_cons_succ, i64_w, i32_w]
                  rfl
                refine one_ (i := 10) (N := some 55) #[true, true, true, true, true, true, true, true, true, true, true, true, false] rfl rfl (one_of HT_.out (by kernel_rfl)) (by decide) (fun K hK => ?_)
                refine goes_ Try.func69 (by kernel_rfl) rfl #[.agg #[.int .i64 ((rd_T31 l0_3 x42_3).f0), .int .i64 ((rd_T31 l0_3 x42_3).f1), .string ((rd_T31 l0_3 x42_3).f2), .slice A194_3 ((rd_T31 l0_3 x42_3).f3).length c194_3], .agg #[.int .i64 ((rd_T31 l1_3 x42_3).f0), .int .i64 ((rd_T31 l1_3 x42_3).f1), .string ((rd_T31 l1_3 x42_3).f2), .slice A195_3 ((rd_T31 l1_3 x42_3).f3).length c195_3]] (by rfl) rfl rfl ar_ ?_
                with_reducible refine (ih k3 (by have := HJ2.out; have := HJ19.out; have := HK3.out; omega) ((rd_T31 l0_3 x42_3).f0) ((rd_T31 l0_3 x42_3).f1) ((rd_T31 l0_3 x42_3).f2) _ _ ((rd_T31 l0_3 x42_3).f3) ((rd_T31 l1_3 x42_3).f0) ((rd_T31 l1_3 x42_3).f1) ((rd_T31 l1_3 x42_3).f2) _ _ ((rd_T31 l1_3 x42_3).f3) t196 t197 t198 t199 _ ?side1 ?side2 ?side3 ?side4 A63.out).mono ?_
                (case side1 => exact rdb_ HR194_3)
                (case side2 => exact HC194_3.out)
                (case side3 => exact rdb_ HR195_3)
                (case side4 => exact HC195_3.out)
                rintro e w109 ⟨v200, rfl, ho0, hb⟩
                refine ⟨_, rfl, ?_⟩
                have HO201 := Aside0.mk (Kd.R_lower (Kd.R_newB (Kd.R_newB (Kd.R_newB (Kd.R_newB (Kd.R_newB (Kd.R_new' ho0 (Kd.R_lt (by (with_reducible repeat (first | apply Kd.R_alloc | apply Kd.R_drewN | apply Kd.R_drew)); exact HO_194003.out))) (g := gb177) (o := .cells #[.int .i64 a0_0, .int .i64 a0_1, .string a0_2, .slice (some ad194) l0_3.length c0_3] 31 (0, 0)) (bk_ BK177)) (g := gb178) (o := .cells #[.int .i64 a1_0, .int .i64 a1_1, .string a1_2, .slice (some ad195) l1_3.length c1_3] 31 (0, 0)) (bk_ BK178)) (g := gb179) (o := .cells #[.int .i64 x180000_3, .int .i64 x180001_3, .string x180002_3, .slice none 0 0] 31 (0, 0)) (bk_ BK179)) (g := gb193) (o := .cells #[.int .i64 x194000_3, .int .i64 x194001_3, .string x194002_3, u194003] 31 (0, 0)) (bk_ BK193)) (g := gb202) (o := .cells #[.int .i64 0, .int .i64 0, .string (⟨#[]⟩ : ByteArray), .slice none 0 0] 31 (0, 0)) (bk_ BK202)) (below_size (bel_)))
                replace HO_194003 := Aside0.mk (Kd.R_elder' (by (with_reducible repeat (first | apply Kd.R_alloc | apply Kd.R_drewN | apply Kd.R_drew)); exact HO_194003.out) (Kd.R_base ho0) hb)
                replace BK177 := bb_ BK177 hb
                replace BK178 := bb_ BK178 hb
                replace BK179 := bb_ BK179 hb
                replace BK193 := bb_ BK193 hb
                replace BK202 := bb_ BK202 hb
                replace HB := bs_ hb
                (try clear hb)
                (try clear hb2)
                (try clear hk)
                (try clear hi)
                (try clear ho0)
                refine hK.out _ _ ⟨(blkc BK177 0), (blkc BK177 1), (blkc BK177 2), (blkc BK177 3), (blkc BK178 0), (blkc BK178 1), (blkc BK178 2), (blkc BK178 3), (mv_ HB hw194_0), (mv_ HB hw194_1), (mv_ HB hw194_2), (mv_ HB hw194_3), (mv_ HB hw195_0), (mv_ HB hw195_1), (mv_ HB hw195_2), (mv_ HB hw195_3)⟩ (fun hHeld => ?_)
                clear hK K
                refine norm_ (a' := ?_) ?_ ?_
                rotate_left
                · show Act.put _ (some 55) _ = _
                  simp only [Act.put, List.setIfInBounds_toArray, List.set_cons_zero, List.set_cons_succ, i64_w, i32_w]
                  rfl
                exact norm_ (by simp only [putAll, Act.put, List.setIfInBounds_toArray, List.set_cons_zero, List.set_cons_succ]) (hCont (v200, gb202) _ ⟨hHeld, (by (with_reducible repeat (first | apply Kd.R_alloc | apply Kd.R_drewN | apply Kd.R_drew)); exact Kd.R_mono HO201.out (fun _ hk => ⟨hk.1.1.1.1.1.2, ⟨hk.1.1.1.1.2, ⟨hk.1.1.1.2, ⟨hk.1.1.2, ⟨hk.1.2, hk.2⟩⟩⟩⟩⟩)), (by (with_reducible repeat (first | apply Kd.R_alloc | apply Kd.R_drewN | apply Kd.R_drew)); exact Kd.R_mono HO_194003.out (fun _ hk => ⟨hk.2, ⟨hk.1.1.1, ⟨hk.1.1.2.1, ⟨hk.1.1.2.2.1, ⟨hk.1.1.2.2.2, hk.1.2⟩⟩⟩⟩⟩)), (bk_ BK177), (bk_ BK178), (bk_ BK179), (bk_ BK193), (bk_ BK202), GW202.out, GE202.out, NB177_202.out, NB202_177.out, NB178_202.out, NB202_178.out, NB179_202.out, NB202_179.out, NB193_202.out, NB202_193.out, (bel_)⟩)
              rintro ⟨v200, gb202⟩ w110 ⟨hS_, h0_, h1_, h2_, h3_, h4_, h5_, h6_, h7_, h8_, h9_, h10_, h11_, h12_, h13_, h14_, h15_, h16_, h17_⟩
              have n0_ : Aside0 (Kd.R k31 31 w110 w.heap.size (fun k_ => some k_ ≠ (u194003 : Value).ownBlock ∧ k_ ≠ gb177 ∧ k_ ≠ gb178 ∧ k_ ≠ gb179 ∧ k_ ≠ gb193 ∧ k_ ≠ gb202) v200 t199) := ⟨h0_⟩
              have n1_ : Aside0 (Kd.R k31 31 w110 w.heap.size (fun k_ => some k_ ≠ (v200 : Value).ownBlock ∧ k_ ≠ gb177 ∧ k_ ≠ gb178 ∧ k_ ≠ gb179 ∧ k_ ≠ gb193 ∧ k_ ≠ gb202) u194003 x194003_3) := ⟨h1_⟩
              have n2_ : Aside0 (w110.heap[gb177]? = some (.cells #[.int .i64 a0_0, .int .i64 a0_1, .string a0_2, .slice (some ad194) l0_3.length c0_3] 31 (0, 0))) := ⟨h2_⟩
              have n3_ : Aside0 (w110.heap[gb178]? = some (.cells #[.int .i64 a1_0, .int .i64 a1_1, .string a1_2, .slice (some ad195) l1_3.length c1_3] 31 (0, 0))) := ⟨h3_⟩
              have n4_ : Aside0 (w110.heap[gb179]? = some (.cells #[.int .i64 x180000_3, .int .i64 x180001_3, .string x180002_3, .slice none 0 0] 31 (0, 0))) := ⟨h4_⟩
              have n5_ : Aside0 (w110.heap[gb193]? = some (.cells #[.int .i64 x194000_3, .int .i64 x194001_3, .string x194002_3, u194003] 31 (0, 0))) := ⟨h5_⟩
              have n6_ : Aside0 (w110.heap[gb202]? = some (.cells #[.int .i64 0, .int .i64 0, .string (⟨#[]⟩ : ByteArray), .slice none 0 0] 31 (0, 0))) := ⟨h6_⟩
              have n7_ : Aside0 (w.heap.size ≤ gb202) := ⟨h7_⟩
              have n8_ : Aside0 (w.heap.size ≤ gb202) := ⟨h8_⟩
              have n9_ : Aside0 (gb177 ≠ gb202) := ⟨h9_⟩
              have n10_ : Aside0 (gb202 ≠ gb177) := ⟨h10_⟩
              have n11_ : Aside0 (gb178 ≠ gb202) := ⟨h11_⟩
              have n12_ : Aside0 (gb202 ≠ gb178) := ⟨h12_⟩
              have n13_ : Aside0 (gb179 ≠ gb202) := ⟨h13_⟩
              have n14_ : Aside0 (gb202 ≠ gb179) := ⟨h14_⟩
              have n15_ : Aside0 (gb193 ≠ gb202) := ⟨h15_⟩
              have n16_ : Aside0 (gb202 ≠ gb193) := ⟨h16_⟩
              have n17_ : Aside0 (Below w.heap.size w w110) := ⟨h17_⟩
              clear HO_194003
              clear BK177
              clear BK178
              clear BK179
              clear BK193
              clear HB
              clear h0_ h1_ h2_ h3_ h4_ h5_ h6_ h7_ h8_ h9_ h10_ h11_ h12_ h13_ h14_ h15_ h16_ h17_
              have HO201 := n0_
              have HO_194003 := n1_
              have BK177 := n2_
              have BK178 := n3_
              have BK179 := n4_
              have BK193 := n5_
              have BK202 := n6_
              have GW202 := n7_
              have GE202 := n8_
              have NB177_202 := n9_
              have NB202_177 := n10_
              have NB178_202 := n11_
              have NB202_178 := n12_
              have NB179_202 := n13_
              have NB202_179 := n14_
              have NB193_202 := n15_
              have NB202_193 := n16_
              have HB := n17_
              clear n0_ n1_ n2_ n3_ n4_ n5_ n6_ n7_ n8_ n9_ n10_ n11_ n12_ n13_ n14_ n15_ n16_ n17_
              have hHeld : w110.cell? ⟨gb177, 0, none⟩ = some (.int .i64 a0_0) ∧ w110.cell? ⟨gb177, 1, none⟩ = some (.int .i64 a0_1) ∧ w110.cell? ⟨gb177, 2, none⟩ = some (.string a0_2) ∧ w110.cell? ⟨gb177, 3, none⟩ = some (.slice (some ad194) l0_3.length c0_3) ∧ w110.cell? ⟨gb178, 0, none⟩ = some (.int .i64 a1_0) ∧ w110.cell? ⟨gb178, 1, none⟩ = some (.int .i64 a1_1) ∧ w110.cell? ⟨gb178, 2, none⟩ = some (.string a1_2) ∧ w110.cell? ⟨gb178, 3, none⟩ = some (.slice (some ad195) l1_3.length c1_3) ∧ w110.cell? (ad194.add ((x42_3).toNat * 4)) = some (.int .i64 ((rd_T31 l0_3 x42_3).f0)) ∧ w110.cell? ⟨(ad194.add ((x42_3).toNat * 4)).block, (ad194.add ((x42_3).toNat * 4)).off + 1, none⟩ = some (.int .i64 ((rd_T31 l0_3 x42_3).f1)) ∧ w110.cell? ⟨(ad194.add ((x42_3).toNat * 4)).block, (ad194.add ((x42_3).toNat * 4)).off + 2, none⟩ = some (.string ((rd_T31 l0_3 x42_3).f2)) ∧ w110.cell? ⟨(ad194.add ((x42_3).toNat * 4)).block, (ad194.add ((x42_3).toNat * 4)).off + 3, none⟩ = some (.slice A194_3 ((rd_T31 l0_3 x42_3).f3).length c194_3) ∧ w110.cell? (ad195.add ((x42_3).toNat * 4)) = some (.int .i64 ((rd_T31 l1_3 x42_3).f0)) ∧ w110.cell? ⟨(ad195.add ((x42_3).toNat * 4)).block, (ad195.add ((x42_3).toNat * 4)).off + 1, none⟩ = some (.int .i64 ((rd_T31 l1_3 x42_3).f1)) ∧ w110.cell? ⟨(ad195.add ((x42_3).toNat * 4)).block, (ad195.add ((x42_3).toNat * 4)).off + 2, none⟩ = some (.string ((rd_T31 l1_3 x42_3).f2)) ∧ w110.cell? ⟨(ad195.add ((x42_3).toNat * 4)).block, (ad195.add ((x42_3).toNat * 4)).off + 3, none⟩ = some (.slice A195_3 ((rd_T31 l1_3 x42_3).f3).length c195_3) := hS_
              obtain ⟨Ao114, co114, eo114⟩ := Kd.R_slice HO201.out
              (first | subst eo114 | (injection eo114 with f1_ f2_ f3_; have f4_ := f1_.symm; have f5_ := f3_.symm; clear f1_ f2_ f3_; subst f4_; subst f5_))
              refine norm_ (a' := ?_) ?_ ?_
              rotate_left
              · simp only [putAll, Act.put, List.setIfInBounds_toArray, List.set_cons_zero, List.set_cons_succ]
                rfl
              refine one_ (i := 12) (N := none) #[true, true, true, true, true, true, true, true, true, true, true, true, true] rfl rfl (one_of HT_.out (by kernel_rfl)) (by decide) (fun K hK => ?_)
              have hs111 : w110.cell? ⟨gb202, 0, none⟩ = some (.int .i64 0) := (blkc BK202 0)
              have hfs111 := blk_frozen BK202.out 0
              have hns111_0 := NB177_202.out
              have hns111_1 := NB178_202.out
              have hns111_2 := NB179_202.out
              have hns111_3 := NB193_202.out
              have hms111_0 := NB202_177.out
              have hms111_1 := NB202_178.out
              have hms111_2 := NB202_179.out
              have hms111_3 := NB202_193.out
              have hs112 : w110.cell? ⟨gb202, 1, none⟩ = some (.int .i64 0) := (blkc BK202 1)
              have hfs112 := blk_frozen BK202.out 1
              have hns112_0 := NB177_202.out
              have hns112_1 := NB178_202.out
              have hns112_2 := NB179_202.out
              have hns112_3 := NB193_202.out
              have hms112_0 := NB202_177.out
              have hms112_1 := NB202_178.out
              have hms112_2 := NB202_179.out
              have hms112_3 := NB202_193.out
              have hs113 : w110.cell? ⟨gb202, 2, none⟩ = some (.string (⟨#[]⟩ : ByteArray)) := (blkc BK202 2)
              have hfs113 := blk_frozen BK202.out 2
              have hns113_0 := NB177_202.out
              have hns113_1 := NB178_202.out
              have hns113_2 := NB179_202.out
              have hns113_3 := NB193_202.out
              have hms113_0 := NB202_177.out
              have hms113_1 := NB202_178.out
              have hms113_2 := NB202_179.out
              have hms113_3 := NB202_193.out
              have hs115 : w110.cell? ⟨gb202, 3, none⟩ = some (.slice none 0 0) := (blkc BK202 3)
              have hfs115 := blk_frozen BK202.out 3
              have hns115_0 := NB177_202.out
              have hns115_1 := NB178_202.out
              have hns115_2 := NB179_202.out
              have hns115_3 := NB193_202.out
              have hms115_0 := NB202_177.out
              have hms115_1 := NB202_178.out
              have hms115_2 := NB202_179.out
              have hms115_3 := NB202_193.out
              refine skip_ (w1 := ?_) (by rfl) rfl ?_ ?_
              rotate_left
              · go_simp
                rfl
              refine hK.out _ _ ⟨(cf4 gb202 NB177_202.out hHeld.1), (cf4 gb202 NB177_202.out hHeld.2.1), (cf4 gb202 NB177_202.out hHeld.2.2.1), (cf4 gb202 NB177_202.out hHeld.2.2.2.1), (cf4 gb202 NB178_202.out hHeld.2.2.2.2.1), (cf4 gb202 NB178_202.out hHeld.2.2.2.2.2.1), (cf4 gb202 NB178_202.out hHeld.2.2.2.2.2.2.1), (cf4 gb202 NB178_202.out hHeld.2.2.2.2.2.2.2.1), (cf4 gb202 (fl_ hw194_0 GW202) hHeld.2.2.2.2.2.2.2.2.1), (cf4 gb202 (fl_ hw194_1 GW202) hHeld.2.2.2.2.2.2.2.2.2.1), (cf4 gb202 (fl_ hw194_2 GW202) hHeld.2.2.2.2.2.2.2.2.2.2.1), (cf4 gb202 (fl_ hw194_3 GW202) hHeld.2.2.2.2.2.2.2.2.2.2.2.1), (cf4 gb202 (fl_ hw195_0 GW202) hHeld.2.2.2.2.2.2.2.2.2.2.2.2.1), (cf4 gb202 (fl_ hw195_1 GW202) hHeld.2.2.2.2.2.2.2.2.2.2.2.2.2.1), (cf4 gb202 (fl_ hw195_2 GW202) hHeld.2.2.2.2.2.2.2.2.2.2.2.2.2.2.1), (cf4 gb202 (fl_ hw195_3 GW202) hHeld.2.2.2.2.2.2.2.2.2.2.2.2.2.2.2)⟩ (fun hHeld => ?_)
              clear hK K
              refine done_ (done_of HT_.out (by kernel_rfl)) ?_
              have hnb116 := NB202_177.out
              have hnc116 := NB177_202.out
              have hnb117 := NB202_178.out
              have hnc117 := NB178_202.out
              have hnb118 := NB202_179.out
              have hnc118 := NB179_202.out
              have hnb119 := NB202_193.out
              have hnc119 := NB193_202.out
              obtain ⟨hcz120_0, hcz120_1, hcz120_2, hcz120_3, hfz120_0, hfz120_1, hfz120_2, hfz120_3⟩ := blk4 BK202
              try go_wp2_with (first | ((with_reducible refine gate_callee (f := 89) rfl ?_); refine goesL_ (some 57) rfl rfl Try.func89 (by kernel_rfl) rfl #[.agg #[.int .i64 t196, .int .i64 t197, .string t198, .slice Ao114 t199.length co114]] rfl ar_ ?_; (with_reducible refine (impl_isNo.calls t196 t197 t198 _ _ t199 false _ ?side1 ?side2 A64.out).mono ?_); (case side1 => refine (Kd.R_reads' (e := 31) (base := w.heap.size) (ok := fun k_ => (some k_ ≠ (u194003 : Value).ownBlock ∧ (k_ ≠ gb177 ∧ (k_ ≠ gb178 ∧ (k_ ≠ gb179 ∧ (k_ ≠ gb193 ∧ k_ ≠ gb202)))))) (n := t199.length) (c := co114) ?_).2.2; exact (by (with_reducible repeat (first | apply Kd.R_alloc | apply Kd.R_drewN | apply Kd.R_drew)); exact (Kd.R_mono (rf4 gb202 (Kd.R_mono HO201.out (fun k_ hk => (⟨hk, hk.2.2.2.2.2⟩ : _ ∧ k_ ≠ gb202))) (fun _ hk => hk.2)) (fun _ h_ => h_.1)))); (case side2 => exact (Kd.R_reads' HO201.out).2.1); rintro e w121 ⟨rfl, hb⟩; refine ⟨_, rfl, ?_⟩; replace HO_194003 := Aside0.mk (Kd.R_below (by (with_reducible repeat (first | apply Kd.R_alloc | apply Kd.R_drewN | apply Kd.R_drew)); exact (Kd.R_mono (rf4 gb202 (Kd.R_mono HO_194003.out (fun k_ hk => (⟨hk, hk.2.2.2.2.2⟩ : _ ∧ k_ ≠ gb202))) (fun _ hk => hk.2)) (fun _ h_ => h_.1))) hb); replace HO201 := Aside0.mk (Kd.R_below (by (with_reducible repeat (first | apply Kd.R_alloc | apply Kd.R_drewN | apply Kd.R_drew)); exact (Kd.R_mono (rf4 gb202 (Kd.R_mono HO201.out (fun k_ hk => (⟨hk, hk.2.2.2.2.2⟩ : _ ∧ k_ ≠ gb202))) (fun _ hk => hk.2)) (fun _ h_ => h_.1))) hb); replace BK177 := Aside0.mk (blk_below (g := gb177) (o := .cells #[.int .i64 a0_0, .int .i64 a0_1, .string a0_2, .slice (some ad194) l0_3.length c0_3] 31 (0, 0)) (by refine pe_ ?_; refine blk_far ?_ NB177_202.out _; refine pe_ ?_; refine blk_far ?_ NB177_202.out _; refine pe_ ?_; refine blk_far ?_ NB177_202.out _; refine pe_ ?_; refine blk_far ?_ NB177_202.out _; refine pe_ ?_; exact BK177.out) hb); replace BK178 := Aside0.mk (blk_below (g := gb178) (o := .cells #[.int .i64 a1_0, .int .i64 a1_1, .string a1_2, .slice (some ad195) l1_3.length c1_3] 31 (0, 0)) (by refine pe_ ?_; refine blk_far ?_ NB178_202.out _; refine pe_ ?_; refine blk_far ?_ NB178_202.out _; refine pe_ ?_; refine blk_far ?_ NB178_202.out _; refine pe_ ?_; refine blk_far ?_ NB178_202.out _; refine pe_ ?_; exact BK178.out) hb); replace BK179 := Aside0.mk (blk_below (g := gb179) (o := .cells #[.int .i64 x180000_3, .int .i64 x180001_3, .string x180002_3, .slice none 0 0] 31 (0, 0)) (by refine pe_ ?_; refine blk_far ?_ NB179_202.out _; refine pe_ ?_; refine blk_far ?_ NB179_202.out _; refine pe_ ?_; refine blk_far ?_ NB179_202.out _; refine pe_ ?_; refine blk_far ?_ NB179_202.out _; refine pe_ ?_; exact BK179.out) hb); replace BK193 := Aside0.mk (blk_below (g := gb193) (o := .cells #[.int .i64 x194000_3, .int .i64 x194001_3, .string x194002_3, u194003] 31 (0, 0)) (by refine pe_ ?_; refine blk_far ?_ NB193_202.out _; refine pe_ ?_; refine blk_far ?_ NB193_202.out _; refine pe_ ?_; refine blk_far ?_ NB193_202.out _; refine pe_ ?_; refine blk_far ?_ NB193_202.out _; refine pe_ ?_; exact BK193.out) hb); replace BK202 := Aside0.mk (blk_below (g := gb202) (o := .cells #[.int .i64 t196, .int .i64 t197, .string t198, .slice Ao114 t199.length co114] 31 (0, 0)) (by refine pe_ ?_; refine blk_put (cs := #[.int .i64 t196, .int .i64 t197, .string t198, .slice none 0 0]) ?_ 3 _ rfl; refine pe_ ?_; refine blk_put (cs := #[.int .i64 t196, .int .i64 t197, .string (⟨#[]⟩ : ByteArray), .slice none 0 0]) ?_ 2 _ rfl; refine pe_ ?_; refine blk_put (cs := #[.int .i64 t196, .int .i64 0, .string (⟨#[]⟩ : ByteArray), .slice none 0 0]) ?_ 1 _ rfl; refine pe_ ?_; refine blk_put (cs := #[.int .i64 0, .int .i64 0, .string (⟨#[]⟩ : ByteArray), .slice none 0 0]) ?_ 0 _ rfl; refine pe_ ?_; exact BK202.out) hb); replace HB := bs_ hb; (try clear hb); (try clear hb2); (try clear hk); (try clear hi); obtain ⟨hcz122_0, hcz122_1, hcz122_2, hcz122_3, hfz122_0, hfz122_1, hfz122_2, hfz122_3⟩ := blk4 BK202))
              go_roundg k3
              case measure => have := HJ2.out; have := HJ19.out; have := HK3.out; omega
              case rel => exact ⟨(wrap64 (x42_3 + 1)), (x180000_3), (x180001_3), (x180002_3), (x194000_3), (x194001_3), (x194002_3), (x194003_3), (u194003), sm_, H', ⟨by have := HJ2.out; have := HJ19.out; have := HK3.out; omega⟩, ⟨by (with_reducible repeat (first | apply Kd.R_alloc | apply Kd.R_drewN | apply Kd.R_drew)); exact Kd.R_mono HO_194003.out (fun _ hk => ⟨hk.2.1, ⟨hk.2.2.1, ⟨hk.2.2.2.1, hk.2.2.2.2.1⟩⟩⟩)⟩, ⟨by refine pe_ ?_; exact BK177.out⟩, ⟨by refine pe_ ?_; exact BK178.out⟩, ⟨by refine pe_ ?_; exact BK179.out⟩, ⟨by refine pe_ ?_; exact BK193.out⟩, ⟨bel_⟩⟩

end Go.Proofs.Ytejikddbdhahaaa.G
