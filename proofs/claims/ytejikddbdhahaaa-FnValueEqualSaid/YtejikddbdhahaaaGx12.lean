-- Printed by a program of this claim's writer (wip/gen), out of the translation. Lean checks it.
import Derived.Test.YtejikddbdhahaaaGx0
import Derived.Test.YtejikddbdhahaaaGx10
import Derived.Test.YtejikddbdhahaaaGx11
namespace Go.Proofs.Ytejikddbdhahaaa.G
open Go.RowKit Go.Proofs.YtejikddbdhahaaaW.PrintWords Go.Proofs.YtejikddbdhahaaaW.PrintLast Go.Proofs.YtejikddbdhahaaaW.PrintMore
attribute [local go_sem] max2_int min2_int max_two min_two max_three min_three max_four min_four Own.str_gtr Own.str_leq Own.str_geq   -- for this text's walks alone
open Own
set_option linter.unusedVariables false
set_option linter.unusedSimpArgs false

/-! ### spec_l11Value: function 82 -/
mutual
def spec_l11Value.l0 : Nat → Int → Int → List Int → Int → Int → Int → ByteArray → List (S31) → Option (Int × Int × ByteArray × (List (S31)) × Int)
  | 0, _, _, _, _, _, _, _, _ => none
  | k + 1, x1, x6, x1000, x1001, x275000, x275001, x275002, x275003 => if x6 > 0 then ((spec_l11Value.f k x1000 x1001 (wrap64 (x1 - 1))).bind fun bt277 => (if x275003.length < 2513169434916 then (spec_l11Value.l0 k x1 (wrap64 (x6 - 1)) x1000 bt277.2.2.2.2 x275000 x275001 x275002 (x275003 ++ [(⟨bt277.1, bt277.2.1, bt277.2.2.1, bt277.2.2.2.1⟩ : S31)])) else (none))) else (some (x275000, x275001, x275002, x275003, x1001))
def spec_l11Value.f : Nat → List Int → Int → Int → Option (Int × Int × ByteArray × (List (S31)) × Int)
  | 0, _, _, _ => none
  | k + 1, s0_0, s0_1, a1 => (spec_l1Rd_pick.f k s0_0 s0_1 8).bind fun bt268 => (if bt268.1 = 0 then (some (0, 0, (⟨#[]⟩ : ByteArray), ([] : List (S31)), bt268.2)) else (if bt268.1 = 1 then ((spec_l1Rd_pick.f k s0_0 bt268.2 4).bind fun bt270 => (some (5, bt270.1, (⟨#[]⟩ : ByteArray), ([] : List (S31)), bt270.2))) else (if bt268.1 = 2 then ((spec_l1Rd_pick.f k s0_0 bt268.2 4).bind fun bt272 => (some (6, bt272.1, (⟨#[]⟩ : ByteArray), ([] : List (S31)), bt272.2))) else (if bt268.1 = 3 then (if a1 > 1 then ((spec_l1Rd_pick.f k s0_0 bt268.2 4).bind fun bt275 => (spec_l11Value.l0 k a1 bt275.1 s0_0 bt275.2 4 0 (⟨#[]⟩ : ByteArray) ([] : List (S31)))) else ((spec_l11Plain.f k s0_0 bt268.2 a1).bind fun bt287 => (some (bt287.1, bt287.2.1, bt287.2.2.1, bt287.2.2.2.1, bt287.2.2.2.2)))) else ((spec_l11Plain.f k s0_0 bt268.2 a1).bind fun bt294 => (some (bt294.1, bt294.2.1, bt294.2.2.1, bt294.2.2.2.1, bt294.2.2.2.2)))))))
end
def spec_l11Value.T14 : Bool × List (List Nat × List Nat) := (true, [([], []), ([0], [0]), ([], []), ([], []), ([3], [3]), ([2, 4], [2, 4]), ([5], [5]), ([1, 6, 5], [1, 6]), ([0, 1, 2, 3, 4, 5, 6, 7], []), ([8, 7, 7, 0, 1, 2, 3, 4, 5, 6, 7], [7, 8])])
def spec_l11Value.B14 : List Nat := [0, 1, 0, 0, 8, 28, 60, 127, 255, 511]
theorem spec_l11Value.tab14 : rtab .any (opsOf Try.f82 14) = spec_l11Value.T14 := by kernel_rfl
theorem spec_l11Value.bits14 : waitsOk spec_l11Value.T14.2 spec_l11Value.B14 = true := by kernel_rfl
set_option maxHeartbeats 8000000 in
set_option maxRecDepth 100000 in
theorem spec_l11Value.calls (k : Nat) : ∀ (g : Nat) (s0_0 : List Int) (s0_1 : Int) (a1 : Int) (r1 : Int) (r2 : Int) (r3 : ByteArray) (r4 : List (S31)) (r5 : Int) (w0 w : World) (hI : IsS87 w0 w g s0_0 s0_1) (hB : Below w0.heap.size w0 w) (h : spec_l11Value.f k s0_0 s0_1 a1 = some (r1, r2, r3, r4, r5)),
    Calls Try.prog 82 #[.pointer (some ⟨g, 0, none⟩), .int .i64 a1] w fun e w' => ∃ v3_ : Value, e = .returned (.agg #[.int .i64 r1, .int .i64 r2, .string r3, v3_]) ∧ Kd.R k31 31 w' w.heap.size (fun _ => True) v3_ r4 ∧ IsS87 w0 w' g s0_0 r5 ∧ Below w0.heap.size w0 w' ∧ KeepBut w w' g none := by
  induction k using Nat.strongRecOn with
  | _ k ih =>
  intro g s0_0 s0_1 a1 r1 r2 r3 r4 r5 w0 w hI hB h
  cases k with
  | zero => exact absurd h (by simp [spec_l11Value.f])
  | succ k =>
  simp only [spec_l11Value.f] at h
  have hu31 := Try.underlying31
  have HI0 := Aside0.mk hI
  have HK := Aside0.mk (KeepBut.refl w g none)
  have HL := Aside0.mk hB.size
  clear hI
  have HW0 := Aside0.mk hB.size
  have HB := Aside0.mk hB
  clear hB
  have H : ((spec_l1Rd_pick.f k s0_0 s0_1 8).bind fun bt268 => (if bt268.1 = 0 then (some (0, 0, (⟨#[]⟩ : ByteArray), ([] : List (S31)), bt268.2)) else (if bt268.1 = 1 then ((spec_l1Rd_pick.f k s0_0 bt268.2 4).bind fun bt270 => (some (5, bt270.1, (⟨#[]⟩ : ByteArray), ([] : List (S31)), bt270.2))) else (if bt268.1 = 2 then ((spec_l1Rd_pick.f k s0_0 bt268.2 4).bind fun bt272 => (some (6, bt272.1, (⟨#[]⟩ : ByteArray), ([] : List (S31)), bt272.2))) else (if bt268.1 = 3 then (if a1 > 1 then ((spec_l1Rd_pick.f k s0_0 bt268.2 4).bind fun bt275 => (spec_l11Value.l0 k a1 bt275.1 s0_0 bt275.2 4 0 (⟨#[]⟩ : ByteArray) ([] : List (S31)))) else ((spec_l11Plain.f k s0_0 bt268.2 a1).bind fun bt287 => (some (bt287.1, bt287.2.1, bt287.2.2.1, bt287.2.2.2.1, bt287.2.2.2.2)))) else ((spec_l11Plain.f k s0_0 bt268.2 a1).bind fun bt294 => (some (bt294.1, bt294.2.1, bt294.2.2.1, bt294.2.2.2.1, bt294.2.2.2.2)))))))) = some (r1, r2, r3, r4, r5) := h
  clear h
  replace H := Option.bind_eq_some_iff.mp H
  obtain ⟨⟨t268, t269⟩, A30, H⟩ := H
  replace H : (if t268 = 0 then (some (0, 0, (⟨#[]⟩ : ByteArray), ([] : List (S31)), t269)) else (if t268 = 1 then ((spec_l1Rd_pick.f k s0_0 t269 4).bind fun bt270 => (some (5, bt270.1, (⟨#[]⟩ : ByteArray), ([] : List (S31)), bt270.2))) else (if t268 = 2 then ((spec_l1Rd_pick.f k s0_0 t269 4).bind fun bt272 => (some (6, bt272.1, (⟨#[]⟩ : ByteArray), ([] : List (S31)), bt272.2))) else (if t268 = 3 then (if a1 > 1 then ((spec_l1Rd_pick.f k s0_0 t269 4).bind fun bt275 => (spec_l11Value.l0 k a1 bt275.1 s0_0 bt275.2 4 0 (⟨#[]⟩ : ByteArray) ([] : List (S31)))) else ((spec_l11Plain.f k s0_0 t269 a1).bind fun bt287 => (some (bt287.1, bt287.2.1, bt287.2.2.1, bt287.2.2.2.1, bt287.2.2.2.2)))) else ((spec_l11Plain.f k s0_0 t269 a1).bind fun bt294 => (some (bt294.1, bt294.2.1, bt294.2.2.1, bt294.2.2.2.1, bt294.2.2.2.2))))))) = some (r1, r2, r3, r4, r5) := H
  have A3 := Aside0.mk A30
  clear A30
  by_cases c4 : t268 = 0
  · rw [if_pos c4] at H
    have c4b0 : (t268 == 0) = true := beq_iff_eq.mpr c4
    have c4b1 : (t268 != 0) = false := bne_eq_false_iff_eq.mpr c4
    clear c4
    simp only [Option.some.injEq, Prod.mk.injEq] at H
    obtain ⟨rfl, rfl, rfl, rfl, rfl⟩ := H
    go_enter Try.func82, Try.ntmps82
    go_wp2_with (first | ((with_reducible refine gate_dst (N := 4) rfl ?_); refine bx_ 4 #[.int .i64 0, .int .i64 0, .string (⟨#[]⟩ : ByteArray), .slice none 0 0] 31 ?_; intro gb267 hg w5 hbox hb; have BK267 := Aside0.mk (hbox); have GW267 := Aside0.mk ((by rw [hg]; exact (keep_size (w := w) (g := g) (row := none) (kb_ HK)) : w.heap.size ≤ gb267)); have GE267 := Aside0.mk ((Nat.le_trans HW0.out (by rw [hg]; exact (keep_size (w := w) (g := g) (row := none) (kb_ HK)) : w.heap.size ≤ gb267) : w0.heap.size ≤ gb267)); have NB0_267 := Aside0.mk ((by rw [hg]; exact Nat.ne_of_lt (IsS87.lt (show IsS87 w0 _ g s0_0 s0_1 from by repeat (first | (with_reducible first | exact HI0.out | apply IsS87.alloc | apply IsS87.drewN | apply IsS87.drew | apply IsS87.set_1) | exact HI0.out))) : g ≠ gb267)); have NB267_0 := Aside0.mk ((by rw [hg]; exact Nat.ne_of_gt (IsS87.lt (show IsS87 w0 _ g s0_0 s0_1 from by repeat (first | (with_reducible first | exact HI0.out | apply IsS87.alloc | apply IsS87.drewN | apply IsS87.drew | apply IsS87.set_1) | exact HI0.out))) : gb267 ≠ g)); replace HK := Aside0.mk (KeepBut.trans (kb_ HK) (KeepBut.of_below hb g none) (.inl rfl)); replace HB := Aside0.mk (below_step (by repeat (first | (with_reducible first | exact HB.out | apply below_alloc | apply pw_below_drewN | apply below_drew1 | refine below_set ?_ (IsS87.ge HI0.out)) | exact HB.out)) hb); replace HI0 := Aside0.mk (IsS87.below (by repeat (first | (with_reducible first | exact HI0.out | apply IsS87.alloc | apply IsS87.drewN | apply IsS87.drew | apply IsS87.set_1) | exact HI0.out)) hb); clear hb hbox hg) | ((with_reducible refine gate_callee (f := 65) rfl ?_); refine goesL_ (some 8) rfl rfl Try.func65 (by kernel_rfl) rfl #[.pointer (some ⟨g, 0, none⟩), .int .i64 8] rfl ar_ ?_; (with_reducible refine (spec_l1Rd_pick.calls k g s0_0 s0_1 8 t268 t269 w0 _ ?side1 ?side2 A3.out).mono ?_); (case side1 => repeat (first | (with_reducible first | exact HI0.out | apply IsS87.alloc | apply IsS87.drewN | apply IsS87.drew | apply IsS87.set_1 | refine IsS87.far ?_ NB0_267.out _) | exact HI0.out)); (case side2 => repeat (first | (with_reducible first | exact HB.out | apply below_alloc | apply pw_below_drewN | apply below_drew1 | refine below_set ?_ (IsS87.ge HI0.out) | refine below_set ?_ GE267.out) | exact HB.out)); rintro e w6 ⟨rfl, hi, hb, hk⟩; refine ⟨_, rfl, ?_⟩; replace BK267 := Aside0.mk (KeepBut.blk hk (g' := gb267) (o := .cells #[.int .i64 0, .int .i64 0, .string (⟨#[]⟩ : ByteArray), .slice none 0 0] 31 (0, 0)) (bk_ BK267) NB267_0.out (by simp)); replace HK := Aside0.mk (KeepBut.trans (kb_ HK) hk (.inl rfl)); replace HB := Aside0.mk (hb); replace HI0 := Aside0.mk (hi); (try clear hb); (try clear hb2); (try clear hk); (try clear hi); have hnb7 := NB267_0.out; have hnc7 := NB0_267.out; obtain ⟨hcz8_0, hcz8_1, hcz8_2, hcz8_3, hfz8_0, hfz8_1, hfz8_2, hfz8_3⟩ := blk4 BK267))
    refine bodyPost_ret (results_cell_row rfl _ _ gb267 31 #[.int .i64 0, .int .i64 0, .string (⟨#[]⟩ : ByteArray), .slice none 0 0] (0, 0) _ rfl (by refine pe_ ?_; refine blk_put (cs := #[.int .i64 0, .int .i64 0, .string (⟨#[]⟩ : ByteArray), .slice none 0 0]) ?_ 3 _ rfl; refine pe_ ?_; refine blk_put (cs := #[.int .i64 0, .int .i64 0, .string (⟨#[]⟩ : ByteArray), .slice none 0 0]) ?_ 2 _ rfl; refine pe_ ?_; refine blk_put (cs := #[.int .i64 0, .int .i64 0, .string (⟨#[]⟩ : ByteArray), .slice none 0 0]) ?_ 1 _ rfl; refine pe_ ?_; refine blk_put (cs := #[.int .i64 0, .int .i64 0, .string (⟨#[]⟩ : ByteArray), .slice none 0 0]) ?_ 0 _ rfl; refine pe_ ?_; exact BK267.out) Try.underlying31 rfl (by kernel_rfl)) rfl ?_
    exact ⟨_, by first | rfl | (simp [errW_none, errW_some] <;> rfl) | (simp [*, errW_none, errW_some] <;> rfl), by first | exact Kd.R_nil _ _ _ _ _ | exact Kd.N_nil _ _ _ _ _ | exact Kd.V_nil _ _ _ _ _ | exact Kd.Q_nil _ _ _ _ _ | exact Kd.S_nil _ _ _ _ _, by repeat (first | (with_reducible first | exact HI0.out | apply IsS87.alloc | apply IsS87.drewN | apply IsS87.drew | apply IsS87.set_1 | refine IsS87.far ?_ NB0_267.out _) | exact HI0.out), by repeat (first | (with_reducible first | exact HB.out | apply below_alloc | apply pw_below_drewN | apply below_drew1 | refine below_set ?_ (IsS87.ge HI0.out) | refine below_set ?_ GE267.out) | exact HB.out), by repeat (first | (with_reducible first | exact HK.out | apply KeepBut.set_ | apply keep_drewN | apply keep_drew | apply keep_alloc | refine keep_far ?_ GW267.out _) | exact HK.out)⟩
  rw [if_neg c4] at H
  have c4b0 : (t268 == 0) = false := beq_eq_false_iff_ne.mpr c4
  have c4b1 : (t268 != 0) = true := bne_iff_ne.mpr c4
  by_cases c9 : t268 = 1
  · rw [if_pos c9] at H
    have c9b0 : (t268 == 1) = true := beq_iff_eq.mpr c9
    have c9b1 : (t268 != 1) = false := bne_eq_false_iff_eq.mpr c9
    clear c9
    replace H := Option.bind_eq_some_iff.mp H
    obtain ⟨⟨t270, t271⟩, A100, H⟩ := H
    replace H : (some (5, t270, (⟨#[]⟩ : ByteArray), ([] : List (S31)), t271)) = some (r1, r2, r3, r4, r5) := H
    have A10 := Aside0.mk A100
    clear A100
    simp only [Option.some.injEq, Prod.mk.injEq] at H
    obtain ⟨rfl, rfl, rfl, rfl, rfl⟩ := H
    go_enter Try.func82, Try.ntmps82
    go_wp2_with (first | ((with_reducible refine gate_dst (N := 4) rfl ?_); refine bx_ 4 #[.int .i64 0, .int .i64 0, .string (⟨#[]⟩ : ByteArray), .slice none 0 0] 31 ?_; intro gb267 hg w11 hbox hb; have BK267 := Aside0.mk (hbox); have GW267 := Aside0.mk ((by rw [hg]; exact (keep_size (w := w) (g := g) (row := none) (kb_ HK)) : w.heap.size ≤ gb267)); have GE267 := Aside0.mk ((Nat.le_trans HW0.out (by rw [hg]; exact (keep_size (w := w) (g := g) (row := none) (kb_ HK)) : w.heap.size ≤ gb267) : w0.heap.size ≤ gb267)); have NB0_267 := Aside0.mk ((by rw [hg]; exact Nat.ne_of_lt (IsS87.lt (show IsS87 w0 _ g s0_0 s0_1 from by repeat (first | (with_reducible first | exact HI0.out | apply IsS87.alloc | apply IsS87.drewN | apply IsS87.drew | apply IsS87.set_1) | exact HI0.out))) : g ≠ gb267)); have NB267_0 := Aside0.mk ((by rw [hg]; exact Nat.ne_of_gt (IsS87.lt (show IsS87 w0 _ g s0_0 s0_1 from by repeat (first | (with_reducible first | exact HI0.out | apply IsS87.alloc | apply IsS87.drewN | apply IsS87.drew | apply IsS87.set_1) | exact HI0.out))) : gb267 ≠ g)); replace HK := Aside0.mk (KeepBut.trans (kb_ HK) (KeepBut.of_below hb g none) (.inl rfl)); replace HB := Aside0.mk (below_step (by repeat (first | (with_reducible first | exact HB.out | apply below_alloc | apply pw_below_drewN | apply below_drew1 | refine below_set ?_ (IsS87.ge HI0.out)) | exact HB.out)) hb); replace HI0 := Aside0.mk (IsS87.below (by repeat (first | (with_reducible first | exact HI0.out | apply IsS87.alloc | apply IsS87.drewN | apply IsS87.drew | apply IsS87.set_1) | exact HI0.out)) hb); clear hb hbox hg) | ((with_reducible refine gate_callee (f := 65) rfl ?_); refine goesL_ (some 8) rfl rfl Try.func65 (by kernel_rfl) rfl #[.pointer (some ⟨g, 0, none⟩), .int .i64 8] rfl ar_ ?_; (with_reducible refine (spec_l1Rd_pick.calls k g s0_0 s0_1 8 t268 t269 w0 _ ?side1 ?side2 A3.out).mono ?_); (case side1 => repeat (first | (with_reducible first | exact HI0.out | apply IsS87.alloc | apply IsS87.drewN | apply IsS87.drew | apply IsS87.set_1 | refine IsS87.far ?_ NB0_267.out _) | exact HI0.out)); (case side2 => repeat (first | (with_reducible first | exact HB.out | apply below_alloc | apply pw_below_drewN | apply below_drew1 | refine below_set ?_ (IsS87.ge HI0.out) | refine below_set ?_ GE267.out) | exact HB.out)); rintro e w12 ⟨rfl, hi, hb, hk⟩; refine ⟨_, rfl, ?_⟩; replace BK267 := Aside0.mk (KeepBut.blk hk (g' := gb267) (o := .cells #[.int .i64 0, .int .i64 0, .string (⟨#[]⟩ : ByteArray), .slice none 0 0] 31 (0, 0)) (bk_ BK267) NB267_0.out (by simp)); replace HK := Aside0.mk (KeepBut.trans (kb_ HK) hk (.inl rfl)); replace HB := Aside0.mk (hb); replace HI0 := Aside0.mk (hi); (try clear hb); (try clear hb2); (try clear hk); (try clear hi)) | ((with_reducible refine gate_callee (f := 65) rfl ?_); refine goesL_ (some 15) rfl rfl Try.func65 (by kernel_rfl) rfl #[.pointer (some ⟨g, 0, none⟩), .int .i64 4] rfl ar_ ?_; (with_reducible refine (spec_l1Rd_pick.calls k g s0_0 t269 4 t270 t271 w0 _ ?side1 ?side2 A10.out).mono ?_); (case side1 => repeat (first | (with_reducible first | exact HI0.out | apply IsS87.alloc | apply IsS87.drewN | apply IsS87.drew | apply IsS87.set_1 | refine IsS87.far ?_ NB0_267.out _) | exact HI0.out)); (case side2 => repeat (first | (with_reducible first | exact HB.out | apply below_alloc | apply pw_below_drewN | apply below_drew1 | refine below_set ?_ (IsS87.ge HI0.out) | refine below_set ?_ GE267.out) | exact HB.out)); rintro e w13 ⟨rfl, hi, hb, hk⟩; refine ⟨_, rfl, ?_⟩; replace BK267 := Aside0.mk (KeepBut.blk hk (g' := gb267) (o := .cells #[.int .i64 0, .int .i64 0, .string (⟨#[]⟩ : ByteArray), .slice none 0 0] 31 (0, 0)) (bk_ BK267) NB267_0.out (by simp)); replace HK := Aside0.mk (KeepBut.trans (kb_ HK) hk (.inl rfl)); replace HB := Aside0.mk (hb); replace HI0 := Aside0.mk (hi); (try clear hb); (try clear hb2); (try clear hk); (try clear hi); have hnb14 := NB267_0.out; have hnc14 := NB0_267.out; obtain ⟨hcz15_0, hcz15_1, hcz15_2, hcz15_3, hfz15_0, hfz15_1, hfz15_2, hfz15_3⟩ := blk4 BK267))
    refine bodyPost_ret (results_cell_row rfl _ _ gb267 31 #[.int .i64 5, .int .i64 t270, .string (⟨#[]⟩ : ByteArray), .slice none 0 0] (0, 0) _ rfl (by refine pe_ ?_; refine blk_put (cs := #[.int .i64 5, .int .i64 t270, .string (⟨#[]⟩ : ByteArray), .slice none 0 0]) ?_ 3 _ rfl; refine pe_ ?_; refine blk_put (cs := #[.int .i64 5, .int .i64 t270, .string (⟨#[]⟩ : ByteArray), .slice none 0 0]) ?_ 2 _ rfl; refine pe_ ?_; refine blk_put (cs := #[.int .i64 5, .int .i64 0, .string (⟨#[]⟩ : ByteArray), .slice none 0 0]) ?_ 1 _ rfl; refine pe_ ?_; refine blk_put (cs := #[.int .i64 0, .int .i64 0, .string (⟨#[]⟩ : ByteArray), .slice none 0 0]) ?_ 0 _ rfl; refine pe_ ?_; exact BK267.out) Try.underlying31 rfl (by kernel_rfl)) rfl ?_
    exact ⟨_, by first | rfl | (simp [errW_none, errW_some] <;> rfl) | (simp [*, errW_none, errW_some] <;> rfl), by first | exact Kd.R_nil _ _ _ _ _ | exact Kd.N_nil _ _ _ _ _ | exact Kd.V_nil _ _ _ _ _ | exact Kd.Q_nil _ _ _ _ _ | exact Kd.S_nil _ _ _ _ _, by repeat (first | (with_reducible first | exact HI0.out | apply IsS87.alloc | apply IsS87.drewN | apply IsS87.drew | apply IsS87.set_1 | refine IsS87.far ?_ NB0_267.out _) | exact HI0.out), by repeat (first | (with_reducible first | exact HB.out | apply below_alloc | apply pw_below_drewN | apply below_drew1 | refine below_set ?_ (IsS87.ge HI0.out) | refine below_set ?_ GE267.out) | exact HB.out), by repeat (first | (with_reducible first | exact HK.out | apply KeepBut.set_ | apply keep_drewN | apply keep_drew | apply keep_alloc | refine keep_far ?_ GW267.out _) | exact HK.out)⟩
  rw [if_neg c9] at H
  have c9b0 : (t268 == 1) = false := beq_eq_false_iff_ne.mpr c9
  have c9b1 : (t268 != 1) = true := bne_iff_ne.mpr c9
  by_cases c16 : t268 = 2
  · rw [if_pos c16] at H
    have c16b0 : (t268 == 2) = true := beq_iff_eq.mpr c16
    have c16b1 : (t268 != 2) = false := bne_eq_false_iff_eq.mpr c16
    clear c16
    replace H := Option.bind_eq_some_iff.mp H
    obtain ⟨⟨t272, t273⟩, A170, H⟩ := H
    replace H : (some (6, t272, (⟨#[]⟩ : ByteArray), ([] : List (S31)), t273)) = some (r1, r2, r3, r4, r5) := H
    have A17 := Aside0.mk A170
    clear A170
    simp only [Option.some.injEq, Prod.mk.injEq] at H
    obtain ⟨rfl, rfl, rfl, rfl, rfl⟩ := H
    go_enter Try.func82, Try.ntmps82
    go_wp2_with (first | ((with_reducible refine gate_dst (N := 4) rfl ?_); refine bx_ 4 #[.int .i64 0, .int .i64 0, .string (⟨#[]⟩ : ByteArray), .slice none 0 0] 31 ?_; intro gb267 hg w18 hbox hb; have BK267 := Aside0.mk (hbox); have GW267 := Aside0.mk ((by rw [hg]; exact (keep_size (w := w) (g := g) (row := none) (kb_ HK)) : w.heap.size ≤ gb267)); have GE267 := Aside0.mk ((Nat.le_trans HW0.out (by rw [hg]; exact (keep_size (w := w) (g := g) (row := none) (kb_ HK)) : w.heap.size ≤ gb267) : w0.heap.size ≤ gb267)); have NB0_267 := Aside0.mk ((by rw [hg]; exact Nat.ne_of_lt (IsS87.lt (show IsS87 w0 _ g s0_0 s0_1 from by repeat (first | (with_reducible first | exact HI0.out | apply IsS87.alloc | apply IsS87.drewN | apply IsS87.drew | apply IsS87.set_1) | exact HI0.out))) : g ≠ gb267)); have NB267_0 := Aside0.mk ((by rw [hg]; exact Nat.ne_of_gt (IsS87.lt (show IsS87 w0 _ g s0_0 s0_1 from by repeat (first | (with_reducible first | exact HI0.out | apply IsS87.alloc | apply IsS87.drewN | apply IsS87.drew | apply IsS87.set_1) | exact HI0.out))) : gb267 ≠ g)); replace HK := Aside0.mk (KeepBut.trans (kb_ HK) (KeepBut.of_below hb g none) (.inl rfl)); replace HB := Aside0.mk (below_step (by repeat (first | (with_reducible first | exact HB.out | apply below_alloc | apply pw_below_drewN | apply below_drew1 | refine below_set ?_ (IsS87.ge HI0.out)) | exact HB.out)) hb); replace HI0 := Aside0.mk (IsS87.below (by repeat (first | (with_reducible first | exact HI0.out | apply IsS87.alloc | apply IsS87.drewN | apply IsS87.drew | apply IsS87.set_1) | exact HI0.out)) hb); clear hb hbox hg) | ((with_reducible refine gate_callee (f := 65) rfl ?_); refine goesL_ (some 8) rfl rfl Try.func65 (by kernel_rfl) rfl #[.pointer (some ⟨g, 0, none⟩), .int .i64 8] rfl ar_ ?_; (with_reducible refine (spec_l1Rd_pick.calls k g s0_0 s0_1 8 t268 t269 w0 _ ?side1 ?side2 A3.out).mono ?_); (case side1 => repeat (first | (with_reducible first | exact HI0.out | apply IsS87.alloc | apply IsS87.drewN | apply IsS87.drew | apply IsS87.set_1 | refine IsS87.far ?_ NB0_267.out _) | exact HI0.out)); (case side2 => repeat (first | (with_reducible first | exact HB.out | apply below_alloc | apply pw_below_drewN | apply below_drew1 | refine below_set ?_ (IsS87.ge HI0.out) | refine below_set ?_ GE267.out) | exact HB.out)); rintro e w19 ⟨rfl, hi, hb, hk⟩; refine ⟨_, rfl, ?_⟩; replace BK267 := Aside0.mk (KeepBut.blk hk (g' := gb267) (o := .cells #[.int .i64 0, .int .i64 0, .string (⟨#[]⟩ : ByteArray), .slice none 0 0] 31 (0, 0)) (bk_ BK267) NB267_0.out (by simp)); replace HK := Aside0.mk (KeepBut.trans (kb_ HK) hk (.inl rfl)); replace HB := Aside0.mk (hb); replace HI0 := Aside0.mk (hi); (try clear hb); (try clear hb2); (try clear hk); (try clear hi)) | ((with_reducible refine gate_callee (f := 65) rfl ?_); refine goesL_ (some 20) rfl rfl Try.func65 (by kernel_rfl) rfl #[.pointer (some ⟨g, 0, none⟩), .int .i64 4] rfl ar_ ?_; (with_reducible refine (spec_l1Rd_pick.calls k g s0_0 t269 4 t272 t273 w0 _ ?side1 ?side2 A17.out).mono ?_); (case side1 => repeat (first | (with_reducible first | exact HI0.out | apply IsS87.alloc | apply IsS87.drewN | apply IsS87.drew | apply IsS87.set_1 | refine IsS87.far ?_ NB0_267.out _) | exact HI0.out)); (case side2 => repeat (first | (with_reducible first | exact HB.out | apply below_alloc | apply pw_below_drewN | apply below_drew1 | refine below_set ?_ (IsS87.ge HI0.out) | refine below_set ?_ GE267.out) | exact HB.out)); rintro e w20 ⟨rfl, hi, hb, hk⟩; refine ⟨_, rfl, ?_⟩; replace BK267 := Aside0.mk (KeepBut.blk hk (g' := gb267) (o := .cells #[.int .i64 0, .int .i64 0, .string (⟨#[]⟩ : ByteArray), .slice none 0 0] 31 (0, 0)) (bk_ BK267) NB267_0.out (by simp)); replace HK := Aside0.mk (KeepBut.trans (kb_ HK) hk (.inl rfl)); replace HB := Aside0.mk (hb); replace HI0 := Aside0.mk (hi); (try clear hb); (try clear hb2); (try clear hk); (try clear hi); have hnb21 := NB267_0.out; have hnc21 := NB0_267.out; obtain ⟨hcz22_0, hcz22_1, hcz22_2, hcz22_3, hfz22_0, hfz22_1, hfz22_2, hfz22_3⟩ := blk4 BK267))
    refine bodyPost_ret (results_cell_row rfl _ _ gb267 31 #[.int .i64 6, .int .i64 t272, .string (⟨#[]⟩ : ByteArray), .slice none 0 0] (0, 0) _ rfl (by refine pe_ ?_; refine blk_put (cs := #[.int .i64 6, .int .i64 t272, .string (⟨#[]⟩ : ByteArray), .slice none 0 0]) ?_ 3 _ rfl; refine pe_ ?_; refine blk_put (cs := #[.int .i64 6, .int .i64 t272, .string (⟨#[]⟩ : ByteArray), .slice none 0 0]) ?_ 2 _ rfl; refine pe_ ?_; refine blk_put (cs := #[.int .i64 6, .int .i64 0, .string (⟨#[]⟩ : ByteArray), .slice none 0 0]) ?_ 1 _ rfl; refine pe_ ?_; refine blk_put (cs := #[.int .i64 0, .int .i64 0, .string (⟨#[]⟩ : ByteArray), .slice none 0 0]) ?_ 0 _ rfl; refine pe_ ?_; exact BK267.out) Try.underlying31 rfl (by kernel_rfl)) rfl ?_
    exact ⟨_, by first | rfl | (simp [errW_none, errW_some] <;> rfl) | (simp [*, errW_none, errW_some] <;> rfl), by first | exact Kd.R_nil _ _ _ _ _ | exact Kd.N_nil _ _ _ _ _ | exact Kd.V_nil _ _ _ _ _ | exact Kd.Q_nil _ _ _ _ _ | exact Kd.S_nil _ _ _ _ _, by repeat (first | (with_reducible first | exact HI0.out | apply IsS87.alloc | apply IsS87.drewN | apply IsS87.drew | apply IsS87.set_1 | refine IsS87.far ?_ NB0_267.out _) | exact HI0.out), by repeat (first | (with_reducible first | exact HB.out | apply below_alloc | apply pw_below_drewN | apply below_drew1 | refine below_set ?_ (IsS87.ge HI0.out) | refine below_set ?_ GE267.out) | exact HB.out), by repeat (first | (with_reducible first | exact HK.out | apply KeepBut.set_ | apply keep_drewN | apply keep_drew | apply keep_alloc | refine keep_far ?_ GW267.out _) | exact HK.out)⟩
  rw [if_neg c16] at H
  have c16b0 : (t268 == 2) = false := beq_eq_false_iff_ne.mpr c16
  have c16b1 : (t268 != 2) = true := bne_iff_ne.mpr c16
  by_cases c23 : t268 = 3
  rotate_left
  · rw [if_neg c23] at H
    have c23b0 : (t268 == 3) = false := beq_eq_false_iff_ne.mpr c23
    have c23b1 : (t268 != 3) = true := bne_iff_ne.mpr c23
    replace H := Option.bind_eq_some_iff.mp H
    obtain ⟨⟨t294, t295, t296, t297, t300⟩, A550, H⟩ := H
    replace H : (some (t294, t295, t296, t297, t300)) = some (r1, r2, r3, r4, r5) := H
    have A55 := Aside0.mk A550
    clear A550
    simp only [Option.some.injEq, Prod.mk.injEq] at H
    obtain ⟨rfl, rfl, rfl, rfl, rfl⟩ := H
    go_enter Try.func82, Try.ntmps82
    go_wp2_with (first | ((with_reducible refine gate_dst (N := 4) rfl ?_); refine bx_ 4 #[.int .i64 0, .int .i64 0, .string (⟨#[]⟩ : ByteArray), .slice none 0 0] 31 ?_; intro gb267 hg w56 hbox hb; have BK267 := Aside0.mk (hbox); have GW267 := Aside0.mk ((by rw [hg]; exact (keep_size (w := w) (g := g) (row := none) (kb_ HK)) : w.heap.size ≤ gb267)); have GE267 := Aside0.mk ((Nat.le_trans HW0.out (by rw [hg]; exact (keep_size (w := w) (g := g) (row := none) (kb_ HK)) : w.heap.size ≤ gb267) : w0.heap.size ≤ gb267)); have NB0_267 := Aside0.mk ((by rw [hg]; exact Nat.ne_of_lt (IsS87.lt (show IsS87 w0 _ g s0_0 s0_1 from by repeat (first | (with_reducible first | exact HI0.out | apply IsS87.alloc | apply IsS87.drewN | apply IsS87.drew | apply IsS87.set_1) | exact HI0.out))) : g ≠ gb267)); have NB267_0 := Aside0.mk ((by rw [hg]; exact Nat.ne_of_gt (IsS87.lt (show IsS87 w0 _ g s0_0 s0_1 from by repeat (first | (with_reducible first | exact HI0.out | apply IsS87.alloc | apply IsS87.drewN | apply IsS87.drew | apply IsS87.set_1) | exact HI0.out))) : gb267 ≠ g)); replace HK := Aside0.mk (KeepBut.trans (kb_ HK) (KeepBut.of_below hb g none) (.inl rfl)); replace HB := Aside0.mk (below_step (by repeat (first | (with_reducible first | exact HB.out | apply below_alloc | apply pw_below_drewN | apply below_drew1 | refine below_set ?_ (IsS87.ge HI0.out)) | exact HB.out)) hb); replace HI0 := Aside0.mk (IsS87.below (by repeat (first | (with_reducible first | exact HI0.out | apply IsS87.alloc | apply IsS87.drewN | apply IsS87.drew | apply IsS87.set_1) | exact HI0.out)) hb); clear hb hbox hg) | ((with_reducible refine gate_callee (f := 65) rfl ?_); refine goesL_ (some 8) rfl rfl Try.func65 (by kernel_rfl) rfl #[.pointer (some ⟨g, 0, none⟩), .int .i64 8] rfl ar_ ?_; (with_reducible refine (spec_l1Rd_pick.calls k g s0_0 s0_1 8 t268 t269 w0 _ ?side1 ?side2 A3.out).mono ?_); (case side1 => repeat (first | (with_reducible first | exact HI0.out | apply IsS87.alloc | apply IsS87.drewN | apply IsS87.drew | apply IsS87.set_1 | refine IsS87.far ?_ NB0_267.out _) | exact HI0.out)); (case side2 => repeat (first | (with_reducible first | exact HB.out | apply below_alloc | apply pw_below_drewN | apply below_drew1 | refine below_set ?_ (IsS87.ge HI0.out) | refine below_set ?_ GE267.out) | exact HB.out)); rintro e w57 ⟨rfl, hi, hb, hk⟩; refine ⟨_, rfl, ?_⟩; replace BK267 := Aside0.mk (KeepBut.blk hk (g' := gb267) (o := .cells #[.int .i64 0, .int .i64 0, .string (⟨#[]⟩ : ByteArray), .slice none 0 0] 31 (0, 0)) (bk_ BK267) NB267_0.out (by simp)); replace HK := Aside0.mk (KeepBut.trans (kb_ HK) hk (.inl rfl)); replace HB := Aside0.mk (hb); replace HI0 := Aside0.mk (hi); (try clear hb); (try clear hb2); (try clear hk); (try clear hi)) | ((with_reducible refine gate_callee (f := 85) rfl ?_); refine goesL_ (some 45) rfl rfl Try.func85 (by kernel_rfl) rfl #[.pointer (some ⟨g, 0, none⟩), .int .i64 a1] rfl ar_ ?_; (with_reducible refine (spec_l11Plain.calls k g s0_0 t269 a1 t294 t295 t296 t297 t300 w0 _ ?side1 ?side2 A55.out).mono ?_); (case side1 => repeat (first | (with_reducible first | exact HI0.out | apply IsS87.alloc | apply IsS87.drewN | apply IsS87.drew | apply IsS87.set_1 | refine IsS87.far ?_ NB0_267.out _) | exact HI0.out)); (case side2 => repeat (first | (with_reducible first | exact HB.out | apply below_alloc | apply pw_below_drewN | apply below_drew1 | refine below_set ?_ (IsS87.ge HI0.out) | refine below_set ?_ GE267.out) | exact HB.out)); rintro e w58 ⟨v298, rfl, ho0, hi, hb, hk⟩; refine ⟨_, rfl, ?_⟩; have HO299 := Aside0.mk (Kd.R_lower (Kd.R_newB ho0 (g := gb267) (o := .cells #[.int .i64 0, .int .i64 0, .string (⟨#[]⟩ : ByteArray), .slice none 0 0] 31 (0, 0)) (bk_ BK267)) (keep_size (w := w) (g := g) (row := none) (kb_ HK))); replace BK267 := Aside0.mk (KeepBut.blk hk (g' := gb267) (o := .cells #[.int .i64 0, .int .i64 0, .string (⟨#[]⟩ : ByteArray), .slice none 0 0] 31 (0, 0)) (bk_ BK267) NB267_0.out (by simp)); replace HK := Aside0.mk (KeepBut.trans (kb_ HK) hk (.inl rfl)); replace HB := Aside0.mk (hb); replace HI0 := Aside0.mk (hi); (try clear hb); (try clear hb2); (try clear hk); (try clear hi); (try clear ho0); have hnb59 := NB267_0.out; have hnc59 := NB0_267.out; obtain ⟨hcz60_0, hcz60_1, hcz60_2, hcz60_3, hfz60_0, hfz60_1, hfz60_2, hfz60_3⟩ := blk4 BK267; obtain ⟨Ao61, co61, eo61⟩ := Kd.R_slice HO299.out; subst eo61))
    refine bodyPost_ret (results_cell_row rfl _ _ gb267 31 #[.int .i64 t294, .int .i64 t295, .string t296, .slice Ao61 t297.length co61] (0, 0) _ rfl (by refine pe_ ?_; refine blk_put (cs := #[.int .i64 t294, .int .i64 t295, .string t296, .slice none 0 0]) ?_ 3 _ rfl; refine pe_ ?_; refine blk_put (cs := #[.int .i64 t294, .int .i64 t295, .string (⟨#[]⟩ : ByteArray), .slice none 0 0]) ?_ 2 _ rfl; refine pe_ ?_; refine blk_put (cs := #[.int .i64 t294, .int .i64 0, .string (⟨#[]⟩ : ByteArray), .slice none 0 0]) ?_ 1 _ rfl; refine pe_ ?_; refine blk_put (cs := #[.int .i64 0, .int .i64 0, .string (⟨#[]⟩ : ByteArray), .slice none 0 0]) ?_ 0 _ rfl; refine pe_ ?_; exact BK267.out) Try.underlying31 rfl (by kernel_rfl)) rfl ?_
    exact ⟨_, by first | rfl | (simp [errW_none, errW_some] <;> rfl) | (simp [*, errW_none, errW_some] <;> rfl), by (with_reducible repeat (first | apply Kd.R_alloc | apply Kd.R_drewN | apply Kd.R_drew)); exact Kd.R_mono (rf4 gb267 (Kd.R_mono HO299.out (fun k_ hk => (⟨hk, hk.2⟩ : _ ∧ k_ ≠ gb267))) (fun _ hk => hk.2)) (fun _ hk => trivial), by repeat (first | (with_reducible first | exact HI0.out | apply IsS87.alloc | apply IsS87.drewN | apply IsS87.drew | apply IsS87.set_1 | refine IsS87.far ?_ NB0_267.out _) | exact HI0.out), by repeat (first | (with_reducible first | exact HB.out | apply below_alloc | apply pw_below_drewN | apply below_drew1 | refine below_set ?_ (IsS87.ge HI0.out) | refine below_set ?_ GE267.out) | exact HB.out), by repeat (first | (with_reducible first | exact HK.out | apply KeepBut.set_ | apply keep_drewN | apply keep_drew | apply keep_alloc | refine keep_far ?_ GW267.out _) | exact HK.out)⟩
  rw [if_pos c23] at H
  have c23b0 : (t268 == 3) = true := beq_iff_eq.mpr c23
  have c23b1 : (t268 != 3) = false := bne_eq_false_iff_eq.mpr c23
  clear c23
  by_cases c24 : a1 > 1
  rotate_left
  · rw [if_neg c24] at H
    have c24b0 : decide (1 < a1) = false := decide_eq_false c24
    clear c24
    replace H := Option.bind_eq_some_iff.mp H
    obtain ⟨⟨t287, t288, t289, t290, t293⟩, A480, H⟩ := H
    replace H : (some (t287, t288, t289, t290, t293)) = some (r1, r2, r3, r4, r5) := H
    have A48 := Aside0.mk A480
    clear A480
    simp only [Option.some.injEq, Prod.mk.injEq] at H
    obtain ⟨rfl, rfl, rfl, rfl, rfl⟩ := H
    go_enter Try.func82, Try.ntmps82
    go_wp2_with (first | ((with_reducible refine gate_dst (N := 4) rfl ?_); refine bx_ 4 #[.int .i64 0, .int .i64 0, .string (⟨#[]⟩ : ByteArray), .slice none 0 0] 31 ?_; intro gb267 hg w49 hbox hb; have BK267 := Aside0.mk (hbox); have GW267 := Aside0.mk ((by rw [hg]; exact (keep_size (w := w) (g := g) (row := none) (kb_ HK)) : w.heap.size ≤ gb267)); have GE267 := Aside0.mk ((Nat.le_trans HW0.out (by rw [hg]; exact (keep_size (w := w) (g := g) (row := none) (kb_ HK)) : w.heap.size ≤ gb267) : w0.heap.size ≤ gb267)); have NB0_267 := Aside0.mk ((by rw [hg]; exact Nat.ne_of_lt (IsS87.lt (show IsS87 w0 _ g s0_0 s0_1 from by repeat (first | (with_reducible first | exact HI0.out | apply IsS87.alloc | apply IsS87.drewN | apply IsS87.drew | apply IsS87.set_1) | exact HI0.out))) : g ≠ gb267)); have NB267_0 := Aside0.mk ((by rw [hg]; exact Nat.ne_of_gt (IsS87.lt (show IsS87 w0 _ g s0_0 s0_1 from by repeat (first | (with_reducible first | exact HI0.out | apply IsS87.alloc | apply IsS87.drewN | apply IsS87.drew | apply IsS87.set_1) | exact HI0.out))) : gb267 ≠ g)); replace HK := Aside0.mk (KeepBut.trans (kb_ HK) (KeepBut.of_below hb g none) (.inl rfl)); replace HB := Aside0.mk (below_step (by repeat (first | (with_reducible first | exact HB.out | apply below_alloc | apply pw_below_drewN | apply below_drew1 | refine below_set ?_ (IsS87.ge HI0.out)) | exact HB.out)) hb); replace HI0 := Aside0.mk (IsS87.below (by repeat (first | (with_reducible first | exact HI0.out | apply IsS87.alloc | apply IsS87.drewN | apply IsS87.drew | apply IsS87.set_1) | exact HI0.out)) hb); clear hb hbox hg) | ((with_reducible refine gate_callee (f := 65) rfl ?_); refine goesL_ (some 8) rfl rfl Try.func65 (by kernel_rfl) rfl #[.pointer (some ⟨g, 0, none⟩), .int .i64 8] rfl ar_ ?_; (with_reducible refine (spec_l1Rd_pick.calls k g s0_0 s0_1 8 t268 t269 w0 _ ?side1 ?side2 A3.out).mono ?_); (case side1 => repeat (first | (with_reducible first | exact HI0.out | apply IsS87.alloc | apply IsS87.drewN | apply IsS87.drew | apply IsS87.set_1 | refine IsS87.far ?_ NB0_267.out _) | exact HI0.out)); (case side2 => repeat (first | (with_reducible first | exact HB.out | apply below_alloc | apply pw_below_drewN | apply below_drew1 | refine below_set ?_ (IsS87.ge HI0.out) | refine below_set ?_ GE267.out) | exact HB.out)); rintro e w50 ⟨rfl, hi, hb, hk⟩; refine ⟨_, rfl, ?_⟩; replace BK267 := Aside0.mk (KeepBut.blk hk (g' := gb267) (o := .cells #[.int .i64 0, .int .i64 0, .string (⟨#[]⟩ : ByteArray), .slice none 0 0] 31 (0, 0)) (bk_ BK267) NB267_0.out (by simp)); replace HK := Aside0.mk (KeepBut.trans (kb_ HK) hk (.inl rfl)); replace HB := Aside0.mk (hb); replace HI0 := Aside0.mk (hi); (try clear hb); (try clear hb2); (try clear hk); (try clear hi)) | ((with_reducible refine gate_callee (f := 85) rfl ?_); refine goesL_ (some 45) rfl rfl Try.func85 (by kernel_rfl) rfl #[.pointer (some ⟨g, 0, none⟩), .int .i64 a1] rfl ar_ ?_; (with_reducible refine (spec_l11Plain.calls k g s0_0 t269 a1 t287 t288 t289 t290 t293 w0 _ ?side1 ?side2 A48.out).mono ?_); (case side1 => repeat (first | (with_reducible first | exact HI0.out | apply IsS87.alloc | apply IsS87.drewN | apply IsS87.drew | apply IsS87.set_1 | refine IsS87.far ?_ NB0_267.out _) | exact HI0.out)); (case side2 => repeat (first | (with_reducible first | exact HB.out | apply below_alloc | apply pw_below_drewN | apply below_drew1 | refine below_set ?_ (IsS87.ge HI0.out) | refine below_set ?_ GE267.out) | exact HB.out)); rintro e w51 ⟨v291, rfl, ho0, hi, hb, hk⟩; refine ⟨_, rfl, ?_⟩; have HO292 := Aside0.mk (Kd.R_lower (Kd.R_newB ho0 (g := gb267) (o := .cells #[.int .i64 0, .int .i64 0, .string (⟨#[]⟩ : ByteArray), .slice none 0 0] 31 (0, 0)) (bk_ BK267)) (keep_size (w := w) (g := g) (row := none) (kb_ HK))); replace BK267 := Aside0.mk (KeepBut.blk hk (g' := gb267) (o := .cells #[.int .i64 0, .int .i64 0, .string (⟨#[]⟩ : ByteArray), .slice none 0 0] 31 (0, 0)) (bk_ BK267) NB267_0.out (by simp)); replace HK := Aside0.mk (KeepBut.trans (kb_ HK) hk (.inl rfl)); replace HB := Aside0.mk (hb); replace HI0 := Aside0.mk (hi); (try clear hb); (try clear hb2); (try clear hk); (try clear hi); (try clear ho0); have hnb52 := NB267_0.out; have hnc52 := NB0_267.out; obtain ⟨hcz53_0, hcz53_1, hcz53_2, hcz53_3, hfz53_0, hfz53_1, hfz53_2, hfz53_3⟩ := blk4 BK267; obtain ⟨Ao54, co54, eo54⟩ := Kd.R_slice HO292.out; subst eo54))
    refine bodyPost_ret (results_cell_row rfl _ _ gb267 31 #[.int .i64 t287, .int .i64 t288, .string t289, .slice Ao54 t290.length co54] (0, 0) _ rfl (by refine pe_ ?_; refine blk_put (cs := #[.int .i64 t287, .int .i64 t288, .string t289, .slice none 0 0]) ?_ 3 _ rfl; refine pe_ ?_; refine blk_put (cs := #[.int .i64 t287, .int .i64 t288, .string (⟨#[]⟩ : ByteArray), .slice none 0 0]) ?_ 2 _ rfl; refine pe_ ?_; refine blk_put (cs := #[.int .i64 t287, .int .i64 0, .string (⟨#[]⟩ : ByteArray), .slice none 0 0]) ?_ 1 _ rfl; refine pe_ ?_; refine blk_put (cs := #[.int .i64 0, .int .i64 0, .string (⟨#[]⟩ : ByteArray), .slice none 0 0]) ?_ 0 _ rfl; refine pe_ ?_; exact BK267.out) Try.underlying31 rfl (by kernel_rfl)) rfl ?_
    exact ⟨_, by first | rfl | (simp [errW_none, errW_some] <;> rfl) | (simp [*, errW_none, errW_some] <;> rfl), by (with_reducible repeat (first | apply Kd.R_alloc | apply Kd.R_drewN | apply Kd.R_drew)); exact Kd.R_mono (rf4 gb267 (Kd.R_mono HO292.out (fun k_ hk => (⟨hk, hk.2⟩ : _ ∧ k_ ≠ gb267))) (fun _ hk => hk.2)) (fun _ hk => trivial), by repeat (first | (with_reducible first | exact HI0.out | apply IsS87.alloc | apply IsS87.drewN | apply IsS87.drew | apply IsS87.set_1 | refine IsS87.far ?_ NB0_267.out _) | exact HI0.out), by repeat (first | (with_reducible first | exact HB.out | apply below_alloc | apply pw_below_drewN | apply below_drew1 | refine below_set ?_ (IsS87.ge HI0.out) | refine below_set ?_ GE267.out) | exact HB.out), by repeat (first | (with_reducible first | exact HK.out | apply KeepBut.set_ | apply keep_drewN | apply keep_drew | apply keep_alloc | refine keep_far ?_ GW267.out _) | exact HK.out)⟩
  rw [if_pos c24] at H
  have c24b0 : decide (1 < a1) = true := decide_eq_true c24
  clear c24
  replace H := Option.bind_eq_some_iff.mp H
  obtain ⟨⟨t275, t276⟩, A250, H⟩ := H
  replace H : (spec_l11Value.l0 k a1 t275 s0_0 t276 4 0 (⟨#[]⟩ : ByteArray) ([] : List (S31))) = some (r1, r2, r3, r4, r5) := H
  have A25 := Aside0.mk A250
  clear A250
  have H' := Aside0.mk H
  clear H
  go_enter Try.func82, Try.ntmps82
  go_wp2_with (first | ((with_reducible refine gate_dst (N := 4) rfl ?_); refine bx_ 4 #[.int .i64 0, .int .i64 0, .string (⟨#[]⟩ : ByteArray), .slice none 0 0] 31 ?_; intro gb267 hg w26 hbox hb; have BK267 := Aside0.mk (hbox); have GW267 := Aside0.mk ((by rw [hg]; exact (keep_size (w := w) (g := g) (row := none) (kb_ HK)) : w.heap.size ≤ gb267)); have GE267 := Aside0.mk ((Nat.le_trans HW0.out (by rw [hg]; exact (keep_size (w := w) (g := g) (row := none) (kb_ HK)) : w.heap.size ≤ gb267) : w0.heap.size ≤ gb267)); have NB0_267 := Aside0.mk ((by rw [hg]; exact Nat.ne_of_lt (IsS87.lt (show IsS87 w0 _ g s0_0 s0_1 from by repeat (first | (with_reducible first | exact HI0.out | apply IsS87.alloc | apply IsS87.drewN | apply IsS87.drew | apply IsS87.set_1) | exact HI0.out))) : g ≠ gb267)); have NB267_0 := Aside0.mk ((by rw [hg]; exact Nat.ne_of_gt (IsS87.lt (show IsS87 w0 _ g s0_0 s0_1 from by repeat (first | (with_reducible first | exact HI0.out | apply IsS87.alloc | apply IsS87.drewN | apply IsS87.drew | apply IsS87.set_1) | exact HI0.out))) : gb267 ≠ g)); replace HK := Aside0.mk (KeepBut.trans (kb_ HK) (KeepBut.of_below hb g none) (.inl rfl)); replace HB := Aside0.mk (below_step (by repeat (first | (with_reducible first | exact HB.out | apply below_alloc | apply pw_below_drewN | apply below_drew1 | refine below_set ?_ (IsS87.ge HI0.out)) | exact HB.out)) hb); replace HI0 := Aside0.mk (IsS87.below (by repeat (first | (with_reducible first | exact HI0.out | apply IsS87.alloc | apply IsS87.drewN | apply IsS87.drew | apply IsS87.set_1) | exact HI0.out)) hb); clear hb hbox hg) | ((with_reducible refine gate_callee (f := 65) rfl ?_); refine goesL_ (some 8) rfl rfl Try.func65 (by kernel_rfl) rfl #[.pointer (some ⟨g, 0, none⟩), .int .i64 8] rfl ar_ ?_; (with_reducible refine (spec_l1Rd_pick.calls k g s0_0 s0_1 8 t268 t269 w0 _ ?side1 ?side2 A3.out).mono ?_); (case side1 => repeat (first | (with_reducible first | exact HI0.out | apply IsS87.alloc | apply IsS87.drewN | apply IsS87.drew | apply IsS87.set_1 | refine IsS87.far ?_ NB0_267.out _) | exact HI0.out)); (case side2 => repeat (first | (with_reducible first | exact HB.out | apply below_alloc | apply pw_below_drewN | apply below_drew1 | refine below_set ?_ (IsS87.ge HI0.out) | refine below_set ?_ GE267.out) | exact HB.out)); rintro e w27 ⟨rfl, hi, hb, hk⟩; refine ⟨_, rfl, ?_⟩; replace BK267 := Aside0.mk (KeepBut.blk hk (g' := gb267) (o := .cells #[.int .i64 0, .int .i64 0, .string (⟨#[]⟩ : ByteArray), .slice none 0 0] 31 (0, 0)) (bk_ BK267) NB267_0.out (by simp)); replace HK := Aside0.mk (KeepBut.trans (kb_ HK) hk (.inl rfl)); replace HB := Aside0.mk (hb); replace HI0 := Aside0.mk (hi); (try clear hb); (try clear hb2); (try clear hk); (try clear hi)) | ((with_reducible refine gate_dst (N := 5) rfl ?_); refine bx_ 5 #[.int .i64 0, .int .i64 0, .string (⟨#[]⟩ : ByteArray), .slice none 0 0] 31 ?_; intro gb274 hg w28 hbox hb; have BK274 := Aside0.mk (hbox); have GW274 := Aside0.mk ((by rw [hg]; exact (keep_size (w := w) (g := g) (row := none) (kb_ HK)) : w.heap.size ≤ gb274)); have GE274 := Aside0.mk ((Nat.le_trans HW0.out (by rw [hg]; exact (keep_size (w := w) (g := g) (row := none) (kb_ HK)) : w.heap.size ≤ gb274) : w0.heap.size ≤ gb274)); have NB267_274 := nlt_ hg BK267; have NB274_267 := ngt_ hg BK267; have NB0_274 := Aside0.mk ((by rw [hg]; exact Nat.ne_of_lt (IsS87.lt (show IsS87 w0 _ g s0_0 t269 from by repeat (first | (with_reducible first | exact HI0.out | apply IsS87.alloc | apply IsS87.drewN | apply IsS87.drew | apply IsS87.set_1 | refine IsS87.far ?_ NB0_267.out _) | exact HI0.out))) : g ≠ gb274)); have NB274_0 := Aside0.mk ((by rw [hg]; exact Nat.ne_of_gt (IsS87.lt (show IsS87 w0 _ g s0_0 t269 from by repeat (first | (with_reducible first | exact HI0.out | apply IsS87.alloc | apply IsS87.drewN | apply IsS87.drew | apply IsS87.set_1 | refine IsS87.far ?_ NB0_267.out _) | exact HI0.out))) : gb274 ≠ g)); replace BK267 := bb_ BK267 hb; replace HK := Aside0.mk (KeepBut.trans (kb_ HK) (KeepBut.of_below hb g none) (.inl rfl)); replace HB := Aside0.mk (below_step (by repeat (first | (with_reducible first | exact HB.out | apply below_alloc | apply pw_below_drewN | apply below_drew1 | refine below_set ?_ (IsS87.ge HI0.out) | refine below_set ?_ GE267.out) | exact HB.out)) hb); replace HI0 := Aside0.mk (IsS87.below (by repeat (first | (with_reducible first | exact HI0.out | apply IsS87.alloc | apply IsS87.drewN | apply IsS87.drew | apply IsS87.set_1 | refine IsS87.far ?_ NB0_267.out _) | exact HI0.out)) hb); clear hb hbox hg; have hnb29 := NB274_267.out; have hnc29 := NB267_274.out; have hnb30 := NB274_0.out; have hnc30 := NB0_274.out; obtain ⟨hcz31_0, hcz31_1, hcz31_2, hcz31_3, hfz31_0, hfz31_1, hfz31_2, hfz31_3⟩ := blk4 BK274) | ((with_reducible refine gate_callee (f := 65) rfl ?_); refine goesL_ (some 28) rfl rfl Try.func65 (by kernel_rfl) rfl #[.pointer (some ⟨g, 0, none⟩), .int .i64 4] rfl ar_ ?_; (with_reducible refine (spec_l1Rd_pick.calls k g s0_0 t269 4 t275 t276 w0 _ ?side1 ?side2 A25.out).mono ?_); (case side1 => repeat (first | (with_reducible first | exact HI0.out | apply IsS87.alloc | apply IsS87.drewN | apply IsS87.drew | apply IsS87.set_1 | refine IsS87.far ?_ NB0_267.out _ | refine IsS87.far ?_ NB0_274.out _) | exact HI0.out)); (case side2 => repeat (first | (with_reducible first | exact HB.out | apply below_alloc | apply pw_below_drewN | apply below_drew1 | refine below_set ?_ (IsS87.ge HI0.out) | refine below_set ?_ GE267.out | refine below_set ?_ GE274.out) | exact HB.out)); rintro e w32 ⟨rfl, hi, hb, hk⟩; refine ⟨_, rfl, ?_⟩; replace BK267 := Aside0.mk (KeepBut.blk hk (g' := gb267) (o := .cells #[.int .i64 0, .int .i64 0, .string (⟨#[]⟩ : ByteArray), .slice none 0 0] 31 (0, 0)) (by refine pe_ ?_; refine blk_far ?_ NB267_274.out _; refine pe_ ?_; refine blk_far ?_ NB267_274.out _; refine pe_ ?_; refine blk_far ?_ NB267_274.out _; refine pe_ ?_; refine blk_far ?_ NB267_274.out _; refine pe_ ?_; exact BK267.out) NB267_0.out (by simp)); replace BK274 := Aside0.mk (KeepBut.blk hk (g' := gb274) (o := .cells #[.int .i64 4, .int .i64 0, .string (⟨#[]⟩ : ByteArray), .slice none 0 0] 31 (0, 0)) (by refine pe_ ?_; refine blk_put (cs := #[.int .i64 4, .int .i64 0, .string (⟨#[]⟩ : ByteArray), .slice none 0 0]) ?_ 3 _ rfl; refine pe_ ?_; refine blk_put (cs := #[.int .i64 4, .int .i64 0, .string (⟨#[]⟩ : ByteArray), .slice none 0 0]) ?_ 2 _ rfl; refine pe_ ?_; refine blk_put (cs := #[.int .i64 4, .int .i64 0, .string (⟨#[]⟩ : ByteArray), .slice none 0 0]) ?_ 1 _ rfl; refine pe_ ?_; refine blk_put (cs := #[.int .i64 0, .int .i64 0, .string (⟨#[]⟩ : ByteArray), .slice none 0 0]) ?_ 0 _ rfl; refine pe_ ?_; exact BK274.out) NB274_0.out (by simp)); replace HK := Aside0.mk (KeepBut.trans (kb_ HK) hk (.inl rfl)); replace HB := Aside0.mk (hb); replace HI0 := Aside0.mk (hi); (try clear hb); (try clear hb2); (try clear hk); (try clear hi)))
  go_loopg [6] k (fun kq v6 w' => ∃ (x6_1 : Int) (x1001_1 : Int) (x275003_1 : List (S31)) (u275003 : Value), v6 = .int .i64 x6_1 ∧ Aside0 (spec_l11Value.l0 kq a1 x6_1 s0_0 x1001_1 4 0 (⟨#[]⟩ : ByteArray) x275003_1 = some (r1, r2, r3, r4, r5)) ∧ Aside0 (kq ≤ k) ∧ Aside0 (Kd.R k31 31 w' w.heap.size (fun k_ => k_ ≠ gb267 ∧ k_ ≠ gb274) u275003 x275003_1) ∧ Aside0 (w'.heap[gb267]? = some (.cells #[.int .i64 0, .int .i64 0, .string (⟨#[]⟩ : ByteArray), (.slice none 0 0)] 31 (0, 0))) ∧ Aside0 (w'.heap[gb274]? = some (.cells #[.int .i64 4, .int .i64 0, .string (⟨#[]⟩ : ByteArray), u275003] 31 (0, 0))) ∧ Aside0 (IsS87 w0 w' g s0_0 x1001_1) ∧ Aside0 (KeepBut w w' g none) ∧ Aside0 (Below w0.heap.size w0 w'))
  case atStart => exact ⟨(t275), (t276), (([] : List (S31))), (.slice none 0 0), sm_, H', ⟨Nat.le_refl _⟩, ⟨by first | exact Kd.R_nil _ _ _ _ _ | exact Kd.N_nil _ _ _ _ _ | exact Kd.V_nil _ _ _ _ _ | exact Kd.Q_nil _ _ _ _ _ | exact Kd.S_nil _ _ _ _ _⟩, ⟨by refine pe_ ?_; exact BK267.out⟩, ⟨by refine pe_ ?_; exact BK274.out⟩, ⟨by repeat (first | (with_reducible first | exact HI0.out | apply IsS87.alloc | apply IsS87.drewN | apply IsS87.drew | apply IsS87.set_1 | refine IsS87.far ?_ NB0_267.out _ | refine IsS87.far ?_ NB0_274.out _) | exact HI0.out)⟩, ⟨by repeat (first | (with_reducible first | exact HK.out | apply KeepBut.set_ | apply keep_drewN | apply keep_drew | apply keep_alloc | refine keep_far ?_ GW267.out _ | refine keep_far ?_ GW274.out _) | exact HK.out)⟩, ⟨by repeat (first | (with_reducible first | exact HB.out | apply below_alloc | apply pw_below_drewN | apply below_drew1 | refine below_set ?_ (IsS87.ge HI0.out) | refine below_set ?_ GE267.out | refine below_set ?_ GE274.out) | exact HB.out)⟩⟩
  case round =>
    clear H'
    try clear c1
    try clear c2
    try clear p2
    try clear c3
    try clear c4
    try clear c4b0
    try clear c4b1
    try clear c6
    try clear c7
    try clear c8
    try clear c9
    try clear c9b0
    try clear c9b1
    try clear c14
    try clear c16
    try clear c16b0
    try clear c16b1
    try clear c21
    try clear c23
    try clear c23b0
    try clear c23b1
    try clear c24
    try clear c24b0
    try clear c29
    try clear c30
    try clear hcz15_0 hcz15_1 hcz15_2 hcz15_3
    try clear hcz22_0 hcz22_1 hcz22_2 hcz22_3
    try clear hcz31_0 hcz31_1 hcz31_2 hcz31_3
    try clear hcz8_0 hcz8_1 hcz8_2 hcz8_3
    try clear hfz15_0 hfz15_1 hfz15_2 hfz15_3
    try clear hfz22_0 hfz22_1 hfz22_2 hfz22_3
    try clear hfz31_0 hfz31_1 hfz31_2 hfz31_3
    try clear hfz8_0 hfz8_1 hfz8_2 hfz8_3
    obtain ⟨x6_1, x1001_1, x275003_1, u275003, rfl, HA, HK1, HO_275003, BK267, BK274, HI0, HK, HB⟩ := hrel
    cases gk with
    | zero => exact absurd HA.out (by simp [spec_l11Value.l0])
    | succ k1 =>
      have H := HA.out
      clear HA
      simp only [spec_l11Value.l0] at H
      by_cases c33 : x6_1 > 0
      rotate_left
      · rw [if_neg c33] at H
        have c33b0 : decide (0 < x6_1) = false := decide_eq_false c33
        clear c33
        simp only [Option.some.injEq, Prod.mk.injEq] at H
        obtain ⟨rfl, rfl, rfl, rfl, rfl⟩ := H
        have hnb42 := NB274_267.out
        have hnc42 := NB267_274.out
        have hnb43 := NB274_0.out
        have hnc43 := NB0_274.out
        obtain ⟨hcz44_0, hcz44_1, hcz44_2, hcz44_3, hfz44_0, hfz44_1, hfz44_2, hfz44_3⟩ := blk4 BK274
        have hnb45 := NB267_0.out
        have hnc45 := NB0_267.out
        obtain ⟨hcz46_0, hcz46_1, hcz46_2, hcz46_3, hfz46_0, hfz46_1, hfz46_2, hfz46_3⟩ := blk4 BK267
        obtain ⟨Ao47, co47, eo47⟩ := Kd.R_slice HO_275003.out
        subst eo47
        go_wp2
        refine bodyPost_ret (results_cell_row rfl _ _ gb267 31 #[.int .i64 4, .int .i64 0, .string (⟨#[]⟩ : ByteArray), .slice Ao47 x275003_1.length co47] (0, 0) _ rfl (by refine pe_ ?_; refine blk_put (cs := #[.int .i64 4, .int .i64 0, .string (⟨#[]⟩ : ByteArray), .slice none 0 0]) ?_ 3 _ rfl; refine pe_ ?_; refine blk_put (cs := #[.int .i64 4, .int .i64 0, .string (⟨#[]⟩ : ByteArray), .slice none 0 0]) ?_ 2 _ rfl; refine pe_ ?_; refine blk_put (cs := #[.int .i64 4, .int .i64 0, .string (⟨#[]⟩ : ByteArray), .slice none 0 0]) ?_ 1 _ rfl; refine pe_ ?_; refine blk_put (cs := #[.int .i64 0, .int .i64 0, .string (⟨#[]⟩ : ByteArray), .slice none 0 0]) ?_ 0 _ rfl; refine pe_ ?_; exact BK267.out) Try.underlying31 rfl (by kernel_rfl)) rfl ?_
        exact ⟨_, by first | rfl | (simp [errW_none, errW_some] <;> rfl) | (simp [*, errW_none, errW_some] <;> rfl), by (with_reducible repeat (first | apply Kd.R_alloc | apply Kd.R_drewN | apply Kd.R_drew)); exact Kd.R_mono (rf4 gb267 (Kd.R_mono HO_275003.out (fun k_ hk => (⟨hk, hk.1⟩ : _ ∧ k_ ≠ gb267))) (fun _ hk => hk.2)) (fun _ hk => trivial), by repeat (first | (with_reducible first | exact HI0.out | apply IsS87.alloc | apply IsS87.drewN | apply IsS87.drew | apply IsS87.set_1 | refine IsS87.far ?_ NB0_267.out _ | refine IsS87.far ?_ NB0_274.out _) | exact HI0.out), by repeat (first | (with_reducible first | exact HB.out | apply below_alloc | apply pw_below_drewN | apply below_drew1 | refine below_set ?_ (IsS87.ge HI0.out) | refine below_set ?_ GE267.out | refine below_set ?_ GE274.out) | exact HB.out), by repeat (first | (with_reducible first | exact HK.out | apply KeepBut.set_ | apply keep_drewN | apply keep_drew | apply keep_alloc | refine keep_far ?_ GW267.out _ | refine keep_far ?_ GW274.out _) | exact HK.out)⟩
      rw [if_pos c33] at H
      have c33b0 : decide (0 < x6_1) = true := decide_eq_true c33
      clear c33
      replace H := Option.bind_eq_some_iff.mp H
      obtain ⟨⟨t277, t278, t279, t280, t283⟩, A340, H⟩ := H
      replace H : (if x275003_1.length < 2513169434916 then (spec_l11Value.l0 k1 a1 (wrap64 (x6_1 - 1)) s0_0 t283 4 0 (⟨#[]⟩ : ByteArray) (x275003_1 ++ [(⟨t277, t278, t279, t280⟩ : S31)])) else (none)) = some (r1, r2, r3, r4, r5) := H
      have A34 := Aside0.mk A340
      clear A340
      by_cases c35 : x275003_1.length < 2513169434916
      rotate_left
      · rw [if_neg c35] at H
        exact absurd H (by simp)
      rw [if_pos c35] at H
      have LMc35 := Aside0.mk c35
      clear c35
      obtain ⟨y284, hy284⟩ : ∃ y_ : List (S31), y_ = (x275003_1 ++ [(⟨t277, t278, t279, t280⟩ : S31)]) := ⟨_, rfl⟩
      replace H : (spec_l11Value.l0 k1 a1 (wrap64 (x6_1 - 1)) s0_0 t283 4 0 (⟨#[]⟩ : ByteArray) y284) = some (r1, r2, r3, r4, r5) := by first | (rw [hy284]; with_reducible exact H) | (have H2_ := (Option.bind_some _ _).symm.trans H; rw [hy284]; with_reducible exact H2_) | (have H2_ := (Option.bind_some _ _).symm.trans H; with_reducible exact H2_) | with_reducible exact H | (rw [hy284]; exact H) | exact H
      have Ny284 := Aside0.mk hy284
      clear hy284
      have H' := Aside0.mk H
      clear H
      try go_wp2
      replace HO_275003 := Aside0.mk (Kd.R_drew HO_275003.out)
      replace BK267 := Aside0.mk (blk_drew BK267.out)
      replace BK274 := Aside0.mk (blk_drew BK274.out)
      replace HI0 := Aside0.mk (IsS87.drew HI0.out)
      replace HK := Aside0.mk (keep_drew HK.out)
      replace HB := Aside0.mk (below_drew1 HB.out)
      refine start_ (n := 10) (S := fun w' => w'.cell? ⟨gb274, 0, none⟩ = some (.int .i64 4) ∧ w'.cell? ⟨gb274, 1, none⟩ = some (.int .i64 0) ∧ w'.cell? ⟨gb274, 2, none⟩ = some (.string (⟨#[]⟩ : ByteArray)) ∧ w'.cell? ⟨gb274, 3, none⟩ = some (u275003)) (ds := [9]) #[false, false, false, false, false, false, false, false, false, false] (by kernel_rfl) rfl rfl ⟨(blkc BK274 0), (blkc BK274 1), (blkc BK274 2), (blkc BK274 3)⟩ (fun hHeld => ?_); refine with_tabW spec_l11Value.tab14 spec_l11Value.bits14 (fun HT_ HW_ => ?_)
      generalize wr.drew = w36 at HO_275003 BK267 BK274 HI0 HK HB hHeld ⊢
      refine puA 0 (some 33) ?_
      refine puA 2 (some 35) ?_
      refine puA 3 (some 36) ?_
      refine puA 4 (some 37) ?_
      refine taA 1 (some 34) ?_
      refine one_ (i := 5) (N := some 38) #[true, true, true, true, true, true, false, false, false, false] rfl rfl (one_of HT_.out (by kernel_rfl)) (by decide) (fun K hK => ?_)
      refine goes_ Try.func82 (by kernel_rfl) rfl #[.pointer (some ⟨g, 0, none⟩), .int .i64 (wrap64 (a1 - 1))] (by rfl) rfl rfl ar_ ?_
      with_reducible refine (ih k1 (by have := HK1.out; omega) g s0_0 x1001_1 (wrap64 (a1 - 1)) t277 t278 t279 t280 t283 w0 _ ?side1 ?side2 A34.out).mono ?_
      (case side1 => repeat (first | (with_reducible first | exact HI0.out | apply IsS87.alloc | apply IsS87.drewN | apply IsS87.drew | apply IsS87.set_1 | refine IsS87.far ?_ NB0_267.out _ | refine IsS87.far ?_ NB0_274.out _) | exact HI0.out))
      (case side2 => repeat (first | (with_reducible first | exact HB.out | apply below_alloc | apply pw_below_drewN | apply below_drew1 | refine below_set ?_ (IsS87.ge HI0.out) | refine below_set ?_ GE267.out | refine below_set ?_ GE274.out) | exact HB.out))
      rintro e w37 ⟨v281, rfl, ho0, hi, hb, hk⟩
      refine ⟨_, rfl, ?_⟩
      have HO282 := Aside0.mk (Kd.R_lower (Kd.R_newB (Kd.R_newB (Kd.R_new' ho0 (Kd.R_lt (by (with_reducible repeat (first | apply Kd.R_alloc | apply Kd.R_drewN | apply Kd.R_drew)); exact HO_275003.out))) (g := gb267) (o := .cells #[.int .i64 0, .int .i64 0, .string (⟨#[]⟩ : ByteArray), .slice none 0 0] 31 (0, 0)) (bk_ BK267)) (g := gb274) (o := .cells #[.int .i64 4, .int .i64 0, .string (⟨#[]⟩ : ByteArray), u275003] 31 (0, 0)) (bk_ BK274)) (keep_size (w := w) (g := g) (row := none) (kb_ HK)))
      replace HO_275003 := Aside0.mk (Kd.R_mono (Kd.R_told (Kd.R_oldK (IsS87.apart (show IsS87 w0 _ g s0_0 x1001_1 from by repeat (first | (with_reducible first | exact HI0.out | apply IsS87.alloc | apply IsS87.drewN | apply IsS87.drew | apply IsS87.set_1 | refine IsS87.far ?_ NB0_267.out _ | refine IsS87.far ?_ NB0_274.out _) | exact HI0.out)) (by (with_reducible repeat (first | apply Kd.R_alloc | apply Kd.R_drewN | apply Kd.R_drew)); exact HO_275003.out) (by decide)) hk) (Kd.R_base ho0)) (fun _ h_ => h_.1))
      replace BK267 := Aside0.mk (KeepBut.blk hk (g' := gb267) (o := .cells #[.int .i64 0, .int .i64 0, .string (⟨#[]⟩ : ByteArray), .slice none 0 0] 31 (0, 0)) (bk_ BK267) NB267_0.out (by simp))
      replace BK274 := Aside0.mk (KeepBut.blk hk (g' := gb274) (o := .cells #[.int .i64 4, .int .i64 0, .string (⟨#[]⟩ : ByteArray), u275003] 31 (0, 0)) (bk_ BK274) NB274_0.out (by simp))
      replace HK := Aside0.mk (KeepBut.trans (kb_ HK) hk (.inl rfl))
      replace HB := Aside0.mk (hb)
      replace HI0 := Aside0.mk (hi)
      (try clear hb)
      (try clear hb2)
      (try clear hk)
      (try clear hi)
      (try clear ho0)
      obtain ⟨Ao39, co39, eo39⟩ := Kd.R_slice HO282.out
      (first | subst eo39 | (injection eo39 with f1_ f2_ f3_; have f4_ := f1_.symm; have f5_ := f3_.symm; clear f1_ f2_ f3_; subst f4_; subst f5_))
      refine hK.out _ _ ⟨(blkc BK274 0), (blkc BK274 1), (blkc BK274 2), (blkc BK274 3)⟩ (fun hHeld => ?_)
      clear hK K
      refine norm_ (a' := ?_) ?_ ?_
      rotate_left
      · show Act.put _ (some 38) _ = _
        simp only [Act.put, List.setIfInBounds_toArray, List.set_cons_zero, List.set_cons_succ, i64_w, i32_w]
        rfl
      refine one_ (i := 6) (N := some 39) #[true, true, true, true, true, true, true, false, false, false] rfl rfl (one_of HT_.out (by kernel_rfl)) (by decide) (fun K hK => ?_)
      refine value_ (w1 := ?_) (v := ?_) (by rfl) rfl ?_ ?_
      rotate_left 2
      · go_simp
        constructor
        · rfl
        rfl
      refine hK.out _ _ ⟨(blk_cell (blk_alloc BK274.out _) 0).trans rfl, (blk_cell (blk_alloc BK274.out _) 1).trans rfl, (blk_cell (blk_alloc BK274.out _) 2).trans rfl, (blk_cell (blk_alloc BK274.out _) 3).trans rfl⟩ (fun hHeld => ?_)
      clear hK K
      refine norm_ (a' := ?_) ?_ ?_
      rotate_left
      · show Act.put _ (some 39) _ = _
        simp only [Act.put, List.setIfInBounds_toArray, List.set_cons_zero, List.set_cons_succ, i64_w, i32_w]
        rfl
      refine one_ (i := 7) (N := some 40) #[true, true, true, true, true, true, true, true, false, false] rfl rfl (one_of HT_.out (by kernel_rfl)) (by decide) (fun K hK => ?_)
      refine Kd.R_append_step k31 w.heap.size (by rfl) (.tmp 34) (.tmp 39) 29 31 (.agg #[(.int .i64 0), (.int .i64 0), (.string ⟨#[]⟩), (.slice none 0 0)]) 56 rfl Try.underlying29 info31 rfl (by decide) (by omega) u275003 x275003_1 (⟨t277, t278, t279, t280⟩ : S31) [.int .i64 t277, .int .i64 t278, .string t279, .slice Ao39 t280.length co39] (fun k_ => k_ ≠ gb267 ∧ k_ ≠ gb274) (fun k_ => ((fun k_ => k_ ≠ gb267 ∧ k_ ≠ gb274)) k_ ∧ some k_ ≠ (u275003 : Value).ownBlock) rfl rfl ?aP (fun _ hk => hk) ?aF ?aO (Below.refl _ _) ?aS ?aL ?_
      (case aP => exact k31_mkM _ _ _ (⟨t277, t278, t279, t280⟩ : S31) (Kd.R_mono (HO282.out) (fun k_ hk => ⟨⟨hk.1.2, hk.2⟩, hk.1.1.2⟩)))
      (case aF => exact (fun k_ hk => ⟨Kd.freshB (g := gb267) (o := .cells #[.int .i64 0, .int .i64 0, .string (⟨#[]⟩ : ByteArray), .slice none 0 0] 31 (0, 0)) (bk_ BK267) k_ hk, Kd.freshB (g := gb274) (o := .cells #[.int .i64 4, .int .i64 0, .string (⟨#[]⟩ : ByteArray), u275003] 31 (0, 0)) (bk_ BK274) k_ hk⟩))
      (case aO => exact (by (with_reducible repeat (first | apply Kd.R_alloc | apply Kd.R_drewN | apply Kd.R_drew)); exact Kd.R_mono HO_275003.out (fun _ hk => ⟨hk.1.1, hk.1.2⟩)))
      (case aS => exact (keep_size (w := w) (g := g) (row := none) (kb_ HK)))
      (case aL => have := LMc35.out; omega)
      intro v285 w38 ho hb hg hat
      rw [← Ny284.out] at ho
      have HO286 := Aside0.mk (ho)
      replace BK267 := Aside0.mk (blk_grown (g := gb267) (o := .cells #[.int .i64 0, .int .i64 0, .string (⟨#[]⟩ : ByteArray), .slice none 0 0] 31 (0, 0)) (bk_ BK267) hg (Kd.R_away HO_275003.out (fun _ hk => hk.1.1)))
      replace BK274 := Aside0.mk (blk_grown (g := gb274) (o := .cells #[.int .i64 4, .int .i64 0, .string (⟨#[]⟩ : ByteArray), u275003] 31 (0, 0)) (bk_ BK274) hg (Kd.R_away HO_275003.out (fun _ hk => hk.1.2)))
      replace HB := Aside0.mk (below_weaken (by repeat (first | (with_reducible first | exact HB.out | apply below_alloc | apply pw_below_drewN | apply below_drew1 | refine below_set ?_ (IsS87.ge HI0.out) | refine below_set ?_ GE267.out | refine below_set ?_ GE274.out) | exact HB.out)) HL.out hb)
      replace HI0 := Aside0.mk (IsS87.grown (by repeat (first | (with_reducible first | exact HI0.out | apply IsS87.alloc | apply IsS87.drewN | apply IsS87.drew | apply IsS87.set_1 | refine IsS87.far ?_ NB0_267.out _ | refine IsS87.far ?_ NB0_274.out _) | exact HI0.out)) hg (IsS87.own_ne HI0.out HO_275003.out (by decide)))
      replace HK := Aside0.mk (KeepBut.trans (kb_ HK) (KeepBut.of_grown hg g) (Kd.R_base2 HO_275003.out))
      clear HO_275003 HO282
      clear ho hb hg hat
      obtain ⟨Ao40, co40, eo40⟩ := Kd.R_slice HO286.out
      (first | subst eo40 | (injection eo40 with f1_ f2_ f3_; have f4_ := f1_.symm; have f5_ := f3_.symm; clear f1_ f2_ f3_; subst f4_; subst f5_))
      refine hK.out _ _ ⟨(blkc BK274 0), (blkc BK274 1), (blkc BK274 2), (blkc BK274 3)⟩ (fun hHeld => ?_)
      clear hK K
      refine norm_ (a' := ?_) ?_ ?_
      rotate_left
      · show Act.put _ (some 40) _ = _
        simp only [Act.put, List.setIfInBounds_toArray, List.set_cons_zero, List.set_cons_succ, i64_w, i32_w]
        rfl
      refine puA 8 (some 41) ?_
      refine last_ (i := 9) (N := none) #[true, true, true, true, true, true, true, true, true, true] rfl rfl (one_of HT_.out (by kernel_rfl)) (by decide) (fun K hK => ?_)
      have hs41 : w38.cell? ⟨gb274, 3, none⟩ = some (u275003) := (blkc BK274 3)
      have hfs41 := blk_frozen BK274.out 3
      have hns41_0 := NB267_274.out
      have hms41_0 := NB274_267.out
      refine skip_ (w1 := ?_) (by rfl) rfl ?_ ?_
      rotate_left
      · go_simp
        rfl
      refine hK.out _ _ ?_
      clear hK K
      refine done_ (done_of HT_.out (by kernel_rfl)) ?_
      try go_wp2
      go_roundg k1
      case measure => have := HK1.out; omega
      case rel => exact ⟨(wrap64 (x6_1 - 1)), (t283), (y284), (.slice Ao40 y284.length co40), sm_, H', ⟨by have := HK1.out; omega⟩, ⟨by (with_reducible repeat (first | apply Kd.R_alloc | apply Kd.R_drewN | apply Kd.R_drew)); exact Kd.R_mono (rf1 gb274 (Kd.R_mono HO286.out (fun k_ hk => (⟨hk, hk.2⟩ : _ ∧ k_ ≠ gb274))) (fun _ hk => hk.2)) (fun _ hk => ⟨hk.1.1, hk.1.2⟩)⟩, ⟨by refine pe_ ?_; refine blk_far ?_ NB267_274.out _; refine pe_ ?_; exact BK267.out⟩, ⟨by refine pe_ ?_; refine blk_put (cs := #[.int .i64 4, .int .i64 0, .string (⟨#[]⟩ : ByteArray), u275003]) ?_ 3 _ rfl; refine pe_ ?_; exact BK274.out⟩, ⟨by repeat (first | (with_reducible first | exact HI0.out | apply IsS87.alloc | apply IsS87.drewN | apply IsS87.drew | apply IsS87.set_1 | refine IsS87.far ?_ NB0_267.out _ | refine IsS87.far ?_ NB0_274.out _) | exact HI0.out)⟩, ⟨by repeat (first | (with_reducible first | exact HK.out | apply KeepBut.set_ | apply keep_drewN | apply keep_drew | apply keep_alloc | refine keep_far ?_ GW267.out _ | refine keep_far ?_ GW274.out _) | exact HK.out)⟩, ⟨by repeat (first | (with_reducible first | exact HB.out | apply below_alloc | apply pw_below_drewN | apply below_drew1 | refine below_set ?_ (IsS87.ge HI0.out) | refine below_set ?_ GE267.out | refine below_set ?_ GE274.out) | exact HB.out)⟩⟩

end Go.Proofs.Ytejikddbdhahaaa.G
