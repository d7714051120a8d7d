-- Printed by a program of this claim's writer (wip/gen), out of the translation. Lean checks it.
import Derived.Test.YtejikddbdhahaaaGx0
import Derived.Test.YtejikddbdhahaaaGx4
import Derived.Test.YtejikddbdhahaaaGx10
namespace Go.Proofs.Ytejikddbdhahaaa.G
open Go.RowKit Go.Proofs.YtejikddbdhahaaaW.PrintWords Go.Proofs.YtejikddbdhahaaaW.PrintLast Go.Proofs.YtejikddbdhahaaaW.PrintMore
attribute [local go_sem] max2_int min2_int max_two min_two max_three min_three max_four min_four Own.str_gtr Own.str_leq Own.str_geq   -- for this text's walks alone
open Own
set_option linter.unusedVariables false
set_option linter.unusedSimpArgs false

/-! ### spec_l11Plain: function 85 -/
mutual
def spec_l11Plain.j0 : Nat → Int → Int → Bool → List Int → Int → Option (Int × Int × ByteArray × (List (S31)) × Int)
  | 0, _, _, _, _, _ => none
  | k + 1, x1, x8, x15, x1000, x1001 => if x15 = true then ((spec_l1Many.f k (⟨#[116]⟩ : ByteArray) 16).bind fun t238 => ((spec_l1Rd_of.f k x1000 x1001 (([(⟨#[]⟩ : ByteArray), (⟨#[97]⟩ : ByteArray), (⟨#[98]⟩ : ByteArray), (⟨#[116, 119, 111, 32, 119, 111, 114, 100, 115]⟩ : ByteArray), t238] : List ByteArray))).bind fun bt242 => (some (3, 0, bt242.1, ([] : List (S31)), bt242.2)))) else (if x8 = 3 then (if x1 > 1 then ((spec_l1Rd_pick.f k x1000 x1001 4).bind fun bt245 => (spec_l11Plain.l0 k x1 bt245.1 x1000 bt245.2 4 0 (⟨#[]⟩ : ByteArray) ([] : List (S31)))) else ((spec_l1Rd_one.f k x1000 x1001 (([0, 1, 2, 3, (-1), 7, 1000000000] : List Int))).bind fun bt260 => (some (2, bt260.1, (⟨#[]⟩ : ByteArray), ([] : List (S31)), bt260.2)))) else ((spec_l1Rd_one.f k x1000 x1001 (([0, 1, 2, 3, (-1), 7, 1000000000] : List Int))).bind fun bt265 => (some (2, bt265.1, (⟨#[]⟩ : ByteArray), ([] : List (S31)), bt265.2))))
def spec_l11Plain.l0 : Nat → Int → Int → List Int → Int → Int → Int → ByteArray → List (S31) → Option (Int × Int × ByteArray × (List (S31)) × Int)
  | 0, _, _, _, _, _, _, _, _ => none
  | k + 1, x1, x6, x1000, x1001, x245000, x245001, x245002, x245003 => if x6 > 0 then ((spec_l11Plain.f k x1000 x1001 (wrap64 (x1 - 1))).bind fun bt247 => (if x245003.length < 2513169434916 then (spec_l11Plain.l0 k x1 (wrap64 (x6 - 1)) x1000 bt247.2.2.2.2 x245000 x245001 x245002 (x245003 ++ [(⟨bt247.1, bt247.2.1, bt247.2.2.1, bt247.2.2.2.1⟩ : S31)])) else (none))) else (some (x245000, x245001, x245002, x245003, x1001))
def spec_l11Plain.f : Nat → List Int → Int → Int → Option (Int × Int × ByteArray × (List (S31)) × Int)
  | 0, _, _, _ => none
  | k + 1, s0_0, s0_1, a1 => (spec_l1Rd_pick.f k s0_0 s0_1 6).bind fun bt228 => (if bt228.1 = 0 then ((spec_l1Rd_pick.f k s0_0 bt228.2 2).bind fun bt230 => ((spec_l1Bool.f (bt230.1 == 0)).bind fun bt232 => (some (bt232.1, bt232.2.1, bt232.2.2.1, bt232.2.2.2, bt230.2)))) else (if bt228.1 = 1 then (spec_l11Plain.j0 k a1 bt228.1 (bt228.1 == 1) s0_0 bt228.2) else (spec_l11Plain.j0 k a1 bt228.1 (bt228.1 == 2) s0_0 bt228.2)))
end
def spec_l11Plain.T13 : Bool × List (List Nat × List Nat) := (true, [([], []), ([0], [0]), ([], []), ([], []), ([3], [3]), ([2, 4], [2, 4]), ([5], [5]), ([1, 6, 5], [1, 6]), ([0, 1, 2, 3, 4, 5, 6, 7], []), ([8, 7, 7, 0, 1, 2, 3, 4, 5, 6, 7], [7, 8])])
def spec_l11Plain.B13 : List Nat := [0, 1, 0, 0, 8, 28, 60, 127, 255, 511]
theorem spec_l11Plain.tab13 : rtab .any (opsOf Try.f85 13) = spec_l11Plain.T13 := by kernel_rfl
theorem spec_l11Plain.bits13 : waitsOk spec_l11Plain.T13.2 spec_l11Plain.B13 = true := by kernel_rfl
set_option maxHeartbeats 8000000 in
set_option maxRecDepth 100000 in
theorem spec_l11Plain.calls (k : Nat) : ∀ (g : Nat) (s0_0 : List Int) (s0_1 : Int) (a1 : Int) (r1 : Int) (r2 : Int) (r3 : ByteArray) (r4 : List (S31)) (r5 : Int) (w0 w : World) (hI : IsS87 w0 w g s0_0 s0_1) (hB : Below w0.heap.size w0 w) (h : spec_l11Plain.f k s0_0 s0_1 a1 = some (r1, r2, r3, r4, r5)),
    Calls Try.prog 85 #[.pointer (some ⟨g, 0, none⟩), .int .i64 a1] w fun e w' => ∃ v3_ : Value, e = .returned (.agg #[.int .i64 r1, .int .i64 r2, .string r3, v3_]) ∧ Kd.R k31 31 w' w.heap.size (fun _ => True) v3_ r4 ∧ IsS87 w0 w' g s0_0 r5 ∧ Below w0.heap.size w0 w' ∧ KeepBut w w' g none := by
  induction k using Nat.strongRecOn with
  | _ k ih =>
  intro g s0_0 s0_1 a1 r1 r2 r3 r4 r5 w0 w hI hB h
  cases k with
  | zero => exact absurd h (by simp [spec_l11Plain.f])
  | succ k =>
  simp only [spec_l11Plain.f] at h
  have hu31 := Try.underlying31
  have HI0 := Aside0.mk hI
  have HK := Aside0.mk (KeepBut.refl w g none)
  have HL := Aside0.mk hB.size
  clear hI
  have HW0 := Aside0.mk hB.size
  have HB := Aside0.mk hB
  clear hB
  have H : ((spec_l1Rd_pick.f k s0_0 s0_1 6).bind fun bt228 => (if bt228.1 = 0 then ((spec_l1Rd_pick.f k s0_0 bt228.2 2).bind fun bt230 => ((spec_l1Bool.f (bt230.1 == 0)).bind fun bt232 => (some (bt232.1, bt232.2.1, bt232.2.2.1, bt232.2.2.2, bt230.2)))) else (if bt228.1 = 1 then (spec_l11Plain.j0 k a1 bt228.1 (bt228.1 == 1) s0_0 bt228.2) else (spec_l11Plain.j0 k a1 bt228.1 (bt228.1 == 2) s0_0 bt228.2)))) = some (r1, r2, r3, r4, r5) := h
  clear h
  replace H := Option.bind_eq_some_iff.mp H
  obtain ⟨⟨t228, t229⟩, A30, H⟩ := H
  replace H : (if t228 = 0 then ((spec_l1Rd_pick.f k s0_0 t229 2).bind fun bt230 => ((spec_l1Bool.f (bt230.1 == 0)).bind fun bt232 => (some (bt232.1, bt232.2.1, bt232.2.2.1, bt232.2.2.2, bt230.2)))) else (if t228 = 1 then (spec_l11Plain.j0 k a1 t228 (t228 == 1) s0_0 t229) else (spec_l11Plain.j0 k a1 t228 (t228 == 2) s0_0 t229))) = some (r1, r2, r3, r4, r5) := H
  have A3 := Aside0.mk A30
  clear A30
  by_cases c4 : t228 = 0
  · rw [if_pos c4] at H
    have c4b0 : (t228 == 0) = true := beq_iff_eq.mpr c4
    have c4b1 : (t228 != 0) = false := bne_eq_false_iff_eq.mpr c4
    clear c4
    replace H := Option.bind_eq_some_iff.mp H
    obtain ⟨⟨t230, t231⟩, A50, H⟩ := H
    replace H : ((spec_l1Bool.f (t230 == 0)).bind fun bt232 => (some (bt232.1, bt232.2.1, bt232.2.2.1, bt232.2.2.2, t231))) = some (r1, r2, r3, r4, r5) := H
    have A5 := Aside0.mk A50
    clear A50
    replace H := Option.bind_eq_some_iff.mp H
    obtain ⟨⟨t232, t233, t234, t235⟩, A60, H⟩ := H
    replace H : (some (t232, t233, t234, t235, t231)) = some (r1, r2, r3, r4, r5) := H
    have A6 := Aside0.mk A60
    clear A60
    simp only [Option.some.injEq, Prod.mk.injEq] at H
    obtain ⟨rfl, rfl, rfl, rfl, rfl⟩ := H
    go_enter Try.func85, Try.ntmps85
    go_wp2_with (first | ((with_reducible refine gate_dst (N := 4) rfl ?_); refine bx_ 4 #[.int .i64 0, .int .i64 0, .string (⟨#[]⟩ : ByteArray), .slice none 0 0] 31 ?_; intro gb227 hg w7 hbox hb; have BK227 := Aside0.mk (hbox); have GW227 := Aside0.mk ((by rw [hg]; exact (keep_size (w := w) (g := g) (row := none) (kb_ HK)) : w.heap.size ≤ gb227)); have GE227 := Aside0.mk ((Nat.le_trans HW0.out (by rw [hg]; exact (keep_size (w := w) (g := g) (row := none) (kb_ HK)) : w.heap.size ≤ gb227) : w0.heap.size ≤ gb227)); have NB0_227 := Aside0.mk ((by rw [hg]; exact Nat.ne_of_lt (IsS87.lt (show IsS87 w0 _ g s0_0 s0_1 from by repeat (first | (with_reducible first | exact HI0.out | apply IsS87.alloc | apply IsS87.drewN | apply IsS87.drew | apply IsS87.set_1) | exact HI0.out))) : g ≠ gb227)); have NB227_0 := Aside0.mk ((by rw [hg]; exact Nat.ne_of_gt (IsS87.lt (show IsS87 w0 _ g s0_0 s0_1 from by repeat (first | (with_reducible first | exact HI0.out | apply IsS87.alloc | apply IsS87.drewN | apply IsS87.drew | apply IsS87.set_1) | exact HI0.out))) : gb227 ≠ g)); replace HK := Aside0.mk (KeepBut.trans (kb_ HK) (KeepBut.of_below hb g none) (.inl rfl)); replace HB := Aside0.mk (below_step (by repeat (first | (with_reducible first | exact HB.out | apply below_alloc | apply pw_below_drewN | apply below_drew1 | refine below_set ?_ (IsS87.ge HI0.out)) | exact HB.out)) hb); replace HI0 := Aside0.mk (IsS87.below (by repeat (first | (with_reducible first | exact HI0.out | apply IsS87.alloc | apply IsS87.drewN | apply IsS87.drew | apply IsS87.set_1) | exact HI0.out)) hb); clear hb hbox hg) | ((with_reducible refine gate_callee (f := 65) rfl ?_); refine goesL_ (some 8) rfl rfl Try.func65 (by kernel_rfl) rfl #[.pointer (some ⟨g, 0, none⟩), .int .i64 6] rfl ar_ ?_; (with_reducible refine (spec_l1Rd_pick.calls k g s0_0 s0_1 6 t228 t229 w0 _ ?side1 ?side2 A3.out).mono ?_); (case side1 => repeat (first | (with_reducible first | exact HI0.out | apply IsS87.alloc | apply IsS87.drewN | apply IsS87.drew | apply IsS87.set_1 | refine IsS87.far ?_ NB0_227.out _) | exact HI0.out)); (case side2 => repeat (first | (with_reducible first | exact HB.out | apply below_alloc | apply pw_below_drewN | apply below_drew1 | refine below_set ?_ (IsS87.ge HI0.out) | refine below_set ?_ GE227.out) | exact HB.out)); rintro e w8 ⟨rfl, hi, hb, hk⟩; refine ⟨_, rfl, ?_⟩; replace BK227 := Aside0.mk (KeepBut.blk hk (g' := gb227) (o := .cells #[.int .i64 0, .int .i64 0, .string (⟨#[]⟩ : ByteArray), .slice none 0 0] 31 (0, 0)) (bk_ BK227) NB227_0.out (by simp)); replace HK := Aside0.mk (KeepBut.trans (kb_ HK) hk (.inl rfl)); replace HB := Aside0.mk (hb); replace HI0 := Aside0.mk (hi); (try clear hb); (try clear hb2); (try clear hk); (try clear hi)) | ((with_reducible refine gate_callee (f := 65) rfl ?_); refine goesL_ (some 12) rfl rfl Try.func65 (by kernel_rfl) rfl #[.pointer (some ⟨g, 0, none⟩), .int .i64 2] rfl ar_ ?_; (with_reducible refine (spec_l1Rd_pick.calls k g s0_0 t229 2 t230 t231 w0 _ ?side1 ?side2 A5.out).mono ?_); (case side1 => repeat (first | (with_reducible first | exact HI0.out | apply IsS87.alloc | apply IsS87.drewN | apply IsS87.drew | apply IsS87.set_1 | refine IsS87.far ?_ NB0_227.out _) | exact HI0.out)); (case side2 => repeat (first | (with_reducible first | exact HB.out | apply below_alloc | apply pw_below_drewN | apply below_drew1 | refine below_set ?_ (IsS87.ge HI0.out) | refine below_set ?_ GE227.out) | exact HB.out)); rintro e w9 ⟨rfl, hi, hb, hk⟩; refine ⟨_, rfl, ?_⟩; replace BK227 := Aside0.mk (KeepBut.blk hk (g' := gb227) (o := .cells #[.int .i64 0, .int .i64 0, .string (⟨#[]⟩ : ByteArray), .slice none 0 0] 31 (0, 0)) (bk_ BK227) NB227_0.out (by simp)); replace HK := Aside0.mk (KeepBut.trans (kb_ HK) hk (.inl rfl)); replace HB := Aside0.mk (hb); replace HI0 := Aside0.mk (hi); (try clear hb); (try clear hb2); (try clear hk); (try clear hi)) | ((with_reducible refine gate_callee (f := 86) rfl ?_); refine goesL_ (some 14) rfl rfl Try.func86 (by kernel_rfl) rfl #[.bool (t230 == 0)] rfl ar_ ?_; (with_reducible refine (spec_l1Bool.calls (t230 == 0) t232 t233 t234 t235 _ A6.out).mono ?_); rintro e w10 ⟨v236, rfl, ho0, hb⟩; refine ⟨_, rfl, ?_⟩; have HO237 := Aside0.mk (Kd.R_lower (Kd.R_newB ho0 (g := gb227) (o := .cells #[.int .i64 0, .int .i64 0, .string (⟨#[]⟩ : ByteArray), .slice none 0 0] 31 (0, 0)) (bk_ BK227)) (keep_size (w := w) (g := g) (row := none) (kb_ HK))); replace BK227 := bb_ BK227 hb; replace HK := Aside0.mk (KeepBut.trans (kb_ HK) (KeepBut.of_below hb g none) (.inl rfl)); replace HB := Aside0.mk (below_step (by repeat (first | (with_reducible first | exact HB.out | apply below_alloc | apply pw_below_drewN | apply below_drew1 | refine below_set ?_ (IsS87.ge HI0.out) | refine below_set ?_ GE227.out) | exact HB.out)) hb); replace HI0 := Aside0.mk (IsS87.below (by repeat (first | (with_reducible first | exact HI0.out | apply IsS87.alloc | apply IsS87.drewN | apply IsS87.drew | apply IsS87.set_1 | refine IsS87.far ?_ NB0_227.out _) | exact HI0.out)) hb); (try clear hb); (try clear hb2); (try clear hk); (try clear hi); (try clear ho0); have hnb11 := NB227_0.out; have hnc11 := NB0_227.out; obtain ⟨hcz12_0, hcz12_1, hcz12_2, hcz12_3, hfz12_0, hfz12_1, hfz12_2, hfz12_3⟩ := blk4 BK227; obtain ⟨Ao13, co13, eo13⟩ := Kd.R_slice HO237.out; subst eo13))
    refine bodyPost_ret (results_cell_row rfl _ _ gb227 31 #[.int .i64 t232, .int .i64 t233, .string t234, .slice Ao13 t235.length co13] (0, 0) _ rfl (by refine pe_ ?_; refine blk_put (cs := #[.int .i64 t232, .int .i64 t233, .string t234, .slice none 0 0]) ?_ 3 _ rfl; refine pe_ ?_; refine blk_put (cs := #[.int .i64 t232, .int .i64 t233, .string (⟨#[]⟩ : ByteArray), .slice none 0 0]) ?_ 2 _ rfl; refine pe_ ?_; refine blk_put (cs := #[.int .i64 t232, .int .i64 0, .string (⟨#[]⟩ : ByteArray), .slice none 0 0]) ?_ 1 _ rfl; refine pe_ ?_; refine blk_put (cs := #[.int .i64 0, .int .i64 0, .string (⟨#[]⟩ : ByteArray), .slice none 0 0]) ?_ 0 _ rfl; refine pe_ ?_; exact BK227.out) Try.underlying31 rfl (by kernel_rfl)) rfl ?_
    exact ⟨_, by first | rfl | (simp [errW_none, errW_some] <;> rfl) | (simp [*, errW_none, errW_some] <;> rfl), by (with_reducible repeat (first | apply Kd.R_alloc | apply Kd.R_drewN | apply Kd.R_drew)); exact Kd.R_mono (rf4 gb227 (Kd.R_mono HO237.out (fun k_ hk => (⟨hk, hk.2⟩ : _ ∧ k_ ≠ gb227))) (fun _ hk => hk.2)) (fun _ hk => trivial), by repeat (first | (with_reducible first | exact HI0.out | apply IsS87.alloc | apply IsS87.drewN | apply IsS87.drew | apply IsS87.set_1 | refine IsS87.far ?_ NB0_227.out _) | exact HI0.out), by repeat (first | (with_reducible first | exact HB.out | apply below_alloc | apply pw_below_drewN | apply below_drew1 | refine below_set ?_ (IsS87.ge HI0.out) | refine below_set ?_ GE227.out) | exact HB.out), by repeat (first | (with_reducible first | exact HK.out | apply KeepBut.set_ | apply keep_drewN | apply keep_drew | apply keep_alloc | refine keep_far ?_ GW227.out _) | exact HK.out)⟩
  rw [if_neg c4] at H
  have c4b0 : (t228 == 0) = false := beq_eq_false_iff_ne.mpr c4
  have c4b1 : (t228 != 0) = true := bne_iff_ne.mpr c4
  have HC14 := Aside0.mk H
  clear H
  go_enter Try.func85, Try.ntmps85
  go_upto_if 15 with (first | ((with_reducible refine gate_dst (N := 4) rfl ?_); refine bx_ 4 #[.int .i64 0, .int .i64 0, .string (⟨#[]⟩ : ByteArray), .slice none 0 0] 31 ?_; intro gb227 hg w15 hbox hb; have BK227 := Aside0.mk (hbox); have GW227 := Aside0.mk ((by rw [hg]; exact (keep_size (w := w) (g := g) (row := none) (kb_ HK)) : w.heap.size ≤ gb227)); have GE227 := Aside0.mk ((Nat.le_trans HW0.out (by rw [hg]; exact (keep_size (w := w) (g := g) (row := none) (kb_ HK)) : w.heap.size ≤ gb227) : w0.heap.size ≤ gb227)); have NB0_227 := Aside0.mk ((by rw [hg]; exact Nat.ne_of_lt (IsS87.lt (show IsS87 w0 _ g s0_0 s0_1 from by repeat (first | (with_reducible first | exact HI0.out | apply IsS87.alloc | apply IsS87.drewN | apply IsS87.drew | apply IsS87.set_1) | exact HI0.out))) : g ≠ gb227)); have NB227_0 := Aside0.mk ((by rw [hg]; exact Nat.ne_of_gt (IsS87.lt (show IsS87 w0 _ g s0_0 s0_1 from by repeat (first | (with_reducible first | exact HI0.out | apply IsS87.alloc | apply IsS87.drewN | apply IsS87.drew | apply IsS87.set_1) | exact HI0.out))) : gb227 ≠ g)); replace HK := Aside0.mk (KeepBut.trans (kb_ HK) (KeepBut.of_below hb g none) (.inl rfl)); replace HB := Aside0.mk (below_step (by repeat (first | (with_reducible first | exact HB.out | apply below_alloc | apply pw_below_drewN | apply below_drew1 | refine below_set ?_ (IsS87.ge HI0.out)) | exact HB.out)) hb); replace HI0 := Aside0.mk (IsS87.below (by repeat (first | (with_reducible first | exact HI0.out | apply IsS87.alloc | apply IsS87.drewN | apply IsS87.drew | apply IsS87.set_1) | exact HI0.out)) hb); clear hb hbox hg) | ((with_reducible refine gate_callee (f := 65) rfl ?_); refine goesL_ (some 8) rfl rfl Try.func65 (by kernel_rfl) rfl #[.pointer (some ⟨g, 0, none⟩), .int .i64 6] rfl ar_ ?_; (with_reducible refine (spec_l1Rd_pick.calls k g s0_0 s0_1 6 t228 t229 w0 _ ?side1 ?side2 A3.out).mono ?_); (case side1 => repeat (first | (with_reducible first | exact HI0.out | apply IsS87.alloc | apply IsS87.drewN | apply IsS87.drew | apply IsS87.set_1 | refine IsS87.far ?_ NB0_227.out _) | exact HI0.out)); (case side2 => repeat (first | (with_reducible first | exact HB.out | apply below_alloc | apply pw_below_drewN | apply below_drew1 | refine below_set ?_ (IsS87.ge HI0.out) | refine below_set ?_ GE227.out) | exact HB.out)); rintro e w16 ⟨rfl, hi, hb, hk⟩; refine ⟨_, rfl, ?_⟩; replace BK227 := Aside0.mk (KeepBut.blk hk (g' := gb227) (o := .cells #[.int .i64 0, .int .i64 0, .string (⟨#[]⟩ : ByteArray), .slice none 0 0] 31 (0, 0)) (bk_ BK227) NB227_0.out (by simp)); replace HK := Aside0.mk (KeepBut.trans (kb_ HK) hk (.inl rfl)); replace HB := Aside0.mk (hb); replace HI0 := Aside0.mk (hi); (try clear hb); (try clear hb2); (try clear hk); (try clear hi)))
  (try simp only [Act.put, List.setIfInBounds_toArray, List.set_cons_zero, List.set_cons_succ])
  go_cut [15] (fun v15 wc => ∃ (kq : Nat) (x15_13 : Bool), v15 = .bool x15_13 ∧ Aside0 (spec_l11Plain.j0 kq a1 t228 x15_13 s0_0 t229 = some (r1, r2, r3, r4, r5)) ∧ Aside0 (kq ≤ k) ∧ Aside0 (wc.heap[gb227]? = some (.cells #[.int .i64 0, .int .i64 0, .string (⟨#[]⟩ : ByteArray), (.slice none 0 0)] 31 (0, 0))) ∧ Aside0 (IsS87 w0 wc g s0_0 t229) ∧ Aside0 (KeepBut w wc g none) ∧ Aside0 (Below w0.heap.size w0 wc))
  case first =>
    have H := HC14.out
    clear HC14
    by_cases c17 : t228 = 1
    · rw [if_pos c17] at H
      have c17b0 : (t228 == 1) = true := beq_iff_eq.mpr c17
      have c17b1 : (t228 != 1) = false := bne_eq_false_iff_eq.mpr c17
      clear c17
      (first | rw [c17b0] | (simp only [i64_w, i32_w]; rw [c17b0]) | skip)
      have H' := Aside0.mk H
      clear H
      go_wp2
      go_meet
      case rel => exact ⟨_, ((t228 == 1)), sm_, H', ⟨by first | omega | exact Nat.le_refl _⟩, ⟨by refine pe_ ?_; exact BK227.out⟩, ⟨by repeat (first | (with_reducible first | exact HI0.out | apply IsS87.alloc | apply IsS87.drewN | apply IsS87.drew | apply IsS87.set_1 | refine IsS87.far ?_ NB0_227.out _) | exact HI0.out)⟩, ⟨by repeat (first | (with_reducible first | exact HK.out | apply KeepBut.set_ | apply keep_drewN | apply keep_drew | apply keep_alloc | refine keep_far ?_ GW227.out _) | exact HK.out)⟩, ⟨by repeat (first | (with_reducible first | exact HB.out | apply below_alloc | apply pw_below_drewN | apply below_drew1 | refine below_set ?_ (IsS87.ge HI0.out) | refine below_set ?_ GE227.out) | exact HB.out)⟩⟩
    rw [if_neg c17] at H
    have c17b0 : (t228 == 1) = false := beq_eq_false_iff_ne.mpr c17
    have c17b1 : (t228 != 1) = true := bne_iff_ne.mpr c17
    (first | rw [c17b0] | (simp only [i64_w, i32_w]; rw [c17b0]) | skip)
    have H' := Aside0.mk H
    clear H
    go_wp2
    go_meet
    case rel => exact ⟨_, ((t228 == 2)), sm_, H', ⟨by first | omega | exact Nat.le_refl _⟩, ⟨by refine pe_ ?_; exact BK227.out⟩, ⟨by repeat (first | (with_reducible first | exact HI0.out | apply IsS87.alloc | apply IsS87.drewN | apply IsS87.drew | apply IsS87.set_1 | refine IsS87.far ?_ NB0_227.out _) | exact HI0.out)⟩, ⟨by repeat (first | (with_reducible first | exact HK.out | apply KeepBut.set_ | apply keep_drewN | apply keep_drew | apply keep_alloc | refine keep_far ?_ GW227.out _) | exact HK.out)⟩, ⟨by repeat (first | (with_reducible first | exact HB.out | apply below_alloc | apply pw_below_drewN | apply below_drew1 | refine below_set ?_ (IsS87.ge HI0.out) | refine below_set ?_ GE227.out) | exact HB.out)⟩⟩
  case rest =>
    clear HC14
    try clear c1
    try clear p2
    try clear c4
    try clear c4b0
    try clear c4b1
    try clear c6
    try clear c8
    try clear c11
    try clear c17
    try clear c17b0
    try clear c17b1
    try clear hcz12_0 hcz12_1 hcz12_2 hcz12_3
    try clear hfz12_0 hfz12_1 hfz12_2 hfz12_3
    obtain ⟨kq, x15_13, rfl, HA, HJ13, BK227, HI0, HK, HB⟩ := hcut
    cases kq with
    | zero => exact absurd HA.out (by simp [spec_l11Plain.j0])
    | succ kj13 =>
      have H := HA.out
      clear HA
      simp only [spec_l11Plain.j0] at H
      by_cases c18 : x15_13 = true
      · subst c18
        have H1 : ((spec_l1Many.f kj13 (⟨#[116]⟩ : ByteArray) 16).bind fun t238 => ((spec_l1Rd_of.f kj13 s0_0 t229 (([(⟨#[]⟩ : ByteArray), (⟨#[97]⟩ : ByteArray), (⟨#[98]⟩ : ByteArray), (⟨#[116, 119, 111, 32, 119, 111, 114, 100, 115]⟩ : ByteArray), t238] : List ByteArray))).bind fun bt242 => (some (3, 0, bt242.1, ([] : List (S31)), bt242.2)))) = some (r1, r2, r3, r4, r5) := by rw [if_pos rfl] at H; exact H
        clear H
        have H := H1
        clear H1
        replace H := Option.bind_eq_some_iff.mp H
        obtain ⟨t238, A190, H⟩ := H
        replace H : ((spec_l1Rd_of.f kj13 s0_0 t229 (([(⟨#[]⟩ : ByteArray), (⟨#[97]⟩ : ByteArray), (⟨#[98]⟩ : ByteArray), (⟨#[116, 119, 111, 32, 119, 111, 114, 100, 115]⟩ : ByteArray), t238] : List ByteArray))).bind fun bt242 => (some (3, 0, bt242.1, ([] : List (S31)), bt242.2))) = some (r1, r2, r3, r4, r5) := H
        have A19 := Aside0.mk A190
        clear A190
        obtain ⟨y239, hy239⟩ : ∃ y_ : List ByteArray, y_ = (([(⟨#[]⟩ : ByteArray), (⟨#[97]⟩ : ByteArray), (⟨#[98]⟩ : ByteArray), (⟨#[116, 119, 111, 32, 119, 111, 114, 100, 115]⟩ : ByteArray), t238] : List ByteArray)) := ⟨_, rfl⟩
        replace H : ((spec_l1Rd_of.f kj13 s0_0 t229 y239).bind fun bt242 => (some (3, 0, bt242.1, ([] : List (S31)), bt242.2))) = some (r1, r2, r3, r4, r5) := by first | (rw [hy239]; with_reducible exact H) | (have H2_ := (Option.bind_some _ _).symm.trans H; rw [hy239]; with_reducible exact H2_) | (have H2_ := (Option.bind_some _ _).symm.trans H; with_reducible exact H2_) | with_reducible exact H | (rw [hy239]; exact H) | exact H
        have Ny239 := Aside0.mk hy239
        clear hy239
        replace H := Option.bind_eq_some_iff.mp H
        obtain ⟨⟨t242, t243⟩, A200, H⟩ := H
        replace H : (some (3, 0, t242, ([] : List (S31)), t243)) = some (r1, r2, r3, r4, r5) := H
        have A20 := Aside0.mk A200
        clear A200
        simp only [Option.some.injEq, Prod.mk.injEq] at H
        obtain ⟨rfl, rfl, rfl, rfl, rfl⟩ := H
        go_wp2_with (first | ((with_reducible refine gate_callee (f := 84) rfl ?_); refine goesL_ (some 19) rfl rfl Try.func84 (by kernel_rfl) rfl #[.string (⟨#[116]⟩ : ByteArray), .int .i64 16] rfl ar_ ?_; (with_reducible refine (spec_l1Many.calls kj13 (⟨#[116]⟩ : ByteArray) 16 t238 _ A19.out).mono ?_); rintro e w' ⟨rfl, ⟨nd, rfl⟩⟩; refine ⟨_, rfl, ?_⟩; (try (rw [drewN_self wc]; generalize hq_ : World.drewN wc _ = wc; have n0_ : Aside0 (wc.heap[gb227]? = some (.cells #[.int .i64 0, .int .i64 0, .string (⟨#[]⟩ : ByteArray), .slice none 0 0] 31 (0, 0))) := ⟨by rw [← hq_]; exact (bk_ BK227)⟩; have n1_ : Aside0 (IsS87 w0 wc g s0_0 t229) := ⟨by rw [← hq_]; exact (by repeat (first | (with_reducible first | exact HI0.out | apply IsS87.alloc | apply IsS87.drewN | apply IsS87.drew | apply IsS87.set_1 | refine IsS87.far ?_ NB0_227.out _) | exact HI0.out))⟩; have n2_ : Aside0 (KeepBut w wc g none) := ⟨by rw [← hq_]; exact (kb_ HK)⟩; have n3_ : Aside0 (Below w0.heap.size w0 wc) := ⟨by rw [← hq_]; exact (by repeat (first | (with_reducible first | exact HB.out | apply below_alloc | apply pw_below_drewN | apply below_drew1 | refine below_set ?_ (IsS87.ge HI0.out) | refine below_set ?_ GE227.out) | exact HB.out))⟩; clear BK227 HI0 HK HB hq_; have BK227 := n0_; have HI0 := n1_; have HK := n2_; have HB := n3_; clear n0_ n1_ n2_ n3_))) | ((with_reducible refine gate_dst (N := 20) rfl ?_); refine Kd.R_lit Kd.string _ 9 ?hg (N := 20) ?hd (xs := ([(⟨#[]⟩ : ByteArray), (⟨#[97]⟩ : ByteArray), (⟨#[98]⟩ : ByteArray), (⟨#[116, 119, 111, 32, 119, 111, 114, 100, 115]⟩ : ByteArray), t238] : List ByteArray)) (inner := [.string (⟨#[]⟩ : ByteArray), .string (⟨#[97]⟩ : ByteArray), .string (⟨#[98]⟩ : ByteArray), .string (⟨#[116, 119, 111, 32, 119, 111, 114, 100, 115]⟩ : ByteArray), .string t238]) (ok := fun _ => True) (okp := fun _ => True) ?hr ?hp (fun _ hk => hk) trivial (Below.refl _ _) (Nat.le_refl _) (by simp) ?_; (case hd => rfl); (case hg => rfl); (case hr => first | (go_simp; done) | (go_simp; rfl)); (case hp => exact (Reps.one (show Kd.M Kd.string _ _ _ (⟨#[]⟩ : ByteArray) [.string (⟨#[]⟩ : ByteArray)] from rfl) (Reps.one (show Kd.M Kd.string _ _ _ (⟨#[97]⟩ : ByteArray) [.string (⟨#[97]⟩ : ByteArray)] from rfl) (Reps.one (show Kd.M Kd.string _ _ _ (⟨#[98]⟩ : ByteArray) [.string (⟨#[98]⟩ : ByteArray)] from rfl) (Reps.one (show Kd.M Kd.string _ _ _ (⟨#[116, 119, 111, 32, 119, 111, 114, 100, 115]⟩ : ByteArray) [.string (⟨#[116, 119, 111, 32, 119, 111, 114, 100, 115]⟩ : ByteArray)] from rfl) (Reps.one (show Kd.M Kd.string _ _ _ t238 [.string t238] from rfl) (Reps.none _ _))))))); intro v240 w21 ho22 hb hg_ hnew_; clear hg_ hnew_; (first | rw [← Ny239.out] at ho22 | (simp only [Int.reduceToNat] at ho22; rw [← Ny239.out] at ho22)); have HO241 := Aside0.mk (Kd.R_lower ho22 (keep_size (w := w) (g := g) (row := none) (kb_ HK))); replace BK227 := bb_ BK227 hb; replace HK := Aside0.mk (KeepBut.trans (kb_ HK) (KeepBut.of_below hb g none) (.inl rfl)); replace HB := Aside0.mk (below_step (by repeat (first | (with_reducible first | exact HB.out | apply below_alloc | apply pw_below_drewN | apply below_drew1 | refine below_set ?_ (IsS87.ge HI0.out) | refine below_set ?_ GE227.out) | exact HB.out)) hb); replace HI0 := Aside0.mk (IsS87.below (by repeat (first | (with_reducible first | exact HI0.out | apply IsS87.alloc | apply IsS87.drewN | apply IsS87.drew | apply IsS87.set_1 | refine IsS87.far ?_ NB0_227.out _) | exact HI0.out)) hb); clear hb ho22; obtain ⟨Ao23, co23, eo23⟩ := Kd.R_slice HO241.out; subst eo23) | ((with_reducible refine gate_callee (f := 55) rfl ?_); refine goesL_ (some 21) rfl rfl Try.func55 (by kernel_rfl) rfl #[.pointer (some ⟨g, 0, none⟩), .slice Ao23 y239.length co23] rfl ar_ ?_; (with_reducible refine (spec_l1Rd_of.calls kj13 g s0_0 t229 _ _ y239 t242 t243 w0 _ ?side1 ?side2 ?side3 ?side4 ?side5 A20.out).mono ?_); (case side1 => repeat (first | (with_reducible first | exact HI0.out | apply IsS87.alloc | apply IsS87.drewN | apply IsS87.drew | apply IsS87.set_1 | refine IsS87.far ?_ NB0_227.out _) | exact HI0.out)); (case side2 => repeat (first | (with_reducible first | exact HB.out | apply below_alloc | apply pw_below_drewN | apply below_drew1 | refine below_set ?_ (IsS87.ge HI0.out) | refine below_set ?_ GE227.out) | exact HB.out)); (case side3 => repeat (first | exact (Kd.R_reads' HO241.out).2.2 | (with_reducible refine Kd.C_alloc ?_ _) | (with_reducible refine Kd.C_drewN ?_ _) | (with_reducible refine Kd.C_drew ?_))); (case side4 => exact (Kd.R_reads' HO241.out).2.1); (case side5 => exact far_slice (IsS87.own_ne HI0.out HO241.out (by decide))); rintro e w24 ⟨rfl, hi, hb, hk⟩; refine ⟨_, rfl, ?_⟩; replace BK227 := Aside0.mk (KeepBut.blk hk (g' := gb227) (o := .cells #[.int .i64 0, .int .i64 0, .string (⟨#[]⟩ : ByteArray), .slice none 0 0] 31 (0, 0)) (bk_ BK227) NB227_0.out (by simp)); replace HO241 := Aside0.mk (Kd.R_mono (Kd.R_keep (IsS87.apart (show IsS87 w0 _ g s0_0 t229 from by repeat (first | (with_reducible first | exact HI0.out | apply IsS87.alloc | apply IsS87.drewN | apply IsS87.drew | apply IsS87.set_1 | refine IsS87.far ?_ NB0_227.out _) | exact HI0.out)) (by (with_reducible repeat (first | apply Kd.R_alloc | apply Kd.R_drewN | apply Kd.R_drew)); exact HO241.out) (by decide)) hk (fun _ h => h.2)) (fun _ h => h.1)); replace HK := Aside0.mk (KeepBut.trans (kb_ HK) hk (.inl rfl)); replace HB := Aside0.mk (hb); replace HI0 := Aside0.mk (hi); (try clear hb); (try clear hb2); (try clear hk); (try clear hi); have hnb25 := NB227_0.out; have hnc25 := NB0_227.out; obtain ⟨hcz26_0, hcz26_1, hcz26_2, hcz26_3, hfz26_0, hfz26_1, hfz26_2, hfz26_3⟩ := blk4 BK227))
        refine bodyPost_ret (results_cell_row rfl _ _ gb227 31 #[.int .i64 3, .int .i64 0, .string t242, .slice none 0 0] (0, 0) _ rfl (by refine pe_ ?_; refine blk_put (cs := #[.int .i64 3, .int .i64 0, .string t242, .slice none 0 0]) ?_ 3 _ rfl; refine pe_ ?_; refine blk_put (cs := #[.int .i64 3, .int .i64 0, .string (⟨#[]⟩ : ByteArray), .slice none 0 0]) ?_ 2 _ rfl; refine pe_ ?_; refine blk_put (cs := #[.int .i64 3, .int .i64 0, .string (⟨#[]⟩ : ByteArray), .slice none 0 0]) ?_ 1 _ rfl; refine pe_ ?_; refine blk_put (cs := #[.int .i64 0, .int .i64 0, .string (⟨#[]⟩ : ByteArray), .slice none 0 0]) ?_ 0 _ rfl; refine pe_ ?_; exact BK227.out) Try.underlying31 rfl (by kernel_rfl)) rfl ?_
        exact ⟨_, by first | rfl | (simp [errW_none, errW_some] <;> rfl) | (simp [*, errW_none, errW_some] <;> rfl), by first | exact Kd.R_nil _ _ _ _ _ | exact Kd.N_nil _ _ _ _ _ | exact Kd.V_nil _ _ _ _ _ | exact Kd.Q_nil _ _ _ _ _ | exact Kd.S_nil _ _ _ _ _, by repeat (first | (with_reducible first | exact HI0.out | apply IsS87.alloc | apply IsS87.drewN | apply IsS87.drew | apply IsS87.set_1 | refine IsS87.far ?_ NB0_227.out _) | exact HI0.out), by repeat (first | (with_reducible first | exact HB.out | apply below_alloc | apply pw_below_drewN | apply below_drew1 | refine below_set ?_ (IsS87.ge HI0.out) | refine below_set ?_ GE227.out) | exact HB.out), by repeat (first | (with_reducible first | exact HK.out | apply KeepBut.set_ | apply keep_drewN | apply keep_drew | apply keep_alloc | refine keep_far ?_ GW227.out _) | exact HK.out)⟩
      replace c18 := Bool.eq_false_iff.mpr c18
      subst c18
      have H1 : (if t228 = 3 then (if a1 > 1 then ((spec_l1Rd_pick.f kj13 s0_0 t229 4).bind fun bt245 => (spec_l11Plain.l0 kj13 a1 bt245.1 s0_0 bt245.2 4 0 (⟨#[]⟩ : ByteArray) ([] : List (S31)))) else ((spec_l1Rd_one.f kj13 s0_0 t229 (([0, 1, 2, 3, (-1), 7, 1000000000] : List Int))).bind fun bt260 => (some (2, bt260.1, (⟨#[]⟩ : ByteArray), ([] : List (S31)), bt260.2)))) else ((spec_l1Rd_one.f kj13 s0_0 t229 (([0, 1, 2, 3, (-1), 7, 1000000000] : List Int))).bind fun bt265 => (some (2, bt265.1, (⟨#[]⟩ : ByteArray), ([] : List (S31)), bt265.2)))) = some (r1, r2, r3, r4, r5) := by rw [if_neg (show ¬ (false = true) by decide)] at H; exact H
      clear H
      have H := H1
      clear H1
      by_cases c27 : t228 = 3
      rotate_left
      · rw [if_neg c27] at H
        have c27b0 : (t228 == 3) = false := beq_eq_false_iff_ne.mpr c27
        have c27b1 : (t228 != 3) = true := bne_iff_ne.mpr c27
        obtain ⟨y262, hy262⟩ : ∃ y_ : List Int, y_ = (([0, 1, 2, 3, (-1), 7, 1000000000] : List Int)) := ⟨_, rfl⟩
        replace H : ((spec_l1Rd_one.f kj13 s0_0 t229 y262).bind fun bt265 => (some (2, bt265.1, (⟨#[]⟩ : ByteArray), ([] : List (S31)), bt265.2))) = some (r1, r2, r3, r4, r5) := by first | (rw [hy262]; with_reducible exact H) | (have H2_ := (Option.bind_some _ _).symm.trans H; rw [hy262]; with_reducible exact H2_) | (have H2_ := (Option.bind_some _ _).symm.trans H; with_reducible exact H2_) | with_reducible exact H | (rw [hy262]; exact H) | exact H
        have Ny262 := Aside0.mk hy262
        clear hy262
        replace H := Option.bind_eq_some_iff.mp H
        obtain ⟨⟨t265, t266⟩, A570, H⟩ := H
        replace H : (some (2, t265, (⟨#[]⟩ : ByteArray), ([] : List (S31)), t266)) = some (r1, r2, r3, r4, r5) := H
        have A57 := Aside0.mk A570
        clear A570
        simp only [Option.some.injEq, Prod.mk.injEq] at H
        obtain ⟨rfl, rfl, rfl, rfl, rfl⟩ := H
        go_wp2_with (first | ((with_reducible refine gate_dst (N := 45) rfl ?_); refine Kd.R_lit (Kd.int .i64) _ 3 ?hg (N := 45) ?hd (xs := ([0, 1, 2, 3, (-1), 7, 1000000000] : List Int)) (inner := [.int .i64 0, .int .i64 1, .int .i64 2, .int .i64 3, .int .i64 (-1), .int .i64 7, .int .i64 1000000000]) (ok := fun _ => True) (okp := fun _ => True) ?hr ?hp (fun _ hk => hk) trivial (Below.refl _ _) (Nat.le_refl _) (by simp) ?_; (case hd => rfl); (case hg => rfl); (case hr => first | (go_simp; done) | (go_simp; rfl)); (case hp => exact (Reps.one (show Kd.M (Kd.int .i64) _ _ _ 0 [.int .i64 0] from rfl) (Reps.one (show Kd.M (Kd.int .i64) _ _ _ 1 [.int .i64 1] from rfl) (Reps.one (show Kd.M (Kd.int .i64) _ _ _ 2 [.int .i64 2] from rfl) (Reps.one (show Kd.M (Kd.int .i64) _ _ _ 3 [.int .i64 3] from rfl) (Reps.one (show Kd.M (Kd.int .i64) _ _ _ (-1) [.int .i64 (-1)] from rfl) (Reps.one (show Kd.M (Kd.int .i64) _ _ _ 7 [.int .i64 7] from rfl) (Reps.one (show Kd.M (Kd.int .i64) _ _ _ 1000000000 [.int .i64 1000000000] from rfl) (Reps.none _ _))))))))); intro v263 w58 ho59 hb hg_ hnew_; clear hg_ hnew_; (first | rw [← Ny262.out] at ho59 | (simp only [Int.reduceToNat] at ho59; rw [← Ny262.out] at ho59)); have HO264 := Aside0.mk (Kd.R_lower ho59 (keep_size (w := w) (g := g) (row := none) (kb_ HK))); replace BK227 := bb_ BK227 hb; replace HK := Aside0.mk (KeepBut.trans (kb_ HK) (KeepBut.of_below hb g none) (.inl rfl)); replace HB := Aside0.mk (below_step (by repeat (first | (with_reducible first | exact HB.out | apply below_alloc | apply pw_below_drewN | apply below_drew1 | refine below_set ?_ (IsS87.ge HI0.out) | refine below_set ?_ GE227.out) | exact HB.out)) hb); replace HI0 := Aside0.mk (IsS87.below (by repeat (first | (with_reducible first | exact HI0.out | apply IsS87.alloc | apply IsS87.drewN | apply IsS87.drew | apply IsS87.set_1 | refine IsS87.far ?_ NB0_227.out _) | exact HI0.out)) hb); clear hb ho59; obtain ⟨Ao60, co60, eo60⟩ := Kd.R_slice HO264.out; subst eo60) | ((with_reducible refine gate_callee (f := 83) rfl ?_); refine goesL_ (some 46) rfl rfl Try.func83 (by kernel_rfl) rfl #[.pointer (some ⟨g, 0, none⟩), .slice Ao60 y262.length co60] rfl ar_ ?_; (with_reducible refine (spec_l1Rd_one.calls kj13 g s0_0 t229 _ _ y262 t265 t266 w0 _ ?side1 ?side2 ?side3 ?side4 ?side5 A57.out).mono ?_); (case side1 => repeat (first | (with_reducible first | exact HI0.out | apply IsS87.alloc | apply IsS87.drewN | apply IsS87.drew | apply IsS87.set_1 | refine IsS87.far ?_ NB0_227.out _) | exact HI0.out)); (case side2 => repeat (first | (with_reducible first | exact HB.out | apply below_alloc | apply pw_below_drewN | apply below_drew1 | refine below_set ?_ (IsS87.ge HI0.out) | refine below_set ?_ GE227.out) | exact HB.out)); (case side3 => repeat (first | exact (Kd.R_reads' HO264.out).2.2 | (with_reducible refine Kd.C_alloc ?_ _) | (with_reducible refine Kd.C_drewN ?_ _) | (with_reducible refine Kd.C_drew ?_))); (case side4 => exact (Kd.R_reads' HO264.out).2.1); (case side5 => exact far_slice (IsS87.own_ne HI0.out HO264.out (by decide))); rintro e w61 ⟨rfl, hi, hb, hk⟩; refine ⟨_, rfl, ?_⟩; replace BK227 := Aside0.mk (KeepBut.blk hk (g' := gb227) (o := .cells #[.int .i64 0, .int .i64 0, .string (⟨#[]⟩ : ByteArray), .slice none 0 0] 31 (0, 0)) (bk_ BK227) NB227_0.out (by simp)); replace HO264 := Aside0.mk (Kd.R_mono (Kd.R_keep (IsS87.apart (show IsS87 w0 _ g s0_0 t229 from by repeat (first | (with_reducible first | exact HI0.out | apply IsS87.alloc | apply IsS87.drewN | apply IsS87.drew | apply IsS87.set_1 | refine IsS87.far ?_ NB0_227.out _) | exact HI0.out)) (by (with_reducible repeat (first | apply Kd.R_alloc | apply Kd.R_drewN | apply Kd.R_drew)); exact HO264.out) (by decide)) hk (fun _ h => h.2)) (fun _ h => h.1)); replace HK := Aside0.mk (KeepBut.trans (kb_ HK) hk (.inl rfl)); replace HB := Aside0.mk (hb); replace HI0 := Aside0.mk (hi); (try clear hb); (try clear hb2); (try clear hk); (try clear hi); have hnb62 := NB227_0.out; have hnc62 := NB0_227.out; obtain ⟨hcz63_0, hcz63_1, hcz63_2, hcz63_3, hfz63_0, hfz63_1, hfz63_2, hfz63_3⟩ := blk4 BK227))
        refine bodyPost_ret (results_cell_row rfl _ _ gb227 31 #[.int .i64 2, .int .i64 t265, .string (⟨#[]⟩ : ByteArray), .slice none 0 0] (0, 0) _ rfl (by refine pe_ ?_; refine blk_put (cs := #[.int .i64 2, .int .i64 t265, .string (⟨#[]⟩ : ByteArray), .slice none 0 0]) ?_ 3 _ rfl; refine pe_ ?_; refine blk_put (cs := #[.int .i64 2, .int .i64 t265, .string (⟨#[]⟩ : ByteArray), .slice none 0 0]) ?_ 2 _ rfl; refine pe_ ?_; refine blk_put (cs := #[.int .i64 2, .int .i64 0, .string (⟨#[]⟩ : ByteArray), .slice none 0 0]) ?_ 1 _ rfl; refine pe_ ?_; refine blk_put (cs := #[.int .i64 0, .int .i64 0, .string (⟨#[]⟩ : ByteArray), .slice none 0 0]) ?_ 0 _ rfl; refine pe_ ?_; exact BK227.out) Try.underlying31 rfl (by kernel_rfl)) rfl ?_
        exact ⟨_, by first | rfl | (simp [errW_none, errW_some] <;> rfl) | (simp [*, errW_none, errW_some] <;> rfl), by first | exact Kd.R_nil _ _ _ _ _ | exact Kd.N_nil _ _ _ _ _ | exact Kd.V_nil _ _ _ _ _ | exact Kd.Q_nil _ _ _ _ _ | exact Kd.S_nil _ _ _ _ _, by repeat (first | (with_reducible first | exact HI0.out | apply IsS87.alloc | apply IsS87.drewN | apply IsS87.drew | apply IsS87.set_1 | refine IsS87.far ?_ NB0_227.out _) | exact HI0.out), by repeat (first | (with_reducible first | exact HB.out | apply below_alloc | apply pw_below_drewN | apply below_drew1 | refine below_set ?_ (IsS87.ge HI0.out) | refine below_set ?_ GE227.out) | exact HB.out), by repeat (first | (with_reducible first | exact HK.out | apply KeepBut.set_ | apply keep_drewN | apply keep_drew | apply keep_alloc | refine keep_far ?_ GW227.out _) | exact HK.out)⟩
      rw [if_pos c27] at H
      have c27b0 : (t228 == 3) = true := beq_iff_eq.mpr c27
      have c27b1 : (t228 != 3) = false := bne_eq_false_iff_eq.mpr c27
      clear c27
      by_cases c28 : a1 > 1
      rotate_left
      · rw [if_neg c28] at H
        have c28b0 : decide (1 < a1) = false := decide_eq_false c28
        clear c28
        obtain ⟨y257, hy257⟩ : ∃ y_ : List Int, y_ = (([0, 1, 2, 3, (-1), 7, 1000000000] : List Int)) := ⟨_, rfl⟩
        replace H : ((spec_l1Rd_one.f kj13 s0_0 t229 y257).bind fun bt260 => (some (2, bt260.1, (⟨#[]⟩ : ByteArray), ([] : List (S31)), bt260.2))) = some (r1, r2, r3, r4, r5) := by first | (rw [hy257]; with_reducible exact H) | (have H2_ := (Option.bind_some _ _).symm.trans H; rw [hy257]; with_reducible exact H2_) | (have H2_ := (Option.bind_some _ _).symm.trans H; with_reducible exact H2_) | with_reducible exact H | (rw [hy257]; exact H) | exact H
        have Ny257 := Aside0.mk hy257
        clear hy257
        replace H := Option.bind_eq_some_iff.mp H
        obtain ⟨⟨t260, t261⟩, A500, H⟩ := H
        replace H : (some (2, t260, (⟨#[]⟩ : ByteArray), ([] : List (S31)), t261)) = some (r1, r2, r3, r4, r5) := H
        have A50 := Aside0.mk A500
        clear A500
        simp only [Option.some.injEq, Prod.mk.injEq] at H
        obtain ⟨rfl, rfl, rfl, rfl, rfl⟩ := H
        go_wp2_with (first | ((with_reducible refine gate_dst (N := 45) rfl ?_); refine Kd.R_lit (Kd.int .i64) _ 3 ?hg (N := 45) ?hd (xs := ([0, 1, 2, 3, (-1), 7, 1000000000] : List Int)) (inner := [.int .i64 0, .int .i64 1, .int .i64 2, .int .i64 3, .int .i64 (-1), .int .i64 7, .int .i64 1000000000]) (ok := fun _ => True) (okp := fun _ => True) ?hr ?hp (fun _ hk => hk) trivial (Below.refl _ _) (Nat.le_refl _) (by simp) ?_; (case hd => rfl); (case hg => rfl); (case hr => first | (go_simp; done) | (go_simp; rfl)); (case hp => exact (Reps.one (show Kd.M (Kd.int .i64) _ _ _ 0 [.int .i64 0] from rfl) (Reps.one (show Kd.M (Kd.int .i64) _ _ _ 1 [.int .i64 1] from rfl) (Reps.one (show Kd.M (Kd.int .i64) _ _ _ 2 [.int .i64 2] from rfl) (Reps.one (show Kd.M (Kd.int .i64) _ _ _ 3 [.int .i64 3] from rfl) (Reps.one (show Kd.M (Kd.int .i64) _ _ _ (-1) [.int .i64 (-1)] from rfl) (Reps.one (show Kd.M (Kd.int .i64) _ _ _ 7 [.int .i64 7] from rfl) (Reps.one (show Kd.M (Kd.int .i64) _ _ _ 1000000000 [.int .i64 1000000000] from rfl) (Reps.none _ _))))))))); intro v258 w51 ho52 hb hg_ hnew_; clear hg_ hnew_; (first | rw [← Ny257.out] at ho52 | (simp only [Int.reduceToNat] at ho52; rw [← Ny257.out] at ho52)); have HO259 := Aside0.mk (Kd.R_lower ho52 (keep_size (w := w) (g := g) (row := none) (kb_ HK))); replace BK227 := bb_ BK227 hb; replace HK := Aside0.mk (KeepBut.trans (kb_ HK) (KeepBut.of_below hb g none) (.inl rfl)); replace HB := Aside0.mk (below_step (by repeat (first | (with_reducible first | exact HB.out | apply below_alloc | apply pw_below_drewN | apply below_drew1 | refine below_set ?_ (IsS87.ge HI0.out) | refine below_set ?_ GE227.out) | exact HB.out)) hb); replace HI0 := Aside0.mk (IsS87.below (by repeat (first | (with_reducible first | exact HI0.out | apply IsS87.alloc | apply IsS87.drewN | apply IsS87.drew | apply IsS87.set_1 | refine IsS87.far ?_ NB0_227.out _) | exact HI0.out)) hb); clear hb ho52; obtain ⟨Ao53, co53, eo53⟩ := Kd.R_slice HO259.out; subst eo53) | ((with_reducible refine gate_callee (f := 83) rfl ?_); refine goesL_ (some 46) rfl rfl Try.func83 (by kernel_rfl) rfl #[.pointer (some ⟨g, 0, none⟩), .slice Ao53 y257.length co53] rfl ar_ ?_; (with_reducible refine (spec_l1Rd_one.calls kj13 g s0_0 t229 _ _ y257 t260 t261 w0 _ ?side1 ?side2 ?side3 ?side4 ?side5 A50.out).mono ?_); (case side1 => repeat (first | (with_reducible first | exact HI0.out | apply IsS87.alloc | apply IsS87.drewN | apply IsS87.drew | apply IsS87.set_1 | refine IsS87.far ?_ NB0_227.out _) | exact HI0.out)); (case side2 => repeat (first | (with_reducible first | exact HB.out | apply below_alloc | apply pw_below_drewN | apply below_drew1 | refine below_set ?_ (IsS87.ge HI0.out) | refine below_set ?_ GE227.out) | exact HB.out)); (case side3 => repeat (first | exact (Kd.R_reads' HO259.out).2.2 | (with_reducible refine Kd.C_alloc ?_ _) | (with_reducible refine Kd.C_drewN ?_ _) | (with_reducible refine Kd.C_drew ?_))); (case side4 => exact (Kd.R_reads' HO259.out).2.1); (case side5 => exact far_slice (IsS87.own_ne HI0.out HO259.out (by decide))); rintro e w54 ⟨rfl, hi, hb, hk⟩; refine ⟨_, rfl, ?_⟩; replace BK227 := Aside0.mk (KeepBut.blk hk (g' := gb227) (o := .cells #[.int .i64 0, .int .i64 0, .string (⟨#[]⟩ : ByteArray), .slice none 0 0] 31 (0, 0)) (bk_ BK227) NB227_0.out (by simp)); replace HO259 := Aside0.mk (Kd.R_mono (Kd.R_keep (IsS87.apart (show IsS87 w0 _ g s0_0 t229 from by repeat (first | (with_reducible first | exact HI0.out | apply IsS87.alloc | apply IsS87.drewN | apply IsS87.drew | apply IsS87.set_1 | refine IsS87.far ?_ NB0_227.out _) | exact HI0.out)) (by (with_reducible repeat (first | apply Kd.R_alloc | apply Kd.R_drewN | apply Kd.R_drew)); exact HO259.out) (by decide)) hk (fun _ h => h.2)) (fun _ h => h.1)); replace HK := Aside0.mk (KeepBut.trans (kb_ HK) hk (.inl rfl)); replace HB := Aside0.mk (hb); replace HI0 := Aside0.mk (hi); (try clear hb); (try clear hb2); (try clear hk); (try clear hi); have hnb55 := NB227_0.out; have hnc55 := NB0_227.out; obtain ⟨hcz56_0, hcz56_1, hcz56_2, hcz56_3, hfz56_0, hfz56_1, hfz56_2, hfz56_3⟩ := blk4 BK227))
        refine bodyPost_ret (results_cell_row rfl _ _ gb227 31 #[.int .i64 2, .int .i64 t260, .string (⟨#[]⟩ : ByteArray), .slice none 0 0] (0, 0) _ rfl (by refine pe_ ?_; refine blk_put (cs := #[.int .i64 2, .int .i64 t260, .string (⟨#[]⟩ : ByteArray), .slice none 0 0]) ?_ 3 _ rfl; refine pe_ ?_; refine blk_put (cs := #[.int .i64 2, .int .i64 t260, .string (⟨#[]⟩ : ByteArray), .slice none 0 0]) ?_ 2 _ rfl; refine pe_ ?_; refine blk_put (cs := #[.int .i64 2, .int .i64 0, .string (⟨#[]⟩ : ByteArray), .slice none 0 0]) ?_ 1 _ rfl; refine pe_ ?_; refine blk_put (cs := #[.int .i64 0, .int .i64 0, .string (⟨#[]⟩ : ByteArray), .slice none 0 0]) ?_ 0 _ rfl; refine pe_ ?_; exact BK227.out) Try.underlying31 rfl (by kernel_rfl)) rfl ?_
        exact ⟨_, by first | rfl | (simp [errW_none, errW_some] <;> rfl) | (simp [*, errW_none, errW_some] <;> rfl), by first | exact Kd.R_nil _ _ _ _ _ | exact Kd.N_nil _ _ _ _ _ | exact Kd.V_nil _ _ _ _ _ | exact Kd.Q_nil _ _ _ _ _ | exact Kd.S_nil _ _ _ _ _, by repeat (first | (with_reducible first | exact HI0.out | apply IsS87.alloc | apply IsS87.drewN | apply IsS87.drew | apply IsS87.set_1 | refine IsS87.far ?_ NB0_227.out _) | exact HI0.out), by repeat (first | (with_reducible first | exact HB.out | apply below_alloc | apply pw_below_drewN | apply below_drew1 | refine below_set ?_ (IsS87.ge HI0.out) | refine below_set ?_ GE227.out) | exact HB.out), by repeat (first | (with_reducible first | exact HK.out | apply KeepBut.set_ | apply keep_drewN | apply keep_drew | apply keep_alloc | refine keep_far ?_ GW227.out _) | exact HK.out)⟩
      rw [if_pos c28] at H
      have c28b0 : decide (1 < a1) = true := decide_eq_true c28
      clear c28
      replace H := Option.bind_eq_some_iff.mp H
      obtain ⟨⟨t245, t246⟩, A290, H⟩ := H
      replace H : (spec_l11Plain.l0 kj13 a1 t245 s0_0 t246 4 0 (⟨#[]⟩ : ByteArray) ([] : List (S31))) = some (r1, r2, r3, r4, r5) := H
      have A29 := Aside0.mk A290
      clear A290
      have H' := Aside0.mk H
      clear H
      go_wp2_with (first | ((with_reducible refine gate_dst (N := 5) rfl ?_); refine bx_ 5 #[.int .i64 0, .int .i64 0, .string (⟨#[]⟩ : ByteArray), .slice none 0 0] 31 ?_; intro gb244 hg w30 hbox hb; have BK244 := Aside0.mk (hbox); have GW244 := Aside0.mk ((by rw [hg]; exact (keep_size (w := w) (g := g) (row := none) (kb_ HK)) : w.heap.size ≤ gb244)); have GE244 := Aside0.mk ((Nat.le_trans HW0.out (by rw [hg]; exact (keep_size (w := w) (g := g) (row := none) (kb_ HK)) : w.heap.size ≤ gb244) : w0.heap.size ≤ gb244)); have NB227_244 := nlt_ hg BK227; have NB244_227 := ngt_ hg BK227; have NB0_244 := Aside0.mk ((by rw [hg]; exact Nat.ne_of_lt (IsS87.lt (show IsS87 w0 _ g s0_0 t229 from by repeat (first | (with_reducible first | exact HI0.out | apply IsS87.alloc | apply IsS87.drewN | apply IsS87.drew | apply IsS87.set_1 | refine IsS87.far ?_ NB0_227.out _) | exact HI0.out))) : g ≠ gb244)); have NB244_0 := Aside0.mk ((by rw [hg]; exact Nat.ne_of_gt (IsS87.lt (show IsS87 w0 _ g s0_0 t229 from by repeat (first | (with_reducible first | exact HI0.out | apply IsS87.alloc | apply IsS87.drewN | apply IsS87.drew | apply IsS87.set_1 | refine IsS87.far ?_ NB0_227.out _) | exact HI0.out))) : gb244 ≠ g)); replace BK227 := bb_ BK227 hb; replace HK := Aside0.mk (KeepBut.trans (kb_ HK) (KeepBut.of_below hb g none) (.inl rfl)); replace HB := Aside0.mk (below_step (by repeat (first | (with_reducible first | exact HB.out | apply below_alloc | apply pw_below_drewN | apply below_drew1 | refine below_set ?_ (IsS87.ge HI0.out) | refine below_set ?_ GE227.out) | exact HB.out)) hb); replace HI0 := Aside0.mk (IsS87.below (by repeat (first | (with_reducible first | exact HI0.out | apply IsS87.alloc | apply IsS87.drewN | apply IsS87.drew | apply IsS87.set_1 | refine IsS87.far ?_ NB0_227.out _) | exact HI0.out)) hb); clear hb hbox hg; have hnb31 := NB244_227.out; have hnc31 := NB227_244.out; have hnb32 := NB244_0.out; have hnc32 := NB0_244.out; obtain ⟨hcz33_0, hcz33_1, hcz33_2, hcz33_3, hfz33_0, hfz33_1, hfz33_2, hfz33_3⟩ := blk4 BK244) | ((with_reducible refine gate_callee (f := 65) rfl ?_); refine goesL_ (some 29) rfl rfl Try.func65 (by kernel_rfl) rfl #[.pointer (some ⟨g, 0, none⟩), .int .i64 4] rfl ar_ ?_; (with_reducible refine (spec_l1Rd_pick.calls kj13 g s0_0 t229 4 t245 t246 w0 _ ?side1 ?side2 A29.out).mono ?_); (case side1 => repeat (first | (with_reducible first | exact HI0.out | apply IsS87.alloc | apply IsS87.drewN | apply IsS87.drew | apply IsS87.set_1 | refine IsS87.far ?_ NB0_227.out _ | refine IsS87.far ?_ NB0_244.out _) | exact HI0.out)); (case side2 => repeat (first | (with_reducible first | exact HB.out | apply below_alloc | apply pw_below_drewN | apply below_drew1 | refine below_set ?_ (IsS87.ge HI0.out) | refine below_set ?_ GE227.out | refine below_set ?_ GE244.out) | exact HB.out)); rintro e w34 ⟨rfl, hi, hb, hk⟩; refine ⟨_, rfl, ?_⟩; replace BK227 := Aside0.mk (KeepBut.blk hk (g' := gb227) (o := .cells #[.int .i64 0, .int .i64 0, .string (⟨#[]⟩ : ByteArray), .slice none 0 0] 31 (0, 0)) (by refine pe_ ?_; refine blk_far ?_ NB227_244.out _; refine pe_ ?_; refine blk_far ?_ NB227_244.out _; refine pe_ ?_; refine blk_far ?_ NB227_244.out _; refine pe_ ?_; refine blk_far ?_ NB227_244.out _; refine pe_ ?_; exact BK227.out) NB227_0.out (by simp)); replace BK244 := Aside0.mk (KeepBut.blk hk (g' := gb244) (o := .cells #[.int .i64 4, .int .i64 0, .string (⟨#[]⟩ : ByteArray), .slice none 0 0] 31 (0, 0)) (by refine pe_ ?_; refine blk_put (cs := #[.int .i64 4, .int .i64 0, .string (⟨#[]⟩ : ByteArray), .slice none 0 0]) ?_ 3 _ rfl; refine pe_ ?_; refine blk_put (cs := #[.int .i64 4, .int .i64 0, .string (⟨#[]⟩ : ByteArray), .slice none 0 0]) ?_ 2 _ rfl; refine pe_ ?_; refine blk_put (cs := #[.int .i64 4, .int .i64 0, .string (⟨#[]⟩ : ByteArray), .slice none 0 0]) ?_ 1 _ rfl; refine pe_ ?_; refine blk_put (cs := #[.int .i64 0, .int .i64 0, .string (⟨#[]⟩ : ByteArray), .slice none 0 0]) ?_ 0 _ rfl; refine pe_ ?_; exact BK244.out) NB244_0.out (by simp)); replace HK := Aside0.mk (KeepBut.trans (kb_ HK) hk (.inl rfl)); replace HB := Aside0.mk (hb); replace HI0 := Aside0.mk (hi); (try clear hb); (try clear hb2); (try clear hk); (try clear hi)))
      go_loopg [6] kj13 (fun kq v6 w' => ∃ (x6_2 : Int) (x1001_2 : Int) (x245003_2 : List (S31)) (u245003 : Value), v6 = .int .i64 x6_2 ∧ Aside0 (spec_l11Plain.l0 kq a1 x6_2 s0_0 x1001_2 4 0 (⟨#[]⟩ : ByteArray) x245003_2 = some (r1, r2, r3, r4, r5)) ∧ Aside0 (kq ≤ kj13) ∧ Aside0 (Kd.R k31 31 w' w.heap.size (fun k_ => k_ ≠ gb227 ∧ k_ ≠ gb244) u245003 x245003_2) ∧ Aside0 (w'.heap[gb227]? = some (.cells #[.int .i64 0, .int .i64 0, .string (⟨#[]⟩ : ByteArray), (.slice none 0 0)] 31 (0, 0))) ∧ Aside0 (w'.heap[gb244]? = some (.cells #[.int .i64 4, .int .i64 0, .string (⟨#[]⟩ : ByteArray), u245003] 31 (0, 0))) ∧ Aside0 (IsS87 w0 w' g s0_0 x1001_2) ∧ Aside0 (KeepBut w w' g none) ∧ Aside0 (Below w0.heap.size w0 w'))
      case atStart => exact ⟨(t245), (t246), (([] : List (S31))), (.slice none 0 0), sm_, H', ⟨Nat.le_refl _⟩, ⟨by first | exact Kd.R_nil _ _ _ _ _ | exact Kd.N_nil _ _ _ _ _ | exact Kd.V_nil _ _ _ _ _ | exact Kd.Q_nil _ _ _ _ _ | exact Kd.S_nil _ _ _ _ _⟩, ⟨by refine pe_ ?_; exact BK227.out⟩, ⟨by refine pe_ ?_; exact BK244.out⟩, ⟨by repeat (first | (with_reducible first | exact HI0.out | apply IsS87.alloc | apply IsS87.drewN | apply IsS87.drew | apply IsS87.set_1 | refine IsS87.far ?_ NB0_227.out _ | refine IsS87.far ?_ NB0_244.out _) | exact HI0.out)⟩, ⟨by repeat (first | (with_reducible first | exact HK.out | apply KeepBut.set_ | apply keep_drewN | apply keep_drew | apply keep_alloc | refine keep_far ?_ GW227.out _ | refine keep_far ?_ GW244.out _) | exact HK.out)⟩, ⟨by repeat (first | (with_reducible first | exact HB.out | apply below_alloc | apply pw_below_drewN | apply below_drew1 | refine below_set ?_ (IsS87.ge HI0.out) | refine below_set ?_ GE227.out | refine below_set ?_ GE244.out) | exact HB.out)⟩⟩
      case round =>
        clear H'
        try clear c1
        try clear c2
        try clear p2
        try clear c3
        try clear c4
        try clear c4b0
        try clear c4b1
        try clear c5
        try clear c6
        try clear c8
        try clear c11
        try clear c17
        try clear c17b0
        try clear c17b1
        try clear c18
        try clear c25
        try clear c27
        try clear c27b0
        try clear c27b1
        try clear c28
        try clear c28b0
        try clear c31
        try clear c32
        try clear hcz12_0 hcz12_1 hcz12_2 hcz12_3
        try clear hcz26_0 hcz26_1 hcz26_2 hcz26_3
        try clear hcz33_0 hcz33_1 hcz33_2 hcz33_3
        try clear hfz12_0 hfz12_1 hfz12_2 hfz12_3
        try clear hfz26_0 hfz26_1 hfz26_2 hfz26_3
        try clear hfz33_0 hfz33_1 hfz33_2 hfz33_3
        try clear p2
        obtain ⟨x6_2, x1001_2, x245003_2, u245003, rfl, HA, HK2, HO_245003, BK227, BK244, HI0, HK, HB⟩ := hrel
        cases gk with
        | zero => exact absurd HA.out (by simp [spec_l11Plain.l0])
        | succ k2 =>
          have H := HA.out
          clear HA
          simp only [spec_l11Plain.l0] at H
          by_cases c35 : x6_2 > 0
          rotate_left
          · rw [if_neg c35] at H
            have c35b0 : decide (0 < x6_2) = false := decide_eq_false c35
            clear c35
            simp only [Option.some.injEq, Prod.mk.injEq] at H
            obtain ⟨rfl, rfl, rfl, rfl, rfl⟩ := H
            have hnb44 := NB244_227.out
            have hnc44 := NB227_244.out
            have hnb45 := NB244_0.out
            have hnc45 := NB0_244.out
            obtain ⟨hcz46_0, hcz46_1, hcz46_2, hcz46_3, hfz46_0, hfz46_1, hfz46_2, hfz46_3⟩ := blk4 BK244
            have hnb47 := NB227_0.out
            have hnc47 := NB0_227.out
            obtain ⟨hcz48_0, hcz48_1, hcz48_2, hcz48_3, hfz48_0, hfz48_1, hfz48_2, hfz48_3⟩ := blk4 BK227
            obtain ⟨Ao49, co49, eo49⟩ := Kd.R_slice HO_245003.out
            subst eo49
            go_wp2
            refine bodyPost_ret (results_cell_row rfl _ _ gb227 31 #[.int .i64 4, .int .i64 0, .string (⟨#[]⟩ : ByteArray), .slice Ao49 x245003_2.length co49] (0, 0) _ rfl (by refine pe_ ?_; refine blk_put (cs := #[.int .i64 4, .int .i64 0, .string (⟨#[]⟩ : ByteArray), .slice none 0 0]) ?_ 3 _ rfl; refine pe_ ?_; refine blk_put (cs := #[.int .i64 4, .int .i64 0, .string (⟨#[]⟩ : ByteArray), .slice none 0 0]) ?_ 2 _ rfl; refine pe_ ?_; refine blk_put (cs := #[.int .i64 4, .int .i64 0, .string (⟨#[]⟩ : ByteArray), .slice none 0 0]) ?_ 1 _ rfl; refine pe_ ?_; refine blk_put (cs := #[.int .i64 0, .int .i64 0, .string (⟨#[]⟩ : ByteArray), .slice none 0 0]) ?_ 0 _ rfl; refine pe_ ?_; exact BK227.out) Try.underlying31 rfl (by kernel_rfl)) rfl ?_
            exact ⟨_, by first | rfl | (simp [errW_none, errW_some] <;> rfl) | (simp [*, errW_none, errW_some] <;> rfl), by (with_reducible repeat (first | apply Kd.R_alloc | apply Kd.R_drewN | apply Kd.R_drew)); exact Kd.R_mono (rf4 gb227 (Kd.R_mono HO_245003.out (fun k_ hk => (⟨hk, hk.1⟩ : _ ∧ k_ ≠ gb227))) (fun _ hk => hk.2)) (fun _ hk => trivial), by repeat (first | (with_reducible first | exact HI0.out | apply IsS87.alloc | apply IsS87.drewN | apply IsS87.drew | apply IsS87.set_1 | refine IsS87.far ?_ NB0_227.out _ | refine IsS87.far ?_ NB0_244.out _) | exact HI0.out), by repeat (first | (with_reducible first | exact HB.out | apply below_alloc | apply pw_below_drewN | apply below_drew1 | refine below_set ?_ (IsS87.ge HI0.out) | refine below_set ?_ GE227.out | refine below_set ?_ GE244.out) | exact HB.out), by repeat (first | (with_reducible first | exact HK.out | apply KeepBut.set_ | apply keep_drewN | apply keep_drew | apply keep_alloc | refine keep_far ?_ GW227.out _ | refine keep_far ?_ GW244.out _) | exact HK.out)⟩
          rw [if_pos c35] at H
          have c35b0 : decide (0 < x6_2) = true := decide_eq_true c35
          clear c35
          replace H := Option.bind_eq_some_iff.mp H
          obtain ⟨⟨t247, t248, t249, t250, t253⟩, A360, H⟩ := H
          replace H : (if x245003_2.length < 2513169434916 then (spec_l11Plain.l0 k2 a1 (wrap64 (x6_2 - 1)) s0_0 t253 4 0 (⟨#[]⟩ : ByteArray) (x245003_2 ++ [(⟨t247, t248, t249, t250⟩ : S31)])) else (none)) = some (r1, r2, r3, r4, r5) := H
          have A36 := Aside0.mk A360
          clear A360
          by_cases c37 : x245003_2.length < 2513169434916
          rotate_left
          · rw [if_neg c37] at H
            exact absurd H (by simp)
          rw [if_pos c37] at H
          have LMc37 := Aside0.mk c37
          clear c37
          obtain ⟨y254, hy254⟩ : ∃ y_ : List (S31), y_ = (x245003_2 ++ [(⟨t247, t248, t249, t250⟩ : S31)]) := ⟨_, rfl⟩
          replace H : (spec_l11Plain.l0 k2 a1 (wrap64 (x6_2 - 1)) s0_0 t253 4 0 (⟨#[]⟩ : ByteArray) y254) = some (r1, r2, r3, r4, r5) := by first | (rw [hy254]; with_reducible exact H) | (have H2_ := (Option.bind_some _ _).symm.trans H; rw [hy254]; with_reducible exact H2_) | (have H2_ := (Option.bind_some _ _).symm.trans H; with_reducible exact H2_) | with_reducible exact H | (rw [hy254]; exact H) | exact H
          have Ny254 := Aside0.mk hy254
          clear hy254
          have H' := Aside0.mk H
          clear H
          try go_wp2
          replace HO_245003 := Aside0.mk (Kd.R_drew HO_245003.out)
          replace BK227 := Aside0.mk (blk_drew BK227.out)
          replace BK244 := Aside0.mk (blk_drew BK244.out)
          replace HI0 := Aside0.mk (IsS87.drew HI0.out)
          replace HK := Aside0.mk (keep_drew HK.out)
          replace HB := Aside0.mk (below_drew1 HB.out)
          refine start_ (n := 10) (S := fun w' => w'.cell? ⟨gb244, 0, none⟩ = some (.int .i64 4) ∧ w'.cell? ⟨gb244, 1, none⟩ = some (.int .i64 0) ∧ w'.cell? ⟨gb244, 2, none⟩ = some (.string (⟨#[]⟩ : ByteArray)) ∧ w'.cell? ⟨gb244, 3, none⟩ = some (u245003)) (ds := [9]) #[false, false, false, false, false, false, false, false, false, false] (by kernel_rfl) rfl rfl ⟨(blkc BK244 0), (blkc BK244 1), (blkc BK244 2), (blkc BK244 3)⟩ (fun hHeld => ?_); refine with_tabW spec_l11Plain.tab13 spec_l11Plain.bits13 (fun HT_ HW_ => ?_)
          generalize wr.drew = w38 at HO_245003 BK227 BK244 HI0 HK HB hHeld ⊢
          refine puA 0 (some 34) ?_
          refine puA 2 (some 36) ?_
          refine puA 3 (some 37) ?_
          refine puA 4 (some 38) ?_
          refine taA 1 (some 35) ?_
          refine one_ (i := 5) (N := some 39) #[true, true, true, true, true, true, false, false, false, false] rfl rfl (one_of HT_.out (by kernel_rfl)) (by decide) (fun K hK => ?_)
          refine goes_ Try.func85 (by kernel_rfl) rfl #[.pointer (some ⟨g, 0, none⟩), .int .i64 (wrap64 (a1 - 1))] (by rfl) rfl rfl ar_ ?_
          with_reducible refine (ih k2 (by have := HJ13.out; have := HK2.out; omega) g s0_0 x1001_2 (wrap64 (a1 - 1)) t247 t248 t249 t250 t253 w0 _ ?side1 ?side2 A36.out).mono ?_
          (case side1 => repeat (first | (with_reducible first | exact HI0.out | apply IsS87.alloc | apply IsS87.drewN | apply IsS87.drew | apply IsS87.set_1 | refine IsS87.far ?_ NB0_227.out _ | refine IsS87.far ?_ NB0_244.out _) | exact HI0.out))
          (case side2 => repeat (first | (with_reducible first | exact HB.out | apply below_alloc | apply pw_below_drewN | apply below_drew1 | refine below_set ?_ (IsS87.ge HI0.out) | refine below_set ?_ GE227.out | refine below_set ?_ GE244.out) | exact HB.out))
          rintro e w39 ⟨v251, rfl, ho0, hi, hb, hk⟩
          refine ⟨_, rfl, ?_⟩
          have HO252 := Aside0.mk (Kd.R_lower (Kd.R_newB (Kd.R_newB (Kd.R_new' ho0 (Kd.R_lt (by (with_reducible repeat (first | apply Kd.R_alloc | apply Kd.R_drewN | apply Kd.R_drew)); exact HO_245003.out))) (g := gb227) (o := .cells #[.int .i64 0, .int .i64 0, .string (⟨#[]⟩ : ByteArray), .slice none 0 0] 31 (0, 0)) (bk_ BK227)) (g := gb244) (o := .cells #[.int .i64 4, .int .i64 0, .string (⟨#[]⟩ : ByteArray), u245003] 31 (0, 0)) (bk_ BK244)) (keep_size (w := w) (g := g) (row := none) (kb_ HK)))
          replace HO_245003 := Aside0.mk (Kd.R_mono (Kd.R_told (Kd.R_oldK (IsS87.apart (show IsS87 w0 _ g s0_0 x1001_2 from by repeat (first | (with_reducible first | exact HI0.out | apply IsS87.alloc | apply IsS87.drewN | apply IsS87.drew | apply IsS87.set_1 | refine IsS87.far ?_ NB0_227.out _ | refine IsS87.far ?_ NB0_244.out _) | exact HI0.out)) (by (with_reducible repeat (first | apply Kd.R_alloc | apply Kd.R_drewN | apply Kd.R_drew)); exact HO_245003.out) (by decide)) hk) (Kd.R_base ho0)) (fun _ h_ => h_.1))
          replace BK227 := Aside0.mk (KeepBut.blk hk (g' := gb227) (o := .cells #[.int .i64 0, .int .i64 0, .string (⟨#[]⟩ : ByteArray), .slice none 0 0] 31 (0, 0)) (bk_ BK227) NB227_0.out (by simp))
          replace BK244 := Aside0.mk (KeepBut.blk hk (g' := gb244) (o := .cells #[.int .i64 4, .int .i64 0, .string (⟨#[]⟩ : ByteArray), u245003] 31 (0, 0)) (bk_ BK244) NB244_0.out (by simp))
          replace HK := Aside0.mk (KeepBut.trans (kb_ HK) hk (.inl rfl))
          replace HB := Aside0.mk (hb)
          replace HI0 := Aside0.mk (hi)
          (try clear hb)
          (try clear hb2)
          (try clear hk)
          (try clear hi)
          (try clear ho0)
          obtain ⟨Ao41, co41, eo41⟩ := Kd.R_slice HO252.out
          (first | subst eo41 | (injection eo41 with f1_ f2_ f3_; have f4_ := f1_.symm; have f5_ := f3_.symm; clear f1_ f2_ f3_; subst f4_; subst f5_))
          refine hK.out _ _ ⟨(blkc BK244 0), (blkc BK244 1), (blkc BK244 2), (blkc BK244 3)⟩ (fun hHeld => ?_)
          clear hK K
          refine norm_ (a' := ?_) ?_ ?_
          rotate_left
          · show Act.put _ (some 39) _ = _
            simp only [Act.put, List.setIfInBounds_toArray, List.set_cons_zero, List.set_cons_succ, i64_w, i32_w]
            rfl
          refine one_ (i := 6) (N := some 40) #[true, true, true, true, true, true, true, false, false, false] rfl rfl (one_of HT_.out (by kernel_rfl)) (by decide) (fun K hK => ?_)
          refine value_ (w1 := ?_) (v := ?_) (by rfl) rfl ?_ ?_
          rotate_left 2
          · go_simp
            constructor
            · rfl
            rfl
          refine hK.out _ _ ⟨(blk_cell (blk_alloc BK244.out _) 0).trans rfl, (blk_cell (blk_alloc BK244.out _) 1).trans rfl, (blk_cell (blk_alloc BK244.out _) 2).trans rfl, (blk_cell (blk_alloc BK244.out _) 3).trans rfl⟩ (fun hHeld => ?_)
          clear hK K
          refine norm_ (a' := ?_) ?_ ?_
          rotate_left
          · show Act.put _ (some 40) _ = _
            simp only [Act.put, List.setIfInBounds_toArray, List.set_cons_zero, List.set_cons_succ, i64_w, i32_w]
            rfl
          refine one_ (i := 7) (N := some 41) #[true, true, true, true, true, true, true, true, false, false] rfl rfl (one_of HT_.out (by kernel_rfl)) (by decide) (fun K hK => ?_)
          refine Kd.R_append_step k31 w.heap.size (by rfl) (.tmp 35) (.tmp 40) 29 31 (.agg #[(.int .i64 0), (.int .i64 0), (.string ⟨#[]⟩), (.slice none 0 0)]) 56 rfl Try.underlying29 info31 rfl (by decide) (by omega) u245003 x245003_2 (⟨t247, t248, t249, t250⟩ : S31) [.int .i64 t247, .int .i64 t248, .string t249, .slice Ao41 t250.length co41] (fun k_ => k_ ≠ gb227 ∧ k_ ≠ gb244) (fun k_ => ((fun k_ => k_ ≠ gb227 ∧ k_ ≠ gb244)) k_ ∧ some k_ ≠ (u245003 : Value).ownBlock) rfl rfl ?aP (fun _ hk => hk) ?aF ?aO (Below.refl _ _) ?aS ?aL ?_
          (case aP => exact k31_mkM _ _ _ (⟨t247, t248, t249, t250⟩ : S31) (Kd.R_mono (HO252.out) (fun k_ hk => ⟨⟨hk.1.2, hk.2⟩, hk.1.1.2⟩)))
          (case aF => exact (fun k_ hk => ⟨Kd.freshB (g := gb227) (o := .cells #[.int .i64 0, .int .i64 0, .string (⟨#[]⟩ : ByteArray), .slice none 0 0] 31 (0, 0)) (bk_ BK227) k_ hk, Kd.freshB (g := gb244) (o := .cells #[.int .i64 4, .int .i64 0, .string (⟨#[]⟩ : ByteArray), u245003] 31 (0, 0)) (bk_ BK244) k_ hk⟩))
          (case aO => exact (by (with_reducible repeat (first | apply Kd.R_alloc | apply Kd.R_drewN | apply Kd.R_drew)); exact Kd.R_mono HO_245003.out (fun _ hk => ⟨hk.1.1, hk.1.2⟩)))
          (case aS => exact (keep_size (w := w) (g := g) (row := none) (kb_ HK)))
          (case aL => have := LMc37.out; omega)
          intro v255 w40 ho hb hg hat
          rw [← Ny254.out] at ho
          have HO256 := Aside0.mk (ho)
          replace BK227 := Aside0.mk (blk_grown (g := gb227) (o := .cells #[.int .i64 0, .int .i64 0, .string (⟨#[]⟩ : ByteArray), .slice none 0 0] 31 (0, 0)) (bk_ BK227) hg (Kd.R_away HO_245003.out (fun _ hk => hk.1.1)))
          replace BK244 := Aside0.mk (blk_grown (g := gb244) (o := .cells #[.int .i64 4, .int .i64 0, .string (⟨#[]⟩ : ByteArray), u245003] 31 (0, 0)) (bk_ BK244) hg (Kd.R_away HO_245003.out (fun _ hk => hk.1.2)))
          replace HB := Aside0.mk (below_weaken (by repeat (first | (with_reducible first | exact HB.out | apply below_alloc | apply pw_below_drewN | apply below_drew1 | refine below_set ?_ (IsS87.ge HI0.out) | refine below_set ?_ GE227.out | refine below_set ?_ GE244.out) | exact HB.out)) HL.out hb)
          replace HI0 := Aside0.mk (IsS87.grown (by repeat (first | (with_reducible first | exact HI0.out | apply IsS87.alloc | apply IsS87.drewN | apply IsS87.drew | apply IsS87.set_1 | refine IsS87.far ?_ NB0_227.out _ | refine IsS87.far ?_ NB0_244.out _) | exact HI0.out)) hg (IsS87.own_ne HI0.out HO_245003.out (by decide)))
          replace HK := Aside0.mk (KeepBut.trans (kb_ HK) (KeepBut.of_grown hg g) (Kd.R_base2 HO_245003.out))
          clear HO_245003 HO252
          clear ho hb hg hat
          obtain ⟨Ao42, co42, eo42⟩ := Kd.R_slice HO256.out
          (first | subst eo42 | (injection eo42 with f1_ f2_ f3_; have f4_ := f1_.symm; have f5_ := f3_.symm; clear f1_ f2_ f3_; subst f4_; subst f5_))
          refine hK.out _ _ ⟨(blkc BK244 0), (blkc BK244 1), (blkc BK244 2), (blkc BK244 3)⟩ (fun hHeld => ?_)
          clear hK K
          refine norm_ (a' := ?_) ?_ ?_
          rotate_left
          · show Act.put _ (some 41) _ = _
            simp only [Act.put, List.setIfInBounds_toArray, List.set_cons_zero, List.set_cons_succ, i64_w, i32_w]
            rfl
          refine puA 8 (some 42) ?_
          refine last_ (i := 9) (N := none) #[true, true, true, true, true, true, true, true, true, true] rfl rfl (one_of HT_.out (by kernel_rfl)) (by decide) (fun K hK => ?_)
          have hs43 : w40.cell? ⟨gb244, 3, none⟩ = some (u245003) := (blkc BK244 3)
          have hfs43 := blk_frozen BK244.out 3
          have hns43_0 := NB227_244.out
          have hms43_0 := NB244_227.out
          refine skip_ (w1 := ?_) (by rfl) rfl ?_ ?_
          rotate_left
          · go_simp
            rfl
          refine hK.out _ _ ?_
          clear hK K
          refine done_ (done_of HT_.out (by kernel_rfl)) ?_
          try go_wp2
          go_roundg k2
          case measure => have := HJ13.out; have := HK2.out; omega
          case rel => exact ⟨(wrap64 (x6_2 - 1)), (t253), (y254), (.slice Ao42 y254.length co42), sm_, H', ⟨by have := HJ13.out; have := HK2.out; omega⟩, ⟨by (with_reducible repeat (first | apply Kd.R_alloc | apply Kd.R_drewN | apply Kd.R_drew)); exact Kd.R_mono (rf1 gb244 (Kd.R_mono HO256.out (fun k_ hk => (⟨hk, hk.2⟩ : _ ∧ k_ ≠ gb244))) (fun _ hk => hk.2)) (fun _ hk => ⟨hk.1.1, hk.1.2⟩)⟩, ⟨by refine pe_ ?_; refine blk_far ?_ NB227_244.out _; refine pe_ ?_; exact BK227.out⟩, ⟨by refine pe_ ?_; refine blk_put (cs := #[.int .i64 4, .int .i64 0, .string (⟨#[]⟩ : ByteArray), u245003]) ?_ 3 _ rfl; refine pe_ ?_; exact BK244.out⟩, ⟨by repeat (first | (with_reducible first | exact HI0.out | apply IsS87.alloc | apply IsS87.drewN | apply IsS87.drew | apply IsS87.set_1 | refine IsS87.far ?_ NB0_227.out _ | refine IsS87.far ?_ NB0_244.out _) | exact HI0.out)⟩, ⟨by repeat (first | (with_reducible first | exact HK.out | apply KeepBut.set_ | apply keep_drewN | apply keep_drew | apply keep_alloc | refine keep_far ?_ GW227.out _ | refine keep_far ?_ GW244.out _) | exact HK.out)⟩, ⟨by repeat (first | (with_reducible first | exact HB.out | apply below_alloc | apply pw_below_drewN | apply below_drew1 | refine below_set ?_ (IsS87.ge HI0.out) | refine below_set ?_ GE227.out | refine below_set ?_ GE244.out) | exact HB.out)⟩⟩

end Go.Proofs.Ytejikddbdhahaaa.G
