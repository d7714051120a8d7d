-- Printed by a program of this claim's writer (wip/gen), out of the translation. Lean checks it.
import Derived.Test.YtejikddbdhahaaaGx0
import Derived.Test.YtejikddbdhahaaaGx10
import Derived.Test.YtejikddbdhahaaaGx13
namespace Go.Proofs.Ytejikddbdhahaaa.G
open Go.RowKit Go.Proofs.YtejikddbdhahaaaW.PrintWords Go.Proofs.YtejikddbdhahaaaW.PrintLast Go.Proofs.YtejikddbdhahaaaW.PrintMore
attribute [local go_sem] max2_int min2_int max_two min_two max_three min_three max_four min_four Own.str_gtr Own.str_leq Own.str_geq   -- for this text's walks alone
open Own
set_option linter.unusedVariables false
set_option linter.unusedSimpArgs false

/-! ### spec_DrawValueSame: function 37 -/
def spec_DrawValueSame.f (k : Nat) (l0 : List Int) : Option (Int × Int × ByteArray × (List (S31)) × Int × Int × ByteArray × (List (S31))) := (spec_l1Open.f l0).bind fun bt355 => ((spec_l11AnyValue.f k bt355.1 bt355.2).bind fun bt358 => ((spec_l1Rd_pick.f k bt355.1 bt358.2.2.2.2 3).bind fun bt366 => (if bt366.1 = 0 then ((spec_l1Copy.f k bt358.1 bt358.2.1 bt358.2.2.1 bt358.2.2.2.1).bind fun bt368 => (some (bt358.1, bt358.2.1, bt358.2.2.1, bt358.2.2.2.1, bt368.1, bt368.2.1, bt368.2.2.1, bt368.2.2.2))) else ((spec_l11AnyValue.f k bt355.1 bt366.2).bind fun bt374 => (some (bt358.1, bt358.2.1, bt358.2.2.1, bt358.2.2.2.1, bt374.1, bt374.2.1, bt374.2.2.1, bt374.2.2.2.1))))))
set_option maxHeartbeats 8000000 in
set_option maxRecDepth 100000 in
theorem spec_DrawValueSame.calls (k : Nat) (A0 : Option Addr) (c0 : Nat) (l0 : List Int) (r1 : Int) (r2 : Int) (r3 : ByteArray) (r4 : List (S31)) (r5 : Int) (r6 : Int) (r7 : ByteArray) (r8 : List (S31)) (w : World) (hr0 : Kd.C (Kd.int .u8) w A0 l0.length l0) (hc0 : l0.length ≤ c0) (h : spec_DrawValueSame.f k l0 = some (r1, r2, r3, r4, r5, r6, r7, r8)) :
    Calls Try.prog 37 #[.slice A0 l0.length c0] w fun e w' => ∃ v3_ v7_ : Value, e = .returned (.tuple #[.agg #[.int .i64 r1, .int .i64 r2, .string r3, v3_], .agg #[.int .i64 r5, .int .i64 r6, .string r7, v7_]]) ∧ Kd.N k31 31 w' w.heap.size (fun k_ => (w.heap.size ≤ k_) ∧ some k_ ≠ (v7_ : Value).ownBlock) v3_ r4 ∧ Kd.N k31 31 w' w.heap.size (fun k_ => (w.heap.size ≤ k_) ∧ some k_ ≠ (v3_ : Value).ownBlock) v7_ r8 ∧ Below w.heap.size w w' := by
  have hu31 := Try.underlying31
  have HR0 := Aside0.mk hr0
  have HC0 := Aside0.mk hc0
  clear hr0 hc0
  have HB := Aside0.mk (Below.refl w.heap.size w)
  have H : ((spec_l1Open.f l0).bind fun bt355 => ((spec_l11AnyValue.f k bt355.1 bt355.2).bind fun bt358 => ((spec_l1Rd_pick.f k bt355.1 bt358.2.2.2.2 3).bind fun bt366 => (if bt366.1 = 0 then ((spec_l1Copy.f k bt358.1 bt358.2.1 bt358.2.2.1 bt358.2.2.2.1).bind fun bt368 => (some (bt358.1, bt358.2.1, bt358.2.2.1, bt358.2.2.2.1, bt368.1, bt368.2.1, bt368.2.2.1, bt368.2.2.2))) else ((spec_l11AnyValue.f k bt355.1 bt366.2).bind fun bt374 => (some (bt358.1, bt358.2.1, bt358.2.2.1, bt358.2.2.2.1, bt374.1, bt374.2.1, bt374.2.2.1, bt374.2.2.2.1))))))) = some (r1, r2, r3, r4, r5, r6, r7, r8) := h
  clear h
  replace H := Option.bind_eq_some_iff.mp H
  obtain ⟨⟨t355, t356⟩, A20, H⟩ := H
  replace H : ((spec_l11AnyValue.f k t355 t356).bind fun bt358 => ((spec_l1Rd_pick.f k t355 bt358.2.2.2.2 3).bind fun bt366 => (if bt366.1 = 0 then ((spec_l1Copy.f k bt358.1 bt358.2.1 bt358.2.2.1 bt358.2.2.2.1).bind fun bt368 => (some (bt358.1, bt358.2.1, bt358.2.2.1, bt358.2.2.2.1, bt368.1, bt368.2.1, bt368.2.2.1, bt368.2.2.2))) else ((spec_l11AnyValue.f k t355 bt366.2).bind fun bt374 => (some (bt358.1, bt358.2.1, bt358.2.2.1, bt358.2.2.2.1, bt374.1, bt374.2.1, bt374.2.2.1, bt374.2.2.2.1)))))) = some (r1, r2, r3, r4, r5, r6, r7, r8) := H
  have A2 := Aside0.mk A20
  clear A20
  replace H := Option.bind_eq_some_iff.mp H
  obtain ⟨⟨t358, t359, t360, t361, t364⟩, A30, H⟩ := H
  replace H : ((spec_l1Rd_pick.f k t355 t364 3).bind fun bt366 => (if bt366.1 = 0 then ((spec_l1Copy.f k t358 t359 t360 t361).bind fun bt368 => (some (t358, t359, t360, t361, bt368.1, bt368.2.1, bt368.2.2.1, bt368.2.2.2))) else ((spec_l11AnyValue.f k t355 bt366.2).bind fun bt374 => (some (t358, t359, t360, t361, bt374.1, bt374.2.1, bt374.2.2.1, bt374.2.2.2.1))))) = some (r1, r2, r3, r4, r5, r6, r7, r8) := H
  have A3 := Aside0.mk A30
  clear A30
  replace H := Option.bind_eq_some_iff.mp H
  obtain ⟨⟨t366, t367⟩, A40, H⟩ := H
  replace H : (if t366 = 0 then ((spec_l1Copy.f k t358 t359 t360 t361).bind fun bt368 => (some (t358, t359, t360, t361, bt368.1, bt368.2.1, bt368.2.2.1, bt368.2.2.2))) else ((spec_l11AnyValue.f k t355 t367).bind fun bt374 => (some (t358, t359, t360, t361, bt374.1, bt374.2.1, bt374.2.2.1, bt374.2.2.2.1)))) = some (r1, r2, r3, r4, r5, r6, r7, r8) := H
  have A4 := Aside0.mk A40
  clear A40
  by_cases c5 : t366 = 0
  · rw [if_pos c5] at H
    have c5b0 : (t366 == 0) = true := beq_iff_eq.mpr c5
    have c5b1 : (t366 != 0) = false := bne_eq_false_iff_eq.mpr c5
    clear c5
    replace H := Option.bind_eq_some_iff.mp H
    obtain ⟨⟨t368, t369, t370, t371⟩, A60, H⟩ := H
    replace H : (some (t358, t359, t360, t361, t368, t369, t370, t371)) = some (r1, r2, r3, r4, r5, r6, r7, r8) := H
    have A6 := Aside0.mk A60
    clear A60
    simp only [Option.some.injEq, Prod.mk.injEq] at H
    obtain ⟨rfl, rfl, rfl, rfl, rfl, rfl, rfl, rfl⟩ := H
    go_enter Try.func37, Try.ntmps37
    try go_wp2_with (first | ((with_reducible refine gate_dst (N := 2) rfl ?_); refine bx_ 2 #[.int .i64 0, .int .i64 0, .string (⟨#[]⟩ : ByteArray), .slice none 0 0] 31 ?_; intro gb353 hg w7 hbox hb; have BK353 := Aside0.mk (hbox); have GW353 := gw_ hg; have GE353 := gw_ hg; replace HB := bs_ hb; clear hb hbox hg) | ((with_reducible refine gate_dst (N := 3) rfl ?_); refine bx_ 3 #[.int .i64 0, .int .i64 0, .string (⟨#[]⟩ : ByteArray), .slice none 0 0] 31 ?_; intro gb354 hg w8 hbox hb; have BK354 := Aside0.mk (hbox); have GW354 := gw_ hg; have GE354 := gw_ hg; have NB353_354 := nlt_ hg BK353; have NB354_353 := ngt_ hg BK353; replace BK353 := bb_ BK353 hb; replace HB := bs_ hb; clear hb hbox hg) | ((with_reducible refine gate_callee (f := 54) rfl ?_); refine goesL_ (some 7) rfl rfl Try.func54 (by kernel_rfl) rfl #[.slice A0 l0.length c0] rfl ar_ ?_; (with_reducible refine (spec_l1Open.calls _ _ l0 t355 t356 w _ ?side1 ?side2 ?side3 A2.out).mono ?_); (case side1 => repeat (first | (with_reducible first | exact HB.out | apply below_alloc | apply pw_below_drewN | apply below_drew1 | refine below_set ?_ GE353.out | refine below_set ?_ GE354.out) | exact HB.out)); (case side2 => exact HR0.out); (case side3 => exact HC0.out); rintro e w9 ⟨g357, rfl, hi, hb, hb2⟩; refine ⟨_, rfl, ?_⟩; have HI357 := Aside0.mk (hi); have NB357_353 := Aside0.mk (IsS87.ne_blk hi (blk_below (g := gb353) (o := .cells #[.int .i64 0, .int .i64 0, .string (⟨#[]⟩ : ByteArray), .slice none 0 0] 31 (0, 0)) (bk_ BK353) hb2) (by decide)); have NB353_357 := Aside0.mk (Ne.symm (IsS87.ne_blk hi (blk_below (g := gb353) (o := .cells #[.int .i64 0, .int .i64 0, .string (⟨#[]⟩ : ByteArray), .slice none 0 0] 31 (0, 0)) (bk_ BK353) hb2) (by decide))); have NB357_354 := Aside0.mk (IsS87.ne_blk hi (blk_below (g := gb354) (o := .cells #[.int .i64 0, .int .i64 0, .string (⟨#[]⟩ : ByteArray), .slice none 0 0] 31 (0, 0)) (bk_ BK354) hb2) (by decide)); have NB354_357 := Aside0.mk (Ne.symm (IsS87.ne_blk hi (blk_below (g := gb354) (o := .cells #[.int .i64 0, .int .i64 0, .string (⟨#[]⟩ : ByteArray), .slice none 0 0] 31 (0, 0)) (bk_ BK354) hb2) (by decide))); replace BK353 := Aside0.mk (blk_below (g := gb353) (o := .cells #[.int .i64 0, .int .i64 0, .string (⟨#[]⟩ : ByteArray), .slice none 0 0] 31 (0, 0)) (bk_ BK353) hb2); replace BK354 := Aside0.mk (blk_below (g := gb354) (o := .cells #[.int .i64 0, .int .i64 0, .string (⟨#[]⟩ : ByteArray), .slice none 0 0] 31 (0, 0)) (bk_ BK354) hb2); replace HB := Aside0.mk (hb); (try clear hb); (try clear hb2); (try clear hk); (try clear hi)) | ((with_reducible refine gate_callee (f := 66) rfl ?_); refine goesL_ (some 9) rfl rfl Try.func66 (by kernel_rfl) rfl #[.pointer (some ⟨g357, 0, none⟩)] rfl ar_ ?_; (with_reducible refine (spec_l11AnyValue.calls k g357 t355 t356 t358 t359 t360 t361 t364 w _ ?side1 ?side2 A3.out).mono ?_); (case side1 => repeat (first | (with_reducible first | exact HI357.out | apply IsS87.alloc | apply IsS87.drewN | apply IsS87.drew | apply IsS87.set_1 | refine IsS87.far ?_ NB357_353.out _ | refine IsS87.far ?_ NB357_354.out _) | exact HI357.out)); (case side2 => repeat (first | (with_reducible first | exact HB.out | apply below_alloc | apply pw_below_drewN | apply below_drew1 | refine below_set ?_ (IsS87.ge HI357.out) | refine below_set ?_ GE353.out | refine below_set ?_ GE354.out) | exact HB.out)); rintro e w10 ⟨v362, rfl, ho0, hi, hb, hk⟩; refine ⟨_, rfl, ?_⟩; have HO363 := Aside0.mk (Kd.N_lower (Kd.N_mono (ok' := fun k_ => (w.heap.size ≤ k_) ∧ k_ ≠ gb353 ∧ k_ ≠ gb354 ∧ k_ ≠ g357) ho0 (fun k_ hk_ => ⟨(Nat.le_trans (below_size (by repeat (first | (with_reducible first | exact HB.out | apply below_alloc | apply pw_below_drewN | apply below_drew1 | refine below_set ?_ (IsS87.ge HI357.out) | refine below_set ?_ GE353.out | refine below_set ?_ GE354.out) | exact HB.out))) hk_), (Kd.freshB (g := gb353) (o := .cells #[.int .i64 0, .int .i64 0, .string (⟨#[]⟩ : ByteArray), .slice none 0 0] 31 (0, 0)) (bk_ BK353) k_ hk_), (Kd.freshB (g := gb354) (o := .cells #[.int .i64 0, .int .i64 0, .string (⟨#[]⟩ : ByteArray), .slice none 0 0] 31 (0, 0)) (bk_ BK354) k_ hk_), (IsS87.fresh (by repeat (first | (with_reducible first | exact HI357.out | apply IsS87.alloc | apply IsS87.drewN | apply IsS87.drew | apply IsS87.set_1 | refine IsS87.far ?_ NB357_353.out _ | refine IsS87.far ?_ NB357_354.out _) | exact HI357.out)) k_ hk_)⟩)) (below_size (by repeat (first | (with_reducible first | exact HB.out | apply below_alloc | apply pw_below_drewN | apply below_drew1 | refine below_set ?_ (IsS87.ge HI357.out) | refine below_set ?_ GE353.out | refine below_set ?_ GE354.out) | exact HB.out)))); replace BK353 := Aside0.mk (KeepBut.blk hk (g' := gb353) (o := .cells #[.int .i64 0, .int .i64 0, .string (⟨#[]⟩ : ByteArray), .slice none 0 0] 31 (0, 0)) (bk_ BK353) NB353_357.out (by simp)); replace BK354 := Aside0.mk (KeepBut.blk hk (g' := gb354) (o := .cells #[.int .i64 0, .int .i64 0, .string (⟨#[]⟩ : ByteArray), .slice none 0 0] 31 (0, 0)) (bk_ BK354) NB354_357.out (by simp)); replace HB := Aside0.mk (hb); replace HI357 := Aside0.mk (hi); (try clear hb); (try clear hb2); (try clear hk); (try clear hi); (try clear ho0)) | ((with_reducible refine gate_dst (N := 5) rfl ?_); refine bx_ 5 #[.int .i64 0, .int .i64 0, .string (⟨#[]⟩ : ByteArray), .slice none 0 0] 31 ?_; intro gb365 hg w11 hbox hb; have BK365 := Aside0.mk (hbox); have GW365 := Aside0.mk ((by rw [hg]; exact (below_size (by repeat (first | (with_reducible first | exact HB.out | apply below_alloc | apply pw_below_drewN | apply below_drew1 | refine below_set ?_ (IsS87.ge HI357.out) | refine below_set ?_ GE353.out | refine below_set ?_ GE354.out) | exact HB.out))) : w.heap.size ≤ gb365)); have GE365 := Aside0.mk ((by rw [hg]; exact (below_size (by repeat (first | (with_reducible first | exact HB.out | apply below_alloc | apply pw_below_drewN | apply below_drew1 | refine below_set ?_ (IsS87.ge HI357.out) | refine below_set ?_ GE353.out | refine below_set ?_ GE354.out) | exact HB.out))) : w.heap.size ≤ gb365)); have NB353_365 := nlt_ hg BK353; have NB365_353 := ngt_ hg BK353; have NB354_365 := nlt_ hg BK354; have NB365_354 := ngt_ hg BK354; have NB357_365 := Aside0.mk ((by rw [hg]; exact Nat.ne_of_lt (IsS87.lt (show IsS87 w _ g357 t355 t364 from by repeat (first | (with_reducible first | exact HI357.out | apply IsS87.alloc | apply IsS87.drewN | apply IsS87.drew | apply IsS87.set_1 | refine IsS87.far ?_ NB357_353.out _ | refine IsS87.far ?_ NB357_354.out _) | exact HI357.out))) : g357 ≠ gb365)); have NB365_357 := Aside0.mk ((by rw [hg]; exact Nat.ne_of_gt (IsS87.lt (show IsS87 w _ g357 t355 t364 from by repeat (first | (with_reducible first | exact HI357.out | apply IsS87.alloc | apply IsS87.drewN | apply IsS87.drew | apply IsS87.set_1 | refine IsS87.far ?_ NB357_353.out _ | refine IsS87.far ?_ NB357_354.out _) | exact HI357.out))) : gb365 ≠ g357)); replace HO363 := Aside0.mk (Kd.N_below (Kd.N_elderB (by (with_reducible repeat (first | apply Kd.N_alloc | apply Kd.N_drewN | apply Kd.N_drew)); first | exact HO363.out | exact Kd.N_mono (HO363.out) (fun _ h_ => by simpa only [and_assoc, and_comm, and_left_comm] using h_)) gb365 (Nat.le_of_eq hg.symm)) hb); replace BK353 := bb_ BK353 hb; replace BK354 := bb_ BK354 hb; replace HB := Aside0.mk (below_step (by repeat (first | (with_reducible first | exact HB.out | apply below_alloc | apply pw_below_drewN | apply below_drew1 | refine below_set ?_ (IsS87.ge HI357.out) | refine below_set ?_ GE353.out | refine below_set ?_ GE354.out) | exact HB.out)) hb); replace HI357 := Aside0.mk (IsS87.below (by repeat (first | (with_reducible first | exact HI357.out | apply IsS87.alloc | apply IsS87.drewN | apply IsS87.drew | apply IsS87.set_1 | refine IsS87.far ?_ NB357_353.out _ | refine IsS87.far ?_ NB357_354.out _) | exact HI357.out)) hb); clear hb hbox hg; have hnb12 := NB365_353.out; have hnc12 := NB353_365.out; have hnb13 := NB365_354.out; have hnc13 := NB354_365.out; have hnb14 := NB365_357.out; have hnc14 := NB357_365.out; obtain ⟨hcz15_0, hcz15_1, hcz15_2, hcz15_3, hfz15_0, hfz15_1, hfz15_2, hfz15_3⟩ := blk4 BK365; obtain ⟨Ao16, co16, eo16⟩ := Kd.N_slice HO363.out; subst eo16) | ((with_reducible refine gate_callee (f := 65) rfl ?_); refine goesL_ (some 11) rfl rfl Try.func65 (by kernel_rfl) rfl #[.pointer (some ⟨g357, 0, none⟩), .int .i64 3] rfl ar_ ?_; (with_reducible refine (spec_l1Rd_pick.calls k g357 t355 t364 3 t366 t367 w _ ?side1 ?side2 A4.out).mono ?_); (case side1 => repeat (first | (with_reducible first | exact HI357.out | apply IsS87.alloc | apply IsS87.drewN | apply IsS87.drew | apply IsS87.set_1 | refine IsS87.far ?_ NB357_353.out _ | refine IsS87.far ?_ NB357_354.out _ | refine IsS87.far ?_ NB357_365.out _) | exact HI357.out)); (case side2 => repeat (first | (with_reducible first | exact HB.out | apply below_alloc | apply pw_below_drewN | apply below_drew1 | refine below_set ?_ (IsS87.ge HI357.out) | refine below_set ?_ GE353.out | refine below_set ?_ GE354.out | refine below_set ?_ GE365.out) | exact HB.out)); rintro e w17 ⟨rfl, hi, hb, hk⟩; refine ⟨_, rfl, ?_⟩; replace BK353 := Aside0.mk (KeepBut.blk hk (g' := gb353) (o := .cells #[.int .i64 0, .int .i64 0, .string (⟨#[]⟩ : ByteArray), .slice none 0 0] 31 (0, 0)) (by refine pe_ ?_; refine blk_far ?_ NB353_365.out _; refine pe_ ?_; refine blk_far ?_ NB353_365.out _; refine pe_ ?_; refine blk_far ?_ NB353_365.out _; refine pe_ ?_; refine blk_far ?_ NB353_365.out _; refine pe_ ?_; exact BK353.out) NB353_357.out (by simp)); replace BK354 := Aside0.mk (KeepBut.blk hk (g' := gb354) (o := .cells #[.int .i64 0, .int .i64 0, .string (⟨#[]⟩ : ByteArray), .slice none 0 0] 31 (0, 0)) (by refine pe_ ?_; refine blk_far ?_ NB354_365.out _; refine pe_ ?_; refine blk_far ?_ NB354_365.out _; refine pe_ ?_; refine blk_far ?_ NB354_365.out _; refine pe_ ?_; refine blk_far ?_ NB354_365.out _; refine pe_ ?_; exact BK354.out) NB354_357.out (by simp)); replace HO363 := Aside0.mk (Kd.N_mono (Kd.N_keep (Kd.N_mono (ok := fun k_ => ((((w.heap.size ≤ k_)) ∧ (k_ ≠ gb353 ∧ (k_ ≠ gb354 ∧ k_ ≠ g357))) ∧ k_ ≠ gb365)) (by (with_reducible repeat (first | apply Kd.N_alloc | apply Kd.N_drewN | apply Kd.N_drew)); first | exact (Kd.N_mono (nf4 gb365 (Kd.N_mono HO363.out (fun k_ hk => (⟨hk, hk.2⟩ : _ ∧ k_ ≠ gb365))) (fun _ hk => hk.2)) (fun _ h_ => h_.1)) | exact Kd.N_mono ((Kd.N_mono (nf4 gb365 (Kd.N_mono HO363.out (fun k_ hk => (⟨hk, hk.2⟩ : _ ∧ k_ ≠ gb365))) (fun _ hk => hk.2)) (fun _ h_ => h_.1))) (fun _ h_ => by simpa only [and_assoc, and_comm, and_left_comm] using h_)) (fun k_ hk_ => (⟨hk_, hk_.1.2.2.2⟩ : _ ∧ k_ ≠ g357))) hk (fun _ h => h.2)) (fun _ h => h.1)); replace BK365 := Aside0.mk (KeepBut.blk hk (g' := gb365) (o := .cells #[.int .i64 t358, .int .i64 t359, .string t360, .slice Ao16 t361.length co16] 31 (0, 0)) (by refine pe_ ?_; refine blk_put (cs := #[.int .i64 t358, .int .i64 t359, .string t360, .slice none 0 0]) ?_ 3 _ rfl; refine pe_ ?_; refine blk_put (cs := #[.int .i64 t358, .int .i64 t359, .string (⟨#[]⟩ : ByteArray), .slice none 0 0]) ?_ 2 _ rfl; refine pe_ ?_; refine blk_put (cs := #[.int .i64 t358, .int .i64 0, .string (⟨#[]⟩ : ByteArray), .slice none 0 0]) ?_ 1 _ rfl; refine pe_ ?_; refine blk_put (cs := #[.int .i64 0, .int .i64 0, .string (⟨#[]⟩ : ByteArray), .slice none 0 0]) ?_ 0 _ rfl; refine pe_ ?_; exact BK365.out) NB365_357.out (by simp)); replace HB := Aside0.mk (hb); replace HI357 := Aside0.mk (hi); (try clear hb); (try clear hb2); (try clear hk); (try clear hi)))
    replace HO363 := Aside0.mk (Kd.N_drew HO363.out)
    replace BK353 := Aside0.mk (blk_drew BK353.out)
    replace BK354 := Aside0.mk (blk_drew BK354.out)
    replace BK365 := Aside0.mk (blk_drew BK365.out)
    replace HI357 := Aside0.mk (IsS87.drew HI357.out)
    replace HB := Aside0.mk (below_drew1 HB.out)
    refine start_ (n := 5) (S := fun w' => w'.cell? ⟨gb365, 0, none⟩ = some (.int .i64 t358) ∧ w'.cell? ⟨gb365, 1, none⟩ = some (.int .i64 t359) ∧ w'.cell? ⟨gb365, 2, none⟩ = some (.string t360) ∧ w'.cell? ⟨gb365, 3, none⟩ = some (.slice Ao16 t361.length co16)) (ds := []) #[false, false, false, false, false] (by kernel_rfl) rfl rfl ⟨(blkc BK365 0), (blkc BK365 1), (blkc BK365 2), (blkc BK365 3)⟩ (fun hHeld => ?_)
    generalize w17.drew = w18 at HO363 BK353 BK354 BK365 HI357 HB hHeld ⊢
    refine take_ (i := 0) (N := some 13) (v := ?_) (a' := ?_) #[true, false, false, false, false] rfl rfl (by kernel_rfl) (fun _ _ _ h => h) (Or.inl ⟨by rfl, ?_⟩) hHeld ?_ ?_
    rotate_left
    · rintro w' ⟨s0, s1, s2, s3⟩
      go_simp
      with_reducible rfl
    rotate_left
    · simp only [Act.put, List.setIfInBounds_toArray, List.set_cons_zero, List.set_cons_succ, i64_w, i32_w]
      rfl
    refine take_ (i := 1) (N := some 14) (v := ?_) (a' := ?_) #[true, true, false, false, false] rfl rfl (by kernel_rfl) (fun _ _ _ h => h) (Or.inl ⟨by rfl, ?_⟩) hHeld ?_ ?_
    rotate_left
    · rintro w' ⟨s0, s1, s2, s3⟩
      go_simp
      with_reducible rfl
    rotate_left
    · simp only [Act.put, List.setIfInBounds_toArray, List.set_cons_zero, List.set_cons_succ, i64_w, i32_w]
      rfl
    refine one_ (i := 2) (N := some 15) #[true, true, true, false, false] rfl rfl (by kernel_rfl) (by decide) (fun K hK => ?_)
    refine goes_ Try.func67 (by kernel_rfl) rfl #[.agg #[.int .i64 t358, .int .i64 t359, .string t360, .slice Ao16 t361.length co16]] (by rfl) rfl rfl ar_ ?_
    with_reducible refine (spec_l1Copy.calls k t358 t359 t360 _ _ t361 t368 t369 t370 t371 _ ?side1 ?side2 A6.out).mono ?_
    (case side1 => repeat (first | exact (Kd.N_reads' HO363.out).2.2 | (with_reducible refine Kd.C_alloc ?_ _) | (with_reducible refine Kd.C_drewN ?_ _) | (with_reducible refine Kd.C_drew ?_)))
    (case side2 => exact (Kd.N_reads' HO363.out).2.1)
    rintro e w19 ⟨v372, rfl, ho0, hb⟩
    refine ⟨_, rfl, ?_⟩
    have HO373 := Aside0.mk (Kd.N_lower (Kd.N_mono (ok' := fun k_ => (w.heap.size ≤ k_) ∧ some k_ ≠ (.slice Ao16 t361.length co16 : Value).ownBlock ∧ k_ ≠ gb353 ∧ k_ ≠ gb354 ∧ k_ ≠ gb365 ∧ k_ ≠ g357) (Kd.R_N (Kd.R_bound ho0)) (fun k_ hk_ => ⟨(Nat.le_trans (below_size (by repeat (first | (with_reducible first | exact HB.out | apply below_alloc | apply pw_below_drewN | apply below_drew1 | refine below_set ?_ (IsS87.ge HI357.out) | refine below_set ?_ GE353.out | refine below_set ?_ GE354.out | refine below_set ?_ GE365.out) | exact HB.out))) hk_.2.1), (Kd.fresh' (Kd.N_lt (by (with_reducible repeat (first | apply Kd.N_alloc | apply Kd.N_drewN | apply Kd.N_drew)); first | exact HO363.out | exact Kd.N_mono (HO363.out) (fun _ h_ => by simpa only [and_assoc, and_comm, and_left_comm] using h_))) k_ hk_.2.1), (Kd.freshB (g := gb353) (o := .cells #[.int .i64 0, .int .i64 0, .string (⟨#[]⟩ : ByteArray), .slice none 0 0] 31 (0, 0)) (bk_ BK353) k_ hk_.2.1), (Kd.freshB (g := gb354) (o := .cells #[.int .i64 0, .int .i64 0, .string (⟨#[]⟩ : ByteArray), .slice none 0 0] 31 (0, 0)) (bk_ BK354) k_ hk_.2.1), (Kd.freshB (g := gb365) (o := .cells #[.int .i64 t358, .int .i64 t359, .string t360, .slice Ao16 t361.length co16] 31 (0, 0)) (bk_ BK365) k_ hk_.2.1), (IsS87.fresh (by repeat (first | (with_reducible first | exact HI357.out | apply IsS87.alloc | apply IsS87.drewN | apply IsS87.drew | apply IsS87.set_1 | refine IsS87.far ?_ NB357_353.out _ | refine IsS87.far ?_ NB357_354.out _ | refine IsS87.far ?_ NB357_365.out _) | exact HI357.out)) k_ hk_.2.1)⟩)) (below_size (by repeat (first | (with_reducible first | exact HB.out | apply below_alloc | apply pw_below_drewN | apply below_drew1 | refine below_set ?_ (IsS87.ge HI357.out) | refine below_set ?_ GE353.out | refine below_set ?_ GE354.out | refine below_set ?_ GE365.out) | exact HB.out))))
    replace HO363 := Aside0.mk (Kd.N_elder' (by (with_reducible repeat (first | apply Kd.N_alloc | apply Kd.N_drewN | apply Kd.N_drew)); first | exact HO363.out | exact Kd.N_mono (HO363.out) (fun _ h_ => by simpa only [and_assoc, and_comm, and_left_comm] using h_)) (Kd.R_base ho0) hb)
    replace BK353 := bb_ BK353 hb
    replace BK354 := bb_ BK354 hb
    replace BK365 := bb_ BK365 hb
    replace HB := Aside0.mk (below_step (by repeat (first | (with_reducible first | exact HB.out | apply below_alloc | apply pw_below_drewN | apply below_drew1 | refine below_set ?_ (IsS87.ge HI357.out) | refine below_set ?_ GE353.out | refine below_set ?_ GE354.out | refine below_set ?_ GE365.out) | exact HB.out)) hb)
    replace HI357 := Aside0.mk (IsS87.below (by repeat (first | (with_reducible first | exact HI357.out | apply IsS87.alloc | apply IsS87.drewN | apply IsS87.drew | apply IsS87.set_1 | refine IsS87.far ?_ NB357_353.out _ | refine IsS87.far ?_ NB357_354.out _ | refine IsS87.far ?_ NB357_365.out _) | exact HI357.out)) hb)
    (try clear hb)
    (try clear hb2)
    (try clear hk)
    (try clear hi)
    (try clear ho0)
    obtain ⟨Ao27, co27, eo27⟩ := Kd.N_slice HO373.out
    (first | subst eo27 | (injection eo27 with f1_ f2_ f3_; have f4_ := f1_.symm; have f5_ := f3_.symm; clear f1_ f2_ f3_; subst f4_; subst f5_))
    refine hK.out _ _ ⟨(blkc BK365 0), (blkc BK365 1), (blkc BK365 2), (blkc BK365 3)⟩ (fun hHeld => ?_)
    clear hK K
    refine norm_ (a' := ?_) ?_ ?_
    rotate_left
    · show Act.put _ (some 15) _ = _
      simp only [Act.put, List.setIfInBounds_toArray, List.set_cons_zero, List.set_cons_succ, i64_w, i32_w]
      rfl
    refine one_ (i := 3) (N := none) #[true, true, true, true, false] rfl rfl (by kernel_rfl) (by decide) (fun K hK => ?_)
    have hs20 : w19.cell? ⟨gb353, 0, none⟩ = some (.int .i64 0) := (blkc BK353 0)
    have hfs20 := blk_frozen BK353.out 0
    have hns20_1 := NB354_353.out
    have hns20_2 := NB365_353.out
    have hms20_1 := NB353_354.out
    have hms20_2 := NB353_365.out
    have hs21 : w19.cell? ⟨gb353, 1, none⟩ = some (.int .i64 0) := (blkc BK353 1)
    have hfs21 := blk_frozen BK353.out 1
    have hns21_1 := NB354_353.out
    have hns21_2 := NB365_353.out
    have hms21_1 := NB353_354.out
    have hms21_2 := NB353_365.out
    have hs22 : w19.cell? ⟨gb353, 2, none⟩ = some (.string (⟨#[]⟩ : ByteArray)) := (blkc BK353 2)
    have hfs22 := blk_frozen BK353.out 2
    have hns22_1 := NB354_353.out
    have hns22_2 := NB365_353.out
    have hms22_1 := NB353_354.out
    have hms22_2 := NB353_365.out
    have hs23 : w19.cell? ⟨gb353, 3, none⟩ = some (.slice none 0 0) := (blkc BK353 3)
    have hfs23 := blk_frozen BK353.out 3
    have hns23_1 := NB354_353.out
    have hns23_2 := NB365_353.out
    have hms23_1 := NB353_354.out
    have hms23_2 := NB353_365.out
    refine skip_ (w1 := ?_) (by rfl) rfl ?_ ?_
    rotate_left
    · go_simp
      rfl
    refine hK.out _ _ ⟨(cf4 gb353 NB365_353.out hHeld.1), (cf4 gb353 NB365_353.out hHeld.2.1), (cf4 gb353 NB365_353.out hHeld.2.2.1), (cf4 gb353 NB365_353.out hHeld.2.2.2)⟩ (fun hHeld => ?_)
    clear hK K
    refine one_ (i := 4) (N := none) #[true, true, true, true, true] rfl rfl (by kernel_rfl) (by decide) (fun K hK => ?_)
    have hs24 : w19.cell? ⟨gb354, 0, none⟩ = some (.int .i64 0) := (blkc BK354 0)
    have hfs24 := blk_frozen BK354.out 0
    have hns24_0 := NB353_354.out
    have hns24_2 := NB365_354.out
    have hms24_0 := NB354_353.out
    have hms24_2 := NB354_365.out
    have hs25 : w19.cell? ⟨gb354, 1, none⟩ = some (.int .i64 0) := (blkc BK354 1)
    have hfs25 := blk_frozen BK354.out 1
    have hns25_0 := NB353_354.out
    have hns25_2 := NB365_354.out
    have hms25_0 := NB354_353.out
    have hms25_2 := NB354_365.out
    have hs26 : w19.cell? ⟨gb354, 2, none⟩ = some (.string (⟨#[]⟩ : ByteArray)) := (blkc BK354 2)
    have hfs26 := blk_frozen BK354.out 2
    have hns26_0 := NB353_354.out
    have hns26_2 := NB365_354.out
    have hms26_0 := NB354_353.out
    have hms26_2 := NB354_365.out
    have hs28 : w19.cell? ⟨gb354, 3, none⟩ = some (.slice none 0 0) := (blkc BK354 3)
    have hfs28 := blk_frozen BK354.out 3
    have hns28_0 := NB353_354.out
    have hns28_2 := NB365_354.out
    have hms28_0 := NB354_353.out
    have hms28_2 := NB354_365.out
    refine skip_ (w1 := ?_) (by rfl) rfl ?_ ?_
    rotate_left
    · go_simp
      rfl
    refine hK.out _ _ ⟨(cf4 gb354 NB365_354.out hHeld.1), (cf4 gb354 NB365_354.out hHeld.2.1), (cf4 gb354 NB365_354.out hHeld.2.2.1), (cf4 gb354 NB365_354.out hHeld.2.2.2)⟩ (fun hHeld => ?_)
    clear hK K
    refine done_ (by kernel_rfl) ?_
    try go_wp2
    refine bodyPost_ret (results_cc rfl _ _ gb353 gb354 31 31 #[.int .i64 t358, .int .i64 t359, .string t360, .slice Ao16 t361.length co16] #[.int .i64 t368, .int .i64 t369, .string t370, .slice Ao27 t371.length co27] (0, 0) (0, 0) _ _ rfl (by refine pe_ ?_; refine blk_far ?_ NB353_354.out _; refine pe_ ?_; refine blk_far ?_ NB353_354.out _; refine pe_ ?_; refine blk_far ?_ NB353_354.out _; refine pe_ ?_; refine blk_far ?_ NB353_354.out _; refine pe_ ?_; refine blk_put (cs := #[.int .i64 t358, .int .i64 t359, .string t360, .slice none 0 0]) ?_ 3 _ rfl; refine pe_ ?_; refine blk_put (cs := #[.int .i64 t358, .int .i64 t359, .string (⟨#[]⟩ : ByteArray), .slice none 0 0]) ?_ 2 _ rfl; refine pe_ ?_; refine blk_put (cs := #[.int .i64 t358, .int .i64 0, .string (⟨#[]⟩ : ByteArray), .slice none 0 0]) ?_ 1 _ rfl; refine pe_ ?_; refine blk_put (cs := #[.int .i64 0, .int .i64 0, .string (⟨#[]⟩ : ByteArray), .slice none 0 0]) ?_ 0 _ rfl; refine pe_ ?_; exact BK353.out) Try.underlying31 rfl (by kernel_rfl) rfl (by refine pe_ ?_; refine blk_put (cs := #[.int .i64 t368, .int .i64 t369, .string t370, .slice none 0 0]) ?_ 3 _ rfl; refine pe_ ?_; refine blk_put (cs := #[.int .i64 t368, .int .i64 t369, .string (⟨#[]⟩ : ByteArray), .slice none 0 0]) ?_ 2 _ rfl; refine pe_ ?_; refine blk_put (cs := #[.int .i64 t368, .int .i64 0, .string (⟨#[]⟩ : ByteArray), .slice none 0 0]) ?_ 1 _ rfl; refine pe_ ?_; refine blk_put (cs := #[.int .i64 0, .int .i64 0, .string (⟨#[]⟩ : ByteArray), .slice none 0 0]) ?_ 0 _ rfl; refine pe_ ?_; refine blk_far ?_ NB354_353.out _; refine pe_ ?_; refine blk_far ?_ NB354_353.out _; refine pe_ ?_; refine blk_far ?_ NB354_353.out _; refine pe_ ?_; refine blk_far ?_ NB354_353.out _; refine pe_ ?_; exact BK354.out) Try.underlying31 rfl (by kernel_rfl)) rfl ?_
    exact ⟨_, _, by first | rfl | (simp [errW_none, errW_some] <;> rfl) | (simp [*, errW_none, errW_some] <;> rfl), by (with_reducible repeat (first | apply Kd.N_alloc | apply Kd.N_drewN | apply Kd.N_drew)); first | exact Kd.N_mono (nf4 gb354 (nf4 gb353 (Kd.N_mono (Kd.N_mono HO363.out (fun k_ hk => (⟨hk, hk.1.1.2.1⟩ : _ ∧ k_ ≠ gb353))) (fun k_ hk => (⟨hk, hk.1.1.1.2.2.1⟩ : _ ∧ k_ ≠ gb354))) (fun _ hk => hk.1.2)) (fun _ hk => hk.2)) (fun _ hk => ⟨hk.1.1.1.1.1, hk.1.1.2⟩) | exact Kd.N_mono (Kd.N_mono (nf4 gb354 (nf4 gb353 (Kd.N_mono (Kd.N_mono HO363.out (fun k_ hk => (⟨hk, hk.1.1.2.1⟩ : _ ∧ k_ ≠ gb353))) (fun k_ hk => (⟨hk, hk.1.1.1.2.2.1⟩ : _ ∧ k_ ≠ gb354))) (fun _ hk => hk.1.2)) (fun _ hk => hk.2)) (fun _ hk => ⟨hk.1.1.1.1.1, hk.1.1.2⟩)) (fun _ h_ => by simpa only [and_assoc, and_comm, and_left_comm] using h_), by (with_reducible repeat (first | apply Kd.N_alloc | apply Kd.N_drewN | apply Kd.N_drew)); first | exact Kd.N_mono (nf4 gb354 (nf4 gb353 (Kd.N_mono (Kd.N_mono HO373.out (fun k_ hk => (⟨hk, hk.2.2.1⟩ : _ ∧ k_ ≠ gb353))) (fun k_ hk => (⟨hk, hk.1.2.2.2.1⟩ : _ ∧ k_ ≠ gb354))) (fun _ hk => hk.1.2)) (fun _ hk => hk.2)) (fun _ hk => ⟨hk.1.1.1, hk.1.1.2.1⟩) | exact Kd.N_mono (Kd.N_mono (nf4 gb354 (nf4 gb353 (Kd.N_mono (Kd.N_mono HO373.out (fun k_ hk => (⟨hk, hk.2.2.1⟩ : _ ∧ k_ ≠ gb353))) (fun k_ hk => (⟨hk, hk.1.2.2.2.1⟩ : _ ∧ k_ ≠ gb354))) (fun _ hk => hk.1.2)) (fun _ hk => hk.2)) (fun _ hk => ⟨hk.1.1.1, hk.1.1.2.1⟩)) (fun _ h_ => by simpa only [and_assoc, and_comm, and_left_comm] using h_), by repeat (first | (with_reducible first | exact HB.out | apply below_alloc | apply pw_below_drewN | apply below_drew1 | refine below_set ?_ (IsS87.ge HI357.out) | refine below_set ?_ GE353.out | refine below_set ?_ GE354.out | refine below_set ?_ GE365.out) | exact HB.out)⟩
  rw [if_neg c5] at H
  have c5b0 : (t366 == 0) = false := beq_eq_false_iff_ne.mpr c5
  have c5b1 : (t366 != 0) = true := bne_iff_ne.mpr c5
  replace H := Option.bind_eq_some_iff.mp H
  obtain ⟨⟨t374, t375, t376, t377, t380⟩, A290, H⟩ := H
  replace H : (some (t358, t359, t360, t361, t374, t375, t376, t377)) = some (r1, r2, r3, r4, r5, r6, r7, r8) := H
  have A29 := Aside0.mk A290
  clear A290
  simp only [Option.some.injEq, Prod.mk.injEq] at H
  obtain ⟨rfl, rfl, rfl, rfl, rfl, rfl, rfl, rfl⟩ := H
  go_enter Try.func37, Try.ntmps37
  try go_wp2_with (first | ((with_reducible refine gate_dst (N := 2) rfl ?_); refine bx_ 2 #[.int .i64 0, .int .i64 0, .string (⟨#[]⟩ : ByteArray), .slice none 0 0] 31 ?_; intro gb353 hg w30 hbox hb; have BK353 := Aside0.mk (hbox); have GW353 := gw_ hg; have GE353 := gw_ hg; replace HB := bs_ hb; clear hb hbox hg) | ((with_reducible refine gate_dst (N := 3) rfl ?_); refine bx_ 3 #[.int .i64 0, .int .i64 0, .string (⟨#[]⟩ : ByteArray), .slice none 0 0] 31 ?_; intro gb354 hg w31 hbox hb; have BK354 := Aside0.mk (hbox); have GW354 := gw_ hg; have GE354 := gw_ hg; have NB353_354 := nlt_ hg BK353; have NB354_353 := ngt_ hg BK353; replace BK353 := bb_ BK353 hb; replace HB := bs_ hb; clear hb hbox hg) | ((with_reducible refine gate_callee (f := 54) rfl ?_); refine goesL_ (some 7) rfl rfl Try.func54 (by kernel_rfl) rfl #[.slice A0 l0.length c0] rfl ar_ ?_; (with_reducible refine (spec_l1Open.calls _ _ l0 t355 t356 w _ ?side1 ?side2 ?side3 A2.out).mono ?_); (case side1 => repeat (first | (with_reducible first | exact HB.out | apply below_alloc | apply pw_below_drewN | apply below_drew1 | refine below_set ?_ GE353.out | refine below_set ?_ GE354.out) | exact HB.out)); (case side2 => exact HR0.out); (case side3 => exact HC0.out); rintro e w32 ⟨g357, rfl, hi, hb, hb2⟩; refine ⟨_, rfl, ?_⟩; have HI357 := Aside0.mk (hi); have NB357_353 := Aside0.mk (IsS87.ne_blk hi (blk_below (g := gb353) (o := .cells #[.int .i64 0, .int .i64 0, .string (⟨#[]⟩ : ByteArray), .slice none 0 0] 31 (0, 0)) (bk_ BK353) hb2) (by decide)); have NB353_357 := Aside0.mk (Ne.symm (IsS87.ne_blk hi (blk_below (g := gb353) (o := .cells #[.int .i64 0, .int .i64 0, .string (⟨#[]⟩ : ByteArray), .slice none 0 0] 31 (0, 0)) (bk_ BK353) hb2) (by decide))); have NB357_354 := Aside0.mk (IsS87.ne_blk hi (blk_below (g := gb354) (o := .cells #[.int .i64 0, .int .i64 0, .string (⟨#[]⟩ : ByteArray), .slice none 0 0] 31 (0, 0)) (bk_ BK354) hb2) (by decide)); have NB354_357 := Aside0.mk (Ne.symm (IsS87.ne_blk hi (blk_below (g := gb354) (o := .cells #[.int .i64 0, .int .i64 0, .string (⟨#[]⟩ : ByteArray), .slice none 0 0] 31 (0, 0)) (bk_ BK354) hb2) (by decide))); replace BK353 := Aside0.mk (blk_below (g := gb353) (o := .cells #[.int .i64 0, .int .i64 0, .string (⟨#[]⟩ : ByteArray), .slice none 0 0] 31 (0, 0)) (bk_ BK353) hb2); replace BK354 := Aside0.mk (blk_below (g := gb354) (o := .cells #[.int .i64 0, .int .i64 0, .string (⟨#[]⟩ : ByteArray), .slice none 0 0] 31 (0, 0)) (bk_ BK354) hb2); replace HB := Aside0.mk (hb); (try clear hb); (try clear hb2); (try clear hk); (try clear hi)) | ((with_reducible refine gate_callee (f := 66) rfl ?_); refine goesL_ (some 9) rfl rfl Try.func66 (by kernel_rfl) rfl #[.pointer (some ⟨g357, 0, none⟩)] rfl ar_ ?_; (with_reducible refine (spec_l11AnyValue.calls k g357 t355 t356 t358 t359 t360 t361 t364 w _ ?side1 ?side2 A3.out).mono ?_); (case side1 => repeat (first | (with_reducible first | exact HI357.out | apply IsS87.alloc | apply IsS87.drewN | apply IsS87.drew | apply IsS87.set_1 | refine IsS87.far ?_ NB357_353.out _ | refine IsS87.far ?_ NB357_354.out _) | exact HI357.out)); (case side2 => repeat (first | (with_reducible first | exact HB.out | apply below_alloc | apply pw_below_drewN | apply below_drew1 | refine below_set ?_ (IsS87.ge HI357.out) | refine below_set ?_ GE353.out | refine below_set ?_ GE354.out) | exact HB.out)); rintro e w33 ⟨v362, rfl, ho0, hi, hb, hk⟩; refine ⟨_, rfl, ?_⟩; have HO363 := Aside0.mk (Kd.N_lower (Kd.N_mono (ok' := fun k_ => (w.heap.size ≤ k_) ∧ k_ ≠ gb353 ∧ k_ ≠ gb354 ∧ k_ ≠ g357) ho0 (fun k_ hk_ => ⟨(Nat.le_trans (below_size (by repeat (first | (with_reducible first | exact HB.out | apply below_alloc | apply pw_below_drewN | apply below_drew1 | refine below_set ?_ (IsS87.ge HI357.out) | refine below_set ?_ GE353.out | refine below_set ?_ GE354.out) | exact HB.out))) hk_), (Kd.freshB (g := gb353) (o := .cells #[.int .i64 0, .int .i64 0, .string (⟨#[]⟩ : ByteArray), .slice none 0 0] 31 (0, 0)) (bk_ BK353) k_ hk_), (Kd.freshB (g := gb354) (o := .cells #[.int .i64 0, .int .i64 0, .string (⟨#[]⟩ : ByteArray), .slice none 0 0] 31 (0, 0)) (bk_ BK354) k_ hk_), (IsS87.fresh (by repeat (first | (with_reducible first | exact HI357.out | apply IsS87.alloc | apply IsS87.drewN | apply IsS87.drew | apply IsS87.set_1 | refine IsS87.far ?_ NB357_353.out _ | refine IsS87.far ?_ NB357_354.out _) | exact HI357.out)) k_ hk_)⟩)) (below_size (by repeat (first | (with_reducible first | exact HB.out | apply below_alloc | apply pw_below_drewN | apply below_drew1 | refine below_set ?_ (IsS87.ge HI357.out) | refine below_set ?_ GE353.out | refine below_set ?_ GE354.out) | exact HB.out)))); replace BK353 := Aside0.mk (KeepBut.blk hk (g' := gb353) (o := .cells #[.int .i64 0, .int .i64 0, .string (⟨#[]⟩ : ByteArray), .slice none 0 0] 31 (0, 0)) (bk_ BK353) NB353_357.out (by simp)); replace BK354 := Aside0.mk (KeepBut.blk hk (g' := gb354) (o := .cells #[.int .i64 0, .int .i64 0, .string (⟨#[]⟩ : ByteArray), .slice none 0 0] 31 (0, 0)) (bk_ BK354) NB354_357.out (by simp)); replace HB := Aside0.mk (hb); replace HI357 := Aside0.mk (hi); (try clear hb); (try clear hb2); (try clear hk); (try clear hi); (try clear ho0)) | ((with_reducible refine gate_dst (N := 5) rfl ?_); refine bx_ 5 #[.int .i64 0, .int .i64 0, .string (⟨#[]⟩ : ByteArray), .slice none 0 0] 31 ?_; intro gb365 hg w34 hbox hb; have BK365 := Aside0.mk (hbox); have GW365 := Aside0.mk ((by rw [hg]; exact (below_size (by repeat (first | (with_reducible first | exact HB.out | apply below_alloc | apply pw_below_drewN | apply below_drew1 | refine below_set ?_ (IsS87.ge HI357.out) | refine below_set ?_ GE353.out | refine below_set ?_ GE354.out) | exact HB.out))) : w.heap.size ≤ gb365)); have GE365 := Aside0.mk ((by rw [hg]; exact (below_size (by repeat (first | (with_reducible first | exact HB.out | apply below_alloc | apply pw_below_drewN | apply below_drew1 | refine below_set ?_ (IsS87.ge HI357.out) | refine below_set ?_ GE353.out | refine below_set ?_ GE354.out) | exact HB.out))) : w.heap.size ≤ gb365)); have NB353_365 := nlt_ hg BK353; have NB365_353 := ngt_ hg BK353; have NB354_365 := nlt_ hg BK354; have NB365_354 := ngt_ hg BK354; have NB357_365 := Aside0.mk ((by rw [hg]; exact Nat.ne_of_lt (IsS87.lt (show IsS87 w _ g357 t355 t364 from by repeat (first | (with_reducible first | exact HI357.out | apply IsS87.alloc | apply IsS87.drewN | apply IsS87.drew | apply IsS87.set_1 | refine IsS87.far ?_ NB357_353.out _ | refine IsS87.far ?_ NB357_354.out _) | exact HI357.out))) : g357 ≠ gb365)); have NB365_357 := Aside0.mk ((by rw [hg]; exact Nat.ne_of_gt (IsS87.lt (show IsS87 w _ g357 t355 t364 from by repeat (first | (with_reducible first | exact HI357.out | apply IsS87.alloc | apply IsS87.drewN | apply IsS87.drew | apply IsS87.set_1 | refine IsS87.far ?_ NB357_353.out _ | refine IsS87.far ?_ NB357_354.out _) | exact HI357.out))) : gb365 ≠ g357)); replace HO363 := Aside0.mk (Kd.N_below (Kd.N_elderB (by (with_reducible repeat (first | apply Kd.N_alloc | apply Kd.N_drewN | apply Kd.N_drew)); first | exact HO363.out | exact Kd.N_mono (HO363.out) (fun _ h_ => by simpa only [and_assoc, and_comm, and_left_comm] using h_)) gb365 (Nat.le_of_eq hg.symm)) hb); replace BK353 := bb_ BK353 hb; replace BK354 := bb_ BK354 hb; replace HB := Aside0.mk (below_step (by repeat (first | (with_reducible first | exact HB.out | apply below_alloc | apply pw_below_drewN | apply below_drew1 | refine below_set ?_ (IsS87.ge HI357.out) | refine below_set ?_ GE353.out | refine below_set ?_ GE354.out) | exact HB.out)) hb); replace HI357 := Aside0.mk (IsS87.below (by repeat (first | (with_reducible first | exact HI357.out | apply IsS87.alloc | apply IsS87.drewN | apply IsS87.drew | apply IsS87.set_1 | refine IsS87.far ?_ NB357_353.out _ | refine IsS87.far ?_ NB357_354.out _) | exact HI357.out)) hb); clear hb hbox hg; have hnb35 := NB365_353.out; have hnc35 := NB353_365.out; have hnb36 := NB365_354.out; have hnc36 := NB354_365.out; have hnb37 := NB365_357.out; have hnc37 := NB357_365.out; obtain ⟨hcz38_0, hcz38_1, hcz38_2, hcz38_3, hfz38_0, hfz38_1, hfz38_2, hfz38_3⟩ := blk4 BK365; obtain ⟨Ao39, co39, eo39⟩ := Kd.N_slice HO363.out; subst eo39) | ((with_reducible refine gate_callee (f := 65) rfl ?_); refine goesL_ (some 11) rfl rfl Try.func65 (by kernel_rfl) rfl #[.pointer (some ⟨g357, 0, none⟩), .int .i64 3] rfl ar_ ?_; (with_reducible refine (spec_l1Rd_pick.calls k g357 t355 t364 3 t366 t367 w _ ?side1 ?side2 A4.out).mono ?_); (case side1 => repeat (first | (with_reducible first | exact HI357.out | apply IsS87.alloc | apply IsS87.drewN | apply IsS87.drew | apply IsS87.set_1 | refine IsS87.far ?_ NB357_353.out _ | refine IsS87.far ?_ NB357_354.out _ | refine IsS87.far ?_ NB357_365.out _) | exact HI357.out)); (case side2 => repeat (first | (with_reducible first | exact HB.out | apply below_alloc | apply pw_below_drewN | apply below_drew1 | refine below_set ?_ (IsS87.ge HI357.out) | refine below_set ?_ GE353.out | refine below_set ?_ GE354.out | refine below_set ?_ GE365.out) | exact HB.out)); rintro e w40 ⟨rfl, hi, hb, hk⟩; refine ⟨_, rfl, ?_⟩; replace BK353 := Aside0.mk (KeepBut.blk hk (g' := gb353) (o := .cells #[.int .i64 0, .int .i64 0, .string (⟨#[]⟩ : ByteArray), .slice none 0 0] 31 (0, 0)) (by refine pe_ ?_; refine blk_far ?_ NB353_365.out _; refine pe_ ?_; refine blk_far ?_ NB353_365.out _; refine pe_ ?_; refine blk_far ?_ NB353_365.out _; refine pe_ ?_; refine blk_far ?_ NB353_365.out _; refine pe_ ?_; exact BK353.out) NB353_357.out (by simp)); replace BK354 := Aside0.mk (KeepBut.blk hk (g' := gb354) (o := .cells #[.int .i64 0, .int .i64 0, .string (⟨#[]⟩ : ByteArray), .slice none 0 0] 31 (0, 0)) (by refine pe_ ?_; refine blk_far ?_ NB354_365.out _; refine pe_ ?_; refine blk_far ?_ NB354_365.out _; refine pe_ ?_; refine blk_far ?_ NB354_365.out _; refine pe_ ?_; refine blk_far ?_ NB354_365.out _; refine pe_ ?_; exact BK354.out) NB354_357.out (by simp)); replace HO363 := Aside0.mk (Kd.N_mono (Kd.N_keep (Kd.N_mono (ok := fun k_ => ((((w.heap.size ≤ k_)) ∧ (k_ ≠ gb353 ∧ (k_ ≠ gb354 ∧ k_ ≠ g357))) ∧ k_ ≠ gb365)) (by (with_reducible repeat (first | apply Kd.N_alloc | apply Kd.N_drewN | apply Kd.N_drew)); first | exact (Kd.N_mono (nf4 gb365 (Kd.N_mono HO363.out (fun k_ hk => (⟨hk, hk.2⟩ : _ ∧ k_ ≠ gb365))) (fun _ hk => hk.2)) (fun _ h_ => h_.1)) | exact Kd.N_mono ((Kd.N_mono (nf4 gb365 (Kd.N_mono HO363.out (fun k_ hk => (⟨hk, hk.2⟩ : _ ∧ k_ ≠ gb365))) (fun _ hk => hk.2)) (fun _ h_ => h_.1))) (fun _ h_ => by simpa only [and_assoc, and_comm, and_left_comm] using h_)) (fun k_ hk_ => (⟨hk_, hk_.1.2.2.2⟩ : _ ∧ k_ ≠ g357))) hk (fun _ h => h.2)) (fun _ h => h.1)); replace BK365 := Aside0.mk (KeepBut.blk hk (g' := gb365) (o := .cells #[.int .i64 t358, .int .i64 t359, .string t360, .slice Ao39 t361.length co39] 31 (0, 0)) (by refine pe_ ?_; refine blk_put (cs := #[.int .i64 t358, .int .i64 t359, .string t360, .slice none 0 0]) ?_ 3 _ rfl; refine pe_ ?_; refine blk_put (cs := #[.int .i64 t358, .int .i64 t359, .string (⟨#[]⟩ : ByteArray), .slice none 0 0]) ?_ 2 _ rfl; refine pe_ ?_; refine blk_put (cs := #[.int .i64 t358, .int .i64 0, .string (⟨#[]⟩ : ByteArray), .slice none 0 0]) ?_ 1 _ rfl; refine pe_ ?_; refine blk_put (cs := #[.int .i64 0, .int .i64 0, .string (⟨#[]⟩ : ByteArray), .slice none 0 0]) ?_ 0 _ rfl; refine pe_ ?_; exact BK365.out) NB365_357.out (by simp)); replace HB := Aside0.mk (hb); replace HI357 := Aside0.mk (hi); (try clear hb); (try clear hb2); (try clear hk); (try clear hi)))
  replace HO363 := Aside0.mk (Kd.N_drew HO363.out)
  replace BK353 := Aside0.mk (blk_drew BK353.out)
  replace BK354 := Aside0.mk (blk_drew BK354.out)
  replace BK365 := Aside0.mk (blk_drew BK365.out)
  replace HI357 := Aside0.mk (IsS87.drew HI357.out)
  replace HB := Aside0.mk (below_drew1 HB.out)
  refine start_ (n := 5) (S := fun w' => w'.cell? ⟨gb365, 0, none⟩ = some (.int .i64 t358) ∧ w'.cell? ⟨gb365, 1, none⟩ = some (.int .i64 t359) ∧ w'.cell? ⟨gb365, 2, none⟩ = some (.string t360) ∧ w'.cell? ⟨gb365, 3, none⟩ = some (.slice Ao39 t361.length co39)) (ds := []) #[false, false, false, false, false] (by kernel_rfl) rfl rfl ⟨(blkc BK365 0), (blkc BK365 1), (blkc BK365 2), (blkc BK365 3)⟩ (fun hHeld => ?_)
  generalize w40.drew = w41 at HO363 BK353 BK354 BK365 HI357 HB hHeld ⊢
  refine pure_ (i := 1) (N := some 17) (v := ?_) (a' := ?_) #[false, true, false, false, false] rfl rfl (by kernel_rfl) (fun _ _ _ h => h) (Or.inl ⟨by rfl, ?_⟩) ?_ ?_
  rotate_left
  · intro w'
    go_simp
    with_reducible rfl
  rotate_left
  · simp only [Act.put, List.setIfInBounds_toArray, List.set_cons_zero, List.set_cons_succ, i64_w, i32_w]
    rfl
  refine take_ (i := 0) (N := some 16) (v := ?_) (a' := ?_) #[true, true, false, false, false] rfl rfl (by kernel_rfl) (fun _ _ _ h => h) (Or.inl ⟨by rfl, ?_⟩) hHeld ?_ ?_
  rotate_left
  · rintro w' ⟨s0, s1, s2, s3⟩
    go_simp
    with_reducible rfl
  rotate_left
  · simp only [Act.put, List.setIfInBounds_toArray, List.set_cons_zero, List.set_cons_succ, i64_w, i32_w]
    rfl
  refine one_ (i := 2) (N := some 18) #[true, true, true, false, false] rfl rfl (by kernel_rfl) (by decide) (fun K hK => ?_)
  refine goes_ Try.func66 (by kernel_rfl) rfl #[.pointer (some ⟨g357, 0, none⟩)] (by rfl) rfl rfl ar_ ?_
  with_reducible refine (spec_l11AnyValue.calls k g357 t355 t367 t374 t375 t376 t377 t380 w _ ?side1 ?side2 A29.out).mono ?_
  (case side1 => repeat (first | (with_reducible first | exact HI357.out | apply IsS87.alloc | apply IsS87.drewN | apply IsS87.drew | apply IsS87.set_1 | refine IsS87.far ?_ NB357_353.out _ | refine IsS87.far ?_ NB357_354.out _ | refine IsS87.far ?_ NB357_365.out _) | exact HI357.out))
  (case side2 => repeat (first | (with_reducible first | exact HB.out | apply below_alloc | apply pw_below_drewN | apply below_drew1 | refine below_set ?_ (IsS87.ge HI357.out) | refine below_set ?_ GE353.out | refine below_set ?_ GE354.out | refine below_set ?_ GE365.out) | exact HB.out))
  rintro e w42 ⟨v378, rfl, ho0, hi, hb, hk⟩
  refine ⟨_, rfl, ?_⟩
  have HO379 := Aside0.mk (Kd.N_lower (Kd.N_mono (ok' := fun k_ => (w.heap.size ≤ k_) ∧ some k_ ≠ (.slice Ao39 t361.length co39 : Value).ownBlock ∧ k_ ≠ gb353 ∧ k_ ≠ gb354 ∧ k_ ≠ gb365 ∧ k_ ≠ g357) ho0 (fun k_ hk_ => ⟨(Nat.le_trans (below_size (by repeat (first | (with_reducible first | exact HB.out | apply below_alloc | apply pw_below_drewN | apply below_drew1 | refine below_set ?_ (IsS87.ge HI357.out) | refine below_set ?_ GE353.out | refine below_set ?_ GE354.out | refine below_set ?_ GE365.out) | exact HB.out))) hk_), (Kd.fresh' (Kd.N_lt (by (with_reducible repeat (first | apply Kd.N_alloc | apply Kd.N_drewN | apply Kd.N_drew)); first | exact HO363.out | exact Kd.N_mono (HO363.out) (fun _ h_ => by simpa only [and_assoc, and_comm, and_left_comm] using h_))) k_ hk_), (Kd.freshB (g := gb353) (o := .cells #[.int .i64 0, .int .i64 0, .string (⟨#[]⟩ : ByteArray), .slice none 0 0] 31 (0, 0)) (bk_ BK353) k_ hk_), (Kd.freshB (g := gb354) (o := .cells #[.int .i64 0, .int .i64 0, .string (⟨#[]⟩ : ByteArray), .slice none 0 0] 31 (0, 0)) (bk_ BK354) k_ hk_), (Kd.freshB (g := gb365) (o := .cells #[.int .i64 t358, .int .i64 t359, .string t360, .slice Ao39 t361.length co39] 31 (0, 0)) (bk_ BK365) k_ hk_), (IsS87.fresh (by repeat (first | (with_reducible first | exact HI357.out | apply IsS87.alloc | apply IsS87.drewN | apply IsS87.drew | apply IsS87.set_1 | refine IsS87.far ?_ NB357_353.out _ | refine IsS87.far ?_ NB357_354.out _ | refine IsS87.far ?_ NB357_365.out _) | exact HI357.out)) k_ hk_)⟩)) (below_size (by repeat (first | (with_reducible first | exact HB.out | apply below_alloc | apply pw_below_drewN | apply below_drew1 | refine below_set ?_ (IsS87.ge HI357.out) | refine below_set ?_ GE353.out | refine below_set ?_ GE354.out | refine below_set ?_ GE365.out) | exact HB.out))))
  replace BK353 := Aside0.mk (KeepBut.blk hk (g' := gb353) (o := .cells #[.int .i64 0, .int .i64 0, .string (⟨#[]⟩ : ByteArray), .slice none 0 0] 31 (0, 0)) (bk_ BK353) NB353_357.out (by simp))
  replace BK354 := Aside0.mk (KeepBut.blk hk (g' := gb354) (o := .cells #[.int .i64 0, .int .i64 0, .string (⟨#[]⟩ : ByteArray), .slice none 0 0] 31 (0, 0)) (bk_ BK354) NB354_357.out (by simp))
  replace HO363 := Aside0.mk (Kd.N_mono (Kd.N_told (Kd.N_oldK (Kd.N_mono (ok := fun k_ => ((((w.heap.size ≤ k_)) ∧ (k_ ≠ gb353 ∧ (k_ ≠ gb354 ∧ k_ ≠ g357))) ∧ k_ ≠ gb365)) (by (with_reducible repeat (first | apply Kd.N_alloc | apply Kd.N_drewN | apply Kd.N_drew)); first | exact HO363.out | exact Kd.N_mono (HO363.out) (fun _ h_ => by simpa only [and_assoc, and_comm, and_left_comm] using h_)) (fun k_ hk_ => (⟨hk_, hk_.1.2.2.2⟩ : _ ∧ k_ ≠ g357))) hk) (Kd.N_base ho0)) (fun _ h_ => h_.1))
  replace BK365 := Aside0.mk (KeepBut.blk hk (g' := gb365) (o := .cells #[.int .i64 t358, .int .i64 t359, .string t360, .slice Ao39 t361.length co39] 31 (0, 0)) (bk_ BK365) NB365_357.out (by simp))
  replace HB := Aside0.mk (hb)
  replace HI357 := Aside0.mk (hi)
  (try clear hb)
  (try clear hb2)
  (try clear hk)
  (try clear hi)
  (try clear ho0)
  obtain ⟨Ao50, co50, eo50⟩ := Kd.N_slice HO379.out
  (first | subst eo50 | (injection eo50 with f1_ f2_ f3_; have f4_ := f1_.symm; have f5_ := f3_.symm; clear f1_ f2_ f3_; subst f4_; subst f5_))
  refine hK.out _ _ ⟨(blkc BK365 0), (blkc BK365 1), (blkc BK365 2), (blkc BK365 3)⟩ (fun hHeld => ?_)
  clear hK K
  refine norm_ (a' := ?_) ?_ ?_
  rotate_left
  · show Act.put _ (some 18) _ = _
    simp only [Act.put, List.setIfInBounds_toArray, List.set_cons_zero, List.set_cons_succ, i64_w, i32_w]
    rfl
  refine one_ (i := 3) (N := none) #[true, true, true, true, false] rfl rfl (by kernel_rfl) (by decide) (fun K hK => ?_)
  have hs43 : w42.cell? ⟨gb353, 0, none⟩ = some (.int .i64 0) := (blkc BK353 0)
  have hfs43 := blk_frozen BK353.out 0
  have hns43_1 := NB354_353.out
  have hns43_2 := NB365_353.out
  have hms43_1 := NB353_354.out
  have hms43_2 := NB353_365.out
  have hs44 : w42.cell? ⟨gb353, 1, none⟩ = some (.int .i64 0) := (blkc BK353 1)
  have hfs44 := blk_frozen BK353.out 1
  have hns44_1 := NB354_353.out
  have hns44_2 := NB365_353.out
  have hms44_1 := NB353_354.out
  have hms44_2 := NB353_365.out
  have hs45 : w42.cell? ⟨gb353, 2, none⟩ = some (.string (⟨#[]⟩ : ByteArray)) := (blkc BK353 2)
  have hfs45 := blk_frozen BK353.out 2
  have hns45_1 := NB354_353.out
  have hns45_2 := NB365_353.out
  have hms45_1 := NB353_354.out
  have hms45_2 := NB353_365.out
  have hs46 : w42.cell? ⟨gb353, 3, none⟩ = some (.slice none 0 0) := (blkc BK353 3)
  have hfs46 := blk_frozen BK353.out 3
  have hns46_1 := NB354_353.out
  have hns46_2 := NB365_353.out
  have hms46_1 := NB353_354.out
  have hms46_2 := NB353_365.out
  refine skip_ (w1 := ?_) (by rfl) rfl ?_ ?_
  rotate_left
  · go_simp
    rfl
  refine hK.out _ _ ⟨(cf4 gb353 NB365_353.out hHeld.1), (cf4 gb353 NB365_353.out hHeld.2.1), (cf4 gb353 NB365_353.out hHeld.2.2.1), (cf4 gb353 NB365_353.out hHeld.2.2.2)⟩ (fun hHeld => ?_)
  clear hK K
  refine one_ (i := 4) (N := none) #[true, true, true, true, true] rfl rfl (by kernel_rfl) (by decide) (fun K hK => ?_)
  have hs47 : w42.cell? ⟨gb354, 0, none⟩ = some (.int .i64 0) := (blkc BK354 0)
  have hfs47 := blk_frozen BK354.out 0
  have hns47_0 := NB353_354.out
  have hns47_2 := NB365_354.out
  have hms47_0 := NB354_353.out
  have hms47_2 := NB354_365.out
  have hs48 : w42.cell? ⟨gb354, 1, none⟩ = some (.int .i64 0) := (blkc BK354 1)
  have hfs48 := blk_frozen BK354.out 1
  have hns48_0 := NB353_354.out
  have hns48_2 := NB365_354.out
  have hms48_0 := NB354_353.out
  have hms48_2 := NB354_365.out
  have hs49 : w42.cell? ⟨gb354, 2, none⟩ = some (.string (⟨#[]⟩ : ByteArray)) := (blkc BK354 2)
  have hfs49 := blk_frozen BK354.out 2
  have hns49_0 := NB353_354.out
  have hns49_2 := NB365_354.out
  have hms49_0 := NB354_353.out
  have hms49_2 := NB354_365.out
  have hs51 : w42.cell? ⟨gb354, 3, none⟩ = some (.slice none 0 0) := (blkc BK354 3)
  have hfs51 := blk_frozen BK354.out 3
  have hns51_0 := NB353_354.out
  have hns51_2 := NB365_354.out
  have hms51_0 := NB354_353.out
  have hms51_2 := NB354_365.out
  refine skip_ (w1 := ?_) (by rfl) rfl ?_ ?_
  rotate_left
  · go_simp
    rfl
  refine hK.out _ _ ⟨(cf4 gb354 NB365_354.out hHeld.1), (cf4 gb354 NB365_354.out hHeld.2.1), (cf4 gb354 NB365_354.out hHeld.2.2.1), (cf4 gb354 NB365_354.out hHeld.2.2.2)⟩ (fun hHeld => ?_)
  clear hK K
  refine done_ (by kernel_rfl) ?_
  try go_wp2
  refine bodyPost_ret (results_cc rfl _ _ gb353 gb354 31 31 #[.int .i64 t358, .int .i64 t359, .string t360, .slice Ao39 t361.length co39] #[.int .i64 t374, .int .i64 t375, .string t376, .slice Ao50 t377.length co50] (0, 0) (0, 0) _ _ rfl (by refine pe_ ?_; refine blk_far ?_ NB353_354.out _; refine pe_ ?_; refine blk_far ?_ NB353_354.out _; refine pe_ ?_; refine blk_far ?_ NB353_354.out _; refine pe_ ?_; refine blk_far ?_ NB353_354.out _; refine pe_ ?_; refine blk_put (cs := #[.int .i64 t358, .int .i64 t359, .string t360, .slice none 0 0]) ?_ 3 _ rfl; refine pe_ ?_; refine blk_put (cs := #[.int .i64 t358, .int .i64 t359, .string (⟨#[]⟩ : ByteArray), .slice none 0 0]) ?_ 2 _ rfl; refine pe_ ?_; refine blk_put (cs := #[.int .i64 t358, .int .i64 0, .string (⟨#[]⟩ : ByteArray), .slice none 0 0]) ?_ 1 _ rfl; refine pe_ ?_; refine blk_put (cs := #[.int .i64 0, .int .i64 0, .string (⟨#[]⟩ : ByteArray), .slice none 0 0]) ?_ 0 _ rfl; refine pe_ ?_; exact BK353.out) Try.underlying31 rfl (by kernel_rfl) rfl (by refine pe_ ?_; refine blk_put (cs := #[.int .i64 t374, .int .i64 t375, .string t376, .slice none 0 0]) ?_ 3 _ rfl; refine pe_ ?_; refine blk_put (cs := #[.int .i64 t374, .int .i64 t375, .string (⟨#[]⟩ : ByteArray), .slice none 0 0]) ?_ 2 _ rfl; refine pe_ ?_; refine blk_put (cs := #[.int .i64 t374, .int .i64 0, .string (⟨#[]⟩ : ByteArray), .slice none 0 0]) ?_ 1 _ rfl; refine pe_ ?_; refine blk_put (cs := #[.int .i64 0, .int .i64 0, .string (⟨#[]⟩ : ByteArray), .slice none 0 0]) ?_ 0 _ rfl; refine pe_ ?_; refine blk_far ?_ NB354_353.out _; refine pe_ ?_; refine blk_far ?_ NB354_353.out _; refine pe_ ?_; refine blk_far ?_ NB354_353.out _; refine pe_ ?_; refine blk_far ?_ NB354_353.out _; refine pe_ ?_; exact BK354.out) Try.underlying31 rfl (by kernel_rfl)) rfl ?_
  exact ⟨_, _, by first | rfl | (simp [errW_none, errW_some] <;> rfl) | (simp [*, errW_none, errW_some] <;> rfl), by (with_reducible repeat (first | apply Kd.N_alloc | apply Kd.N_drewN | apply Kd.N_drew)); first | exact Kd.N_mono (nf4 gb354 (nf4 gb353 (Kd.N_mono (Kd.N_mono HO363.out (fun k_ hk => (⟨hk, hk.1.1.2.1⟩ : _ ∧ k_ ≠ gb353))) (fun k_ hk => (⟨hk, hk.1.1.1.2.2.1⟩ : _ ∧ k_ ≠ gb354))) (fun _ hk => hk.1.2)) (fun _ hk => hk.2)) (fun _ hk => ⟨hk.1.1.1.1.1, hk.1.1.2⟩) | exact Kd.N_mono (Kd.N_mono (nf4 gb354 (nf4 gb353 (Kd.N_mono (Kd.N_mono HO363.out (fun k_ hk => (⟨hk, hk.1.1.2.1⟩ : _ ∧ k_ ≠ gb353))) (fun k_ hk => (⟨hk, hk.1.1.1.2.2.1⟩ : _ ∧ k_ ≠ gb354))) (fun _ hk => hk.1.2)) (fun _ hk => hk.2)) (fun _ hk => ⟨hk.1.1.1.1.1, hk.1.1.2⟩)) (fun _ h_ => by simpa only [and_assoc, and_comm, and_left_comm] using h_), by (with_reducible repeat (first | apply Kd.N_alloc | apply Kd.N_drewN | apply Kd.N_drew)); first | exact Kd.N_mono (nf4 gb354 (nf4 gb353 (Kd.N_mono (Kd.N_mono HO379.out (fun k_ hk => (⟨hk, hk.2.2.1⟩ : _ ∧ k_ ≠ gb353))) (fun k_ hk => (⟨hk, hk.1.2.2.2.1⟩ : _ ∧ k_ ≠ gb354))) (fun _ hk => hk.1.2)) (fun _ hk => hk.2)) (fun _ hk => ⟨hk.1.1.1, hk.1.1.2.1⟩) | exact Kd.N_mono (Kd.N_mono (nf4 gb354 (nf4 gb353 (Kd.N_mono (Kd.N_mono HO379.out (fun k_ hk => (⟨hk, hk.2.2.1⟩ : _ ∧ k_ ≠ gb353))) (fun k_ hk => (⟨hk, hk.1.2.2.2.1⟩ : _ ∧ k_ ≠ gb354))) (fun _ hk => hk.1.2)) (fun _ hk => hk.2)) (fun _ hk => ⟨hk.1.1.1, hk.1.1.2.1⟩)) (fun _ h_ => by simpa only [and_assoc, and_comm, and_left_comm] using h_), by repeat (first | (with_reducible first | exact HB.out | apply below_alloc | apply pw_below_drewN | apply below_drew1 | refine below_set ?_ (IsS87.ge HI357.out) | refine below_set ?_ GE353.out | refine below_set ?_ GE354.out | refine below_set ?_ GE365.out) | exact HB.out)⟩

/-! ### spec_DrawValueEqual: function 43 -/
def spec_DrawValueEqual.f (k : Nat) (l0 : List Int) : Option (Int × Int × ByteArray × (List (S31)) × Int × Int × ByteArray × (List (S31))) := (spec_DrawValueSame.f k l0).bind fun bt383 => (some (bt383.1, bt383.2.1, bt383.2.2.1, bt383.2.2.2.1, bt383.2.2.2.2.1, bt383.2.2.2.2.2.1, bt383.2.2.2.2.2.2.1, bt383.2.2.2.2.2.2.2))
set_option maxHeartbeats 8000000 in
set_option maxRecDepth 100000 in
theorem spec_DrawValueEqual.calls (k : Nat) (A0 : Option Addr) (c0 : Nat) (l0 : List Int) (r1 : Int) (r2 : Int) (r3 : ByteArray) (r4 : List (S31)) (r5 : Int) (r6 : Int) (r7 : ByteArray) (r8 : List (S31)) (w : World) (hr0 : Kd.C (Kd.int .u8) w A0 l0.length l0) (hc0 : l0.length ≤ c0) (h : spec_DrawValueEqual.f k l0 = some (r1, r2, r3, r4, r5, r6, r7, r8)) :
    Calls Try.prog 43 #[.slice A0 l0.length c0] w fun e w' => ∃ v3_ v7_ : Value, e = .returned (.tuple #[.agg #[.int .i64 r1, .int .i64 r2, .string r3, v3_], .agg #[.int .i64 r5, .int .i64 r6, .string r7, v7_]]) ∧ Kd.N k31 31 w' w.heap.size (fun k_ => (w.heap.size ≤ k_) ∧ some k_ ≠ (v7_ : Value).ownBlock) v3_ r4 ∧ Kd.N k31 31 w' w.heap.size (fun k_ => (w.heap.size ≤ k_) ∧ some k_ ≠ (v3_ : Value).ownBlock) v7_ r8 ∧ Below w.heap.size w w' := by
  have hu31 := Try.underlying31
  have HR0 := Aside0.mk hr0
  have HC0 := Aside0.mk hc0
  clear hr0 hc0
  have HB := Aside0.mk (Below.refl w.heap.size w)
  have H : ((spec_DrawValueSame.f k l0).bind fun bt383 => (some (bt383.1, bt383.2.1, bt383.2.2.1, bt383.2.2.2.1, bt383.2.2.2.2.1, bt383.2.2.2.2.2.1, bt383.2.2.2.2.2.2.1, bt383.2.2.2.2.2.2.2))) = some (r1, r2, r3, r4, r5, r6, r7, r8) := h
  clear h
  replace H := Option.bind_eq_some_iff.mp H
  obtain ⟨⟨t383, t384, t385, t386, t389, t390, t391, t392⟩, A20, H⟩ := H
  replace H : (some (t383, t384, t385, t386, t389, t390, t391, t392)) = some (r1, r2, r3, r4, r5, r6, r7, r8) := H
  have A2 := Aside0.mk A20
  clear A20
  simp only [Option.some.injEq, Prod.mk.injEq] at H
  obtain ⟨rfl, rfl, rfl, rfl, rfl, rfl, rfl, rfl⟩ := H
  go_enter Try.func43, Try.ntmps43
  go_wp2_with (first | ((with_reducible refine gate_dst (N := 2) rfl ?_); refine bx_ 2 #[.int .i64 0, .int .i64 0, .string (⟨#[]⟩ : ByteArray), .slice none 0 0] 31 ?_; intro gb381 hg w3 hbox hb; have BK381 := Aside0.mk (hbox); have GW381 := gw_ hg; have GE381 := gw_ hg; replace HB := bs_ hb; clear hb hbox hg) | ((with_reducible refine gate_dst (N := 3) rfl ?_); refine bx_ 3 #[.int .i64 0, .int .i64 0, .string (⟨#[]⟩ : ByteArray), .slice none 0 0] 31 ?_; intro gb382 hg w4 hbox hb; have BK382 := Aside0.mk (hbox); have GW382 := gw_ hg; have GE382 := gw_ hg; have NB381_382 := nlt_ hg BK381; have NB382_381 := ngt_ hg BK381; replace BK381 := bb_ BK381 hb; replace HB := bs_ hb; clear hb hbox hg) | ((with_reducible refine gate_callee (f := 37) rfl ?_); refine goesL_ (some 5) rfl rfl Try.func37 (by kernel_rfl) rfl #[.slice A0 l0.length c0] rfl ar_ ?_; (with_reducible refine (spec_DrawValueSame.calls k _ _ l0 t383 t384 t385 t386 t389 t390 t391 t392 _ ?side1 ?side2 A2.out).mono ?_); (case side1 => exact rdb_ HR0); (case side2 => exact HC0.out); rintro e w5 ⟨v387, v393, rfl, ho0, ho1, hb⟩; refine ⟨_, rfl, ?_⟩; have HO388 := Aside0.mk (Kd.N_lower (Kd.N_mono (ok' := fun k_ => (w.heap.size ≤ k_) ∧ some k_ ≠ (v393 : Value).ownBlock ∧ k_ ≠ gb381 ∧ k_ ≠ gb382) ho0 (fun k_ hk_ => ⟨(Nat.le_trans (below_size (bel_)) hk_.1), hk_.2, (Kd.freshB (g := gb381) (o := .cells #[.int .i64 0, .int .i64 0, .string (⟨#[]⟩ : ByteArray), .slice none 0 0] 31 (0, 0)) (bk_ BK381) k_ hk_.1), (Kd.freshB (g := gb382) (o := .cells #[.int .i64 0, .int .i64 0, .string (⟨#[]⟩ : ByteArray), .slice none 0 0] 31 (0, 0)) (bk_ BK382) k_ hk_.1)⟩)) (below_size (bel_))); have HO394 := Aside0.mk (Kd.N_lower (Kd.N_mono (ok' := fun k_ => (w.heap.size ≤ k_) ∧ some k_ ≠ (v387 : Value).ownBlock ∧ k_ ≠ gb381 ∧ k_ ≠ gb382) ho1 (fun k_ hk_ => ⟨(Nat.le_trans (below_size (bel_)) hk_.1), hk_.2, (Kd.freshB (g := gb381) (o := .cells #[.int .i64 0, .int .i64 0, .string (⟨#[]⟩ : ByteArray), .slice none 0 0] 31 (0, 0)) (bk_ BK381) k_ hk_.1), (Kd.freshB (g := gb382) (o := .cells #[.int .i64 0, .int .i64 0, .string (⟨#[]⟩ : ByteArray), .slice none 0 0] 31 (0, 0)) (bk_ BK382) k_ hk_.1)⟩)) (below_size (bel_))); replace BK381 := bb_ BK381 hb; replace BK382 := bb_ BK382 hb; replace HB := bs_ hb; (try clear hb); (try clear hb2); (try clear hk); (try clear hi); (try clear ho0); (try clear ho1); have hnb6 := NB381_382.out; have hnc6 := NB382_381.out; obtain ⟨hcz7_0, hcz7_1, hcz7_2, hcz7_3, hfz7_0, hfz7_1, hfz7_2, hfz7_3⟩ := blk4 BK381; obtain ⟨Ao8, co8, eo8⟩ := Kd.N_slice HO388.out; subst eo8; obtain ⟨hcz9_0, hcz9_1, hcz9_2, hcz9_3, hfz9_0, hfz9_1, hfz9_2, hfz9_3⟩ := blk4 BK382; obtain ⟨Ao10, co10, eo10⟩ := Kd.N_slice HO394.out; subst eo10))
  refine bodyPost_ret (results_cc rfl _ _ gb381 gb382 31 31 #[.int .i64 t383, .int .i64 t384, .string t385, .slice Ao8 t386.length co8] #[.int .i64 t389, .int .i64 t390, .string t391, .slice Ao10 t392.length co10] (0, 0) (0, 0) _ _ rfl (by refine pe_ ?_; refine blk_far ?_ NB381_382.out _; refine pe_ ?_; refine blk_far ?_ NB381_382.out _; refine pe_ ?_; refine blk_far ?_ NB381_382.out _; refine pe_ ?_; refine blk_far ?_ NB381_382.out _; refine pe_ ?_; refine blk_put (cs := #[.int .i64 t383, .int .i64 t384, .string t385, .slice none 0 0]) ?_ 3 _ rfl; refine pe_ ?_; refine blk_put (cs := #[.int .i64 t383, .int .i64 t384, .string (⟨#[]⟩ : ByteArray), .slice none 0 0]) ?_ 2 _ rfl; refine pe_ ?_; refine blk_put (cs := #[.int .i64 t383, .int .i64 0, .string (⟨#[]⟩ : ByteArray), .slice none 0 0]) ?_ 1 _ rfl; refine pe_ ?_; refine blk_put (cs := #[.int .i64 0, .int .i64 0, .string (⟨#[]⟩ : ByteArray), .slice none 0 0]) ?_ 0 _ rfl; refine pe_ ?_; exact BK381.out) Try.underlying31 rfl (by kernel_rfl) rfl (by refine pe_ ?_; refine blk_put (cs := #[.int .i64 t389, .int .i64 t390, .string t391, .slice none 0 0]) ?_ 3 _ rfl; refine pe_ ?_; refine blk_put (cs := #[.int .i64 t389, .int .i64 t390, .string (⟨#[]⟩ : ByteArray), .slice none 0 0]) ?_ 2 _ rfl; refine pe_ ?_; refine blk_put (cs := #[.int .i64 t389, .int .i64 0, .string (⟨#[]⟩ : ByteArray), .slice none 0 0]) ?_ 1 _ rfl; refine pe_ ?_; refine blk_put (cs := #[.int .i64 0, .int .i64 0, .string (⟨#[]⟩ : ByteArray), .slice none 0 0]) ?_ 0 _ rfl; refine pe_ ?_; refine blk_far ?_ NB382_381.out _; refine pe_ ?_; refine blk_far ?_ NB382_381.out _; refine pe_ ?_; refine blk_far ?_ NB382_381.out _; refine pe_ ?_; refine blk_far ?_ NB382_381.out _; refine pe_ ?_; exact BK382.out) Try.underlying31 rfl (by kernel_rfl)) rfl ?_
  exact ⟨_, _, by first | rfl | (simp [errW_none, errW_some] <;> rfl) | (simp [*, errW_none, errW_some] <;> rfl), by (with_reducible repeat (first | apply Kd.N_alloc | apply Kd.N_drewN | apply Kd.N_drew)); first | exact Kd.N_mono (nf4 gb382 (nf4 gb381 (Kd.N_mono (Kd.N_mono HO388.out (fun k_ hk => (⟨hk, hk.2.2.1⟩ : _ ∧ k_ ≠ gb381))) (fun k_ hk => (⟨hk, hk.1.2.2.2⟩ : _ ∧ k_ ≠ gb382))) (fun _ hk => hk.1.2)) (fun _ hk => hk.2)) (fun _ hk => ⟨hk.1.1.1, hk.1.1.2.1⟩) | exact Kd.N_mono (Kd.N_mono (nf4 gb382 (nf4 gb381 (Kd.N_mono (Kd.N_mono HO388.out (fun k_ hk => (⟨hk, hk.2.2.1⟩ : _ ∧ k_ ≠ gb381))) (fun k_ hk => (⟨hk, hk.1.2.2.2⟩ : _ ∧ k_ ≠ gb382))) (fun _ hk => hk.1.2)) (fun _ hk => hk.2)) (fun _ hk => ⟨hk.1.1.1, hk.1.1.2.1⟩)) (fun _ h_ => by simpa only [and_assoc, and_comm, and_left_comm] using h_), by (with_reducible repeat (first | apply Kd.N_alloc | apply Kd.N_drewN | apply Kd.N_drew)); first | exact Kd.N_mono (nf4 gb382 (nf4 gb381 (Kd.N_mono (Kd.N_mono HO394.out (fun k_ hk => (⟨hk, hk.2.2.1⟩ : _ ∧ k_ ≠ gb381))) (fun k_ hk => (⟨hk, hk.1.2.2.2⟩ : _ ∧ k_ ≠ gb382))) (fun _ hk => hk.1.2)) (fun _ hk => hk.2)) (fun _ hk => ⟨hk.1.1.1, hk.1.1.2.1⟩) | exact Kd.N_mono (Kd.N_mono (nf4 gb382 (nf4 gb381 (Kd.N_mono (Kd.N_mono HO394.out (fun k_ hk => (⟨hk, hk.2.2.1⟩ : _ ∧ k_ ≠ gb381))) (fun k_ hk => (⟨hk, hk.1.2.2.2⟩ : _ ∧ k_ ≠ gb382))) (fun _ hk => hk.1.2)) (fun _ hk => hk.2)) (fun _ hk => ⟨hk.1.1.1, hk.1.1.2.1⟩)) (fun _ h_ => by simpa only [and_assoc, and_comm, and_left_comm] using h_), bel_⟩

/-! ### laws_asNull: function 44 -/
mutual
def laws_asNull.l0 : Nat → Int → Int → Int → ByteArray → List (S31) → Option (Bool)
  | 0, _, _, _, _, _ => none
  | k + 1, x3, x396000, x396001, x396002, x396003 => if x3 < (x396003.length : Int) then (if 0 ≤ x3 then ((laws_asNull.f k ((rd_T31 x396003 x3).f0) ((rd_T31 x396003 x3).f1) ((rd_T31 x396003 x3).f2) ((rd_T31 x396003 x3).f3)).bind fun t397 => (if t397 = true then (some true) else (laws_asNull.l0 k (wrap64 (x3 + 1)) x396000 x396001 x396002 x396003))) else (none)) else (some (x396000 == 0))
def laws_asNull.f : Nat → Int → Int → ByteArray → List (S31) → Option (Bool)
  | 0, _, _, _, _ => none
  | k + 1, a0_0, a0_1, a0_2, l0_3 => laws_asNull.l0 k 0 a0_0 a0_1 a0_2 l0_3
end
set_option maxHeartbeats 8000000 in
set_option maxRecDepth 100000 in
theorem laws_asNull.calls (k : Nat) : ∀ (a0_0 : Int) (a0_1 : Int) (a0_2 : ByteArray) (A0_3 : Option Addr) (c0_3 : Nat) (l0_3 : List (S31)) (r : Bool) (w : World) (hr0_3 : Kd.C k31 w A0_3 l0_3.length l0_3) (hc0_3 : l0_3.length ≤ c0_3) (h : laws_asNull.f k a0_0 a0_1 a0_2 l0_3 = some r),
    Calls Try.prog 44 #[.agg #[.int .i64 a0_0, .int .i64 a0_1, .string a0_2, .slice A0_3 l0_3.length c0_3]] w fun e w' => e = .returned (.bool r) ∧ Below w.heap.size w w' := by
  induction k using Nat.strongRecOn with
  | _ k ih =>
  intro a0_0 a0_1 a0_2 A0_3 c0_3 l0_3 r w hr0_3 hc0_3 h
  cases k with
  | zero => exact absurd h (by simp [laws_asNull.f])
  | succ k =>
  simp only [laws_asNull.f] at h
  have hu31 := Try.underlying31
  have HR0_3 := Aside0.mk hr0_3
  have HC0_3 := Aside0.mk hc0_3
  clear hr0_3 hc0_3
  have HB := Aside0.mk (Below.refl w.heap.size w)
  have H : (laws_asNull.l0 k 0 a0_0 a0_1 a0_2 l0_3) = some r := h
  clear h
  have H' := Aside0.mk H
  clear H
  go_enter Try.func44, Try.ntmps44
  go_wp2_with (first | ((with_reducible refine gate_dst (N := 1) rfl ?_); refine bx_ 1 #[.int .i64 a0_0, .int .i64 a0_1, .string a0_2, .slice A0_3 l0_3.length c0_3] 31 ?_; intro gb395 hg w2 hbox hb; have BK395 := Aside0.mk (hbox); have GW395 := gw_ hg; have GE395 := gw_ hg; replace HB := bs_ hb; clear hb hbox hg))
  go_loopg [3] k (fun kq v3 w' => ∃ (x3_1 : Int), v3 = .int .i64 x3_1 ∧ Aside0 (laws_asNull.l0 kq x3_1 a0_0 a0_1 a0_2 l0_3 = some r) ∧ Aside0 (kq ≤ k) ∧ Aside0 (w'.heap[gb395]? = some (.cells #[.int .i64 a0_0, .int .i64 a0_1, .string a0_2, (.slice A0_3 l0_3.length c0_3)] 31 (0, 0))) ∧ Aside0 (Below w.heap.size w w'))
  case atStart => exact ⟨(0), sm_, H', ⟨Nat.le_refl _⟩, ⟨by refine pe_ ?_; exact BK395.out⟩, ⟨bel_⟩⟩
  case round =>
    clear H'
    try clear p2
    obtain ⟨x3_1, rfl, HA, HK1, BK395, HB⟩ := hrel
    cases gk with
    | zero => exact absurd HA.out (by simp [laws_asNull.l0])
    | succ k1 =>
      have H := HA.out
      clear HA
      simp only [laws_asNull.l0] at H
      by_cases c3 : x3_1 < (l0_3.length : Int)
      rotate_left
      · rw [if_neg c3] at H
        have c3b0 : decide (x3_1 < (l0_3.length : Int)) = false := decide_eq_false c3
        clear c3
        obtain rfl := Option.some.inj H
        obtain ⟨hcz11_0, hcz11_1, hcz11_2, hcz11_3, hfz11_0, hfz11_1, hfz11_2, hfz11_3⟩ := blk4 BK395
        go_wp2
        go_ret
        exact re_
      rw [if_pos c3] at H
      have c3b0 : decide (x3_1 < (l0_3.length : Int)) = true := decide_eq_true c3
      clear c3
      by_cases c4 : 0 ≤ x3_1
      rotate_left
      · rw [if_neg c4] at H
        exact absurd H (by simp)
      rw [if_pos c4] at H
      have c4b0 : decide (0 ≤ x3_1) = true := decide_eq_true c4
      clear c4
      replace H := Option.bind_eq_some_iff.mp H
      obtain ⟨t397, A50, H⟩ := H
      replace H : (if t397 = true then (some true) else (laws_asNull.l0 k1 (wrap64 (x3_1 + 1)) a0_0 a0_1 a0_2 l0_3)) = some r := H
      have A5 := Aside0.mk A50
      clear A50
      by_cases c6 : t397 = true
      · subst c6
        have H1 : (some true) = some r := by rw [if_pos rfl] at H; exact H
        clear H
        have H := H1
        clear H1
        obtain rfl := Option.some.inj H
        obtain ⟨hcz7_0, hcz7_1, hcz7_2, hcz7_3, hfz7_0, hfz7_1, hfz7_2, hfz7_3⟩ := blk4 BK395
        have p396 : 0 ≤ (x3_1 : Int) := od_
        have q396 : x3_1 < (l0_3.length : Int) := od_
        obtain ⟨ad396, A396_3, c396_3, e396, hx396_0, hx396_1, hx396_2, hx396_3, hl396_3, hi396_3⟩ := at_T31 HR0_3.out x3_1 p396 q396
        cases e396
        replace hx396_0 := mv_ HB hx396_0
        replace hx396_1 := mv_ HB hx396_1
        replace hx396_2 := mv_ HB hx396_2
        replace hx396_3 := mv_ HB hx396_3
        have HR396_3 := Aside0.mk hi396_3
        have HC396_3 := Aside0.mk hl396_3
        clear hi396_3 hl396_3
        replace p396 := eq_true p396
        replace q396 := eq_true q396
        go_wp2_with (first | ((with_reducible refine gate_callee (f := 44) rfl ?_); refine goesL_ (some 16) rfl rfl Try.func44 (by kernel_rfl) rfl #[.agg #[.int .i64 ((rd_T31 l0_3 x3_1).f0), .int .i64 ((rd_T31 l0_3 x3_1).f1), .string ((rd_T31 l0_3 x3_1).f2), .slice A396_3 ((rd_T31 l0_3 x3_1).f3).length c396_3]] rfl ar_ ?_; (with_reducible refine (ih k1 (by have := HK1.out; omega) ((rd_T31 l0_3 x3_1).f0) ((rd_T31 l0_3 x3_1).f1) ((rd_T31 l0_3 x3_1).f2) _ _ ((rd_T31 l0_3 x3_1).f3) true _ ?side1 ?side2 A5.out).mono ?_); (case side1 => exact rdb_ HR396_3); (case side2 => exact HC396_3.out); rintro e w8 ⟨rfl, hb⟩; refine ⟨_, rfl, ?_⟩; replace BK395 := bb_ BK395 hb; replace HB := bs_ hb; (try clear hb); (try clear hb2); (try clear hk); (try clear hi)))
        go_ret
        exact re_
      replace c6 := Bool.eq_false_iff.mpr c6
      subst c6
      have H1 : (laws_asNull.l0 k1 (wrap64 (x3_1 + 1)) a0_0 a0_1 a0_2 l0_3) = some r := by rw [if_neg (show ¬ (false = true) by decide)] at H; exact H
      clear H
      have H := H1
      clear H1
      have H' := Aside0.mk H
      clear H
      obtain ⟨hcz9_0, hcz9_1, hcz9_2, hcz9_3, hfz9_0, hfz9_1, hfz9_2, hfz9_3⟩ := blk4 BK395
      have p396 : 0 ≤ (x3_1 : Int) := od_
      have q396 : x3_1 < (l0_3.length : Int) := od_
      obtain ⟨ad396, A396_3, c396_3, e396, hx396_0, hx396_1, hx396_2, hx396_3, hl396_3, hi396_3⟩ := at_T31 HR0_3.out x3_1 p396 q396
      cases e396
      replace hx396_0 := mv_ HB hx396_0
      replace hx396_1 := mv_ HB hx396_1
      replace hx396_2 := mv_ HB hx396_2
      replace hx396_3 := mv_ HB hx396_3
      have HR396_3 := Aside0.mk hi396_3
      have HC396_3 := Aside0.mk hl396_3
      clear hi396_3 hl396_3
      replace p396 := eq_true p396
      replace q396 := eq_true q396
      go_wp2_with (first | ((with_reducible refine gate_callee (f := 44) rfl ?_); refine goesL_ (some 16) rfl rfl Try.func44 (by kernel_rfl) rfl #[.agg #[.int .i64 ((rd_T31 l0_3 x3_1).f0), .int .i64 ((rd_T31 l0_3 x3_1).f1), .string ((rd_T31 l0_3 x3_1).f2), .slice A396_3 ((rd_T31 l0_3 x3_1).f3).length c396_3]] rfl ar_ ?_; (with_reducible refine (ih k1 (by have := HK1.out; omega) ((rd_T31 l0_3 x3_1).f0) ((rd_T31 l0_3 x3_1).f1) ((rd_T31 l0_3 x3_1).f2) _ _ ((rd_T31 l0_3 x3_1).f3) false _ ?side1 ?side2 A5.out).mono ?_); (case side1 => exact rdb_ HR396_3); (case side2 => exact HC396_3.out); rintro e w10 ⟨rfl, hb⟩; refine ⟨_, rfl, ?_⟩; replace BK395 := bb_ BK395 hb; replace HB := bs_ hb; (try clear hb); (try clear hb2); (try clear hk); (try clear hi)))
      go_roundg k1
      case measure => have := HK1.out; omega
      case rel => exact ⟨(wrap64 (x3_1 + 1)), sm_, H', ⟨by have := HK1.out; omega⟩, ⟨by refine pe_ ?_; exact BK395.out⟩, ⟨bel_⟩⟩

end Go.Proofs.Ytejikddbdhahaaa.G
