-- Printed by a program of this claim's writer (wip/gen), out of the translation. Lean checks it.
import Derived.Test.YtejikddbdhahaaaGx0
import Derived.Test.YtejikddbdhahaaaGx2
import Derived.Test.YtejikddbdhahaaaGx3
import Derived.Test.YtejikddbdhahaaaGx6
import Derived.Test.YtejikddbdhahaaaGx10
import Derived.Test.YtejikddbdhahaaaGx14
namespace Go.Proofs.Ytejikddbdhahaaa.G
open Go.RowKit Go.Proofs.YtejikddbdhahaaaW.PrintWords Go.Proofs.YtejikddbdhahaaaW.PrintLast Go.Proofs.YtejikddbdhahaaaW.PrintMore
attribute [local go_sem] max2_int min2_int max_two min_two max_three min_three max_four min_four Own.str_gtr Own.str_leq Own.str_geq   -- for this text's walks alone
open Own
set_option linter.unusedVariables false
set_option linter.unusedSimpArgs false

/-! ### laws_FnValueEqual: function 13 -/
def laws_FnValueEqual.j0 : Nat → Bool → Int → Int → ByteArray → List (S31) → Int → Int → ByteArray → List (S31) → Int → Int → ByteArray → List (S31) → Option (Bool)
  | 0, _, _, _, _, _, _, _, _, _, _, _, _, _ => none
  | k + 1, x40, x411000, x411001, x411002, x411003, x412000, x412001, x412002, x412003, x419000, x419001, x419002, x419003 => if x40 = true then ((spec_ValueEqual.f k x411000 x411001 x411002 x411003 x412000 x412001 x412002 x412003).bind fun bt435 => ((laws_asValue.f k x419000 x419001 x419002 x419003 bt435.1 bt435.2.1 bt435.2.2.1 bt435.2.2.2).bind fun t441 => (if t441 = true then ((impl_ValueEqual.f k x412000 x412001 x412002 x412003 x411000 x411001 x411002 x411003).bind fun bt442 => ((laws_asValue.f k bt442.1 bt442.2.1 bt442.2.2.1 bt442.2.2.2 x419000 x419001 x419002 x419003).bind fun t448 => (some t448))) else (some false)))) else ((laws_asNull.f k x411000 x411001 x411002 x411003).bind fun t449 => (if t449 = true then (if x419000 = 0 then (some true) else (some (x419001 == 0))) else ((laws_asNull.f k x412000 x412001 x412002 x412003).bind fun t450 => (if t450 = true then (if x419000 = 0 then (some true) else (some (x419001 == 0))) else (if x419000 = 1 then ((laws_asValue.f k x411000 x411001 x411002 x411003 x412000 x412001 x412002 x412003).bind fun t451 => (some ((x419001 == 1) == t451))) else (some false))))))
def laws_FnValueEqual.f (k : Nat) (l0 : List Int) : Option (Bool) := if (l0.length : Int) > 1048576 then (some true) else ((spec_DrawValueEqual.f k l0).bind fun bt398 => ((impl_ValueEqual.f k bt398.1 bt398.2.1 bt398.2.2.1 bt398.2.2.2.1 bt398.2.2.2.2.1 bt398.2.2.2.2.2.1 bt398.2.2.2.2.2.2.1 bt398.2.2.2.2.2.2.2).bind fun bt412 => ((spec_ValueEqual.f k bt398.1 bt398.2.1 bt398.2.2.1 bt398.2.2.2.1 bt398.2.2.2.2.1 bt398.2.2.2.2.2.1 bt398.2.2.2.2.2.2.1 bt398.2.2.2.2.2.2.2).bind fun bt419 => ((laws_asValue.f k bt412.1 bt412.2.1 bt412.2.2.1 bt412.2.2.2 bt419.1 bt419.2.1 bt419.2.2.1 bt419.2.2.2).bind fun t425 => (if t425 = true then ((impl_ValueEqual.f k bt398.2.2.2.2.1 bt398.2.2.2.2.2.1 bt398.2.2.2.2.2.2.1 bt398.2.2.2.2.2.2.2 bt398.1 bt398.2.1 bt398.2.2.1 bt398.2.2.2.1).bind fun bt426 => ((laws_asValue.f k bt426.1 bt426.2.1 bt426.2.2.1 bt426.2.2.2 bt412.1 bt412.2.1 bt412.2.2.1 bt412.2.2.2).bind fun t432 => (if t432 = true then ((spec_ValueOk.f k bt398.1 bt398.2.1 bt398.2.2.1 bt398.2.2.2.1).bind fun t433 => (if t433 = true then ((spec_ValueOk.f k bt398.2.2.2.2.1 bt398.2.2.2.2.2.1 bt398.2.2.2.2.2.2.1 bt398.2.2.2.2.2.2.2).bind fun t434 => (laws_FnValueEqual.j0 k (!t434) bt398.1 bt398.2.1 bt398.2.2.1 bt398.2.2.2.1 bt398.2.2.2.2.1 bt398.2.2.2.2.2.1 bt398.2.2.2.2.2.2.1 bt398.2.2.2.2.2.2.2 bt412.1 bt412.2.1 bt412.2.2.1 bt412.2.2.2)) else (laws_FnValueEqual.j0 k true bt398.1 bt398.2.1 bt398.2.2.1 bt398.2.2.2.1 bt398.2.2.2.2.1 bt398.2.2.2.2.2.1 bt398.2.2.2.2.2.2.1 bt398.2.2.2.2.2.2.2 bt412.1 bt412.2.1 bt412.2.2.1 bt412.2.2.2))) else (laws_FnValueEqual.j0 k true bt398.1 bt398.2.1 bt398.2.2.1 bt398.2.2.2.1 bt398.2.2.2.2.1 bt398.2.2.2.2.2.1 bt398.2.2.2.2.2.2.1 bt398.2.2.2.2.2.2.2 bt412.1 bt412.2.1 bt412.2.2.1 bt412.2.2.2)))) else (laws_FnValueEqual.j0 k true bt398.1 bt398.2.1 bt398.2.2.1 bt398.2.2.2.1 bt398.2.2.2.2.1 bt398.2.2.2.2.2.1 bt398.2.2.2.2.2.2.1 bt398.2.2.2.2.2.2.2 bt412.1 bt412.2.1 bt412.2.2.1 bt412.2.2.2))))))
def laws_FnValueEqual.T5 : Bool × List (List Nat × List Nat) := (true, [([], []), ([], []), ([], []), ([1, 2], [1, 2]), ([0, 3, 3], [0, 3]), ([4], [4]), ([5, 4], [5]), ([6], [6]), ([6], [6]), ([7, 8, 6, 6], [6, 7, 8]), ([6], [6]), ([9, 10, 9, 6], [6, 9, 10]), ([11, 6], [6, 11]), ([6, 12], [6, 12]), ([13, 11], [13]), ([14], [14]), ([15, 14, 14], [14, 15]), ([16, 14], [14, 16]), ([14, 17], [14, 17]), ([18, 16], [18]), ([19], [19]), ([20, 19, 19], [19, 20]), ([21, 19], [19, 21]), ([19, 22], [19, 22])])
def laws_FnValueEqual.B5 : List Nat := [0, 0, 0, 6, 15, 31, 63, 127, 127, 511, 127, 2047, 4095, 8191, 16383, 32767, 65535, 131071, 262143, 524287, 1048575, 2097151, 4194303, 8388607]
theorem laws_FnValueEqual.tab5 : rtab .any (opsOf Try.f13 5) = laws_FnValueEqual.T5 := by kernel_rfl
theorem laws_FnValueEqual.bits5 : waitsOk laws_FnValueEqual.T5.2 laws_FnValueEqual.B5 = true := by kernel_rfl
def laws_FnValueEqual.T6 : Bool × List (List Nat × List Nat) := (true, [([], []), ([], []), ([], []), ([1, 2], [1, 2]), ([0, 3, 3], [0, 3]), ([4, 4], [4]), ([5], [5]), ([5], [5]), ([6, 7, 5, 5], [5, 6, 7]), ([5], [5]), ([8, 9, 8, 5], [5, 8, 9]), ([5, 10], [5, 10]), ([11, 10, 0, 1, 2, 3, 4, 5, 6, 7, 8, 9, 10, 11], [11])])
def laws_FnValueEqual.B6 : List Nat := [0, 0, 0, 6, 15, 31, 63, 63, 255, 63, 1023, 2047, 4095]
theorem laws_FnValueEqual.tab6 : rtab .any (opsOf Try.f13 6) = laws_FnValueEqual.T6 := by kernel_rfl
theorem laws_FnValueEqual.bits6 : waitsOk laws_FnValueEqual.T6.2 laws_FnValueEqual.B6 = true := by kernel_rfl
def laws_FnValueEqual.T9 : Bool × List (List Nat × List Nat) := (true, [([], []), ([0], [0]), ([1], [1]), ([2], [2]), ([3], [3]), ([4, 3], [3, 4]), ([5, 3], [3, 5]), ([3], [3]), ([3], [3]), ([7, 8, 3, 3], [3, 7, 8]), ([6, 9, 3], [3, 6, 9]), ([3, 10], [3, 10]), ([11, 9, 0, 1, 2, 3, 4, 5, 6, 7, 8, 9, 10, 11], [11])])
def laws_FnValueEqual.B9 : List Nat := [0, 1, 3, 7, 15, 31, 63, 15, 15, 399, 1023, 2047, 4095]
theorem laws_FnValueEqual.tab9 : rtab .any (opsOf Try.f13 9) = laws_FnValueEqual.T9 := by kernel_rfl
theorem laws_FnValueEqual.bits9 : waitsOk laws_FnValueEqual.T9.2 laws_FnValueEqual.B9 = true := by kernel_rfl
set_option maxHeartbeats 8000000 in
set_option maxRecDepth 100000 in
theorem laws_FnValueEqual.calls (k : Nat) (A0 : Option Addr) (c0 : Nat) (l0 : List Int) (r : Bool) (w : World) (hr0 : Kd.C (Kd.int .u8) w A0 l0.length l0) (hc0 : l0.length ≤ c0) (h : laws_FnValueEqual.f k l0 = some r) :
    Calls Try.prog 13 #[.slice A0 l0.length c0] w fun e w' => e = .returned (.bool r) ∧ Below w.heap.size w w' := by
  have hu31 := Try.underlying31
  have HR0 := Aside0.mk hr0
  have HC0 := Aside0.mk hc0
  clear hr0 hc0
  have HB := Aside0.mk (Below.refl w.heap.size w)
  have H : (if (l0.length : Int) > 1048576 then (some true) else ((spec_DrawValueEqual.f k l0).bind fun bt398 => ((impl_ValueEqual.f k bt398.1 bt398.2.1 bt398.2.2.1 bt398.2.2.2.1 bt398.2.2.2.2.1 bt398.2.2.2.2.2.1 bt398.2.2.2.2.2.2.1 bt398.2.2.2.2.2.2.2).bind fun bt412 => ((spec_ValueEqual.f k bt398.1 bt398.2.1 bt398.2.2.1 bt398.2.2.2.1 bt398.2.2.2.2.1 bt398.2.2.2.2.2.1 bt398.2.2.2.2.2.2.1 bt398.2.2.2.2.2.2.2).bind fun bt419 => ((laws_asValue.f k bt412.1 bt412.2.1 bt412.2.2.1 bt412.2.2.2 bt419.1 bt419.2.1 bt419.2.2.1 bt419.2.2.2).bind fun t425 => (if t425 = true then ((impl_ValueEqual.f k bt398.2.2.2.2.1 bt398.2.2.2.2.2.1 bt398.2.2.2.2.2.2.1 bt398.2.2.2.2.2.2.2 bt398.1 bt398.2.1 bt398.2.2.1 bt398.2.2.2.1).bind fun bt426 => ((laws_asValue.f k bt426.1 bt426.2.1 bt426.2.2.1 bt426.2.2.2 bt412.1 bt412.2.1 bt412.2.2.1 bt412.2.2.2).bind fun t432 => (if t432 = true then ((spec_ValueOk.f k bt398.1 bt398.2.1 bt398.2.2.1 bt398.2.2.2.1).bind fun t433 => (if t433 = true then ((spec_ValueOk.f k bt398.2.2.2.2.1 bt398.2.2.2.2.2.1 bt398.2.2.2.2.2.2.1 bt398.2.2.2.2.2.2.2).bind fun t434 => (laws_FnValueEqual.j0 k (!t434) bt398.1 bt398.2.1 bt398.2.2.1 bt398.2.2.2.1 bt398.2.2.2.2.1 bt398.2.2.2.2.2.1 bt398.2.2.2.2.2.2.1 bt398.2.2.2.2.2.2.2 bt412.1 bt412.2.1 bt412.2.2.1 bt412.2.2.2)) else (laws_FnValueEqual.j0 k true bt398.1 bt398.2.1 bt398.2.2.1 bt398.2.2.2.1 bt398.2.2.2.2.1 bt398.2.2.2.2.2.1 bt398.2.2.2.2.2.2.1 bt398.2.2.2.2.2.2.2 bt412.1 bt412.2.1 bt412.2.2.1 bt412.2.2.2))) else (laws_FnValueEqual.j0 k true bt398.1 bt398.2.1 bt398.2.2.1 bt398.2.2.2.1 bt398.2.2.2.2.1 bt398.2.2.2.2.2.1 bt398.2.2.2.2.2.2.1 bt398.2.2.2.2.2.2.2 bt412.1 bt412.2.1 bt412.2.2.1 bt412.2.2.2)))) else (laws_FnValueEqual.j0 k true bt398.1 bt398.2.1 bt398.2.2.1 bt398.2.2.2.1 bt398.2.2.2.2.1 bt398.2.2.2.2.2.1 bt398.2.2.2.2.2.2.1 bt398.2.2.2.2.2.2.2 bt412.1 bt412.2.1 bt412.2.2.1 bt412.2.2.2))))))) = some r := h
  clear h
  by_cases c2 : (l0.length : Int) > 1048576
  · rw [if_pos c2] at H
    have c2b0 : decide (1048576 < (l0.length : Int)) = true := decide_eq_true c2
    have c2b1 : decide (1048576 < l0.length) = true := decide_eq_true (by omega)
    clear c2
    obtain rfl := Option.some.inj H
    go_enter Try.func13, Try.ntmps13
    go_wp2
    go_ret
    exact re_
  rw [if_neg c2] at H
  have c2b0 : decide (1048576 < (l0.length : Int)) = false := decide_eq_false c2
  have c2b1 : decide (1048576 < l0.length) = false := decide_eq_false (by omega)
  clear c2
  replace H := Option.bind_eq_some_iff.mp H
  obtain ⟨⟨t398, t399, t400, t401, t404, t405, t406, t407⟩, A30, H⟩ := H
  replace H : ((impl_ValueEqual.f k t398 t399 t400 t401 t404 t405 t406 t407).bind fun bt412 => ((spec_ValueEqual.f k t398 t399 t400 t401 t404 t405 t406 t407).bind fun bt419 => ((laws_asValue.f k bt412.1 bt412.2.1 bt412.2.2.1 bt412.2.2.2 bt419.1 bt419.2.1 bt419.2.2.1 bt419.2.2.2).bind fun t425 => (if t425 = true then ((impl_ValueEqual.f k t404 t405 t406 t407 t398 t399 t400 t401).bind fun bt426 => ((laws_asValue.f k bt426.1 bt426.2.1 bt426.2.2.1 bt426.2.2.2 bt412.1 bt412.2.1 bt412.2.2.1 bt412.2.2.2).bind fun t432 => (if t432 = true then ((spec_ValueOk.f k t398 t399 t400 t401).bind fun t433 => (if t433 = true then ((spec_ValueOk.f k t404 t405 t406 t407).bind fun t434 => (laws_FnValueEqual.j0 k (!t434) t398 t399 t400 t401 t404 t405 t406 t407 bt412.1 bt412.2.1 bt412.2.2.1 bt412.2.2.2)) else (laws_FnValueEqual.j0 k true t398 t399 t400 t401 t404 t405 t406 t407 bt412.1 bt412.2.1 bt412.2.2.1 bt412.2.2.2))) else (laws_FnValueEqual.j0 k true t398 t399 t400 t401 t404 t405 t406 t407 bt412.1 bt412.2.1 bt412.2.2.1 bt412.2.2.2)))) else (laws_FnValueEqual.j0 k true t398 t399 t400 t401 t404 t405 t406 t407 bt412.1 bt412.2.1 bt412.2.2.1 bt412.2.2.2))))) = some r := H
  have A3 := Aside0.mk A30
  clear A30
  replace H := Option.bind_eq_some_iff.mp H
  obtain ⟨⟨t412, t413, t414, t415⟩, A40, H⟩ := H
  replace H : ((spec_ValueEqual.f k t398 t399 t400 t401 t404 t405 t406 t407).bind fun bt419 => ((laws_asValue.f k t412 t413 t414 t415 bt419.1 bt419.2.1 bt419.2.2.1 bt419.2.2.2).bind fun t425 => (if t425 = true then ((impl_ValueEqual.f k t404 t405 t406 t407 t398 t399 t400 t401).bind fun bt426 => ((laws_asValue.f k bt426.1 bt426.2.1 bt426.2.2.1 bt426.2.2.2 t412 t413 t414 t415).bind fun t432 => (if t432 = true then ((spec_ValueOk.f k t398 t399 t400 t401).bind fun t433 => (if t433 = true then ((spec_ValueOk.f k t404 t405 t406 t407).bind fun t434 => (laws_FnValueEqual.j0 k (!t434) t398 t399 t400 t401 t404 t405 t406 t407 t412 t413 t414 t415)) else (laws_FnValueEqual.j0 k true t398 t399 t400 t401 t404 t405 t406 t407 t412 t413 t414 t415))) else (laws_FnValueEqual.j0 k true t398 t399 t400 t401 t404 t405 t406 t407 t412 t413 t414 t415)))) else (laws_FnValueEqual.j0 k true t398 t399 t400 t401 t404 t405 t406 t407 t412 t413 t414 t415)))) = some r := H
  have A4 := Aside0.mk A40
  clear A40
  have HC5 := Aside0.mk H
  clear H
  go_enter Try.func13, Try.ntmps13
  go_upto_region 5 with (first | ((with_reducible refine gate_callee (f := 43) rfl ?_); refine goesL_ (some 11) rfl rfl Try.func43 (by kernel_rfl) rfl #[.slice A0 l0.length c0] rfl ar_ ?_; (with_reducible refine (spec_DrawValueEqual.calls k _ _ l0 t398 t399 t400 t401 t404 t405 t406 t407 _ ?side1 ?side2 A3.out).mono ?_); (case side1 => repeat (first | exact HR0.out | (with_reducible refine Kd.C_alloc ?_ _) | (with_reducible refine Kd.C_drewN ?_ _) | (with_reducible refine Kd.C_drew ?_))); (case side2 => exact HC0.out); rintro e w6 ⟨v402, v408, rfl, ho0, ho1, hb⟩; refine ⟨_, rfl, ?_⟩; have HO403 := Aside0.mk (Kd.N_lower (Kd.N_mono (ok' := fun k_ => some k_ ≠ (v408 : Value).ownBlock) ho0 (fun k_ hk_ => hk_.2)) (below_size (bel_))); have HO409 := Aside0.mk (Kd.N_lower (Kd.N_mono (ok' := fun k_ => some k_ ≠ (v402 : Value).ownBlock) ho1 (fun k_ hk_ => hk_.2)) (below_size (bel_))); replace HB := bs_ hb; (try clear hb); (try clear hb2); (try clear hk); (try clear hi); (try clear ho0); (try clear ho1)) | ((with_reducible refine gate_dst (N := 3) rfl ?_); refine bx_ 3 #[.int .i64 0, .int .i64 0, .string (⟨#[]⟩ : ByteArray), .slice none 0 0] 31 ?_; intro gb410 hg w7 hbox hb; have BK410 := Aside0.mk (hbox); have GW410 := gw_ hg; have GE410 := gw_ hg; replace HO403 := Aside0.mk (Kd.N_below (Kd.N_elderB (by (with_reducible repeat (first | apply Kd.N_alloc | apply Kd.N_drewN | apply Kd.N_drew)); first | exact HO403.out | exact Kd.N_mono (HO403.out) (fun _ h_ => by simpa only [and_assoc, and_comm, and_left_comm] using h_)) gb410 (Nat.le_of_eq hg.symm)) hb); replace HO409 := Aside0.mk (Kd.N_below (Kd.N_elderB (by (with_reducible repeat (first | apply Kd.N_alloc | apply Kd.N_drewN | apply Kd.N_drew)); first | exact HO409.out | exact Kd.N_mono (HO409.out) (fun _ h_ => by simpa only [and_assoc, and_comm, and_left_comm] using h_)) gb410 (Nat.le_of_eq hg.symm)) hb); replace HB := bs_ hb; clear hb hbox hg) | ((with_reducible refine gate_dst (N := 4) rfl ?_); refine bx_ 4 #[.int .i64 0, .int .i64 0, .string (⟨#[]⟩ : ByteArray), .slice none 0 0] 31 ?_; intro gb411 hg w8 hbox hb; have BK411 := Aside0.mk (hbox); have GW411 := gw_ hg; have GE411 := gw_ hg; have NB410_411 := nlt_ hg BK410; have NB411_410 := ngt_ hg BK410; replace HO403 := Aside0.mk (Kd.N_below (Kd.N_elderB (by (with_reducible repeat (first | apply Kd.N_alloc | apply Kd.N_drewN | apply Kd.N_drew)); first | exact HO403.out | exact Kd.N_mono (HO403.out) (fun _ h_ => by simpa only [and_assoc, and_comm, and_left_comm] using h_)) gb411 (Nat.le_of_eq hg.symm)) hb); replace HO409 := Aside0.mk (Kd.N_below (Kd.N_elderB (by (with_reducible repeat (first | apply Kd.N_alloc | apply Kd.N_drewN | apply Kd.N_drew)); first | exact HO409.out | exact Kd.N_mono (HO409.out) (fun _ h_ => by simpa only [and_assoc, and_comm, and_left_comm] using h_)) gb411 (Nat.le_of_eq hg.symm)) hb); replace BK410 := bb_ BK410 hb; replace HB := bs_ hb; clear hb hbox hg; have hnb9 := NB410_411.out; have hnc9 := NB411_410.out; obtain ⟨hcz10_0, hcz10_1, hcz10_2, hcz10_3, hfz10_0, hfz10_1, hfz10_2, hfz10_3⟩ := blk4 BK410; obtain ⟨Ao11, co11, eo11⟩ := Kd.N_slice HO403.out; subst eo11; obtain ⟨hcz12_0, hcz12_1, hcz12_2, hcz12_3, hfz12_0, hfz12_1, hfz12_2, hfz12_3⟩ := blk4 BK411; obtain ⟨Ao13, co13, eo13⟩ := Kd.N_slice HO409.out; subst eo13) | ((with_reducible refine gate_callee (f := 40) rfl ?_); refine goesL_ (some 16) rfl rfl Try.func40 (by kernel_rfl) rfl #[.agg #[.int .i64 t398, .int .i64 t399, .string t400, .slice Ao11 t401.length co11], .agg #[.int .i64 t404, .int .i64 t405, .string t406, .slice Ao13 t407.length co13]] rfl ar_ ?_; (with_reducible refine (impl_ValueEqual.calls k t398 t399 t400 _ _ t401 t404 t405 t406 _ _ t407 t412 t413 t414 t415 _ ?side1 ?side2 ?side3 ?side4 A4.out).mono ?_); (case side1 => refine (Kd.N_reads' (e := 31) (base := w.heap.size) (ok := fun k_ => ((some k_ ≠ (.slice Ao13 t407.length co13 : Value).ownBlock ∧ k_ ≠ gb410) ∧ k_ ≠ gb411)) (n := t401.length) (c := co11) ?_).2.2; exact (by (with_reducible repeat (first | apply Kd.N_alloc | apply Kd.N_drewN | apply Kd.N_drew)); first | exact (Kd.N_mono (Kd.N_mono (nf4 gb411 (nf4 gb410 (Kd.N_mono (Kd.N_mono HO403.out (fun k_ hk => (⟨hk, hk.1.2⟩ : _ ∧ k_ ≠ gb410))) (fun k_ hk => (⟨hk, hk.1.2⟩ : _ ∧ k_ ≠ gb411))) (fun _ hk => hk.1.2)) (fun _ hk => hk.2)) (fun _ h_ => h_.1)) (fun _ h_ => h_.1)) | exact Kd.N_mono ((Kd.N_mono (Kd.N_mono (nf4 gb411 (nf4 gb410 (Kd.N_mono (Kd.N_mono HO403.out (fun k_ hk => (⟨hk, hk.1.2⟩ : _ ∧ k_ ≠ gb410))) (fun k_ hk => (⟨hk, hk.1.2⟩ : _ ∧ k_ ≠ gb411))) (fun _ hk => hk.1.2)) (fun _ hk => hk.2)) (fun _ h_ => h_.1)) (fun _ h_ => h_.1))) (fun _ h_ => by simpa only [and_assoc, and_comm, and_left_comm] using h_))); (case side2 => exact (Kd.N_reads' HO403.out).2.1); (case side3 => refine (Kd.N_reads' (e := 31) (base := w.heap.size) (ok := fun k_ => ((some k_ ≠ (.slice Ao11 t401.length co11 : Value).ownBlock ∧ k_ ≠ gb410) ∧ k_ ≠ gb411)) (n := t407.length) (c := co13) ?_).2.2; exact (by (with_reducible repeat (first | apply Kd.N_alloc | apply Kd.N_drewN | apply Kd.N_drew)); first | exact (Kd.N_mono (Kd.N_mono (nf4 gb411 (nf4 gb410 (Kd.N_mono (Kd.N_mono HO409.out (fun k_ hk => (⟨hk, hk.1.2⟩ : _ ∧ k_ ≠ gb410))) (fun k_ hk => (⟨hk, hk.1.2⟩ : _ ∧ k_ ≠ gb411))) (fun _ hk => hk.1.2)) (fun _ hk => hk.2)) (fun _ h_ => h_.1)) (fun _ h_ => h_.1)) | exact Kd.N_mono ((Kd.N_mono (Kd.N_mono (nf4 gb411 (nf4 gb410 (Kd.N_mono (Kd.N_mono HO409.out (fun k_ hk => (⟨hk, hk.1.2⟩ : _ ∧ k_ ≠ gb410))) (fun k_ hk => (⟨hk, hk.1.2⟩ : _ ∧ k_ ≠ gb411))) (fun _ hk => hk.1.2)) (fun _ hk => hk.2)) (fun _ h_ => h_.1)) (fun _ h_ => h_.1))) (fun _ h_ => by simpa only [and_assoc, and_comm, and_left_comm] using h_))); (case side4 => exact (Kd.N_reads' HO409.out).2.1); rintro e w14 ⟨v416, rfl, ho0, hb⟩; refine ⟨_, rfl, ?_⟩; have HO417 := Aside0.mk (Kd.N_lower (Kd.N_mono (ok' := fun k_ => some k_ ≠ (.slice Ao11 t401.length co11 : Value).ownBlock ∧ some k_ ≠ (.slice Ao13 t407.length co13 : Value).ownBlock ∧ k_ ≠ gb410 ∧ k_ ≠ gb411) (Kd.R_N (Kd.R_bound ho0)) (fun k_ hk_ => ⟨(Kd.fresh' (Kd.N_lt (by (with_reducible repeat (first | apply Kd.N_alloc | apply Kd.N_drewN | apply Kd.N_drew)); first | exact (Kd.N_mono (Kd.N_mono (nf4 gb411 (nf4 gb410 (Kd.N_mono (Kd.N_mono HO403.out (fun k_ hk => (⟨hk, hk.1.2⟩ : _ ∧ k_ ≠ gb410))) (fun k_ hk => (⟨hk, hk.1.2⟩ : _ ∧ k_ ≠ gb411))) (fun _ hk => hk.1.2)) (fun _ hk => hk.2)) (fun _ h_ => h_.1)) (fun _ h_ => h_.1)) | exact Kd.N_mono ((Kd.N_mono (Kd.N_mono (nf4 gb411 (nf4 gb410 (Kd.N_mono (Kd.N_mono HO403.out (fun k_ hk => (⟨hk, hk.1.2⟩ : _ ∧ k_ ≠ gb410))) (fun k_ hk => (⟨hk, hk.1.2⟩ : _ ∧ k_ ≠ gb411))) (fun _ hk => hk.1.2)) (fun _ hk => hk.2)) (fun _ h_ => h_.1)) (fun _ h_ => h_.1))) (fun _ h_ => by simpa only [and_assoc, and_comm, and_left_comm] using h_))) k_ hk_.2.1), (Kd.fresh' (Kd.N_lt (by (with_reducible repeat (first | apply Kd.N_alloc | apply Kd.N_drewN | apply Kd.N_drew)); first | exact (Kd.N_mono (Kd.N_mono (nf4 gb411 (nf4 gb410 (Kd.N_mono (Kd.N_mono HO409.out (fun k_ hk => (⟨hk, hk.1.2⟩ : _ ∧ k_ ≠ gb410))) (fun k_ hk => (⟨hk, hk.1.2⟩ : _ ∧ k_ ≠ gb411))) (fun _ hk => hk.1.2)) (fun _ hk => hk.2)) (fun _ h_ => h_.1)) (fun _ h_ => h_.1)) | exact Kd.N_mono ((Kd.N_mono (Kd.N_mono (nf4 gb411 (nf4 gb410 (Kd.N_mono (Kd.N_mono HO409.out (fun k_ hk => (⟨hk, hk.1.2⟩ : _ ∧ k_ ≠ gb410))) (fun k_ hk => (⟨hk, hk.1.2⟩ : _ ∧ k_ ≠ gb411))) (fun _ hk => hk.1.2)) (fun _ hk => hk.2)) (fun _ h_ => h_.1)) (fun _ h_ => h_.1))) (fun _ h_ => by simpa only [and_assoc, and_comm, and_left_comm] using h_))) k_ hk_.2.1), (Kd.freshB (g := gb410) (o := .cells #[.int .i64 t398, .int .i64 t399, .string t400, .slice Ao11 t401.length co11] 31 (0, 0)) (by refine pe_ ?_; refine blk_far ?_ NB410_411.out _; refine pe_ ?_; refine blk_far ?_ NB410_411.out _; refine pe_ ?_; refine blk_far ?_ NB410_411.out _; refine pe_ ?_; refine blk_far ?_ NB410_411.out _; refine pe_ ?_; refine blk_put (cs := #[.int .i64 t398, .int .i64 t399, .string t400, .slice none 0 0]) ?_ 3 _ rfl; refine pe_ ?_; refine blk_put (cs := #[.int .i64 t398, .int .i64 t399, .string (⟨#[]⟩ : ByteArray), .slice none 0 0]) ?_ 2 _ rfl; refine pe_ ?_; refine blk_put (cs := #[.int .i64 t398, .int .i64 0, .string (⟨#[]⟩ : ByteArray), .slice none 0 0]) ?_ 1 _ rfl; refine pe_ ?_; refine blk_put (cs := #[.int .i64 0, .int .i64 0, .string (⟨#[]⟩ : ByteArray), .slice none 0 0]) ?_ 0 _ rfl; refine pe_ ?_; exact BK410.out) k_ hk_.2.1), (Kd.freshB (g := gb411) (o := .cells #[.int .i64 t404, .int .i64 t405, .string t406, .slice Ao13 t407.length co13] 31 (0, 0)) (by refine pe_ ?_; refine blk_put (cs := #[.int .i64 t404, .int .i64 t405, .string t406, .slice none 0 0]) ?_ 3 _ rfl; refine pe_ ?_; refine blk_put (cs := #[.int .i64 t404, .int .i64 t405, .string (⟨#[]⟩ : ByteArray), .slice none 0 0]) ?_ 2 _ rfl; refine pe_ ?_; refine blk_put (cs := #[.int .i64 t404, .int .i64 0, .string (⟨#[]⟩ : ByteArray), .slice none 0 0]) ?_ 1 _ rfl; refine pe_ ?_; refine blk_put (cs := #[.int .i64 0, .int .i64 0, .string (⟨#[]⟩ : ByteArray), .slice none 0 0]) ?_ 0 _ rfl; refine pe_ ?_; refine blk_far ?_ NB411_410.out _; refine pe_ ?_; refine blk_far ?_ NB411_410.out _; refine pe_ ?_; refine blk_far ?_ NB411_410.out _; refine pe_ ?_; refine blk_far ?_ NB411_410.out _; refine pe_ ?_; exact BK411.out) k_ hk_.2.1)⟩)) (below_size (bel_))); replace HO403 := Aside0.mk (Kd.N_elder' (by (with_reducible repeat (first | apply Kd.N_alloc | apply Kd.N_drewN | apply Kd.N_drew)); first | exact (Kd.N_mono (Kd.N_mono (nf4 gb411 (nf4 gb410 (Kd.N_mono (Kd.N_mono HO403.out (fun k_ hk => (⟨hk, hk.1.2⟩ : _ ∧ k_ ≠ gb410))) (fun k_ hk => (⟨hk, hk.1.2⟩ : _ ∧ k_ ≠ gb411))) (fun _ hk => hk.1.2)) (fun _ hk => hk.2)) (fun _ h_ => h_.1)) (fun _ h_ => h_.1)) | exact Kd.N_mono ((Kd.N_mono (Kd.N_mono (nf4 gb411 (nf4 gb410 (Kd.N_mono (Kd.N_mono HO403.out (fun k_ hk => (⟨hk, hk.1.2⟩ : _ ∧ k_ ≠ gb410))) (fun k_ hk => (⟨hk, hk.1.2⟩ : _ ∧ k_ ≠ gb411))) (fun _ hk => hk.1.2)) (fun _ hk => hk.2)) (fun _ h_ => h_.1)) (fun _ h_ => h_.1))) (fun _ h_ => by simpa only [and_assoc, and_comm, and_left_comm] using h_)) (Kd.R_base ho0) hb); replace HO409 := Aside0.mk (Kd.N_elder' (by (with_reducible repeat (first | apply Kd.N_alloc | apply Kd.N_drewN | apply Kd.N_drew)); first | exact (Kd.N_mono (Kd.N_mono (nf4 gb411 (nf4 gb410 (Kd.N_mono (Kd.N_mono HO409.out (fun k_ hk => (⟨hk, hk.1.2⟩ : _ ∧ k_ ≠ gb410))) (fun k_ hk => (⟨hk, hk.1.2⟩ : _ ∧ k_ ≠ gb411))) (fun _ hk => hk.1.2)) (fun _ hk => hk.2)) (fun _ h_ => h_.1)) (fun _ h_ => h_.1)) | exact Kd.N_mono ((Kd.N_mono (Kd.N_mono (nf4 gb411 (nf4 gb410 (Kd.N_mono (Kd.N_mono HO409.out (fun k_ hk => (⟨hk, hk.1.2⟩ : _ ∧ k_ ≠ gb410))) (fun k_ hk => (⟨hk, hk.1.2⟩ : _ ∧ k_ ≠ gb411))) (fun _ hk => hk.1.2)) (fun _ hk => hk.2)) (fun _ h_ => h_.1)) (fun _ h_ => h_.1))) (fun _ h_ => by simpa only [and_assoc, and_comm, and_left_comm] using h_)) (Kd.R_base ho0) hb); replace BK410 := Aside0.mk (blk_below (g := gb410) (o := .cells #[.int .i64 t398, .int .i64 t399, .string t400, .slice Ao11 t401.length co11] 31 (0, 0)) (by refine pe_ ?_; refine blk_far ?_ NB410_411.out _; refine pe_ ?_; refine blk_far ?_ NB410_411.out _; refine pe_ ?_; refine blk_far ?_ NB410_411.out _; refine pe_ ?_; refine blk_far ?_ NB410_411.out _; refine pe_ ?_; refine blk_put (cs := #[.int .i64 t398, .int .i64 t399, .string t400, .slice none 0 0]) ?_ 3 _ rfl; refine pe_ ?_; refine blk_put (cs := #[.int .i64 t398, .int .i64 t399, .string (⟨#[]⟩ : ByteArray), .slice none 0 0]) ?_ 2 _ rfl; refine pe_ ?_; refine blk_put (cs := #[.int .i64 t398, .int .i64 0, .string (⟨#[]⟩ : ByteArray), .slice none 0 0]) ?_ 1 _ rfl; refine pe_ ?_; refine blk_put (cs := #[.int .i64 0, .int .i64 0, .string (⟨#[]⟩ : ByteArray), .slice none 0 0]) ?_ 0 _ rfl; refine pe_ ?_; exact BK410.out) hb); replace BK411 := Aside0.mk (blk_below (g := gb411) (o := .cells #[.int .i64 t404, .int .i64 t405, .string t406, .slice Ao13 t407.length co13] 31 (0, 0)) (by refine pe_ ?_; refine blk_put (cs := #[.int .i64 t404, .int .i64 t405, .string t406, .slice none 0 0]) ?_ 3 _ rfl; refine pe_ ?_; refine blk_put (cs := #[.int .i64 t404, .int .i64 t405, .string (⟨#[]⟩ : ByteArray), .slice none 0 0]) ?_ 2 _ rfl; refine pe_ ?_; refine blk_put (cs := #[.int .i64 t404, .int .i64 0, .string (⟨#[]⟩ : ByteArray), .slice none 0 0]) ?_ 1 _ rfl; refine pe_ ?_; refine blk_put (cs := #[.int .i64 0, .int .i64 0, .string (⟨#[]⟩ : ByteArray), .slice none 0 0]) ?_ 0 _ rfl; refine pe_ ?_; refine blk_far ?_ NB411_410.out _; refine pe_ ?_; refine blk_far ?_ NB411_410.out _; refine pe_ ?_; refine blk_far ?_ NB411_410.out _; refine pe_ ?_; refine blk_far ?_ NB411_410.out _; refine pe_ ?_; exact BK411.out) hb); replace HB := bs_ hb; (try clear hb); (try clear hb2); (try clear hk); (try clear hi); (try clear ho0)) | ((with_reducible refine gate_dst (N := 5) rfl ?_); refine bx_ 5 #[.int .i64 0, .int .i64 0, .string (⟨#[]⟩ : ByteArray), .slice none 0 0] 31 ?_; intro gb418 hg w15 hbox hb; have BK418 := Aside0.mk (hbox); have GW418 := gw_ hg; have GE418 := gw_ hg; have NB410_418 := nlt_ hg BK410; have NB418_410 := ngt_ hg BK410; have NB411_418 := nlt_ hg BK411; have NB418_411 := ngt_ hg BK411; replace HO403 := Aside0.mk (Kd.N_below (Kd.N_elderB (by (with_reducible repeat (first | apply Kd.N_alloc | apply Kd.N_drewN | apply Kd.N_drew)); first | exact HO403.out | exact Kd.N_mono (HO403.out) (fun _ h_ => by simpa only [and_assoc, and_comm, and_left_comm] using h_)) gb418 (Nat.le_of_eq hg.symm)) hb); replace HO409 := Aside0.mk (Kd.N_below (Kd.N_elderB (by (with_reducible repeat (first | apply Kd.N_alloc | apply Kd.N_drewN | apply Kd.N_drew)); first | exact HO409.out | exact Kd.N_mono (HO409.out) (fun _ h_ => by simpa only [and_assoc, and_comm, and_left_comm] using h_)) gb418 (Nat.le_of_eq hg.symm)) hb); replace HO417 := Aside0.mk (Kd.N_below (Kd.N_elderB (by (with_reducible repeat (first | apply Kd.N_alloc | apply Kd.N_drewN | apply Kd.N_drew)); first | exact HO417.out | exact Kd.N_mono (HO417.out) (fun _ h_ => by simpa only [and_assoc, and_comm, and_left_comm] using h_)) gb418 (Nat.le_of_eq hg.symm)) hb); replace BK410 := bb_ BK410 hb; replace BK411 := bb_ BK411 hb; replace HB := bs_ hb; clear hb hbox hg; have hnb16 := NB418_410.out; have hnc16 := NB410_418.out; have hnb17 := NB418_411.out; have hnc17 := NB411_418.out; obtain ⟨hcz18_0, hcz18_1, hcz18_2, hcz18_3, hfz18_0, hfz18_1, hfz18_2, hfz18_3⟩ := blk4 BK418; obtain ⟨Ao19, co19, eo19⟩ := Kd.N_slice HO417.out; subst eo19))
  (try simp only [Act.put, List.setIfInBounds_toArray, List.set_cons_zero, List.set_cons_succ])
  go_cut [40] (fun v40 wc => ∃ (kq : Nat) (x40_4 : Bool), v40 = .bool x40_4 ∧ Aside0 (laws_FnValueEqual.j0 kq x40_4 t398 t399 t400 t401 t404 t405 t406 t407 t412 t413 t414 t415 = some r) ∧ Aside0 (kq ≤ k) ∧ Aside0 (Kd.N k31 31 wc w.heap.size (fun k_ => some k_ ≠ ((.slice Ao13 t407.length co13) : Value).ownBlock ∧ some k_ ≠ ((.slice Ao19 t415.length co19) : Value).ownBlock ∧ k_ ≠ gb410 ∧ k_ ≠ gb411 ∧ k_ ≠ gb418) (.slice Ao11 t401.length co11) t401) ∧ Aside0 (Kd.N k31 31 wc w.heap.size (fun k_ => some k_ ≠ ((.slice Ao11 t401.length co11) : Value).ownBlock ∧ some k_ ≠ ((.slice Ao19 t415.length co19) : Value).ownBlock ∧ k_ ≠ gb410 ∧ k_ ≠ gb411 ∧ k_ ≠ gb418) (.slice Ao13 t407.length co13) t407) ∧ Aside0 (Kd.N k31 31 wc w.heap.size (fun k_ => some k_ ≠ ((.slice Ao11 t401.length co11) : Value).ownBlock ∧ some k_ ≠ ((.slice Ao13 t407.length co13) : Value).ownBlock ∧ k_ ≠ gb410 ∧ k_ ≠ gb411 ∧ k_ ≠ gb418) (.slice Ao19 t415.length co19) t415) ∧ Aside0 (wc.heap[gb410]? = some (.cells #[.int .i64 t398, .int .i64 t399, .string t400, (.slice Ao11 t401.length co11)] 31 (0, 0))) ∧ Aside0 (wc.heap[gb411]? = some (.cells #[.int .i64 t404, .int .i64 t405, .string t406, (.slice Ao13 t407.length co13)] 31 (0, 0))) ∧ Aside0 (wc.heap[gb418]? = some (.cells #[.int .i64 t412, .int .i64 t413, .string t414, (.slice Ao19 t415.length co19)] 31 (0, 0))) ∧ Aside0 (Below w.heap.size w wc))
  case first =>
    have H := HC5.out
    clear HC5
    replace H := Option.bind_eq_some_iff.mp H
    obtain ⟨⟨t419, t420, t421, t422⟩, A200, H⟩ := H
    replace H : ((laws_asValue.f k t412 t413 t414 t415 t419 t420 t421 t422).bind fun t425 => (if t425 = true then ((impl_ValueEqual.f k t404 t405 t406 t407 t398 t399 t400 t401).bind fun bt426 => ((laws_asValue.f k bt426.1 bt426.2.1 bt426.2.2.1 bt426.2.2.2 t412 t413 t414 t415).bind fun t432 => (if t432 = true then ((spec_ValueOk.f k t398 t399 t400 t401).bind fun t433 => (if t433 = true then ((spec_ValueOk.f k t404 t405 t406 t407).bind fun t434 => (laws_FnValueEqual.j0 k (!t434) t398 t399 t400 t401 t404 t405 t406 t407 t412 t413 t414 t415)) else (laws_FnValueEqual.j0 k true t398 t399 t400 t401 t404 t405 t406 t407 t412 t413 t414 t415))) else (laws_FnValueEqual.j0 k true t398 t399 t400 t401 t404 t405 t406 t407 t412 t413 t414 t415)))) else (laws_FnValueEqual.j0 k true t398 t399 t400 t401 t404 t405 t406 t407 t412 t413 t414 t415))) = some r := H
    have A20 := Aside0.mk A200
    clear A200
    replace H := Option.bind_eq_some_iff.mp H
    obtain ⟨t425, A210, H⟩ := H
    replace H : (if t425 = true then ((impl_ValueEqual.f k t404 t405 t406 t407 t398 t399 t400 t401).bind fun bt426 => ((laws_asValue.f k bt426.1 bt426.2.1 bt426.2.2.1 bt426.2.2.2 t412 t413 t414 t415).bind fun t432 => (if t432 = true then ((spec_ValueOk.f k t398 t399 t400 t401).bind fun t433 => (if t433 = true then ((spec_ValueOk.f k t404 t405 t406 t407).bind fun t434 => (laws_FnValueEqual.j0 k (!t434) t398 t399 t400 t401 t404 t405 t406 t407 t412 t413 t414 t415)) else (laws_FnValueEqual.j0 k true t398 t399 t400 t401 t404 t405 t406 t407 t412 t413 t414 t415))) else (laws_FnValueEqual.j0 k true t398 t399 t400 t401 t404 t405 t406 t407 t412 t413 t414 t415)))) else (laws_FnValueEqual.j0 k true t398 t399 t400 t401 t404 t405 t406 t407 t412 t413 t414 t415)) = some r := H
    have A21 := Aside0.mk A210
    clear A210
    by_cases c22 : t425 = true
    rotate_left
    · replace c22 := Bool.eq_false_iff.mpr c22
      subst c22
      have H1 : (laws_FnValueEqual.j0 k true t398 t399 t400 t401 t404 t405 t406 t407 t412 t413 t414 t415) = some r := by rw [if_neg (show ¬ (false = true) by decide)] at H; exact H
      clear H
      have H := H1
      clear H1
      have H' := Aside0.mk H
      clear H
      try go_wp2
      have n0_ : Aside0 (Kd.N k31 31 ((((w15.setCell ⟨gb418, 0, none⟩ (.int .i64 t412)).setCell ⟨gb418, 1, none⟩ (.int .i64 t413)).setCell ⟨gb418, 2, none⟩ (.string t414)).setCell ⟨gb418, 3, none⟩ (.slice Ao19 t415.length co19)) w.heap.size (fun k_ => some k_ ≠ (.slice Ao13 t407.length co13 : Value).ownBlock ∧ some k_ ≠ (.slice Ao19 t415.length co19 : Value).ownBlock ∧ k_ ≠ gb410 ∧ k_ ≠ gb411 ∧ k_ ≠ gb418) (.slice Ao11 t401.length co11) t401) := ⟨by (with_reducible repeat (first | apply Kd.N_alloc | apply Kd.N_drewN | apply Kd.N_drew)); first | exact Kd.N_mono (nf4 gb418 (Kd.N_mono HO403.out (fun k_ hk => (⟨hk, hk.2⟩ : _ ∧ k_ ≠ gb418))) (fun _ hk => hk.2)) (fun _ hk => ⟨hk.1.1.1.1.1, ⟨hk.1.1.2, ⟨hk.1.1.1.1.2, ⟨hk.1.1.1.2, hk.1.2⟩⟩⟩⟩) | exact Kd.N_mono (Kd.N_mono (nf4 gb418 (Kd.N_mono HO403.out (fun k_ hk => (⟨hk, hk.2⟩ : _ ∧ k_ ≠ gb418))) (fun _ hk => hk.2)) (fun _ hk => ⟨hk.1.1.1.1.1, ⟨hk.1.1.2, ⟨hk.1.1.1.1.2, ⟨hk.1.1.1.2, hk.1.2⟩⟩⟩⟩)) (fun _ h_ => by simpa only [and_assoc, and_comm, and_left_comm] using h_)⟩
      have n1_ : Aside0 (Kd.N k31 31 ((((w15.setCell ⟨gb418, 0, none⟩ (.int .i64 t412)).setCell ⟨gb418, 1, none⟩ (.int .i64 t413)).setCell ⟨gb418, 2, none⟩ (.string t414)).setCell ⟨gb418, 3, none⟩ (.slice Ao19 t415.length co19)) w.heap.size (fun k_ => some k_ ≠ (.slice Ao11 t401.length co11 : Value).ownBlock ∧ some k_ ≠ (.slice Ao19 t415.length co19 : Value).ownBlock ∧ k_ ≠ gb410 ∧ k_ ≠ gb411 ∧ k_ ≠ gb418) (.slice Ao13 t407.length co13) t407) := ⟨by (with_reducible repeat (first | apply Kd.N_alloc | apply Kd.N_drewN | apply Kd.N_drew)); first | exact Kd.N_mono (nf4 gb418 (Kd.N_mono HO409.out (fun k_ hk => (⟨hk, hk.2⟩ : _ ∧ k_ ≠ gb418))) (fun _ hk => hk.2)) (fun _ hk => ⟨hk.1.1.1.1.1, ⟨hk.1.1.2, ⟨hk.1.1.1.1.2, ⟨hk.1.1.1.2, hk.1.2⟩⟩⟩⟩) | exact Kd.N_mono (Kd.N_mono (nf4 gb418 (Kd.N_mono HO409.out (fun k_ hk => (⟨hk, hk.2⟩ : _ ∧ k_ ≠ gb418))) (fun _ hk => hk.2)) (fun _ hk => ⟨hk.1.1.1.1.1, ⟨hk.1.1.2, ⟨hk.1.1.1.1.2, ⟨hk.1.1.1.2, hk.1.2⟩⟩⟩⟩)) (fun _ h_ => by simpa only [and_assoc, and_comm, and_left_comm] using h_)⟩
      have n2_ : Aside0 (Kd.N k31 31 ((((w15.setCell ⟨gb418, 0, none⟩ (.int .i64 t412)).setCell ⟨gb418, 1, none⟩ (.int .i64 t413)).setCell ⟨gb418, 2, none⟩ (.string t414)).setCell ⟨gb418, 3, none⟩ (.slice Ao19 t415.length co19)) w.heap.size (fun k_ => some k_ ≠ (.slice Ao11 t401.length co11 : Value).ownBlock ∧ some k_ ≠ (.slice Ao13 t407.length co13 : Value).ownBlock ∧ k_ ≠ gb410 ∧ k_ ≠ gb411 ∧ k_ ≠ gb418) (.slice Ao19 t415.length co19) t415) := ⟨by (with_reducible repeat (first | apply Kd.N_alloc | apply Kd.N_drewN | apply Kd.N_drew)); first | exact Kd.N_mono (nf4 gb418 (Kd.N_mono HO417.out (fun k_ hk => (⟨hk, hk.2⟩ : _ ∧ k_ ≠ gb418))) (fun _ hk => hk.2)) (fun _ hk => ⟨hk.1.1.1, ⟨hk.1.1.2.1, ⟨hk.1.1.2.2.1, ⟨hk.1.1.2.2.2, hk.1.2⟩⟩⟩⟩) | exact Kd.N_mono (Kd.N_mono (nf4 gb418 (Kd.N_mono HO417.out (fun k_ hk => (⟨hk, hk.2⟩ : _ ∧ k_ ≠ gb418))) (fun _ hk => hk.2)) (fun _ hk => ⟨hk.1.1.1, ⟨hk.1.1.2.1, ⟨hk.1.1.2.2.1, ⟨hk.1.1.2.2.2, hk.1.2⟩⟩⟩⟩)) (fun _ h_ => by simpa only [and_assoc, and_comm, and_left_comm] using h_)⟩
      have n3_ : Aside0 (((((w15.setCell ⟨gb418, 0, none⟩ (.int .i64 t412)).setCell ⟨gb418, 1, none⟩ (.int .i64 t413)).setCell ⟨gb418, 2, none⟩ (.string t414)).setCell ⟨gb418, 3, none⟩ (.slice Ao19 t415.length co19)).heap[gb410]? = some (.cells #[.int .i64 t398, .int .i64 t399, .string t400, .slice Ao11 t401.length co11] 31 (0, 0))) := ⟨by refine pe_ ?_; refine blk_far ?_ NB410_418.out _; refine pe_ ?_; refine blk_far ?_ NB410_418.out _; refine pe_ ?_; refine blk_far ?_ NB410_418.out _; refine pe_ ?_; refine blk_far ?_ NB410_418.out _; refine pe_ ?_; exact BK410.out⟩
      have n4_ : Aside0 (((((w15.setCell ⟨gb418, 0, none⟩ (.int .i64 t412)).setCell ⟨gb418, 1, none⟩ (.int .i64 t413)).setCell ⟨gb418, 2, none⟩ (.string t414)).setCell ⟨gb418, 3, none⟩ (.slice Ao19 t415.length co19)).heap[gb411]? = some (.cells #[.int .i64 t404, .int .i64 t405, .string t406, .slice Ao13 t407.length co13] 31 (0, 0))) := ⟨by refine pe_ ?_; refine blk_far ?_ NB411_418.out _; refine pe_ ?_; refine blk_far ?_ NB411_418.out _; refine pe_ ?_; refine blk_far ?_ NB411_418.out _; refine pe_ ?_; refine blk_far ?_ NB411_418.out _; refine pe_ ?_; exact BK411.out⟩
      have n5_ : Aside0 (((((w15.setCell ⟨gb418, 0, none⟩ (.int .i64 t412)).setCell ⟨gb418, 1, none⟩ (.int .i64 t413)).setCell ⟨gb418, 2, none⟩ (.string t414)).setCell ⟨gb418, 3, none⟩ (.slice Ao19 t415.length co19)).heap[gb418]? = some (.cells #[.int .i64 t412, .int .i64 t413, .string t414, .slice Ao19 t415.length co19] 31 (0, 0))) := ⟨by refine pe_ ?_; refine blk_put (cs := #[.int .i64 t412, .int .i64 t413, .string t414, .slice none 0 0]) ?_ 3 _ rfl; refine pe_ ?_; refine blk_put (cs := #[.int .i64 t412, .int .i64 t413, .string (⟨#[]⟩ : ByteArray), .slice none 0 0]) ?_ 2 _ rfl; refine pe_ ?_; refine blk_put (cs := #[.int .i64 t412, .int .i64 0, .string (⟨#[]⟩ : ByteArray), .slice none 0 0]) ?_ 1 _ rfl; refine pe_ ?_; refine blk_put (cs := #[.int .i64 0, .int .i64 0, .string (⟨#[]⟩ : ByteArray), .slice none 0 0]) ?_ 0 _ rfl; refine pe_ ?_; exact BK418.out⟩
      have n6_ : Aside0 (Below w.heap.size w ((((w15.setCell ⟨gb418, 0, none⟩ (.int .i64 t412)).setCell ⟨gb418, 1, none⟩ (.int .i64 t413)).setCell ⟨gb418, 2, none⟩ (.string t414)).setCell ⟨gb418, 3, none⟩ (.slice Ao19 t415.length co19))) := ⟨bel_⟩
      (try clear HO403)
      (try clear HO409)
      (try clear HO417)
      (try clear BK410)
      (try clear BK411)
      (try clear BK418)
      (try clear HB)
      generalize ((((w15.setCell ⟨gb418, 0, none⟩ (.int .i64 t412)).setCell ⟨gb418, 1, none⟩ (.int .i64 t413)).setCell ⟨gb418, 2, none⟩ (.string t414)).setCell ⟨gb418, 3, none⟩ (.slice Ao19 t415.length co19)) = w56 at n0_ n1_ n2_ n3_ n4_ n5_ n6_ ⊢
      have HO403 := n0_
      have HO409 := n1_
      have HO417 := n2_
      have BK410 := n3_
      have BK411 := n4_
      have BK418 := n5_
      have HB := n6_
      clear n0_ n1_ n2_ n3_ n4_ n5_ n6_
      replace HO403 := Aside0.mk (Kd.N_drew HO403.out)
      replace HO409 := Aside0.mk (Kd.N_drew HO409.out)
      replace HO417 := Aside0.mk (Kd.N_drew HO417.out)
      replace BK410 := Aside0.mk (blk_drew BK410.out)
      replace BK411 := Aside0.mk (blk_drew BK411.out)
      replace BK418 := Aside0.mk (blk_drew BK418.out)
      replace HB := Aside0.mk (below_drew1 HB.out)
      refine start_ (n := 24) (S := fun w' => w'.cell? ⟨gb418, 0, none⟩ = some (.int .i64 t412) ∧ w'.cell? ⟨gb418, 1, none⟩ = some (.int .i64 t413) ∧ w'.cell? ⟨gb418, 2, none⟩ = some (.string t414) ∧ w'.cell? ⟨gb418, 3, none⟩ = some (.slice Ao19 t415.length co19) ∧ w'.cell? ⟨gb410, 0, none⟩ = some (.int .i64 t398) ∧ w'.cell? ⟨gb410, 1, none⟩ = some (.int .i64 t399) ∧ w'.cell? ⟨gb410, 2, none⟩ = some (.string t400) ∧ w'.cell? ⟨gb410, 3, none⟩ = some (.slice Ao11 t401.length co11) ∧ w'.cell? ⟨gb411, 0, none⟩ = some (.int .i64 t404) ∧ w'.cell? ⟨gb411, 1, none⟩ = some (.int .i64 t405) ∧ w'.cell? ⟨gb411, 2, none⟩ = some (.string t406) ∧ w'.cell? ⟨gb411, 3, none⟩ = some (.slice Ao13 t407.length co13)) (ds := []) #[false, false, false, false, false, false, false, false, false, false, false, false, false, false, false, false, false, false, false, false, false, false, false, false] (by kernel_rfl) rfl rfl ⟨(blkc BK418 0), (blkc BK418 1), (blkc BK418 2), (blkc BK418 3), (blkc BK410 0), (blkc BK410 1), (blkc BK410 2), (blkc BK410 3), (blkc BK411 0), (blkc BK411 1), (blkc BK411 2), (blkc BK411 3)⟩ (fun hHeld => ?_); refine with_tabW laws_FnValueEqual.tab5 laws_FnValueEqual.bits5 (fun HT_ HW_ => ?_)
      generalize w56.drew = w57 at HO403 HO409 HO417 BK410 BK411 BK418 HB hHeld ⊢
      refine taA 0 (some 17) ?_
      refine taA 1 (some 18) ?_
      refine taA 2 (some 19) ?_
      refine one_ (i := 3) (N := some 20) #[true, true, true, true, false, false, false, false, false, false, false, false, false, false, false, false, false, false, false, false, false, false, false, false] rfl rfl (one_of HT_.out (by kernel_rfl)) (by decide) (fun K hK => ?_)
      refine goes_ Try.func39 (by kernel_rfl) rfl #[.agg #[.int .i64 t398, .int .i64 t399, .string t400, .slice Ao11 t401.length co11], .agg #[.int .i64 t404, .int .i64 t405, .string t406, .slice Ao13 t407.length co13]] (by rfl) rfl rfl ar_ ?_
      with_reducible refine (spec_ValueEqual.calls k t398 t399 t400 _ _ t401 t404 t405 t406 _ _ t407 t419 t420 t421 t422 _ ?side1 ?side2 ?side3 ?side4 A20.out).mono ?_
      (case side1 => repeat (first | exact (Kd.N_reads' HO403.out).2.2 | (with_reducible refine Kd.C_alloc ?_ _) | (with_reducible refine Kd.C_drewN ?_ _) | (with_reducible refine Kd.C_drew ?_)))
      (case side2 => exact (Kd.N_reads' HO403.out).2.1)
      (case side3 => repeat (first | exact (Kd.N_reads' HO409.out).2.2 | (with_reducible refine Kd.C_alloc ?_ _) | (with_reducible refine Kd.C_drewN ?_ _) | (with_reducible refine Kd.C_drew ?_)))
      (case side4 => exact (Kd.N_reads' HO409.out).2.1)
      rintro e w58 ⟨v423, rfl, ho0, hb⟩
      refine ⟨_, rfl, ?_⟩
      have HO424 := Aside0.mk (Kd.N_lower (Kd.N_mono (ok' := fun k_ => some k_ ≠ (.slice Ao11 t401.length co11 : Value).ownBlock ∧ some k_ ≠ (.slice Ao13 t407.length co13 : Value).ownBlock ∧ some k_ ≠ (.slice Ao19 t415.length co19 : Value).ownBlock ∧ k_ ≠ gb410 ∧ k_ ≠ gb411 ∧ k_ ≠ gb418) (Kd.R_N (Kd.R_bound ho0)) (fun k_ hk_ => ⟨(Kd.fresh' (Kd.N_lt (by (with_reducible repeat (first | apply Kd.N_alloc | apply Kd.N_drewN | apply Kd.N_drew)); first | exact HO403.out | exact Kd.N_mono (HO403.out) (fun _ h_ => by simpa only [and_assoc, and_comm, and_left_comm] using h_))) k_ hk_.2.1), (Kd.fresh' (Kd.N_lt (by (with_reducible repeat (first | apply Kd.N_alloc | apply Kd.N_drewN | apply Kd.N_drew)); first | exact HO409.out | exact Kd.N_mono (HO409.out) (fun _ h_ => by simpa only [and_assoc, and_comm, and_left_comm] using h_))) k_ hk_.2.1), (Kd.fresh' (Kd.N_lt (by (with_reducible repeat (first | apply Kd.N_alloc | apply Kd.N_drewN | apply Kd.N_drew)); first | exact HO417.out | exact Kd.N_mono (HO417.out) (fun _ h_ => by simpa only [and_assoc, and_comm, and_left_comm] using h_))) k_ hk_.2.1), (Kd.freshB (g := gb410) (o := .cells #[.int .i64 t398, .int .i64 t399, .string t400, .slice Ao11 t401.length co11] 31 (0, 0)) (bk_ BK410) k_ hk_.2.1), (Kd.freshB (g := gb411) (o := .cells #[.int .i64 t404, .int .i64 t405, .string t406, .slice Ao13 t407.length co13] 31 (0, 0)) (bk_ BK411) k_ hk_.2.1), (Kd.freshB (g := gb418) (o := .cells #[.int .i64 t412, .int .i64 t413, .string t414, .slice Ao19 t415.length co19] 31 (0, 0)) (bk_ BK418) k_ hk_.2.1)⟩)) (below_size (bel_)))
      replace HO403 := Aside0.mk (Kd.N_elder' (by (with_reducible repeat (first | apply Kd.N_alloc | apply Kd.N_drewN | apply Kd.N_drew)); first | exact HO403.out | exact Kd.N_mono (HO403.out) (fun _ h_ => by simpa only [and_assoc, and_comm, and_left_comm] using h_)) (Kd.R_base ho0) hb)
      replace HO409 := Aside0.mk (Kd.N_elder' (by (with_reducible repeat (first | apply Kd.N_alloc | apply Kd.N_drewN | apply Kd.N_drew)); first | exact HO409.out | exact Kd.N_mono (HO409.out) (fun _ h_ => by simpa only [and_assoc, and_comm, and_left_comm] using h_)) (Kd.R_base ho0) hb)
      replace HO417 := Aside0.mk (Kd.N_elder' (by (with_reducible repeat (first | apply Kd.N_alloc | apply Kd.N_drewN | apply Kd.N_drew)); first | exact HO417.out | exact Kd.N_mono (HO417.out) (fun _ h_ => by simpa only [and_assoc, and_comm, and_left_comm] using h_)) (Kd.R_base ho0) hb)
      replace BK410 := bb_ BK410 hb
      replace BK411 := bb_ BK411 hb
      replace BK418 := bb_ BK418 hb
      replace HB := bs_ hb
      (try clear hb)
      (try clear hb2)
      (try clear hk)
      (try clear hi)
      (try clear ho0)
      obtain ⟨Ao59, co59, eo59⟩ := Kd.N_slice HO424.out
      (first | subst eo59 | (injection eo59 with f1_ f2_ f3_; have f4_ := f1_.symm; have f5_ := f3_.symm; clear f1_ f2_ f3_; subst f4_; subst f5_))
      refine hK.out _ _ ⟨(blkc BK418 0), (blkc BK418 1), (blkc BK418 2), (blkc BK418 3), (blkc BK410 0), (blkc BK410 1), (blkc BK410 2), (blkc BK410 3), (blkc BK411 0), (blkc BK411 1), (blkc BK411 2), (blkc BK411 3)⟩ (fun hHeld => ?_)
      clear hK K
      refine norm_ (a' := ?_) ?_ ?_
      rotate_left
      · show Act.put _ (some 20) _ = _
        simp only [Act.put, List.setIfInBounds_toArray, List.set_cons_zero, List.set_cons_succ, i64_w, i32_w]
        rfl
      refine one_ (i := 4) (N := some 21) #[true, true, true, true, true, false, false, false, false, false, false, false, false, false, false, false, false, false, false, false, false, false, false, false] rfl rfl (one_of HT_.out (by kernel_rfl)) (by decide) (fun K hK => ?_)
      refine goes_ Try.func38 (by kernel_rfl) rfl #[.agg #[.int .i64 t412, .int .i64 t413, .string t414, .slice Ao19 t415.length co19], .agg #[.int .i64 t419, .int .i64 t420, .string t421, .slice Ao59 t422.length co59]] (by rfl) rfl rfl ar_ ?_
      with_reducible refine (laws_asValue.calls k t412 t413 t414 _ _ t415 t419 t420 t421 _ _ t422 false _ ?side1 ?side2 ?side3 ?side4 A21.out).mono ?_
      (case side1 => repeat (first | exact (Kd.N_reads' HO417.out).2.2 | (with_reducible refine Kd.C_alloc ?_ _) | (with_reducible refine Kd.C_drewN ?_ _) | (with_reducible refine Kd.C_drew ?_)))
      (case side2 => exact (Kd.N_reads' HO417.out).2.1)
      (case side3 => repeat (first | exact (Kd.N_reads' HO424.out).2.2 | (with_reducible refine Kd.C_alloc ?_ _) | (with_reducible refine Kd.C_drewN ?_ _) | (with_reducible refine Kd.C_drew ?_)))
      (case side4 => exact (Kd.N_reads' HO424.out).2.1)
      rintro e w60 ⟨rfl, hb⟩
      refine ⟨_, rfl, ?_⟩
      replace HO403 := Aside0.mk (Kd.N_below (by (with_reducible repeat (first | apply Kd.N_alloc | apply Kd.N_drewN | apply Kd.N_drew)); first | exact HO403.out | exact Kd.N_mono (HO403.out) (fun _ h_ => by simpa only [and_assoc, and_comm, and_left_comm] using h_)) hb)
      replace HO409 := Aside0.mk (Kd.N_below (by (with_reducible repeat (first | apply Kd.N_alloc | apply Kd.N_drewN | apply Kd.N_drew)); first | exact HO409.out | exact Kd.N_mono (HO409.out) (fun _ h_ => by simpa only [and_assoc, and_comm, and_left_comm] using h_)) hb)
      replace HO417 := Aside0.mk (Kd.N_below (by (with_reducible repeat (first | apply Kd.N_alloc | apply Kd.N_drewN | apply Kd.N_drew)); first | exact HO417.out | exact Kd.N_mono (HO417.out) (fun _ h_ => by simpa only [and_assoc, and_comm, and_left_comm] using h_)) hb)
      replace HO424 := Aside0.mk (Kd.N_below (by (with_reducible repeat (first | apply Kd.N_alloc | apply Kd.N_drewN | apply Kd.N_drew)); first | exact HO424.out | exact Kd.N_mono (HO424.out) (fun _ h_ => by simpa only [and_assoc, and_comm, and_left_comm] using h_)) hb)
      replace BK410 := bb_ BK410 hb
      replace BK411 := bb_ BK411 hb
      replace BK418 := bb_ BK418 hb
      replace HB := bs_ hb
      (try clear hb)
      (try clear hb2)
      (try clear hk)
      (try clear hi)
      refine hK.out _ _ ⟨(blkc BK418 0), (blkc BK418 1), (blkc BK418 2), (blkc BK418 3), (blkc BK410 0), (blkc BK410 1), (blkc BK410 2), (blkc BK410 3), (blkc BK411 0), (blkc BK411 1), (blkc BK411 2), (blkc BK411 3)⟩ (fun hHeld => ?_)
      clear hK K
      refine norm_ (a' := ?_) ?_ ?_
      rotate_left
      · show Act.put _ (some 21) _ = _
        simp only [Act.put, List.setIfInBounds_toArray, List.set_cons_zero, List.set_cons_succ, i64_w, i32_w]
        rfl
      refine puA 5 (some 22) ?_
      refine puA 6 (some 23) ?_
      refine puX 7 (some 24) ?_
      refine puX 8 (some 25) ?_
      refine puX 9 (some 26) ?_
      refine puX 10 (some 27) ?_
      refine puX 11 (some 28) ?_
      refine puX 12 (some 29) ?_
      refine puA 13 (some 30) ?_
      refine puA 14 (some 31) ?_
      refine puX 15 (some 32) ?_
      refine puX 16 (some 33) ?_
      refine puX 17 (some 34) ?_
      refine puA 18 (some 35) ?_
      refine puA 19 (some 36) ?_
      refine puX 20 (some 37) ?_
      refine puX 21 (some 38) ?_
      refine puX 22 (some 39) ?_
      refine puA 23 (some 40) ?_
      refine done_ (done_of HT_.out (by kernel_rfl)) ?_
      try go_wp2
      go_meet
      case rel => exact ⟨_, (true), sm_, H', ⟨by first | omega | exact Nat.le_refl _⟩, ⟨by (with_reducible repeat (first | apply Kd.N_alloc | apply Kd.N_drewN | apply Kd.N_drew)); first | exact Kd.N_mono HO403.out (fun _ hk => ⟨hk.1.1, ⟨hk.1.2.1, ⟨hk.1.2.2.1, ⟨hk.1.2.2.2.1, hk.1.2.2.2.2⟩⟩⟩⟩) | exact Kd.N_mono (Kd.N_mono HO403.out (fun _ hk => ⟨hk.1.1, ⟨hk.1.2.1, ⟨hk.1.2.2.1, ⟨hk.1.2.2.2.1, hk.1.2.2.2.2⟩⟩⟩⟩)) (fun _ h_ => by simpa only [and_assoc, and_comm, and_left_comm] using h_)⟩, ⟨by (with_reducible repeat (first | apply Kd.N_alloc | apply Kd.N_drewN | apply Kd.N_drew)); first | exact Kd.N_mono HO409.out (fun _ hk => ⟨hk.1.1, ⟨hk.1.2.1, ⟨hk.1.2.2.1, ⟨hk.1.2.2.2.1, hk.1.2.2.2.2⟩⟩⟩⟩) | exact Kd.N_mono (Kd.N_mono HO409.out (fun _ hk => ⟨hk.1.1, ⟨hk.1.2.1, ⟨hk.1.2.2.1, ⟨hk.1.2.2.2.1, hk.1.2.2.2.2⟩⟩⟩⟩)) (fun _ h_ => by simpa only [and_assoc, and_comm, and_left_comm] using h_)⟩, ⟨by (with_reducible repeat (first | apply Kd.N_alloc | apply Kd.N_drewN | apply Kd.N_drew)); first | exact Kd.N_mono HO417.out (fun _ hk => ⟨hk.1.1, ⟨hk.1.2.1, ⟨hk.1.2.2.1, ⟨hk.1.2.2.2.1, hk.1.2.2.2.2⟩⟩⟩⟩) | exact Kd.N_mono (Kd.N_mono HO417.out (fun _ hk => ⟨hk.1.1, ⟨hk.1.2.1, ⟨hk.1.2.2.1, ⟨hk.1.2.2.2.1, hk.1.2.2.2.2⟩⟩⟩⟩)) (fun _ h_ => by simpa only [and_assoc, and_comm, and_left_comm] using h_)⟩, ⟨by refine pe_ ?_; exact BK410.out⟩, ⟨by refine pe_ ?_; exact BK411.out⟩, ⟨by refine pe_ ?_; exact BK418.out⟩, ⟨bel_⟩⟩
    subst c22
    have H1 : ((impl_ValueEqual.f k t404 t405 t406 t407 t398 t399 t400 t401).bind fun bt426 => ((laws_asValue.f k bt426.1 bt426.2.1 bt426.2.2.1 bt426.2.2.2 t412 t413 t414 t415).bind fun t432 => (if t432 = true then ((spec_ValueOk.f k t398 t399 t400 t401).bind fun t433 => (if t433 = true then ((spec_ValueOk.f k t404 t405 t406 t407).bind fun t434 => (laws_FnValueEqual.j0 k (!t434) t398 t399 t400 t401 t404 t405 t406 t407 t412 t413 t414 t415)) else (laws_FnValueEqual.j0 k true t398 t399 t400 t401 t404 t405 t406 t407 t412 t413 t414 t415))) else (laws_FnValueEqual.j0 k true t398 t399 t400 t401 t404 t405 t406 t407 t412 t413 t414 t415)))) = some r := by rw [if_pos rfl] at H; exact H
    clear H
    have H := H1
    clear H1
    replace H := Option.bind_eq_some_iff.mp H
    obtain ⟨⟨t426, t427, t428, t429⟩, A230, H⟩ := H
    replace H : ((laws_asValue.f k t426 t427 t428 t429 t412 t413 t414 t415).bind fun t432 => (if t432 = true then ((spec_ValueOk.f k t398 t399 t400 t401).bind fun t433 => (if t433 = true then ((spec_ValueOk.f k t404 t405 t406 t407).bind fun t434 => (laws_FnValueEqual.j0 k (!t434) t398 t399 t400 t401 t404 t405 t406 t407 t412 t413 t414 t415)) else (laws_FnValueEqual.j0 k true t398 t399 t400 t401 t404 t405 t406 t407 t412 t413 t414 t415))) else (laws_FnValueEqual.j0 k true t398 t399 t400 t401 t404 t405 t406 t407 t412 t413 t414 t415))) = some r := H
    have A23 := Aside0.mk A230
    clear A230
    replace H := Option.bind_eq_some_iff.mp H
    obtain ⟨t432, A240, H⟩ := H
    replace H : (if t432 = true then ((spec_ValueOk.f k t398 t399 t400 t401).bind fun t433 => (if t433 = true then ((spec_ValueOk.f k t404 t405 t406 t407).bind fun t434 => (laws_FnValueEqual.j0 k (!t434) t398 t399 t400 t401 t404 t405 t406 t407 t412 t413 t414 t415)) else (laws_FnValueEqual.j0 k true t398 t399 t400 t401 t404 t405 t406 t407 t412 t413 t414 t415))) else (laws_FnValueEqual.j0 k true t398 t399 t400 t401 t404 t405 t406 t407 t412 t413 t414 t415)) = some r := H
    have A24 := Aside0.mk A240
    clear A240
    by_cases c25 : t432 = true
    rotate_left
    · replace c25 := Bool.eq_false_iff.mpr c25
      subst c25
      have H1 : (laws_FnValueEqual.j0 k true t398 t399 t400 t401 t404 t405 t406 t407 t412 t413 t414 t415) = some r := by rw [if_neg (show ¬ (false = true) by decide)] at H; exact H
      clear H
      have H := H1
      clear H1
      have H' := Aside0.mk H
      clear H
      try go_wp2
      have n0_ : Aside0 (Kd.N k31 31 ((((w15.setCell ⟨gb418, 0, none⟩ (.int .i64 t412)).setCell ⟨gb418, 1, none⟩ (.int .i64 t413)).setCell ⟨gb418, 2, none⟩ (.string t414)).setCell ⟨gb418, 3, none⟩ (.slice Ao19 t415.length co19)) w.heap.size (fun k_ => some k_ ≠ (.slice Ao13 t407.length co13 : Value).ownBlock ∧ some k_ ≠ (.slice Ao19 t415.length co19 : Value).ownBlock ∧ k_ ≠ gb410 ∧ k_ ≠ gb411 ∧ k_ ≠ gb418) (.slice Ao11 t401.length co11) t401) := ⟨by (with_reducible repeat (first | apply Kd.N_alloc | apply Kd.N_drewN | apply Kd.N_drew)); first | exact Kd.N_mono (nf4 gb418 (Kd.N_mono HO403.out (fun k_ hk => (⟨hk, hk.2⟩ : _ ∧ k_ ≠ gb418))) (fun _ hk => hk.2)) (fun _ hk => ⟨hk.1.1.1.1.1, ⟨hk.1.1.2, ⟨hk.1.1.1.1.2, ⟨hk.1.1.1.2, hk.1.2⟩⟩⟩⟩) | exact Kd.N_mono (Kd.N_mono (nf4 gb418 (Kd.N_mono HO403.out (fun k_ hk => (⟨hk, hk.2⟩ : _ ∧ k_ ≠ gb418))) (fun _ hk => hk.2)) (fun _ hk => ⟨hk.1.1.1.1.1, ⟨hk.1.1.2, ⟨hk.1.1.1.1.2, ⟨hk.1.1.1.2, hk.1.2⟩⟩⟩⟩)) (fun _ h_ => by simpa only [and_assoc, and_comm, and_left_comm] using h_)⟩
      have n1_ : Aside0 (Kd.N k31 31 ((((w15.setCell ⟨gb418, 0, none⟩ (.int .i64 t412)).setCell ⟨gb418, 1, none⟩ (.int .i64 t413)).setCell ⟨gb418, 2, none⟩ (.string t414)).setCell ⟨gb418, 3, none⟩ (.slice Ao19 t415.length co19)) w.heap.size (fun k_ => some k_ ≠ (.slice Ao11 t401.length co11 : Value).ownBlock ∧ some k_ ≠ (.slice Ao19 t415.length co19 : Value).ownBlock ∧ k_ ≠ gb410 ∧ k_ ≠ gb411 ∧ k_ ≠ gb418) (.slice Ao13 t407.length co13) t407) := ⟨by (with_reducible repeat (first | apply Kd.N_alloc | apply Kd.N_drewN | apply Kd.N_drew)); first | exact Kd.N_mono (nf4 gb418 (Kd.N_mono HO409.out (fun k_ hk => (⟨hk, hk.2⟩ : _ ∧ k_ ≠ gb418))) (fun _ hk => hk.2)) (fun _ hk => ⟨hk.1.1.1.1.1, ⟨hk.1.1.2, ⟨hk.1.1.1.1.2, ⟨hk.1.1.1.2, hk.1.2⟩⟩⟩⟩) | exact Kd.N_mono (Kd.N_mono (nf4 gb418 (Kd.N_mono HO409.out (fun k_ hk => (⟨hk, hk.2⟩ : _ ∧ k_ ≠ gb418))) (fun _ hk => hk.2)) (fun _ hk => ⟨hk.1.1.1.1.1, ⟨hk.1.1.2, ⟨hk.1.1.1.1.2, ⟨hk.1.1.1.2, hk.1.2⟩⟩⟩⟩)) (fun _ h_ => by simpa only [and_assoc, and_comm, and_left_comm] using h_)⟩
      have n2_ : Aside0 (Kd.N k31 31 ((((w15.setCell ⟨gb418, 0, none⟩ (.int .i64 t412)).setCell ⟨gb418, 1, none⟩ (.int .i64 t413)).setCell ⟨gb418, 2, none⟩ (.string t414)).setCell ⟨gb418, 3, none⟩ (.slice Ao19 t415.length co19)) w.heap.size (fun k_ => some k_ ≠ (.slice Ao11 t401.length co11 : Value).ownBlock ∧ some k_ ≠ (.slice Ao13 t407.length co13 : Value).ownBlock ∧ k_ ≠ gb410 ∧ k_ ≠ gb411 ∧ k_ ≠ gb418) (.slice Ao19 t415.length co19) t415) := ⟨by (with_reducible repeat (first | apply Kd.N_alloc | apply Kd.N_drewN | apply Kd.N_drew)); first | exact Kd.N_mono (nf4 gb418 (Kd.N_mono HO417.out (fun k_ hk => (⟨hk, hk.2⟩ : _ ∧ k_ ≠ gb418))) (fun _ hk => hk.2)) (fun _ hk => ⟨hk.1.1.1, ⟨hk.1.1.2.1, ⟨hk.1.1.2.2.1, ⟨hk.1.1.2.2.2, hk.1.2⟩⟩⟩⟩) | exact Kd.N_mono (Kd.N_mono (nf4 gb418 (Kd.N_mono HO417.out (fun k_ hk => (⟨hk, hk.2⟩ : _ ∧ k_ ≠ gb418))) (fun _ hk => hk.2)) (fun _ hk => ⟨hk.1.1.1, ⟨hk.1.1.2.1, ⟨hk.1.1.2.2.1, ⟨hk.1.1.2.2.2, hk.1.2⟩⟩⟩⟩)) (fun _ h_ => by simpa only [and_assoc, and_comm, and_left_comm] using h_)⟩
      have n3_ : Aside0 (((((w15.setCell ⟨gb418, 0, none⟩ (.int .i64 t412)).setCell ⟨gb418, 1, none⟩ (.int .i64 t413)).setCell ⟨gb418, 2, none⟩ (.string t414)).setCell ⟨gb418, 3, none⟩ (.slice Ao19 t415.length co19)).heap[gb410]? = some (.cells #[.int .i64 t398, .int .i64 t399, .string t400, .slice Ao11 t401.length co11] 31 (0, 0))) := ⟨by refine pe_ ?_; refine blk_far ?_ NB410_418.out _; refine pe_ ?_; refine blk_far ?_ NB410_418.out _; refine pe_ ?_; refine blk_far ?_ NB410_418.out _; refine pe_ ?_; refine blk_far ?_ NB410_418.out _; refine pe_ ?_; exact BK410.out⟩
      have n4_ : Aside0 (((((w15.setCell ⟨gb418, 0, none⟩ (.int .i64 t412)).setCell ⟨gb418, 1, none⟩ (.int .i64 t413)).setCell ⟨gb418, 2, none⟩ (.string t414)).setCell ⟨gb418, 3, none⟩ (.slice Ao19 t415.length co19)).heap[gb411]? = some (.cells #[.int .i64 t404, .int .i64 t405, .string t406, .slice Ao13 t407.length co13] 31 (0, 0))) := ⟨by refine pe_ ?_; refine blk_far ?_ NB411_418.out _; refine pe_ ?_; refine blk_far ?_ NB411_418.out _; refine pe_ ?_; refine blk_far ?_ NB411_418.out _; refine pe_ ?_; refine blk_far ?_ NB411_418.out _; refine pe_ ?_; exact BK411.out⟩
      have n5_ : Aside0 (((((w15.setCell ⟨gb418, 0, none⟩ (.int .i64 t412)).setCell ⟨gb418, 1, none⟩ (.int .i64 t413)).setCell ⟨gb418, 2, none⟩ (.string t414)).setCell ⟨gb418, 3, none⟩ (.slice Ao19 t415.length co19)).heap[gb418]? = some (.cells #[.int .i64 t412, .int .i64 t413, .string t414, .slice Ao19 t415.length co19] 31 (0, 0))) := ⟨by refine pe_ ?_; refine blk_put (cs := #[.int .i64 t412, .int .i64 t413, .string t414, .slice none 0 0]) ?_ 3 _ rfl; refine pe_ ?_; refine blk_put (cs := #[.int .i64 t412, .int .i64 t413, .string (⟨#[]⟩ : ByteArray), .slice none 0 0]) ?_ 2 _ rfl; refine pe_ ?_; refine blk_put (cs := #[.int .i64 t412, .int .i64 0, .string (⟨#[]⟩ : ByteArray), .slice none 0 0]) ?_ 1 _ rfl; refine pe_ ?_; refine blk_put (cs := #[.int .i64 0, .int .i64 0, .string (⟨#[]⟩ : ByteArray), .slice none 0 0]) ?_ 0 _ rfl; refine pe_ ?_; exact BK418.out⟩
      have n6_ : Aside0 (Below w.heap.size w ((((w15.setCell ⟨gb418, 0, none⟩ (.int .i64 t412)).setCell ⟨gb418, 1, none⟩ (.int .i64 t413)).setCell ⟨gb418, 2, none⟩ (.string t414)).setCell ⟨gb418, 3, none⟩ (.slice Ao19 t415.length co19))) := ⟨bel_⟩
      (try clear HO403)
      (try clear HO409)
      (try clear HO417)
      (try clear BK410)
      (try clear BK411)
      (try clear BK418)
      (try clear HB)
      generalize ((((w15.setCell ⟨gb418, 0, none⟩ (.int .i64 t412)).setCell ⟨gb418, 1, none⟩ (.int .i64 t413)).setCell ⟨gb418, 2, none⟩ (.string t414)).setCell ⟨gb418, 3, none⟩ (.slice Ao19 t415.length co19)) = w48 at n0_ n1_ n2_ n3_ n4_ n5_ n6_ ⊢
      have HO403 := n0_
      have HO409 := n1_
      have HO417 := n2_
      have BK410 := n3_
      have BK411 := n4_
      have BK418 := n5_
      have HB := n6_
      clear n0_ n1_ n2_ n3_ n4_ n5_ n6_
      replace HO403 := Aside0.mk (Kd.N_drew HO403.out)
      replace HO409 := Aside0.mk (Kd.N_drew HO409.out)
      replace HO417 := Aside0.mk (Kd.N_drew HO417.out)
      replace BK410 := Aside0.mk (blk_drew BK410.out)
      replace BK411 := Aside0.mk (blk_drew BK411.out)
      replace BK418 := Aside0.mk (blk_drew BK418.out)
      replace HB := Aside0.mk (below_drew1 HB.out)
      refine start_ (n := 24) (S := fun w' => w'.cell? ⟨gb418, 0, none⟩ = some (.int .i64 t412) ∧ w'.cell? ⟨gb418, 1, none⟩ = some (.int .i64 t413) ∧ w'.cell? ⟨gb418, 2, none⟩ = some (.string t414) ∧ w'.cell? ⟨gb418, 3, none⟩ = some (.slice Ao19 t415.length co19) ∧ w'.cell? ⟨gb410, 0, none⟩ = some (.int .i64 t398) ∧ w'.cell? ⟨gb410, 1, none⟩ = some (.int .i64 t399) ∧ w'.cell? ⟨gb410, 2, none⟩ = some (.string t400) ∧ w'.cell? ⟨gb410, 3, none⟩ = some (.slice Ao11 t401.length co11) ∧ w'.cell? ⟨gb411, 0, none⟩ = some (.int .i64 t404) ∧ w'.cell? ⟨gb411, 1, none⟩ = some (.int .i64 t405) ∧ w'.cell? ⟨gb411, 2, none⟩ = some (.string t406) ∧ w'.cell? ⟨gb411, 3, none⟩ = some (.slice Ao13 t407.length co13)) (ds := []) #[false, false, false, false, false, false, false, false, false, false, false, false, false, false, false, false, false, false, false, false, false, false, false, false] (by kernel_rfl) rfl rfl ⟨(blkc BK418 0), (blkc BK418 1), (blkc BK418 2), (blkc BK418 3), (blkc BK410 0), (blkc BK410 1), (blkc BK410 2), (blkc BK410 3), (blkc BK411 0), (blkc BK411 1), (blkc BK411 2), (blkc BK411 3)⟩ (fun hHeld => ?_); refine with_tabW laws_FnValueEqual.tab5 laws_FnValueEqual.bits5 (fun HT_ HW_ => ?_)
      generalize w48.drew = w49 at HO403 HO409 HO417 BK410 BK411 BK418 HB hHeld ⊢
      refine taA 0 (some 17) ?_
      refine taA 1 (some 18) ?_
      refine taA 2 (some 19) ?_
      refine one_ (i := 3) (N := some 20) #[true, true, true, true, false, false, false, false, false, false, false, false, false, false, false, false, false, false, false, false, false, false, false, false] rfl rfl (one_of HT_.out (by kernel_rfl)) (by decide) (fun K hK => ?_)
      refine goes_ Try.func39 (by kernel_rfl) rfl #[.agg #[.int .i64 t398, .int .i64 t399, .string t400, .slice Ao11 t401.length co11], .agg #[.int .i64 t404, .int .i64 t405, .string t406, .slice Ao13 t407.length co13]] (by rfl) rfl rfl ar_ ?_
      with_reducible refine (spec_ValueEqual.calls k t398 t399 t400 _ _ t401 t404 t405 t406 _ _ t407 t419 t420 t421 t422 _ ?side1 ?side2 ?side3 ?side4 A20.out).mono ?_
      (case side1 => repeat (first | exact (Kd.N_reads' HO403.out).2.2 | (with_reducible refine Kd.C_alloc ?_ _) | (with_reducible refine Kd.C_drewN ?_ _) | (with_reducible refine Kd.C_drew ?_)))
      (case side2 => exact (Kd.N_reads' HO403.out).2.1)
      (case side3 => repeat (first | exact (Kd.N_reads' HO409.out).2.2 | (with_reducible refine Kd.C_alloc ?_ _) | (with_reducible refine Kd.C_drewN ?_ _) | (with_reducible refine Kd.C_drew ?_)))
      (case side4 => exact (Kd.N_reads' HO409.out).2.1)
      rintro e w50 ⟨v423, rfl, ho0, hb⟩
      refine ⟨_, rfl, ?_⟩
      have HO424 := Aside0.mk (Kd.N_lower (Kd.N_mono (ok' := fun k_ => some k_ ≠ (.slice Ao11 t401.length co11 : Value).ownBlock ∧ some k_ ≠ (.slice Ao13 t407.length co13 : Value).ownBlock ∧ some k_ ≠ (.slice Ao19 t415.length co19 : Value).ownBlock ∧ k_ ≠ gb410 ∧ k_ ≠ gb411 ∧ k_ ≠ gb418) (Kd.R_N (Kd.R_bound ho0)) (fun k_ hk_ => ⟨(Kd.fresh' (Kd.N_lt (by (with_reducible repeat (first | apply Kd.N_alloc | apply Kd.N_drewN | apply Kd.N_drew)); first | exact HO403.out | exact Kd.N_mono (HO403.out) (fun _ h_ => by simpa only [and_assoc, and_comm, and_left_comm] using h_))) k_ hk_.2.1), (Kd.fresh' (Kd.N_lt (by (with_reducible repeat (first | apply Kd.N_alloc | apply Kd.N_drewN | apply Kd.N_drew)); first | exact HO409.out | exact Kd.N_mono (HO409.out) (fun _ h_ => by simpa only [and_assoc, and_comm, and_left_comm] using h_))) k_ hk_.2.1), (Kd.fresh' (Kd.N_lt (by (with_reducible repeat (first | apply Kd.N_alloc | apply Kd.N_drewN | apply Kd.N_drew)); first | exact HO417.out | exact Kd.N_mono (HO417.out) (fun _ h_ => by simpa only [and_assoc, and_comm, and_left_comm] using h_))) k_ hk_.2.1), (Kd.freshB (g := gb410) (o := .cells #[.int .i64 t398, .int .i64 t399, .string t400, .slice Ao11 t401.length co11] 31 (0, 0)) (bk_ BK410) k_ hk_.2.1), (Kd.freshB (g := gb411) (o := .cells #[.int .i64 t404, .int .i64 t405, .string t406, .slice Ao13 t407.length co13] 31 (0, 0)) (bk_ BK411) k_ hk_.2.1), (Kd.freshB (g := gb418) (o := .cells #[.int .i64 t412, .int .i64 t413, .string t414, .slice Ao19 t415.length co19] 31 (0, 0)) (bk_ BK418) k_ hk_.2.1)⟩)) (below_size (bel_)))
      replace HO403 := Aside0.mk (Kd.N_elder' (by (with_reducible repeat (first | apply Kd.N_alloc | apply Kd.N_drewN | apply Kd.N_drew)); first | exact HO403.out | exact Kd.N_mono (HO403.out) (fun _ h_ => by simpa only [and_assoc, and_comm, and_left_comm] using h_)) (Kd.R_base ho0) hb)
      replace HO409 := Aside0.mk (Kd.N_elder' (by (with_reducible repeat (first | apply Kd.N_alloc | apply Kd.N_drewN | apply Kd.N_drew)); first | exact HO409.out | exact Kd.N_mono (HO409.out) (fun _ h_ => by simpa only [and_assoc, and_comm, and_left_comm] using h_)) (Kd.R_base ho0) hb)
      replace HO417 := Aside0.mk (Kd.N_elder' (by (with_reducible repeat (first | apply Kd.N_alloc | apply Kd.N_drewN | apply Kd.N_drew)); first | exact HO417.out | exact Kd.N_mono (HO417.out) (fun _ h_ => by simpa only [and_assoc, and_comm, and_left_comm] using h_)) (Kd.R_base ho0) hb)
      replace BK410 := bb_ BK410 hb
      replace BK411 := bb_ BK411 hb
      replace BK418 := bb_ BK418 hb
      replace HB := bs_ hb
      (try clear hb)
      (try clear hb2)
      (try clear hk)
      (try clear hi)
      (try clear ho0)
      obtain ⟨Ao51, co51, eo51⟩ := Kd.N_slice HO424.out
      (first | subst eo51 | (injection eo51 with f1_ f2_ f3_; have f4_ := f1_.symm; have f5_ := f3_.symm; clear f1_ f2_ f3_; subst f4_; subst f5_))
      refine hK.out _ _ ⟨(blkc BK418 0), (blkc BK418 1), (blkc BK418 2), (blkc BK418 3), (blkc BK410 0), (blkc BK410 1), (blkc BK410 2), (blkc BK410 3), (blkc BK411 0), (blkc BK411 1), (blkc BK411 2), (blkc BK411 3)⟩ (fun hHeld => ?_)
      clear hK K
      refine norm_ (a' := ?_) ?_ ?_
      rotate_left
      · show Act.put _ (some 20) _ = _
        simp only [Act.put, List.setIfInBounds_toArray, List.set_cons_zero, List.set_cons_succ, i64_w, i32_w]
        rfl
      refine one_ (i := 4) (N := some 21) #[true, true, true, true, true, false, false, false, false, false, false, false, false, false, false, false, false, false, false, false, false, false, false, false] rfl rfl (one_of HT_.out (by kernel_rfl)) (by decide) (fun K hK => ?_)
      refine goes_ Try.func38 (by kernel_rfl) rfl #[.agg #[.int .i64 t412, .int .i64 t413, .string t414, .slice Ao19 t415.length co19], .agg #[.int .i64 t419, .int .i64 t420, .string t421, .slice Ao51 t422.length co51]] (by rfl) rfl rfl ar_ ?_
      with_reducible refine (laws_asValue.calls k t412 t413 t414 _ _ t415 t419 t420 t421 _ _ t422 true _ ?side1 ?side2 ?side3 ?side4 A21.out).mono ?_
      (case side1 => repeat (first | exact (Kd.N_reads' HO417.out).2.2 | (with_reducible refine Kd.C_alloc ?_ _) | (with_reducible refine Kd.C_drewN ?_ _) | (with_reducible refine Kd.C_drew ?_)))
      (case side2 => exact (Kd.N_reads' HO417.out).2.1)
      (case side3 => repeat (first | exact (Kd.N_reads' HO424.out).2.2 | (with_reducible refine Kd.C_alloc ?_ _) | (with_reducible refine Kd.C_drewN ?_ _) | (with_reducible refine Kd.C_drew ?_)))
      (case side4 => exact (Kd.N_reads' HO424.out).2.1)
      rintro e w52 ⟨rfl, hb⟩
      refine ⟨_, rfl, ?_⟩
      replace HO403 := Aside0.mk (Kd.N_below (by (with_reducible repeat (first | apply Kd.N_alloc | apply Kd.N_drewN | apply Kd.N_drew)); first | exact HO403.out | exact Kd.N_mono (HO403.out) (fun _ h_ => by simpa only [and_assoc, and_comm, and_left_comm] using h_)) hb)
      replace HO409 := Aside0.mk (Kd.N_below (by (with_reducible repeat (first | apply Kd.N_alloc | apply Kd.N_drewN | apply Kd.N_drew)); first | exact HO409.out | exact Kd.N_mono (HO409.out) (fun _ h_ => by simpa only [and_assoc, and_comm, and_left_comm] using h_)) hb)
      replace HO417 := Aside0.mk (Kd.N_below (by (with_reducible repeat (first | apply Kd.N_alloc | apply Kd.N_drewN | apply Kd.N_drew)); first | exact HO417.out | exact Kd.N_mono (HO417.out) (fun _ h_ => by simpa only [and_assoc, and_comm, and_left_comm] using h_)) hb)
      replace HO424 := Aside0.mk (Kd.N_below (by (with_reducible repeat (first | apply Kd.N_alloc | apply Kd.N_drewN | apply Kd.N_drew)); first | exact HO424.out | exact Kd.N_mono (HO424.out) (fun _ h_ => by simpa only [and_assoc, and_comm, and_left_comm] using h_)) hb)
      replace BK410 := bb_ BK410 hb
      replace BK411 := bb_ BK411 hb
      replace BK418 := bb_ BK418 hb
      replace HB := bs_ hb
      (try clear hb)
      (try clear hb2)
      (try clear hk)
      (try clear hi)
      refine hK.out _ _ ⟨(blkc BK418 0), (blkc BK418 1), (blkc BK418 2), (blkc BK418 3), (blkc BK410 0), (blkc BK410 1), (blkc BK410 2), (blkc BK410 3), (blkc BK411 0), (blkc BK411 1), (blkc BK411 2), (blkc BK411 3)⟩ (fun hHeld => ?_)
      clear hK K
      refine norm_ (a' := ?_) ?_ ?_
      rotate_left
      · show Act.put _ (some 21) _ = _
        simp only [Act.put, List.setIfInBounds_toArray, List.set_cons_zero, List.set_cons_succ, i64_w, i32_w]
        rfl
      refine puA 5 (some 22) ?_
      refine puA 6 (some 23) ?_
      refine taA 7 (some 24) ?_
      refine taA 8 (some 25) ?_
      refine taA 10 (some 27) ?_
      refine one_ (i := 9) (N := some 26) #[true, true, true, true, true, true, true, true, true, true, true, false, false, false, false, false, false, false, false, false, false, false, false, false] rfl rfl (one_of HT_.out (by kernel_rfl)) (by decide) (fun K hK => ?_)
      refine goes_ Try.func40 (by kernel_rfl) rfl #[.agg #[.int .i64 t404, .int .i64 t405, .string t406, .slice Ao13 t407.length co13], .agg #[.int .i64 t398, .int .i64 t399, .string t400, .slice Ao11 t401.length co11]] (by rfl) rfl rfl ar_ ?_
      with_reducible refine (impl_ValueEqual.calls k t404 t405 t406 _ _ t407 t398 t399 t400 _ _ t401 t426 t427 t428 t429 _ ?side1 ?side2 ?side3 ?side4 A23.out).mono ?_
      (case side1 => repeat (first | exact (Kd.N_reads' HO409.out).2.2 | (with_reducible refine Kd.C_alloc ?_ _) | (with_reducible refine Kd.C_drewN ?_ _) | (with_reducible refine Kd.C_drew ?_)))
      (case side2 => exact (Kd.N_reads' HO409.out).2.1)
      (case side3 => repeat (first | exact (Kd.N_reads' HO403.out).2.2 | (with_reducible refine Kd.C_alloc ?_ _) | (with_reducible refine Kd.C_drewN ?_ _) | (with_reducible refine Kd.C_drew ?_)))
      (case side4 => exact (Kd.N_reads' HO403.out).2.1)
      rintro e w53 ⟨v430, rfl, ho0, hb⟩
      refine ⟨_, rfl, ?_⟩
      have HO431 := Aside0.mk (Kd.N_lower (Kd.N_mono (ok' := fun k_ => some k_ ≠ (.slice Ao11 t401.length co11 : Value).ownBlock ∧ some k_ ≠ (.slice Ao13 t407.length co13 : Value).ownBlock ∧ some k_ ≠ (.slice Ao19 t415.length co19 : Value).ownBlock ∧ some k_ ≠ (.slice Ao51 t422.length co51 : Value).ownBlock ∧ k_ ≠ gb410 ∧ k_ ≠ gb411 ∧ k_ ≠ gb418) (Kd.R_N (Kd.R_bound ho0)) (fun k_ hk_ => ⟨(Kd.fresh' (Kd.N_lt (by (with_reducible repeat (first | apply Kd.N_alloc | apply Kd.N_drewN | apply Kd.N_drew)); first | exact HO403.out | exact Kd.N_mono (HO403.out) (fun _ h_ => by simpa only [and_assoc, and_comm, and_left_comm] using h_))) k_ hk_.2.1), (Kd.fresh' (Kd.N_lt (by (with_reducible repeat (first | apply Kd.N_alloc | apply Kd.N_drewN | apply Kd.N_drew)); first | exact HO409.out | exact Kd.N_mono (HO409.out) (fun _ h_ => by simpa only [and_assoc, and_comm, and_left_comm] using h_))) k_ hk_.2.1), (Kd.fresh' (Kd.N_lt (by (with_reducible repeat (first | apply Kd.N_alloc | apply Kd.N_drewN | apply Kd.N_drew)); first | exact HO417.out | exact Kd.N_mono (HO417.out) (fun _ h_ => by simpa only [and_assoc, and_comm, and_left_comm] using h_))) k_ hk_.2.1), (Kd.fresh' (Kd.N_lt (by (with_reducible repeat (first | apply Kd.N_alloc | apply Kd.N_drewN | apply Kd.N_drew)); first | exact HO424.out | exact Kd.N_mono (HO424.out) (fun _ h_ => by simpa only [and_assoc, and_comm, and_left_comm] using h_))) k_ hk_.2.1), (Kd.freshB (g := gb410) (o := .cells #[.int .i64 t398, .int .i64 t399, .string t400, .slice Ao11 t401.length co11] 31 (0, 0)) (bk_ BK410) k_ hk_.2.1), (Kd.freshB (g := gb411) (o := .cells #[.int .i64 t404, .int .i64 t405, .string t406, .slice Ao13 t407.length co13] 31 (0, 0)) (bk_ BK411) k_ hk_.2.1), (Kd.freshB (g := gb418) (o := .cells #[.int .i64 t412, .int .i64 t413, .string t414, .slice Ao19 t415.length co19] 31 (0, 0)) (bk_ BK418) k_ hk_.2.1)⟩)) (below_size (bel_)))
      replace HO403 := Aside0.mk (Kd.N_elder' (by (with_reducible repeat (first | apply Kd.N_alloc | apply Kd.N_drewN | apply Kd.N_drew)); first | exact HO403.out | exact Kd.N_mono (HO403.out) (fun _ h_ => by simpa only [and_assoc, and_comm, and_left_comm] using h_)) (Kd.R_base ho0) hb)
      replace HO409 := Aside0.mk (Kd.N_elder' (by (with_reducible repeat (first | apply Kd.N_alloc | apply Kd.N_drewN | apply Kd.N_drew)); first | exact HO409.out | exact Kd.N_mono (HO409.out) (fun _ h_ => by simpa only [and_assoc, and_comm, and_left_comm] using h_)) (Kd.R_base ho0) hb)
      replace HO417 := Aside0.mk (Kd.N_elder' (by (with_reducible repeat (first | apply Kd.N_alloc | apply Kd.N_drewN | apply Kd.N_drew)); first | exact HO417.out | exact Kd.N_mono (HO417.out) (fun _ h_ => by simpa only [and_assoc, and_comm, and_left_comm] using h_)) (Kd.R_base ho0) hb)
      replace HO424 := Aside0.mk (Kd.N_elder' (by (with_reducible repeat (first | apply Kd.N_alloc | apply Kd.N_drewN | apply Kd.N_drew)); first | exact HO424.out | exact Kd.N_mono (HO424.out) (fun _ h_ => by simpa only [and_assoc, and_comm, and_left_comm] using h_)) (Kd.R_base ho0) hb)
      replace BK410 := bb_ BK410 hb
      replace BK411 := bb_ BK411 hb
      replace BK418 := bb_ BK418 hb
      replace HB := bs_ hb
      (try clear hb)
      (try clear hb2)
      (try clear hk)
      (try clear hi)
      (try clear ho0)
      obtain ⟨Ao54, co54, eo54⟩ := Kd.N_slice HO431.out
      (first | subst eo54 | (injection eo54 with f1_ f2_ f3_; have f4_ := f1_.symm; have f5_ := f3_.symm; clear f1_ f2_ f3_; subst f4_; subst f5_))
      refine hK.out _ _ ⟨(blkc BK418 0), (blkc BK418 1), (blkc BK418 2), (blkc BK418 3), (blkc BK410 0), (blkc BK410 1), (blkc BK410 2), (blkc BK410 3), (blkc BK411 0), (blkc BK411 1), (blkc BK411 2), (blkc BK411 3)⟩ (fun hHeld => ?_)
      clear hK K
      refine norm_ (a' := ?_) ?_ ?_
      rotate_left
      · show Act.put _ (some 26) _ = _
        simp only [Act.put, List.setIfInBounds_toArray, List.set_cons_zero, List.set_cons_succ, i64_w, i32_w]
        rfl
      refine one_ (i := 11) (N := some 28) #[true, true, true, true, true, true, true, true, true, true, true, true, false, false, false, false, false, false, false, false, false, false, false, false] rfl rfl (one_of HT_.out (by kernel_rfl)) (by decide) (fun K hK => ?_)
      refine goes_ Try.func38 (by kernel_rfl) rfl #[.agg #[.int .i64 t426, .int .i64 t427, .string t428, .slice Ao54 t429.length co54], .agg #[.int .i64 t412, .int .i64 t413, .string t414, .slice Ao19 t415.length co19]] (by rfl) rfl rfl ar_ ?_
      with_reducible refine (laws_asValue.calls k t426 t427 t428 _ _ t429 t412 t413 t414 _ _ t415 false _ ?side1 ?side2 ?side3 ?side4 A24.out).mono ?_
      (case side1 => repeat (first | exact (Kd.N_reads' HO431.out).2.2 | (with_reducible refine Kd.C_alloc ?_ _) | (with_reducible refine Kd.C_drewN ?_ _) | (with_reducible refine Kd.C_drew ?_)))
      (case side2 => exact (Kd.N_reads' HO431.out).2.1)
      (case side3 => repeat (first | exact (Kd.N_reads' HO417.out).2.2 | (with_reducible refine Kd.C_alloc ?_ _) | (with_reducible refine Kd.C_drewN ?_ _) | (with_reducible refine Kd.C_drew ?_)))
      (case side4 => exact (Kd.N_reads' HO417.out).2.1)
      rintro e w55 ⟨rfl, hb⟩
      refine ⟨_, rfl, ?_⟩
      replace HO403 := Aside0.mk (Kd.N_below (by (with_reducible repeat (first | apply Kd.N_alloc | apply Kd.N_drewN | apply Kd.N_drew)); first | exact HO403.out | exact Kd.N_mono (HO403.out) (fun _ h_ => by simpa only [and_assoc, and_comm, and_left_comm] using h_)) hb)
      replace HO409 := Aside0.mk (Kd.N_below (by (with_reducible repeat (first | apply Kd.N_alloc | apply Kd.N_drewN | apply Kd.N_drew)); first | exact HO409.out | exact Kd.N_mono (HO409.out) (fun _ h_ => by simpa only [and_assoc, and_comm, and_left_comm] using h_)) hb)
      replace HO417 := Aside0.mk (Kd.N_below (by (with_reducible repeat (first | apply Kd.N_alloc | apply Kd.N_drewN | apply Kd.N_drew)); first | exact HO417.out | exact Kd.N_mono (HO417.out) (fun _ h_ => by simpa only [and_assoc, and_comm, and_left_comm] using h_)) hb)
      replace HO424 := Aside0.mk (Kd.N_below (by (with_reducible repeat (first | apply Kd.N_alloc | apply Kd.N_drewN | apply Kd.N_drew)); first | exact HO424.out | exact Kd.N_mono (HO424.out) (fun _ h_ => by simpa only [and_assoc, and_comm, and_left_comm] using h_)) hb)
      replace HO431 := Aside0.mk (Kd.N_below (by (with_reducible repeat (first | apply Kd.N_alloc | apply Kd.N_drewN | apply Kd.N_drew)); first | exact HO431.out | exact Kd.N_mono (HO431.out) (fun _ h_ => by simpa only [and_assoc, and_comm, and_left_comm] using h_)) hb)
      replace BK410 := bb_ BK410 hb
      replace BK411 := bb_ BK411 hb
      replace BK418 := bb_ BK418 hb
      replace HB := bs_ hb
      (try clear hb)
      (try clear hb2)
      (try clear hk)
      (try clear hi)
      refine hK.out _ _ ⟨(blkc BK418 0), (blkc BK418 1), (blkc BK418 2), (blkc BK418 3), (blkc BK410 0), (blkc BK410 1), (blkc BK410 2), (blkc BK410 3), (blkc BK411 0), (blkc BK411 1), (blkc BK411 2), (blkc BK411 3)⟩ (fun hHeld => ?_)
      clear hK K
      refine norm_ (a' := ?_) ?_ ?_
      rotate_left
      · show Act.put _ (some 28) _ = _
        simp only [Act.put, List.setIfInBounds_toArray, List.set_cons_zero, List.set_cons_succ, i64_w, i32_w]
        rfl
      refine puA 12 (some 29) ?_
      refine puA 13 (some 30) ?_
      refine puA 14 (some 31) ?_
      refine puX 15 (some 32) ?_
      refine puX 16 (some 33) ?_
      refine puX 17 (some 34) ?_
      refine puA 18 (some 35) ?_
      refine puA 19 (some 36) ?_
      refine puX 20 (some 37) ?_
      refine puX 21 (some 38) ?_
      refine puX 22 (some 39) ?_
      refine puA 23 (some 40) ?_
      refine done_ (done_of HT_.out (by kernel_rfl)) ?_
      try go_wp2
      go_meet
      case rel => exact ⟨_, (true), sm_, H', ⟨by first | omega | exact Nat.le_refl _⟩, ⟨by (with_reducible repeat (first | apply Kd.N_alloc | apply Kd.N_drewN | apply Kd.N_drew)); first | exact Kd.N_mono HO403.out (fun _ hk => ⟨hk.1.1.1, ⟨hk.1.1.2.1, ⟨hk.1.1.2.2.1, ⟨hk.1.1.2.2.2.1, hk.1.1.2.2.2.2⟩⟩⟩⟩) | exact Kd.N_mono (Kd.N_mono HO403.out (fun _ hk => ⟨hk.1.1.1, ⟨hk.1.1.2.1, ⟨hk.1.1.2.2.1, ⟨hk.1.1.2.2.2.1, hk.1.1.2.2.2.2⟩⟩⟩⟩)) (fun _ h_ => by simpa only [and_assoc, and_comm, and_left_comm] using h_)⟩, ⟨by (with_reducible repeat (first | apply Kd.N_alloc | apply Kd.N_drewN | apply Kd.N_drew)); first | exact Kd.N_mono HO409.out (fun _ hk => ⟨hk.1.1.1, ⟨hk.1.1.2.1, ⟨hk.1.1.2.2.1, ⟨hk.1.1.2.2.2.1, hk.1.1.2.2.2.2⟩⟩⟩⟩) | exact Kd.N_mono (Kd.N_mono HO409.out (fun _ hk => ⟨hk.1.1.1, ⟨hk.1.1.2.1, ⟨hk.1.1.2.2.1, ⟨hk.1.1.2.2.2.1, hk.1.1.2.2.2.2⟩⟩⟩⟩)) (fun _ h_ => by simpa only [and_assoc, and_comm, and_left_comm] using h_)⟩, ⟨by (with_reducible repeat (first | apply Kd.N_alloc | apply Kd.N_drewN | apply Kd.N_drew)); first | exact Kd.N_mono HO417.out (fun _ hk => ⟨hk.1.1.1, ⟨hk.1.1.2.1, ⟨hk.1.1.2.2.1, ⟨hk.1.1.2.2.2.1, hk.1.1.2.2.2.2⟩⟩⟩⟩) | exact Kd.N_mono (Kd.N_mono HO417.out (fun _ hk => ⟨hk.1.1.1, ⟨hk.1.1.2.1, ⟨hk.1.1.2.2.1, ⟨hk.1.1.2.2.2.1, hk.1.1.2.2.2.2⟩⟩⟩⟩)) (fun _ h_ => by simpa only [and_assoc, and_comm, and_left_comm] using h_)⟩, ⟨by refine pe_ ?_; exact BK410.out⟩, ⟨by refine pe_ ?_; exact BK411.out⟩, ⟨by refine pe_ ?_; exact BK418.out⟩, ⟨bel_⟩⟩
    subst c25
    have H1 : ((spec_ValueOk.f k t398 t399 t400 t401).bind fun t433 => (if t433 = true then ((spec_ValueOk.f k t404 t405 t406 t407).bind fun t434 => (laws_FnValueEqual.j0 k (!t434) t398 t399 t400 t401 t404 t405 t406 t407 t412 t413 t414 t415)) else (laws_FnValueEqual.j0 k true t398 t399 t400 t401 t404 t405 t406 t407 t412 t413 t414 t415))) = some r := by rw [if_pos rfl] at H; exact H
    clear H
    have H := H1
    clear H1
    replace H := Option.bind_eq_some_iff.mp H
    obtain ⟨t433, A260, H⟩ := H
    replace H : (if t433 = true then ((spec_ValueOk.f k t404 t405 t406 t407).bind fun t434 => (laws_FnValueEqual.j0 k (!t434) t398 t399 t400 t401 t404 t405 t406 t407 t412 t413 t414 t415)) else (laws_FnValueEqual.j0 k true t398 t399 t400 t401 t404 t405 t406 t407 t412 t413 t414 t415)) = some r := H
    have A26 := Aside0.mk A260
    clear A260
    by_cases c27 : t433 = true
    rotate_left
    · replace c27 := Bool.eq_false_iff.mpr c27
      subst c27
      have H1 : (laws_FnValueEqual.j0 k true t398 t399 t400 t401 t404 t405 t406 t407 t412 t413 t414 t415) = some r := by rw [if_neg (show ¬ (false = true) by decide)] at H; exact H
      clear H
      have H := H1
      clear H1
      have H' := Aside0.mk H
      clear H
      try go_wp2
      have n0_ : Aside0 (Kd.N k31 31 ((((w15.setCell ⟨gb418, 0, none⟩ (.int .i64 t412)).setCell ⟨gb418, 1, none⟩ (.int .i64 t413)).setCell ⟨gb418, 2, none⟩ (.string t414)).setCell ⟨gb418, 3, none⟩ (.slice Ao19 t415.length co19)) w.heap.size (fun k_ => some k_ ≠ (.slice Ao13 t407.length co13 : Value).ownBlock ∧ some k_ ≠ (.slice Ao19 t415.length co19 : Value).ownBlock ∧ k_ ≠ gb410 ∧ k_ ≠ gb411 ∧ k_ ≠ gb418) (.slice Ao11 t401.length co11) t401) := ⟨by (with_reducible repeat (first | apply Kd.N_alloc | apply Kd.N_drewN | apply Kd.N_drew)); first | exact Kd.N_mono (nf4 gb418 (Kd.N_mono HO403.out (fun k_ hk => (⟨hk, hk.2⟩ : _ ∧ k_ ≠ gb418))) (fun _ hk => hk.2)) (fun _ hk => ⟨hk.1.1.1.1.1, ⟨hk.1.1.2, ⟨hk.1.1.1.1.2, ⟨hk.1.1.1.2, hk.1.2⟩⟩⟩⟩) | exact Kd.N_mono (Kd.N_mono (nf4 gb418 (Kd.N_mono HO403.out (fun k_ hk => (⟨hk, hk.2⟩ : _ ∧ k_ ≠ gb418))) (fun _ hk => hk.2)) (fun _ hk => ⟨hk.1.1.1.1.1, ⟨hk.1.1.2, ⟨hk.1.1.1.1.2, ⟨hk.1.1.1.2, hk.1.2⟩⟩⟩⟩)) (fun _ h_ => by simpa only [and_assoc, and_comm, and_left_comm] using h_)⟩
      have n1_ : Aside0 (Kd.N k31 31 ((((w15.setCell ⟨gb418, 0, none⟩ (.int .i64 t412)).setCell ⟨gb418, 1, none⟩ (.int .i64 t413)).setCell ⟨gb418, 2, none⟩ (.string t414)).setCell ⟨gb418, 3, none⟩ (.slice Ao19 t415.length co19)) w.heap.size (fun k_ => some k_ ≠ (.slice Ao11 t401.length co11 : Value).ownBlock ∧ some k_ ≠ (.slice Ao19 t415.length co19 : Value).ownBlock ∧ k_ ≠ gb410 ∧ k_ ≠ gb411 ∧ k_ ≠ gb418) (.slice Ao13 t407.length co13) t407) := ⟨by (with_reducible repeat (first | apply Kd.N_alloc | apply Kd.N_drewN | apply Kd.N_drew)); first | exact Kd.N_mono (nf4 gb418 (Kd.N_mono HO409.out (fun k_ hk => (⟨hk, hk.2⟩ : _ ∧ k_ ≠ gb418))) (fun _ hk => hk.2)) (fun _ hk => ⟨hk.1.1.1.1.1, ⟨hk.1.1.2, ⟨hk.1.1.1.1.2, ⟨hk.1.1.1.2, hk.1.2⟩⟩⟩⟩) | exact Kd.N_mono (Kd.N_mono (nf4 gb418 (Kd.N_mono HO409.out (fun k_ hk => (⟨hk, hk.2⟩ : _ ∧ k_ ≠ gb418))) (fun _ hk => hk.2)) (fun _ hk => ⟨hk.1.1.1.1.1, ⟨hk.1.1.2, ⟨hk.1.1.1.1.2, ⟨hk.1.1.1.2, hk.1.2⟩⟩⟩⟩)) (fun _ h_ => by simpa only [and_assoc, and_comm, and_left_comm] using h_)⟩
      have n2_ : Aside0 (Kd.N k31 31 ((((w15.setCell ⟨gb418, 0, none⟩ (.int .i64 t412)).setCell ⟨gb418, 1, none⟩ (.int .i64 t413)).setCell ⟨gb418, 2, none⟩ (.string t414)).setCell ⟨gb418, 3, none⟩ (.slice Ao19 t415.length co19)) w.heap.size (fun k_ => some k_ ≠ (.slice Ao11 t401.length co11 : Value).ownBlock ∧ some k_ ≠ (.slice Ao13 t407.length co13 : Value).ownBlock ∧ k_ ≠ gb410 ∧ k_ ≠ gb411 ∧ k_ ≠ gb418) (.slice Ao19 t415.length co19) t415) := ⟨by (with_reducible repeat (first | apply Kd.N_alloc | apply Kd.N_drewN | apply Kd.N_drew)); first | exact Kd.N_mono (nf4 gb418 (Kd.N_mono HO417.out (fun k_ hk => (⟨hk, hk.2⟩ : _ ∧ k_ ≠ gb418))) (fun _ hk => hk.2)) (fun _ hk => ⟨hk.1.1.1, ⟨hk.1.1.2.1, ⟨hk.1.1.2.2.1, ⟨hk.1.1.2.2.2, hk.1.2⟩⟩⟩⟩) | exact Kd.N_mono (Kd.N_mono (nf4 gb418 (Kd.N_mono HO417.out (fun k_ hk => (⟨hk, hk.2⟩ : _ ∧ k_ ≠ gb418))) (fun _ hk => hk.2)) (fun _ hk => ⟨hk.1.1.1, ⟨hk.1.1.2.1, ⟨hk.1.1.2.2.1, ⟨hk.1.1.2.2.2, hk.1.2⟩⟩⟩⟩)) (fun _ h_ => by simpa only [and_assoc, and_comm, and_left_comm] using h_)⟩
      have n3_ : Aside0 (((((w15.setCell ⟨gb418, 0, none⟩ (.int .i64 t412)).setCell ⟨gb418, 1, none⟩ (.int .i64 t413)).setCell ⟨gb418, 2, none⟩ (.string t414)).setCell ⟨gb418, 3, none⟩ (.slice Ao19 t415.length co19)).heap[gb410]? = some (.cells #[.int .i64 t398, .int .i64 t399, .string t400, .slice Ao11 t401.length co11] 31 (0, 0))) := ⟨by refine pe_ ?_; refine blk_far ?_ NB410_418.out _; refine pe_ ?_; refine blk_far ?_ NB410_418.out _; refine pe_ ?_; refine blk_far ?_ NB410_418.out _; refine pe_ ?_; refine blk_far ?_ NB410_418.out _; refine pe_ ?_; exact BK410.out⟩
      have n4_ : Aside0 (((((w15.setCell ⟨gb418, 0, none⟩ (.int .i64 t412)).setCell ⟨gb418, 1, none⟩ (.int .i64 t413)).setCell ⟨gb418, 2, none⟩ (.string t414)).setCell ⟨gb418, 3, none⟩ (.slice Ao19 t415.length co19)).heap[gb411]? = some (.cells #[.int .i64 t404, .int .i64 t405, .string t406, .slice Ao13 t407.length co13] 31 (0, 0))) := ⟨by refine pe_ ?_; refine blk_far ?_ NB411_418.out _; refine pe_ ?_; refine blk_far ?_ NB411_418.out _; refine pe_ ?_; refine blk_far ?_ NB411_418.out _; refine pe_ ?_; refine blk_far ?_ NB411_418.out _; refine pe_ ?_; exact BK411.out⟩
      have n5_ : Aside0 (((((w15.setCell ⟨gb418, 0, none⟩ (.int .i64 t412)).setCell ⟨gb418, 1, none⟩ (.int .i64 t413)).setCell ⟨gb418, 2, none⟩ (.string t414)).setCell ⟨gb418, 3, none⟩ (.slice Ao19 t415.length co19)).heap[gb418]? = some (.cells #[.int .i64 t412, .int .i64 t413, .string t414, .slice Ao19 t415.length co19] 31 (0, 0))) := ⟨by refine pe_ ?_; refine blk_put (cs := #[.int .i64 t412, .int .i64 t413, .string t414, .slice none 0 0]) ?_ 3 _ rfl; refine pe_ ?_; refine blk_put (cs := #[.int .i64 t412, .int .i64 t413, .string (⟨#[]⟩ : ByteArray), .slice none 0 0]) ?_ 2 _ rfl; refine pe_ ?_; refine blk_put (cs := #[.int .i64 t412, .int .i64 0, .string (⟨#[]⟩ : ByteArray), .slice none 0 0]) ?_ 1 _ rfl; refine pe_ ?_; refine blk_put (cs := #[.int .i64 0, .int .i64 0, .string (⟨#[]⟩ : ByteArray), .slice none 0 0]) ?_ 0 _ rfl; refine pe_ ?_; exact BK418.out⟩
      have n6_ : Aside0 (Below w.heap.size w ((((w15.setCell ⟨gb418, 0, none⟩ (.int .i64 t412)).setCell ⟨gb418, 1, none⟩ (.int .i64 t413)).setCell ⟨gb418, 2, none⟩ (.string t414)).setCell ⟨gb418, 3, none⟩ (.slice Ao19 t415.length co19))) := ⟨bel_⟩
      (try clear HO403)
      (try clear HO409)
      (try clear HO417)
      (try clear BK410)
      (try clear BK411)
      (try clear BK418)
      (try clear HB)
      generalize ((((w15.setCell ⟨gb418, 0, none⟩ (.int .i64 t412)).setCell ⟨gb418, 1, none⟩ (.int .i64 t413)).setCell ⟨gb418, 2, none⟩ (.string t414)).setCell ⟨gb418, 3, none⟩ (.slice Ao19 t415.length co19)) = w39 at n0_ n1_ n2_ n3_ n4_ n5_ n6_ ⊢
      have HO403 := n0_
      have HO409 := n1_
      have HO417 := n2_
      have BK410 := n3_
      have BK411 := n4_
      have BK418 := n5_
      have HB := n6_
      clear n0_ n1_ n2_ n3_ n4_ n5_ n6_
      replace HO403 := Aside0.mk (Kd.N_drew HO403.out)
      replace HO409 := Aside0.mk (Kd.N_drew HO409.out)
      replace HO417 := Aside0.mk (Kd.N_drew HO417.out)
      replace BK410 := Aside0.mk (blk_drew BK410.out)
      replace BK411 := Aside0.mk (blk_drew BK411.out)
      replace BK418 := Aside0.mk (blk_drew BK418.out)
      replace HB := Aside0.mk (below_drew1 HB.out)
      refine start_ (n := 24) (S := fun w' => w'.cell? ⟨gb418, 0, none⟩ = some (.int .i64 t412) ∧ w'.cell? ⟨gb418, 1, none⟩ = some (.int .i64 t413) ∧ w'.cell? ⟨gb418, 2, none⟩ = some (.string t414) ∧ w'.cell? ⟨gb418, 3, none⟩ = some (.slice Ao19 t415.length co19) ∧ w'.cell? ⟨gb410, 0, none⟩ = some (.int .i64 t398) ∧ w'.cell? ⟨gb410, 1, none⟩ = some (.int .i64 t399) ∧ w'.cell? ⟨gb410, 2, none⟩ = some (.string t400) ∧ w'.cell? ⟨gb410, 3, none⟩ = some (.slice Ao11 t401.length co11) ∧ w'.cell? ⟨gb411, 0, none⟩ = some (.int .i64 t404) ∧ w'.cell? ⟨gb411, 1, none⟩ = some (.int .i64 t405) ∧ w'.cell? ⟨gb411, 2, none⟩ = some (.string t406) ∧ w'.cell? ⟨gb411, 3, none⟩ = some (.slice Ao13 t407.length co13)) (ds := []) #[false, false, false, false, false, false, false, false, false, false, false, false, false, false, false, false, false, false, false, false, false, false, false, false] (by kernel_rfl) rfl rfl ⟨(blkc BK418 0), (blkc BK418 1), (blkc BK418 2), (blkc BK418 3), (blkc BK410 0), (blkc BK410 1), (blkc BK410 2), (blkc BK410 3), (blkc BK411 0), (blkc BK411 1), (blkc BK411 2), (blkc BK411 3)⟩ (fun hHeld => ?_); refine with_tabW laws_FnValueEqual.tab5 laws_FnValueEqual.bits5 (fun HT_ HW_ => ?_)
      generalize w39.drew = w40 at HO403 HO409 HO417 BK410 BK411 BK418 HB hHeld ⊢
      refine taA 0 (some 17) ?_
      refine taA 1 (some 18) ?_
      refine taA 2 (some 19) ?_
      refine one_ (i := 3) (N := some 20) #[true, true, true, true, false, false, false, false, false, false, false, false, false, false, false, false, false, false, false, false, false, false, false, false] rfl rfl (one_of HT_.out (by kernel_rfl)) (by decide) (fun K hK => ?_)
      refine goes_ Try.func39 (by kernel_rfl) rfl #[.agg #[.int .i64 t398, .int .i64 t399, .string t400, .slice Ao11 t401.length co11], .agg #[.int .i64 t404, .int .i64 t405, .string t406, .slice Ao13 t407.length co13]] (by rfl) rfl rfl ar_ ?_
      with_reducible refine (spec_ValueEqual.calls k t398 t399 t400 _ _ t401 t404 t405 t406 _ _ t407 t419 t420 t421 t422 _ ?side1 ?side2 ?side3 ?side4 A20.out).mono ?_
      (case side1 => repeat (first | exact (Kd.N_reads' HO403.out).2.2 | (with_reducible refine Kd.C_alloc ?_ _) | (with_reducible refine Kd.C_drewN ?_ _) | (with_reducible refine Kd.C_drew ?_)))
      (case side2 => exact (Kd.N_reads' HO403.out).2.1)
      (case side3 => repeat (first | exact (Kd.N_reads' HO409.out).2.2 | (with_reducible refine Kd.C_alloc ?_ _) | (with_reducible refine Kd.C_drewN ?_ _) | (with_reducible refine Kd.C_drew ?_)))
      (case side4 => exact (Kd.N_reads' HO409.out).2.1)
      rintro e w41 ⟨v423, rfl, ho0, hb⟩
      refine ⟨_, rfl, ?_⟩
      have HO424 := Aside0.mk (Kd.N_lower (Kd.N_mono (ok' := fun k_ => some k_ ≠ (.slice Ao11 t401.length co11 : Value).ownBlock ∧ some k_ ≠ (.slice Ao13 t407.length co13 : Value).ownBlock ∧ some k_ ≠ (.slice Ao19 t415.length co19 : Value).ownBlock ∧ k_ ≠ gb410 ∧ k_ ≠ gb411 ∧ k_ ≠ gb418) (Kd.R_N (Kd.R_bound ho0)) (fun k_ hk_ => ⟨(Kd.fresh' (Kd.N_lt (by (with_reducible repeat (first | apply Kd.N_alloc | apply Kd.N_drewN | apply Kd.N_drew)); first | exact HO403.out | exact Kd.N_mono (HO403.out) (fun _ h_ => by simpa only [and_assoc, and_comm, and_left_comm] using h_))) k_ hk_.2.1), (Kd.fresh' (Kd.N_lt (by (with_reducible repeat (first | apply Kd.N_alloc | apply Kd.N_drewN | apply Kd.N_drew)); first | exact HO409.out | exact Kd.N_mono (HO409.out) (fun _ h_ => by simpa only [and_assoc, and_comm, and_left_comm] using h_))) k_ hk_.2.1), (Kd.fresh' (Kd.N_lt (by (with_reducible repeat (first | apply Kd.N_alloc | apply Kd.N_drewN | apply Kd.N_drew)); first | exact HO417.out | exact Kd.N_mono (HO417.out) (fun _ h_ => by simpa only [and_assoc, and_comm, and_left_comm] using h_))) k_ hk_.2.1), (Kd.freshB (g := gb410) (o := .cells #[.int .i64 t398, .int .i64 t399, .string t400, .slice Ao11 t401.length co11] 31 (0, 0)) (bk_ BK410) k_ hk_.2.1), (Kd.freshB (g := gb411) (o := .cells #[.int .i64 t404, .int .i64 t405, .string t406, .slice Ao13 t407.length co13] 31 (0, 0)) (bk_ BK411) k_ hk_.2.1), (Kd.freshB (g := gb418) (o := .cells #[.int .i64 t412, .int .i64 t413, .string t414, .slice Ao19 t415.length co19] 31 (0, 0)) (bk_ BK418) k_ hk_.2.1)⟩)) (below_size (bel_)))
      replace HO403 := Aside0.mk (Kd.N_elder' (by (with_reducible repeat (first | apply Kd.N_alloc | apply Kd.N_drewN | apply Kd.N_drew)); first | exact HO403.out | exact Kd.N_mono (HO403.out) (fun _ h_ => by simpa only [and_assoc, and_comm, and_left_comm] using h_)) (Kd.R_base ho0) hb)
      replace HO409 := Aside0.mk (Kd.N_elder' (by (with_reducible repeat (first | apply Kd.N_alloc | apply Kd.N_drewN | apply Kd.N_drew)); first | exact HO409.out | exact Kd.N_mono (HO409.out) (fun _ h_ => by simpa only [and_assoc, and_comm, and_left_comm] using h_)) (Kd.R_base ho0) hb)
      replace HO417 := Aside0.mk (Kd.N_elder' (by (with_reducible repeat (first | apply Kd.N_alloc | apply Kd.N_drewN | apply Kd.N_drew)); first | exact HO417.out | exact Kd.N_mono (HO417.out) (fun _ h_ => by simpa only [and_assoc, and_comm, and_left_comm] using h_)) (Kd.R_base ho0) hb)
      replace BK410 := bb_ BK410 hb
      replace BK411 := bb_ BK411 hb
      replace BK418 := bb_ BK418 hb
      replace HB := bs_ hb
      (try clear hb)
      (try clear hb2)
      (try clear hk)
      (try clear hi)
      (try clear ho0)
      obtain ⟨Ao42, co42, eo42⟩ := Kd.N_slice HO424.out
      (first | subst eo42 | (injection eo42 with f1_ f2_ f3_; have f4_ := f1_.symm; have f5_ := f3_.symm; clear f1_ f2_ f3_; subst f4_; subst f5_))
      refine hK.out _ _ ⟨(blkc BK418 0), (blkc BK418 1), (blkc BK418 2), (blkc BK418 3), (blkc BK410 0), (blkc BK410 1), (blkc BK410 2), (blkc BK410 3), (blkc BK411 0), (blkc BK411 1), (blkc BK411 2), (blkc BK411 3)⟩ (fun hHeld => ?_)
      clear hK K
      refine norm_ (a' := ?_) ?_ ?_
      rotate_left
      · show Act.put _ (some 20) _ = _
        simp only [Act.put, List.setIfInBounds_toArray, List.set_cons_zero, List.set_cons_succ, i64_w, i32_w]
        rfl
      refine one_ (i := 4) (N := some 21) #[true, true, true, true, true, false, false, false, false, false, false, false, false, false, false, false, false, false, false, false, false, false, false, false] rfl rfl (one_of HT_.out (by kernel_rfl)) (by decide) (fun K hK => ?_)
      refine goes_ Try.func38 (by kernel_rfl) rfl #[.agg #[.int .i64 t412, .int .i64 t413, .string t414, .slice Ao19 t415.length co19], .agg #[.int .i64 t419, .int .i64 t420, .string t421, .slice Ao42 t422.length co42]] (by rfl) rfl rfl ar_ ?_
      with_reducible refine (laws_asValue.calls k t412 t413 t414 _ _ t415 t419 t420 t421 _ _ t422 true _ ?side1 ?side2 ?side3 ?side4 A21.out).mono ?_
      (case side1 => repeat (first | exact (Kd.N_reads' HO417.out).2.2 | (with_reducible refine Kd.C_alloc ?_ _) | (with_reducible refine Kd.C_drewN ?_ _) | (with_reducible refine Kd.C_drew ?_)))
      (case side2 => exact (Kd.N_reads' HO417.out).2.1)
      (case side3 => repeat (first | exact (Kd.N_reads' HO424.out).2.2 | (with_reducible refine Kd.C_alloc ?_ _) | (with_reducible refine Kd.C_drewN ?_ _) | (with_reducible refine Kd.C_drew ?_)))
      (case side4 => exact (Kd.N_reads' HO424.out).2.1)
      rintro e w43 ⟨rfl, hb⟩
      refine ⟨_, rfl, ?_⟩
      replace HO403 := Aside0.mk (Kd.N_below (by (with_reducible repeat (first | apply Kd.N_alloc | apply Kd.N_drewN | apply Kd.N_drew)); first | exact HO403.out | exact Kd.N_mono (HO403.out) (fun _ h_ => by simpa only [and_assoc, and_comm, and_left_comm] using h_)) hb)
      replace HO409 := Aside0.mk (Kd.N_below (by (with_reducible repeat (first | apply Kd.N_alloc | apply Kd.N_drewN | apply Kd.N_drew)); first | exact HO409.out | exact Kd.N_mono (HO409.out) (fun _ h_ => by simpa only [and_assoc, and_comm, and_left_comm] using h_)) hb)
      replace HO417 := Aside0.mk (Kd.N_below (by (with_reducible repeat (first | apply Kd.N_alloc | apply Kd.N_drewN | apply Kd.N_drew)); first | exact HO417.out | exact Kd.N_mono (HO417.out) (fun _ h_ => by simpa only [and_assoc, and_comm, and_left_comm] using h_)) hb)
      replace HO424 := Aside0.mk (Kd.N_below (by (with_reducible repeat (first | apply Kd.N_alloc | apply Kd.N_drewN | apply Kd.N_drew)); first | exact HO424.out | exact Kd.N_mono (HO424.out) (fun _ h_ => by simpa only [and_assoc, and_comm, and_left_comm] using h_)) hb)
      replace BK410 := bb_ BK410 hb
      replace BK411 := bb_ BK411 hb
      replace BK418 := bb_ BK418 hb
      replace HB := bs_ hb
      (try clear hb)
      (try clear hb2)
      (try clear hk)
      (try clear hi)
      refine hK.out _ _ ⟨(blkc BK418 0), (blkc BK418 1), (blkc BK418 2), (blkc BK418 3), (blkc BK410 0), (blkc BK410 1), (blkc BK410 2), (blkc BK410 3), (blkc BK411 0), (blkc BK411 1), (blkc BK411 2), (blkc BK411 3)⟩ (fun hHeld => ?_)
      clear hK K
      refine norm_ (a' := ?_) ?_ ?_
      rotate_left
      · show Act.put _ (some 21) _ = _
        simp only [Act.put, List.setIfInBounds_toArray, List.set_cons_zero, List.set_cons_succ, i64_w, i32_w]
        rfl
      refine puA 5 (some 22) ?_
      refine puA 6 (some 23) ?_
      refine taA 7 (some 24) ?_
      refine taA 8 (some 25) ?_
      refine taA 10 (some 27) ?_
      refine one_ (i := 9) (N := some 26) #[true, true, true, true, true, true, true, true, true, true, true, false, false, false, false, false, false, false, false, false, false, false, false, false] rfl rfl (one_of HT_.out (by kernel_rfl)) (by decide) (fun K hK => ?_)
      refine goes_ Try.func40 (by kernel_rfl) rfl #[.agg #[.int .i64 t404, .int .i64 t405, .string t406, .slice Ao13 t407.length co13], .agg #[.int .i64 t398, .int .i64 t399, .string t400, .slice Ao11 t401.length co11]] (by rfl) rfl rfl ar_ ?_
      with_reducible refine (impl_ValueEqual.calls k t404 t405 t406 _ _ t407 t398 t399 t400 _ _ t401 t426 t427 t428 t429 _ ?side1 ?side2 ?side3 ?side4 A23.out).mono ?_
      (case side1 => repeat (first | exact (Kd.N_reads' HO409.out).2.2 | (with_reducible refine Kd.C_alloc ?_ _) | (with_reducible refine Kd.C_drewN ?_ _) | (with_reducible refine Kd.C_drew ?_)))
      (case side2 => exact (Kd.N_reads' HO409.out).2.1)
      (case side3 => repeat (first | exact (Kd.N_reads' HO403.out).2.2 | (with_reducible refine Kd.C_alloc ?_ _) | (with_reducible refine Kd.C_drewN ?_ _) | (with_reducible refine Kd.C_drew ?_)))
      (case side4 => exact (Kd.N_reads' HO403.out).2.1)
      rintro e w44 ⟨v430, rfl, ho0, hb⟩
      refine ⟨_, rfl, ?_⟩
      have HO431 := Aside0.mk (Kd.N_lower (Kd.N_mono (ok' := fun k_ => some k_ ≠ (.slice Ao11 t401.length co11 : Value).ownBlock ∧ some k_ ≠ (.slice Ao13 t407.length co13 : Value).ownBlock ∧ some k_ ≠ (.slice Ao19 t415.length co19 : Value).ownBlock ∧ some k_ ≠ (.slice Ao42 t422.length co42 : Value).ownBlock ∧ k_ ≠ gb410 ∧ k_ ≠ gb411 ∧ k_ ≠ gb418) (Kd.R_N (Kd.R_bound ho0)) (fun k_ hk_ => ⟨(Kd.fresh' (Kd.N_lt (by (with_reducible repeat (first | apply Kd.N_alloc | apply Kd.N_drewN | apply Kd.N_drew)); first | exact HO403.out | exact Kd.N_mono (HO403.out) (fun _ h_ => by simpa only [and_assoc, and_comm, and_left_comm] using h_))) k_ hk_.2.1), (Kd.fresh' (Kd.N_lt (by (with_reducible repeat (first | apply Kd.N_alloc | apply Kd.N_drewN | apply Kd.N_drew)); first | exact HO409.out | exact Kd.N_mono (HO409.out) (fun _ h_ => by simpa only [and_assoc, and_comm, and_left_comm] using h_))) k_ hk_.2.1), (Kd.fresh' (Kd.N_lt (by (with_reducible repeat (first | apply Kd.N_alloc | apply Kd.N_drewN | apply Kd.N_drew)); first | exact HO417.out | exact Kd.N_mono (HO417.out) (fun _ h_ => by simpa only [and_assoc, and_comm, and_left_comm] using h_))) k_ hk_.2.1), (Kd.fresh' (Kd.N_lt (by (with_reducible repeat (first | apply Kd.N_alloc | apply Kd.N_drewN | apply Kd.N_drew)); first | exact HO424.out | exact Kd.N_mono (HO424.out) (fun _ h_ => by simpa only [and_assoc, and_comm, and_left_comm] using h_))) k_ hk_.2.1), (Kd.freshB (g := gb410) (o := .cells #[.int .i64 t398, .int .i64 t399, .string t400, .slice Ao11 t401.length co11] 31 (0, 0)) (bk_ BK410) k_ hk_.2.1), (Kd.freshB (g := gb411) (o := .cells #[.int .i64 t404, .int .i64 t405, .string t406, .slice Ao13 t407.length co13] 31 (0, 0)) (bk_ BK411) k_ hk_.2.1), (Kd.freshB (g := gb418) (o := .cells #[.int .i64 t412, .int .i64 t413, .string t414, .slice Ao19 t415.length co19] 31 (0, 0)) (bk_ BK418) k_ hk_.2.1)⟩)) (below_size (bel_)))
      replace HO403 := Aside0.mk (Kd.N_elder' (by (with_reducible repeat (first | apply Kd.N_alloc | apply Kd.N_drewN | apply Kd.N_drew)); first | exact HO403.out | exact Kd.N_mono (HO403.out) (fun _ h_ => by simpa only [and_assoc, and_comm, and_left_comm] using h_)) (Kd.R_base ho0) hb)
      replace HO409 := Aside0.mk (Kd.N_elder' (by (with_reducible repeat (first | apply Kd.N_alloc | apply Kd.N_drewN | apply Kd.N_drew)); first | exact HO409.out | exact Kd.N_mono (HO409.out) (fun _ h_ => by simpa only [and_assoc, and_comm, and_left_comm] using h_)) (Kd.R_base ho0) hb)
      replace HO417 := Aside0.mk (Kd.N_elder' (by (with_reducible repeat (first | apply Kd.N_alloc | apply Kd.N_drewN | apply Kd.N_drew)); first | exact HO417.out | exact Kd.N_mono (HO417.out) (fun _ h_ => by simpa only [and_assoc, and_comm, and_left_comm] using h_)) (Kd.R_base ho0) hb)
      replace HO424 := Aside0.mk (Kd.N_elder' (by (with_reducible repeat (first | apply Kd.N_alloc | apply Kd.N_drewN | apply Kd.N_drew)); first | exact HO424.out | exact Kd.N_mono (HO424.out) (fun _ h_ => by simpa only [and_assoc, and_comm, and_left_comm] using h_)) (Kd.R_base ho0) hb)
      replace BK410 := bb_ BK410 hb
      replace BK411 := bb_ BK411 hb
      replace BK418 := bb_ BK418 hb
      replace HB := bs_ hb
      (try clear hb)
      (try clear hb2)
      (try clear hk)
      (try clear hi)
      (try clear ho0)
      obtain ⟨Ao45, co45, eo45⟩ := Kd.N_slice HO431.out
      (first | subst eo45 | (injection eo45 with f1_ f2_ f3_; have f4_ := f1_.symm; have f5_ := f3_.symm; clear f1_ f2_ f3_; subst f4_; subst f5_))
      refine hK.out _ _ ⟨(blkc BK418 0), (blkc BK418 1), (blkc BK418 2), (blkc BK418 3), (blkc BK410 0), (blkc BK410 1), (blkc BK410 2), (blkc BK410 3), (blkc BK411 0), (blkc BK411 1), (blkc BK411 2), (blkc BK411 3)⟩ (fun hHeld => ?_)
      clear hK K
      refine norm_ (a' := ?_) ?_ ?_
      rotate_left
      · show Act.put _ (some 26) _ = _
        simp only [Act.put, List.setIfInBounds_toArray, List.set_cons_zero, List.set_cons_succ, i64_w, i32_w]
        rfl
      refine one_ (i := 11) (N := some 28) #[true, true, true, true, true, true, true, true, true, true, true, true, false, false, false, false, false, false, false, false, false, false, false, false] rfl rfl (one_of HT_.out (by kernel_rfl)) (by decide) (fun K hK => ?_)
      refine goes_ Try.func38 (by kernel_rfl) rfl #[.agg #[.int .i64 t426, .int .i64 t427, .string t428, .slice Ao45 t429.length co45], .agg #[.int .i64 t412, .int .i64 t413, .string t414, .slice Ao19 t415.length co19]] (by rfl) rfl rfl ar_ ?_
      with_reducible refine (laws_asValue.calls k t426 t427 t428 _ _ t429 t412 t413 t414 _ _ t415 true _ ?side1 ?side2 ?side3 ?side4 A24.out).mono ?_
      (case side1 => repeat (first | exact (Kd.N_reads' HO431.out).2.2 | (with_reducible refine Kd.C_alloc ?_ _) | (with_reducible refine Kd.C_drewN ?_ _) | (with_reducible refine Kd.C_drew ?_)))
      (case side2 => exact (Kd.N_reads' HO431.out).2.1)
      (case side3 => repeat (first | exact (Kd.N_reads' HO417.out).2.2 | (with_reducible refine Kd.C_alloc ?_ _) | (with_reducible refine Kd.C_drewN ?_ _) | (with_reducible refine Kd.C_drew ?_)))
      (case side4 => exact (Kd.N_reads' HO417.out).2.1)
      rintro e w46 ⟨rfl, hb⟩
      refine ⟨_, rfl, ?_⟩
      replace HO403 := Aside0.mk (Kd.N_below (by (with_reducible repeat (first | apply Kd.N_alloc | apply Kd.N_drewN | apply Kd.N_drew)); first | exact HO403.out | exact Kd.N_mono (HO403.out) (fun _ h_ => by simpa only [and_assoc, and_comm, and_left_comm] using h_)) hb)
      replace HO409 := Aside0.mk (Kd.N_below (by (with_reducible repeat (first | apply Kd.N_alloc | apply Kd.N_drewN | apply Kd.N_drew)); first | exact HO409.out | exact Kd.N_mono (HO409.out) (fun _ h_ => by simpa only [and_assoc, and_comm, and_left_comm] using h_)) hb)
      replace HO417 := Aside0.mk (Kd.N_below (by (with_reducible repeat (first | apply Kd.N_alloc | apply Kd.N_drewN | apply Kd.N_drew)); first | exact HO417.out | exact Kd.N_mono (HO417.out) (fun _ h_ => by simpa only [and_assoc, and_comm, and_left_comm] using h_)) hb)
      replace HO424 := Aside0.mk (Kd.N_below (by (with_reducible repeat (first | apply Kd.N_alloc | apply Kd.N_drewN | apply Kd.N_drew)); first | exact HO424.out | exact Kd.N_mono (HO424.out) (fun _ h_ => by simpa only [and_assoc, and_comm, and_left_comm] using h_)) hb)
      replace HO431 := Aside0.mk (Kd.N_below (by (with_reducible repeat (first | apply Kd.N_alloc | apply Kd.N_drewN | apply Kd.N_drew)); first | exact HO431.out | exact Kd.N_mono (HO431.out) (fun _ h_ => by simpa only [and_assoc, and_comm, and_left_comm] using h_)) hb)
      replace BK410 := bb_ BK410 hb
      replace BK411 := bb_ BK411 hb
      replace BK418 := bb_ BK418 hb
      replace HB := bs_ hb
      (try clear hb)
      (try clear hb2)
      (try clear hk)
      (try clear hi)
      refine hK.out _ _ ⟨(blkc BK418 0), (blkc BK418 1), (blkc BK418 2), (blkc BK418 3), (blkc BK410 0), (blkc BK410 1), (blkc BK410 2), (blkc BK410 3), (blkc BK411 0), (blkc BK411 1), (blkc BK411 2), (blkc BK411 3)⟩ (fun hHeld => ?_)
      clear hK K
      refine norm_ (a' := ?_) ?_ ?_
      rotate_left
      · show Act.put _ (some 28) _ = _
        simp only [Act.put, List.setIfInBounds_toArray, List.set_cons_zero, List.set_cons_succ, i64_w, i32_w]
        rfl
      refine puA 12 (some 29) ?_
      refine puA 13 (some 30) ?_
      refine puA 14 (some 31) ?_
      refine taA 15 (some 32) ?_
      refine one_ (i := 16) (N := some 33) #[true, true, true, true, true, true, true, true, true, true, true, true, true, true, true, true, true, false, false, false, false, false, false, false] rfl rfl (one_of HT_.out (by kernel_rfl)) (by decide) (fun K hK => ?_)
      refine goes_ Try.func33 (by kernel_rfl) rfl #[.agg #[.int .i64 t398, .int .i64 t399, .string t400, .slice Ao11 t401.length co11]] (by rfl) rfl rfl ar_ ?_
      with_reducible refine (spec_ValueOk.calls k t398 t399 t400 _ _ t401 false _ ?side1 ?side2 A26.out).mono ?_
      (case side1 => repeat (first | exact (Kd.N_reads' HO403.out).2.2 | (with_reducible refine Kd.C_alloc ?_ _) | (with_reducible refine Kd.C_drewN ?_ _) | (with_reducible refine Kd.C_drew ?_)))
      (case side2 => exact (Kd.N_reads' HO403.out).2.1)
      rintro e w47 ⟨rfl, hb⟩
      refine ⟨_, rfl, ?_⟩
      replace HO403 := Aside0.mk (Kd.N_below (by (with_reducible repeat (first | apply Kd.N_alloc | apply Kd.N_drewN | apply Kd.N_drew)); first | exact HO403.out | exact Kd.N_mono (HO403.out) (fun _ h_ => by simpa only [and_assoc, and_comm, and_left_comm] using h_)) hb)
      replace HO409 := Aside0.mk (Kd.N_below (by (with_reducible repeat (first | apply Kd.N_alloc | apply Kd.N_drewN | apply Kd.N_drew)); first | exact HO409.out | exact Kd.N_mono (HO409.out) (fun _ h_ => by simpa only [and_assoc, and_comm, and_left_comm] using h_)) hb)
      replace HO417 := Aside0.mk (Kd.N_below (by (with_reducible repeat (first | apply Kd.N_alloc | apply Kd.N_drewN | apply Kd.N_drew)); first | exact HO417.out | exact Kd.N_mono (HO417.out) (fun _ h_ => by simpa only [and_assoc, and_comm, and_left_comm] using h_)) hb)
      replace HO424 := Aside0.mk (Kd.N_below (by (with_reducible repeat (first | apply Kd.N_alloc | apply Kd.N_drewN | apply Kd.N_drew)); first | exact HO424.out | exact Kd.N_mono (HO424.out) (fun _ h_ => by simpa only [and_assoc, and_comm, and_left_comm] using h_)) hb)
      replace HO431 := Aside0.mk (Kd.N_below (by (with_reducible repeat (first | apply Kd.N_alloc | apply Kd.N_drewN | apply Kd.N_drew)); first | exact HO431.out | exact Kd.N_mono (HO431.out) (fun _ h_ => by simpa only [and_assoc, and_comm, and_left_comm] using h_)) hb)
      replace BK410 := bb_ BK410 hb
      replace BK411 := bb_ BK411 hb
      replace BK418 := bb_ BK418 hb
      replace HB := bs_ hb
      (try clear hb)
      (try clear hb2)
      (try clear hk)
      (try clear hi)
      refine hK.out _ _ ⟨(blkc BK418 0), (blkc BK418 1), (blkc BK418 2), (blkc BK418 3), (blkc BK410 0), (blkc BK410 1), (blkc BK410 2), (blkc BK410 3), (blkc BK411 0), (blkc BK411 1), (blkc BK411 2), (blkc BK411 3)⟩ (fun hHeld => ?_)
      clear hK K
      refine norm_ (a' := ?_) ?_ ?_
      rotate_left
      · show Act.put _ (some 33) _ = _
        simp only [Act.put, List.setIfInBounds_toArray, List.set_cons_zero, List.set_cons_succ, i64_w, i32_w]
        rfl
      refine puA 17 (some 34) ?_
      refine puA 18 (some 35) ?_
      refine puA 19 (some 36) ?_
      refine puX 20 (some 37) ?_
      refine puX 21 (some 38) ?_
      refine puX 22 (some 39) ?_
      refine puA 23 (some 40) ?_
      refine done_ (done_of HT_.out (by kernel_rfl)) ?_
      try go_wp2
      go_meet
      case rel => exact ⟨_, (true), sm_, H', ⟨by first | omega | exact Nat.le_refl _⟩, ⟨by (with_reducible repeat (first | apply Kd.N_alloc | apply Kd.N_drewN | apply Kd.N_drew)); first | exact Kd.N_mono HO403.out (fun _ hk => ⟨hk.1.1.1, ⟨hk.1.1.2.1, ⟨hk.1.1.2.2.1, ⟨hk.1.1.2.2.2.1, hk.1.1.2.2.2.2⟩⟩⟩⟩) | exact Kd.N_mono (Kd.N_mono HO403.out (fun _ hk => ⟨hk.1.1.1, ⟨hk.1.1.2.1, ⟨hk.1.1.2.2.1, ⟨hk.1.1.2.2.2.1, hk.1.1.2.2.2.2⟩⟩⟩⟩)) (fun _ h_ => by simpa only [and_assoc, and_comm, and_left_comm] using h_)⟩, ⟨by (with_reducible repeat (first | apply Kd.N_alloc | apply Kd.N_drewN | apply Kd.N_drew)); first | exact Kd.N_mono HO409.out (fun _ hk => ⟨hk.1.1.1, ⟨hk.1.1.2.1, ⟨hk.1.1.2.2.1, ⟨hk.1.1.2.2.2.1, hk.1.1.2.2.2.2⟩⟩⟩⟩) | exact Kd.N_mono (Kd.N_mono HO409.out (fun _ hk => ⟨hk.1.1.1, ⟨hk.1.1.2.1, ⟨hk.1.1.2.2.1, ⟨hk.1.1.2.2.2.1, hk.1.1.2.2.2.2⟩⟩⟩⟩)) (fun _ h_ => by simpa only [and_assoc, and_comm, and_left_comm] using h_)⟩, ⟨by (with_reducible repeat (first | apply Kd.N_alloc | apply Kd.N_drewN | apply Kd.N_drew)); first | exact Kd.N_mono HO417.out (fun _ hk => ⟨hk.1.1.1, ⟨hk.1.1.2.1, ⟨hk.1.1.2.2.1, ⟨hk.1.1.2.2.2.1, hk.1.1.2.2.2.2⟩⟩⟩⟩) | exact Kd.N_mono (Kd.N_mono HO417.out (fun _ hk => ⟨hk.1.1.1, ⟨hk.1.1.2.1, ⟨hk.1.1.2.2.1, ⟨hk.1.1.2.2.2.1, hk.1.1.2.2.2.2⟩⟩⟩⟩)) (fun _ h_ => by simpa only [and_assoc, and_comm, and_left_comm] using h_)⟩, ⟨by refine pe_ ?_; exact BK410.out⟩, ⟨by refine pe_ ?_; exact BK411.out⟩, ⟨by refine pe_ ?_; exact BK418.out⟩, ⟨bel_⟩⟩
    subst c27
    have H1 : ((spec_ValueOk.f k t404 t405 t406 t407).bind fun t434 => (laws_FnValueEqual.j0 k (!t434) t398 t399 t400 t401 t404 t405 t406 t407 t412 t413 t414 t415)) = some r := by rw [if_pos rfl] at H; exact H
    clear H
    have H := H1
    clear H1
    replace H := Option.bind_eq_some_iff.mp H
    obtain ⟨t434, A280, H⟩ := H
    replace H : (laws_FnValueEqual.j0 k (!t434) t398 t399 t400 t401 t404 t405 t406 t407 t412 t413 t414 t415) = some r := H
    have A28 := Aside0.mk A280
    clear A280
    have H' := Aside0.mk H
    clear H
    try go_wp2
    have n0_ : Aside0 (Kd.N k31 31 ((((w15.setCell ⟨gb418, 0, none⟩ (.int .i64 t412)).setCell ⟨gb418, 1, none⟩ (.int .i64 t413)).setCell ⟨gb418, 2, none⟩ (.string t414)).setCell ⟨gb418, 3, none⟩ (.slice Ao19 t415.length co19)) w.heap.size (fun k_ => some k_ ≠ (.slice Ao13 t407.length co13 : Value).ownBlock ∧ some k_ ≠ (.slice Ao19 t415.length co19 : Value).ownBlock ∧ k_ ≠ gb410 ∧ k_ ≠ gb411 ∧ k_ ≠ gb418) (.slice Ao11 t401.length co11) t401) := ⟨by (with_reducible repeat (first | apply Kd.N_alloc | apply Kd.N_drewN | apply Kd.N_drew)); first | exact Kd.N_mono (nf4 gb418 (Kd.N_mono HO403.out (fun k_ hk => (⟨hk, hk.2⟩ : _ ∧ k_ ≠ gb418))) (fun _ hk => hk.2)) (fun _ hk => ⟨hk.1.1.1.1.1, ⟨hk.1.1.2, ⟨hk.1.1.1.1.2, ⟨hk.1.1.1.2, hk.1.2⟩⟩⟩⟩) | exact Kd.N_mono (Kd.N_mono (nf4 gb418 (Kd.N_mono HO403.out (fun k_ hk => (⟨hk, hk.2⟩ : _ ∧ k_ ≠ gb418))) (fun _ hk => hk.2)) (fun _ hk => ⟨hk.1.1.1.1.1, ⟨hk.1.1.2, ⟨hk.1.1.1.1.2, ⟨hk.1.1.1.2, hk.1.2⟩⟩⟩⟩)) (fun _ h_ => by simpa only [and_assoc, and_comm, and_left_comm] using h_)⟩
    have n1_ : Aside0 (Kd.N k31 31 ((((w15.setCell ⟨gb418, 0, none⟩ (.int .i64 t412)).setCell ⟨gb418, 1, none⟩ (.int .i64 t413)).setCell ⟨gb418, 2, none⟩ (.string t414)).setCell ⟨gb418, 3, none⟩ (.slice Ao19 t415.length co19)) w.heap.size (fun k_ => some k_ ≠ (.slice Ao11 t401.length co11 : Value).ownBlock ∧ some k_ ≠ (.slice Ao19 t415.length co19 : Value).ownBlock ∧ k_ ≠ gb410 ∧ k_ ≠ gb411 ∧ k_ ≠ gb418) (.slice Ao13 t407.length co13) t407) := ⟨by (with_reducible repeat (first | apply Kd.N_alloc | apply Kd.N_drewN | apply Kd.N_drew)); first | exact Kd.N_mono (nf4 gb418 (Kd.N_mono HO409.out (fun k_ hk => (⟨hk, hk.2⟩ : _ ∧ k_ ≠ gb418))) (fun _ hk => hk.2)) (fun _ hk => ⟨hk.1.1.1.1.1, ⟨hk.1.1.2, ⟨hk.1.1.1.1.2, ⟨hk.1.1.1.2, hk.1.2⟩⟩⟩⟩) | exact Kd.N_mono (Kd.N_mono (nf4 gb418 (Kd.N_mono HO409.out (fun k_ hk => (⟨hk, hk.2⟩ : _ ∧ k_ ≠ gb418))) (fun _ hk => hk.2)) (fun _ hk => ⟨hk.1.1.1.1.1, ⟨hk.1.1.2, ⟨hk.1.1.1.1.2, ⟨hk.1.1.1.2, hk.1.2⟩⟩⟩⟩)) (fun _ h_ => by simpa only [and_assoc, and_comm, and_left_comm] using h_)⟩
    have n2_ : Aside0 (Kd.N k31 31 ((((w15.setCell ⟨gb418, 0, none⟩ (.int .i64 t412)).setCell ⟨gb418, 1, none⟩ (.int .i64 t413)).setCell ⟨gb418, 2, none⟩ (.string t414)).setCell ⟨gb418, 3, none⟩ (.slice Ao19 t415.length co19)) w.heap.size (fun k_ => some k_ ≠ (.slice Ao11 t401.length co11 : Value).ownBlock ∧ some k_ ≠ (.slice Ao13 t407.length co13 : Value).ownBlock ∧ k_ ≠ gb410 ∧ k_ ≠ gb411 ∧ k_ ≠ gb418) (.slice Ao19 t415.length co19) t415) := ⟨by (with_reducible repeat (first | apply Kd.N_alloc | apply Kd.N_drewN | apply Kd.N_drew)); first | exact Kd.N_mono (nf4 gb418 (Kd.N_mono HO417.out (fun k_ hk => (⟨hk, hk.2⟩ : _ ∧ k_ ≠ gb418))) (fun _ hk => hk.2)) (fun _ hk => ⟨hk.1.1.1, ⟨hk.1.1.2.1, ⟨hk.1.1.2.2.1, ⟨hk.1.1.2.2.2, hk.1.2⟩⟩⟩⟩) | exact Kd.N_mono (Kd.N_mono (nf4 gb418 (Kd.N_mono HO417.out (fun k_ hk => (⟨hk, hk.2⟩ : _ ∧ k_ ≠ gb418))) (fun _ hk => hk.2)) (fun _ hk => ⟨hk.1.1.1, ⟨hk.1.1.2.1, ⟨hk.1.1.2.2.1, ⟨hk.1.1.2.2.2, hk.1.2⟩⟩⟩⟩)) (fun _ h_ => by simpa only [and_assoc, and_comm, and_left_comm] using h_)⟩
    have n3_ : Aside0 (((((w15.setCell ⟨gb418, 0, none⟩ (.int .i64 t412)).setCell ⟨gb418, 1, none⟩ (.int .i64 t413)).setCell ⟨gb418, 2, none⟩ (.string t414)).setCell ⟨gb418, 3, none⟩ (.slice Ao19 t415.length co19)).heap[gb410]? = some (.cells #[.int .i64 t398, .int .i64 t399, .string t400, .slice Ao11 t401.length co11] 31 (0, 0))) := ⟨by refine pe_ ?_; refine blk_far ?_ NB410_418.out _; refine pe_ ?_; refine blk_far ?_ NB410_418.out _; refine pe_ ?_; refine blk_far ?_ NB410_418.out _; refine pe_ ?_; refine blk_far ?_ NB410_418.out _; refine pe_ ?_; exact BK410.out⟩
    have n4_ : Aside0 (((((w15.setCell ⟨gb418, 0, none⟩ (.int .i64 t412)).setCell ⟨gb418, 1, none⟩ (.int .i64 t413)).setCell ⟨gb418, 2, none⟩ (.string t414)).setCell ⟨gb418, 3, none⟩ (.slice Ao19 t415.length co19)).heap[gb411]? = some (.cells #[.int .i64 t404, .int .i64 t405, .string t406, .slice Ao13 t407.length co13] 31 (0, 0))) := ⟨by refine pe_ ?_; refine blk_far ?_ NB411_418.out _; refine pe_ ?_; refine blk_far ?_ NB411_418.out _; refine pe_ ?_; refine blk_far ?_ NB411_418.out _; refine pe_ ?_; refine blk_far ?_ NB411_418.out _; refine pe_ ?_; exact BK411.out⟩
    have n5_ : Aside0 (((((w15.setCell ⟨gb418, 0, none⟩ (.int .i64 t412)).setCell ⟨gb418, 1, none⟩ (.int .i64 t413)).setCell ⟨gb418, 2, none⟩ (.string t414)).setCell ⟨gb418, 3, none⟩ (.slice Ao19 t415.length co19)).heap[gb418]? = some (.cells #[.int .i64 t412, .int .i64 t413, .string t414, .slice Ao19 t415.length co19] 31 (0, 0))) := ⟨by refine pe_ ?_; refine blk_put (cs := #[.int .i64 t412, .int .i64 t413, .string t414, .slice none 0 0]) ?_ 3 _ rfl; refine pe_ ?_; refine blk_put (cs := #[.int .i64 t412, .int .i64 t413, .string (⟨#[]⟩ : ByteArray), .slice none 0 0]) ?_ 2 _ rfl; refine pe_ ?_; refine blk_put (cs := #[.int .i64 t412, .int .i64 0, .string (⟨#[]⟩ : ByteArray), .slice none 0 0]) ?_ 1 _ rfl; refine pe_ ?_; refine blk_put (cs := #[.int .i64 0, .int .i64 0, .string (⟨#[]⟩ : ByteArray), .slice none 0 0]) ?_ 0 _ rfl; refine pe_ ?_; exact BK418.out⟩
    have n6_ : Aside0 (Below w.heap.size w ((((w15.setCell ⟨gb418, 0, none⟩ (.int .i64 t412)).setCell ⟨gb418, 1, none⟩ (.int .i64 t413)).setCell ⟨gb418, 2, none⟩ (.string t414)).setCell ⟨gb418, 3, none⟩ (.slice Ao19 t415.length co19))) := ⟨bel_⟩
    (try clear HO403)
    (try clear HO409)
    (try clear HO417)
    (try clear BK410)
    (try clear BK411)
    (try clear BK418)
    (try clear HB)
    generalize ((((w15.setCell ⟨gb418, 0, none⟩ (.int .i64 t412)).setCell ⟨gb418, 1, none⟩ (.int .i64 t413)).setCell ⟨gb418, 2, none⟩ (.string t414)).setCell ⟨gb418, 3, none⟩ (.slice Ao19 t415.length co19)) = w29 at n0_ n1_ n2_ n3_ n4_ n5_ n6_ ⊢
    have HO403 := n0_
    have HO409 := n1_
    have HO417 := n2_
    have BK410 := n3_
    have BK411 := n4_
    have BK418 := n5_
    have HB := n6_
    clear n0_ n1_ n2_ n3_ n4_ n5_ n6_
    replace HO403 := Aside0.mk (Kd.N_drew HO403.out)
    replace HO409 := Aside0.mk (Kd.N_drew HO409.out)
    replace HO417 := Aside0.mk (Kd.N_drew HO417.out)
    replace BK410 := Aside0.mk (blk_drew BK410.out)
    replace BK411 := Aside0.mk (blk_drew BK411.out)
    replace BK418 := Aside0.mk (blk_drew BK418.out)
    replace HB := Aside0.mk (below_drew1 HB.out)
    refine start_ (n := 24) (S := fun w' => w'.cell? ⟨gb418, 0, none⟩ = some (.int .i64 t412) ∧ w'.cell? ⟨gb418, 1, none⟩ = some (.int .i64 t413) ∧ w'.cell? ⟨gb418, 2, none⟩ = some (.string t414) ∧ w'.cell? ⟨gb418, 3, none⟩ = some (.slice Ao19 t415.length co19) ∧ w'.cell? ⟨gb410, 0, none⟩ = some (.int .i64 t398) ∧ w'.cell? ⟨gb410, 1, none⟩ = some (.int .i64 t399) ∧ w'.cell? ⟨gb410, 2, none⟩ = some (.string t400) ∧ w'.cell? ⟨gb410, 3, none⟩ = some (.slice Ao11 t401.length co11) ∧ w'.cell? ⟨gb411, 0, none⟩ = some (.int .i64 t404) ∧ w'.cell? ⟨gb411, 1, none⟩ = some (.int .i64 t405) ∧ w'.cell? ⟨gb411, 2, none⟩ = some (.string t406) ∧ w'.cell? ⟨gb411, 3, none⟩ = some (.slice Ao13 t407.length co13)) (ds := []) #[false, false, false, false, false, false, false, false, false, false, false, false, false, false, false, false, false, false, false, false, false, false, false, false] (by kernel_rfl) rfl rfl ⟨(blkc BK418 0), (blkc BK418 1), (blkc BK418 2), (blkc BK418 3), (blkc BK410 0), (blkc BK410 1), (blkc BK410 2), (blkc BK410 3), (blkc BK411 0), (blkc BK411 1), (blkc BK411 2), (blkc BK411 3)⟩ (fun hHeld => ?_); refine with_tabW laws_FnValueEqual.tab5 laws_FnValueEqual.bits5 (fun HT_ HW_ => ?_)
    generalize w29.drew = w30 at HO403 HO409 HO417 BK410 BK411 BK418 HB hHeld ⊢
    refine taA 0 (some 17) ?_
    refine taA 1 (some 18) ?_
    refine taA 2 (some 19) ?_
    refine one_ (i := 3) (N := some 20) #[true, true, true, true, false, false, false, false, false, false, false, false, false, false, false, false, false, false, false, false, false, false, false, false] rfl rfl (one_of HT_.out (by kernel_rfl)) (by decide) (fun K hK => ?_)
    refine goes_ Try.func39 (by kernel_rfl) rfl #[.agg #[.int .i64 t398, .int .i64 t399, .string t400, .slice Ao11 t401.length co11], .agg #[.int .i64 t404, .int .i64 t405, .string t406, .slice Ao13 t407.length co13]] (by rfl) rfl rfl ar_ ?_
    with_reducible refine (spec_ValueEqual.calls k t398 t399 t400 _ _ t401 t404 t405 t406 _ _ t407 t419 t420 t421 t422 _ ?side1 ?side2 ?side3 ?side4 A20.out).mono ?_
    (case side1 => repeat (first | exact (Kd.N_reads' HO403.out).2.2 | (with_reducible refine Kd.C_alloc ?_ _) | (with_reducible refine Kd.C_drewN ?_ _) | (with_reducible refine Kd.C_drew ?_)))
    (case side2 => exact (Kd.N_reads' HO403.out).2.1)
    (case side3 => repeat (first | exact (Kd.N_reads' HO409.out).2.2 | (with_reducible refine Kd.C_alloc ?_ _) | (with_reducible refine Kd.C_drewN ?_ _) | (with_reducible refine Kd.C_drew ?_)))
    (case side4 => exact (Kd.N_reads' HO409.out).2.1)
    rintro e w31 ⟨v423, rfl, ho0, hb⟩
    refine ⟨_, rfl, ?_⟩
    have HO424 := Aside0.mk (Kd.N_lower (Kd.N_mono (ok' := fun k_ => some k_ ≠ (.slice Ao11 t401.length co11 : Value).ownBlock ∧ some k_ ≠ (.slice Ao13 t407.length co13 : Value).ownBlock ∧ some k_ ≠ (.slice Ao19 t415.length co19 : Value).ownBlock ∧ k_ ≠ gb410 ∧ k_ ≠ gb411 ∧ k_ ≠ gb418) (Kd.R_N (Kd.R_bound ho0)) (fun k_ hk_ => ⟨(Kd.fresh' (Kd.N_lt (by (with_reducible repeat (first | apply Kd.N_alloc | apply Kd.N_drewN | apply Kd.N_drew)); first | exact HO403.out | exact Kd.N_mono (HO403.out) (fun _ h_ => by simpa only [and_assoc, and_comm, and_left_comm] using h_))) k_ hk_.2.1), (Kd.fresh' (Kd.N_lt (by (with_reducible repeat (first | apply Kd.N_alloc | apply Kd.N_drewN | apply Kd.N_drew)); first | exact HO409.out | exact Kd.N_mono (HO409.out) (fun _ h_ => by simpa only [and_assoc, and_comm, and_left_comm] using h_))) k_ hk_.2.1), (Kd.fresh' (Kd.N_lt (by (with_reducible repeat (first | apply Kd.N_alloc | apply Kd.N_drewN | apply Kd.N_drew)); first | exact HO417.out | exact Kd.N_mono (HO417.out) (fun _ h_ => by simpa only [and_assoc, and_comm, and_left_comm] using h_))) k_ hk_.2.1), (Kd.freshB (g := gb410) (o := .cells #[.int .i64 t398, .int .i64 t399, .string t400, .slice Ao11 t401.length co11] 31 (0, 0)) (bk_ BK410) k_ hk_.2.1), (Kd.freshB (g := gb411) (o := .cells #[.int .i64 t404, .int .i64 t405, .string t406, .slice Ao13 t407.length co13] 31 (0, 0)) (bk_ BK411) k_ hk_.2.1), (Kd.freshB (g := gb418) (o := .cells #[.int .i64 t412, .int .i64 t413, .string t414, .slice Ao19 t415.length co19] 31 (0, 0)) (bk_ BK418) k_ hk_.2.1)⟩)) (below_size (bel_)))
    replace HO403 := Aside0.mk (Kd.N_elder' (by (with_reducible repeat (first | apply Kd.N_alloc | apply Kd.N_drewN | apply Kd.N_drew)); first | exact HO403.out | exact Kd.N_mono (HO403.out) (fun _ h_ => by simpa only [and_assoc, and_comm, and_left_comm] using h_)) (Kd.R_base ho0) hb)
    replace HO409 := Aside0.mk (Kd.N_elder' (by (with_reducible repeat (first | apply Kd.N_alloc | apply Kd.N_drewN | apply Kd.N_drew)); first | exact HO409.out | exact Kd.N_mono (HO409.out) (fun _ h_ => by simpa only [and_assoc, and_comm, and_left_comm] using h_)) (Kd.R_base ho0) hb)
    replace HO417 := Aside0.mk (Kd.N_elder' (by (with_reducible repeat (first | apply Kd.N_alloc | apply Kd.N_drewN | apply Kd.N_drew)); first | exact HO417.out | exact Kd.N_mono (HO417.out) (fun _ h_ => by simpa only [and_assoc, and_comm, and_left_comm] using h_)) (Kd.R_base ho0) hb)
    replace BK410 := bb_ BK410 hb
    replace BK411 := bb_ BK411 hb
    replace BK418 := bb_ BK418 hb
    replace HB := bs_ hb
    (try clear hb)
    (try clear hb2)
    (try clear hk)
    (try clear hi)
    (try clear ho0)
    obtain ⟨Ao32, co32, eo32⟩ := Kd.N_slice HO424.out
    (first | subst eo32 | (injection eo32 with f1_ f2_ f3_; have f4_ := f1_.symm; have f5_ := f3_.symm; clear f1_ f2_ f3_; subst f4_; subst f5_))
    refine hK.out _ _ ⟨(blkc BK418 0), (blkc BK418 1), (blkc BK418 2), (blkc BK418 3), (blkc BK410 0), (blkc BK410 1), (blkc BK410 2), (blkc BK410 3), (blkc BK411 0), (blkc BK411 1), (blkc BK411 2), (blkc BK411 3)⟩ (fun hHeld => ?_)
    clear hK K
    refine norm_ (a' := ?_) ?_ ?_
    rotate_left
    · show Act.put _ (some 20) _ = _
      simp only [Act.put, List.setIfInBounds_toArray, List.set_cons_zero, List.set_cons_succ, i64_w, i32_w]
      rfl
    refine one_ (i := 4) (N := some 21) #[true, true, true, true, true, false, false, false, false, false, false, false, false, false, false, false, false, false, false, false, false, false, false, false] rfl rfl (one_of HT_.out (by kernel_rfl)) (by decide) (fun K hK => ?_)
    refine goes_ Try.func38 (by kernel_rfl) rfl #[.agg #[.int .i64 t412, .int .i64 t413, .string t414, .slice Ao19 t415.length co19], .agg #[.int .i64 t419, .int .i64 t420, .string t421, .slice Ao32 t422.length co32]] (by rfl) rfl rfl ar_ ?_
    with_reducible refine (laws_asValue.calls k t412 t413 t414 _ _ t415 t419 t420 t421 _ _ t422 true _ ?side1 ?side2 ?side3 ?side4 A21.out).mono ?_
    (case side1 => repeat (first | exact (Kd.N_reads' HO417.out).2.2 | (with_reducible refine Kd.C_alloc ?_ _) | (with_reducible refine Kd.C_drewN ?_ _) | (with_reducible refine Kd.C_drew ?_)))
    (case side2 => exact (Kd.N_reads' HO417.out).2.1)
    (case side3 => repeat (first | exact (Kd.N_reads' HO424.out).2.2 | (with_reducible refine Kd.C_alloc ?_ _) | (with_reducible refine Kd.C_drewN ?_ _) | (with_reducible refine Kd.C_drew ?_)))
    (case side4 => exact (Kd.N_reads' HO424.out).2.1)
    rintro e w33 ⟨rfl, hb⟩
    refine ⟨_, rfl, ?_⟩
    replace HO403 := Aside0.mk (Kd.N_below (by (with_reducible repeat (first | apply Kd.N_alloc | apply Kd.N_drewN | apply Kd.N_drew)); first | exact HO403.out | exact Kd.N_mono (HO403.out) (fun _ h_ => by simpa only [and_assoc, and_comm, and_left_comm] using h_)) hb)
    replace HO409 := Aside0.mk (Kd.N_below (by (with_reducible repeat (first | apply Kd.N_alloc | apply Kd.N_drewN | apply Kd.N_drew)); first | exact HO409.out | exact Kd.N_mono (HO409.out) (fun _ h_ => by simpa only [and_assoc, and_comm, and_left_comm] using h_)) hb)
    replace HO417 := Aside0.mk (Kd.N_below (by (with_reducible repeat (first | apply Kd.N_alloc | apply Kd.N_drewN | apply Kd.N_drew)); first | exact HO417.out | exact Kd.N_mono (HO417.out) (fun _ h_ => by simpa only [and_assoc, and_comm, and_left_comm] using h_)) hb)
    replace HO424 := Aside0.mk (Kd.N_below (by (with_reducible repeat (first | apply Kd.N_alloc | apply Kd.N_drewN | apply Kd.N_drew)); first | exact HO424.out | exact Kd.N_mono (HO424.out) (fun _ h_ => by simpa only [and_assoc, and_comm, and_left_comm] using h_)) hb)
    replace BK410 := bb_ BK410 hb
    replace BK411 := bb_ BK411 hb
    replace BK418 := bb_ BK418 hb
    replace HB := bs_ hb
    (try clear hb)
    (try clear hb2)
    (try clear hk)
    (try clear hi)
    refine hK.out _ _ ⟨(blkc BK418 0), (blkc BK418 1), (blkc BK418 2), (blkc BK418 3), (blkc BK410 0), (blkc BK410 1), (blkc BK410 2), (blkc BK410 3), (blkc BK411 0), (blkc BK411 1), (blkc BK411 2), (blkc BK411 3)⟩ (fun hHeld => ?_)
    clear hK K
    refine norm_ (a' := ?_) ?_ ?_
    rotate_left
    · show Act.put _ (some 21) _ = _
      simp only [Act.put, List.setIfInBounds_toArray, List.set_cons_zero, List.set_cons_succ, i64_w, i32_w]
      rfl
    refine puA 5 (some 22) ?_
    refine puA 6 (some 23) ?_
    refine taA 7 (some 24) ?_
    refine taA 8 (some 25) ?_
    refine taA 10 (some 27) ?_
    refine one_ (i := 9) (N := some 26) #[true, true, true, true, true, true, true, true, true, true, true, false, false, false, false, false, false, false, false, false, false, false, false, false] rfl rfl (one_of HT_.out (by kernel_rfl)) (by decide) (fun K hK => ?_)
    refine goes_ Try.func40 (by kernel_rfl) rfl #[.agg #[.int .i64 t404, .int .i64 t405, .string t406, .slice Ao13 t407.length co13], .agg #[.int .i64 t398, .int .i64 t399, .string t400, .slice Ao11 t401.length co11]] (by rfl) rfl rfl ar_ ?_
    with_reducible refine (impl_ValueEqual.calls k t404 t405 t406 _ _ t407 t398 t399 t400 _ _ t401 t426 t427 t428 t429 _ ?side1 ?side2 ?side3 ?side4 A23.out).mono ?_
    (case side1 => repeat (first | exact (Kd.N_reads' HO409.out).2.2 | (with_reducible refine Kd.C_alloc ?_ _) | (with_reducible refine Kd.C_drewN ?_ _) | (with_reducible refine Kd.C_drew ?_)))
    (case side2 => exact (Kd.N_reads' HO409.out).2.1)
    (case side3 => repeat (first | exact (Kd.N_reads' HO403.out).2.2 | (with_reducible refine Kd.C_alloc ?_ _) | (with_reducible refine Kd.C_drewN ?_ _) | (with_reducible refine Kd.C_drew ?_)))
    (case side4 => exact (Kd.N_reads' HO403.out).2.1)
    rintro e w34 ⟨v430, rfl, ho0, hb⟩
    refine ⟨_, rfl, ?_⟩
    have HO431 := Aside0.mk (Kd.N_lower (Kd.N_mono (ok' := fun k_ => some k_ ≠ (.slice Ao11 t401.length co11 : Value).ownBlock ∧ some k_ ≠ (.slice Ao13 t407.length co13 : Value).ownBlock ∧ some k_ ≠ (.slice Ao19 t415.length co19 : Value).ownBlock ∧ some k_ ≠ (.slice Ao32 t422.length co32 : Value).ownBlock ∧ k_ ≠ gb410 ∧ k_ ≠ gb411 ∧ k_ ≠ gb418) (Kd.R_N (Kd.R_bound ho0)) (fun k_ hk_ => ⟨(Kd.fresh' (Kd.N_lt (by (with_reducible repeat (first | apply Kd.N_alloc | apply Kd.N_drewN | apply Kd.N_drew)); first | exact HO403.out | exact Kd.N_mono (HO403.out) (fun _ h_ => by simpa only [and_assoc, and_comm, and_left_comm] using h_))) k_ hk_.2.1), (Kd.fresh' (Kd.N_lt (by (with_reducible repeat (first | apply Kd.N_alloc | apply Kd.N_drewN | apply Kd.N_drew)); first | exact HO409.out | exact Kd.N_mono (HO409.out) (fun _ h_ => by simpa only [and_assoc, and_comm, and_left_comm] using h_))) k_ hk_.2.1), (Kd.fresh' (Kd.N_lt (by (with_reducible repeat (first | apply Kd.N_alloc | apply Kd.N_drewN | apply Kd.N_drew)); first | exact HO417.out | exact Kd.N_mono (HO417.out) (fun _ h_ => by simpa only [and_assoc, and_comm, and_left_comm] using h_))) k_ hk_.2.1), (Kd.fresh' (Kd.N_lt (by (with_reducible repeat (first | apply Kd.N_alloc | apply Kd.N_drewN | apply Kd.N_drew)); first | exact HO424.out | exact Kd.N_mono (HO424.out) (fun _ h_ => by simpa only [and_assoc, and_comm, and_left_comm] using h_))) k_ hk_.2.1), (Kd.freshB (g := gb410) (o := .cells #[.int .i64 t398, .int .i64 t399, .string t400, .slice Ao11 t401.length co11] 31 (0, 0)) (bk_ BK410) k_ hk_.2.1), (Kd.freshB (g := gb411) (o := .cells #[.int .i64 t404, .int .i64 t405, .string t406, .slice Ao13 t407.length co13] 31 (0, 0)) (bk_ BK411) k_ hk_.2.1), (Kd.freshB (g := gb418) (o := .cells #[.int .i64 t412, .int .i64 t413, .string t414, .slice Ao19 t415.length co19] 31 (0, 0)) (bk_ BK418) k_ hk_.2.1)⟩)) (below_size (bel_)))
    replace HO403 := Aside0.mk (Kd.N_elder' (by (with_reducible repeat (first | apply Kd.N_alloc | apply Kd.N_drewN | apply Kd.N_drew)); first | exact HO403.out | exact Kd.N_mono (HO403.out) (fun _ h_ => by simpa only [and_assoc, and_comm, and_left_comm] using h_)) (Kd.R_base ho0) hb)
    replace HO409 := Aside0.mk (Kd.N_elder' (by (with_reducible repeat (first | apply Kd.N_alloc | apply Kd.N_drewN | apply Kd.N_drew)); first | exact HO409.out | exact Kd.N_mono (HO409.out) (fun _ h_ => by simpa only [and_assoc, and_comm, and_left_comm] using h_)) (Kd.R_base ho0) hb)
    replace HO417 := Aside0.mk (Kd.N_elder' (by (with_reducible repeat (first | apply Kd.N_alloc | apply Kd.N_drewN | apply Kd.N_drew)); first | exact HO417.out | exact Kd.N_mono (HO417.out) (fun _ h_ => by simpa only [and_assoc, and_comm, and_left_comm] using h_)) (Kd.R_base ho0) hb)
    replace HO424 := Aside0.mk (Kd.N_elder' (by (with_reducible repeat (first | apply Kd.N_alloc | apply Kd.N_drewN | apply Kd.N_drew)); first | exact HO424.out | exact Kd.N_mono (HO424.out) (fun _ h_ => by simpa only [and_assoc, and_comm, and_left_comm] using h_)) (Kd.R_base ho0) hb)
    replace BK410 := bb_ BK410 hb
    replace BK411 := bb_ BK411 hb
    replace BK418 := bb_ BK418 hb
    replace HB := bs_ hb
    (try clear hb)
    (try clear hb2)
    (try clear hk)
    (try clear hi)
    (try clear ho0)
    obtain ⟨Ao35, co35, eo35⟩ := Kd.N_slice HO431.out
    (first | subst eo35 | (injection eo35 with f1_ f2_ f3_; have f4_ := f1_.symm; have f5_ := f3_.symm; clear f1_ f2_ f3_; subst f4_; subst f5_))
    refine hK.out _ _ ⟨(blkc BK418 0), (blkc BK418 1), (blkc BK418 2), (blkc BK418 3), (blkc BK410 0), (blkc BK410 1), (blkc BK410 2), (blkc BK410 3), (blkc BK411 0), (blkc BK411 1), (blkc BK411 2), (blkc BK411 3)⟩ (fun hHeld => ?_)
    clear hK K
    refine norm_ (a' := ?_) ?_ ?_
    rotate_left
    · show Act.put _ (some 26) _ = _
      simp only [Act.put, List.setIfInBounds_toArray, List.set_cons_zero, List.set_cons_succ, i64_w, i32_w]
      rfl
    refine one_ (i := 11) (N := some 28) #[true, true, true, true, true, true, true, true, true, true, true, true, false, false, false, false, false, false, false, false, false, false, false, false] rfl rfl (one_of HT_.out (by kernel_rfl)) (by decide) (fun K hK => ?_)
    refine goes_ Try.func38 (by kernel_rfl) rfl #[.agg #[.int .i64 t426, .int .i64 t427, .string t428, .slice Ao35 t429.length co35], .agg #[.int .i64 t412, .int .i64 t413, .string t414, .slice Ao19 t415.length co19]] (by rfl) rfl rfl ar_ ?_
    with_reducible refine (laws_asValue.calls k t426 t427 t428 _ _ t429 t412 t413 t414 _ _ t415 true _ ?side1 ?side2 ?side3 ?side4 A24.out).mono ?_
    (case side1 => repeat (first | exact (Kd.N_reads' HO431.out).2.2 | (with_reducible refine Kd.C_alloc ?_ _) | (with_reducible refine Kd.C_drewN ?_ _) | (with_reducible refine Kd.C_drew ?_)))
    (case side2 => exact (Kd.N_reads' HO431.out).2.1)
    (case side3 => repeat (first | exact (Kd.N_reads' HO417.out).2.2 | (with_reducible refine Kd.C_alloc ?_ _) | (with_reducible refine Kd.C_drewN ?_ _) | (with_reducible refine Kd.C_drew ?_)))
    (case side4 => exact (Kd.N_reads' HO417.out).2.1)
    rintro e w36 ⟨rfl, hb⟩
    refine ⟨_, rfl, ?_⟩
    replace HO403 := Aside0.mk (Kd.N_below (by (with_reducible repeat (first | apply Kd.N_alloc | apply Kd.N_drewN | apply Kd.N_drew)); first | exact HO403.out | exact Kd.N_mono (HO403.out) (fun _ h_ => by simpa only [and_assoc, and_comm, and_left_comm] using h_)) hb)
    replace HO409 := Aside0.mk (Kd.N_below (by (with_reducible repeat (first | apply Kd.N_alloc | apply Kd.N_drewN | apply Kd.N_drew)); first | exact HO409.out | exact Kd.N_mono (HO409.out) (fun _ h_ => by simpa only [and_assoc, and_comm, and_left_comm] using h_)) hb)
    replace HO417 := Aside0.mk (Kd.N_below (by (with_reducible repeat (first | apply Kd.N_alloc | apply Kd.N_drewN | apply Kd.N_drew)); first | exact HO417.out | exact Kd.N_mono (HO417.out) (fun _ h_ => by simpa only [and_assoc, and_comm, and_left_comm] using h_)) hb)
    replace HO424 := Aside0.mk (Kd.N_below (by (with_reducible repeat (first | apply Kd.N_alloc | apply Kd.N_drewN | apply Kd.N_drew)); first | exact HO424.out | exact Kd.N_mono (HO424.out) (fun _ h_ => by simpa only [and_assoc, and_comm, and_left_comm] using h_)) hb)
    replace HO431 := Aside0.mk (Kd.N_below (by (with_reducible repeat (first | apply Kd.N_alloc | apply Kd.N_drewN | apply Kd.N_drew)); first | exact HO431.out | exact Kd.N_mono (HO431.out) (fun _ h_ => by simpa only [and_assoc, and_comm, and_left_comm] using h_)) hb)
    replace BK410 := bb_ BK410 hb
    replace BK411 := bb_ BK411 hb
    replace BK418 := bb_ BK418 hb
    replace HB := bs_ hb
    (try clear hb)
    (try clear hb2)
    (try clear hk)
    (try clear hi)
    refine hK.out _ _ ⟨(blkc BK418 0), (blkc BK418 1), (blkc BK418 2), (blkc BK418 3), (blkc BK410 0), (blkc BK410 1), (blkc BK410 2), (blkc BK410 3), (blkc BK411 0), (blkc BK411 1), (blkc BK411 2), (blkc BK411 3)⟩ (fun hHeld => ?_)
    clear hK K
    refine norm_ (a' := ?_) ?_ ?_
    rotate_left
    · show Act.put _ (some 28) _ = _
      simp only [Act.put, List.setIfInBounds_toArray, List.set_cons_zero, List.set_cons_succ, i64_w, i32_w]
      rfl
    refine puA 12 (some 29) ?_
    refine puA 13 (some 30) ?_
    refine puA 14 (some 31) ?_
    refine taA 15 (some 32) ?_
    refine one_ (i := 16) (N := some 33) #[true, true, true, true, true, true, true, true, true, true, true, true, true, true, true, true, true, false, false, false, false, false, false, false] rfl rfl (one_of HT_.out (by kernel_rfl)) (by decide) (fun K hK => ?_)
    refine goes_ Try.func33 (by kernel_rfl) rfl #[.agg #[.int .i64 t398, .int .i64 t399, .string t400, .slice Ao11 t401.length co11]] (by rfl) rfl rfl ar_ ?_
    with_reducible refine (spec_ValueOk.calls k t398 t399 t400 _ _ t401 true _ ?side1 ?side2 A26.out).mono ?_
    (case side1 => repeat (first | exact (Kd.N_reads' HO403.out).2.2 | (with_reducible refine Kd.C_alloc ?_ _) | (with_reducible refine Kd.C_drewN ?_ _) | (with_reducible refine Kd.C_drew ?_)))
    (case side2 => exact (Kd.N_reads' HO403.out).2.1)
    rintro e w37 ⟨rfl, hb⟩
    refine ⟨_, rfl, ?_⟩
    replace HO403 := Aside0.mk (Kd.N_below (by (with_reducible repeat (first | apply Kd.N_alloc | apply Kd.N_drewN | apply Kd.N_drew)); first | exact HO403.out | exact Kd.N_mono (HO403.out) (fun _ h_ => by simpa only [and_assoc, and_comm, and_left_comm] using h_)) hb)
    replace HO409 := Aside0.mk (Kd.N_below (by (with_reducible repeat (first | apply Kd.N_alloc | apply Kd.N_drewN | apply Kd.N_drew)); first | exact HO409.out | exact Kd.N_mono (HO409.out) (fun _ h_ => by simpa only [and_assoc, and_comm, and_left_comm] using h_)) hb)
    replace HO417 := Aside0.mk (Kd.N_below (by (with_reducible repeat (first | apply Kd.N_alloc | apply Kd.N_drewN | apply Kd.N_drew)); first | exact HO417.out | exact Kd.N_mono (HO417.out) (fun _ h_ => by simpa only [and_assoc, and_comm, and_left_comm] using h_)) hb)
    replace HO424 := Aside0.mk (Kd.N_below (by (with_reducible repeat (first | apply Kd.N_alloc | apply Kd.N_drewN | apply Kd.N_drew)); first | exact HO424.out | exact Kd.N_mono (HO424.out) (fun _ h_ => by simpa only [and_assoc, and_comm, and_left_comm] using h_)) hb)
    replace HO431 := Aside0.mk (Kd.N_below (by (with_reducible repeat (first | apply Kd.N_alloc | apply Kd.N_drewN | apply Kd.N_drew)); first | exact HO431.out | exact Kd.N_mono (HO431.out) (fun _ h_ => by simpa only [and_assoc, and_comm, and_left_comm] using h_)) hb)
    replace BK410 := bb_ BK410 hb
    replace BK411 := bb_ BK411 hb
    replace BK418 := bb_ BK418 hb
    replace HB := bs_ hb
    (try clear hb)
    (try clear hb2)
    (try clear hk)
    (try clear hi)
    refine hK.out _ _ ⟨(blkc BK418 0), (blkc BK418 1), (blkc BK418 2), (blkc BK418 3), (blkc BK410 0), (blkc BK410 1), (blkc BK410 2), (blkc BK410 3), (blkc BK411 0), (blkc BK411 1), (blkc BK411 2), (blkc BK411 3)⟩ (fun hHeld => ?_)
    clear hK K
    refine norm_ (a' := ?_) ?_ ?_
    rotate_left
    · show Act.put _ (some 33) _ = _
      simp only [Act.put, List.setIfInBounds_toArray, List.set_cons_zero, List.set_cons_succ, i64_w, i32_w]
      rfl
    refine puA 17 (some 34) ?_
    refine puA 18 (some 35) ?_
    refine puA 19 (some 36) ?_
    refine taA 20 (some 37) ?_
    refine one_ (i := 21) (N := some 38) #[true, true, true, true, true, true, true, true, true, true, true, true, true, true, true, true, true, true, true, true, true, true, false, false] rfl rfl (one_of HT_.out (by kernel_rfl)) (by decide) (fun K hK => ?_)
    refine goes_ Try.func33 (by kernel_rfl) rfl #[.agg #[.int .i64 t404, .int .i64 t405, .string t406, .slice Ao13 t407.length co13]] (by rfl) rfl rfl ar_ ?_
    with_reducible refine (spec_ValueOk.calls k t404 t405 t406 _ _ t407 t434 _ ?side1 ?side2 A28.out).mono ?_
    (case side1 => repeat (first | exact (Kd.N_reads' HO409.out).2.2 | (with_reducible refine Kd.C_alloc ?_ _) | (with_reducible refine Kd.C_drewN ?_ _) | (with_reducible refine Kd.C_drew ?_)))
    (case side2 => exact (Kd.N_reads' HO409.out).2.1)
    rintro e w38 ⟨rfl, hb⟩
    refine ⟨_, rfl, ?_⟩
    replace HO403 := Aside0.mk (Kd.N_below (by (with_reducible repeat (first | apply Kd.N_alloc | apply Kd.N_drewN | apply Kd.N_drew)); first | exact HO403.out | exact Kd.N_mono (HO403.out) (fun _ h_ => by simpa only [and_assoc, and_comm, and_left_comm] using h_)) hb)
    replace HO409 := Aside0.mk (Kd.N_below (by (with_reducible repeat (first | apply Kd.N_alloc | apply Kd.N_drewN | apply Kd.N_drew)); first | exact HO409.out | exact Kd.N_mono (HO409.out) (fun _ h_ => by simpa only [and_assoc, and_comm, and_left_comm] using h_)) hb)
    replace HO417 := Aside0.mk (Kd.N_below (by (with_reducible repeat (first | apply Kd.N_alloc | apply Kd.N_drewN | apply Kd.N_drew)); first | exact HO417.out | exact Kd.N_mono (HO417.out) (fun _ h_ => by simpa only [and_assoc, and_comm, and_left_comm] using h_)) hb)
    replace HO424 := Aside0.mk (Kd.N_below (by (with_reducible repeat (first | apply Kd.N_alloc | apply Kd.N_drewN | apply Kd.N_drew)); first | exact HO424.out | exact Kd.N_mono (HO424.out) (fun _ h_ => by simpa only [and_assoc, and_comm, and_left_comm] using h_)) hb)
    replace HO431 := Aside0.mk (Kd.N_below (by (with_reducible repeat (first | apply Kd.N_alloc | apply Kd.N_drewN | apply Kd.N_drew)); first | exact HO431.out | exact Kd.N_mono (HO431.out) (fun _ h_ => by simpa only [and_assoc, and_comm, and_left_comm] using h_)) hb)
    replace BK410 := bb_ BK410 hb
    replace BK411 := bb_ BK411 hb
    replace BK418 := bb_ BK418 hb
    replace HB := bs_ hb
    (try clear hb)
    (try clear hb2)
    (try clear hk)
    (try clear hi)
    refine hK.out _ _ ⟨(blkc BK418 0), (blkc BK418 1), (blkc BK418 2), (blkc BK418 3), (blkc BK410 0), (blkc BK410 1), (blkc BK410 2), (blkc BK410 3), (blkc BK411 0), (blkc BK411 1), (blkc BK411 2), (blkc BK411 3)⟩ (fun hHeld => ?_)
    clear hK K
    refine norm_ (a' := ?_) ?_ ?_
    rotate_left
    · show Act.put _ (some 38) _ = _
      simp only [Act.put, List.setIfInBounds_toArray, List.set_cons_zero, List.set_cons_succ, i64_w, i32_w]
      rfl
    refine puA 22 (some 39) ?_
    refine puA 23 (some 40) ?_
    refine done_ (done_of HT_.out (by kernel_rfl)) ?_
    try go_wp2
    go_meet
    case rel => exact ⟨_, (!t434), sm_, H', ⟨by first | omega | exact Nat.le_refl _⟩, ⟨by (with_reducible repeat (first | apply Kd.N_alloc | apply Kd.N_drewN | apply Kd.N_drew)); first | exact Kd.N_mono HO403.out (fun _ hk => ⟨hk.1.1.1, ⟨hk.1.1.2.1, ⟨hk.1.1.2.2.1, ⟨hk.1.1.2.2.2.1, hk.1.1.2.2.2.2⟩⟩⟩⟩) | exact Kd.N_mono (Kd.N_mono HO403.out (fun _ hk => ⟨hk.1.1.1, ⟨hk.1.1.2.1, ⟨hk.1.1.2.2.1, ⟨hk.1.1.2.2.2.1, hk.1.1.2.2.2.2⟩⟩⟩⟩)) (fun _ h_ => by simpa only [and_assoc, and_comm, and_left_comm] using h_)⟩, ⟨by (with_reducible repeat (first | apply Kd.N_alloc | apply Kd.N_drewN | apply Kd.N_drew)); first | exact Kd.N_mono HO409.out (fun _ hk => ⟨hk.1.1.1, ⟨hk.1.1.2.1, ⟨hk.1.1.2.2.1, ⟨hk.1.1.2.2.2.1, hk.1.1.2.2.2.2⟩⟩⟩⟩) | exact Kd.N_mono (Kd.N_mono HO409.out (fun _ hk => ⟨hk.1.1.1, ⟨hk.1.1.2.1, ⟨hk.1.1.2.2.1, ⟨hk.1.1.2.2.2.1, hk.1.1.2.2.2.2⟩⟩⟩⟩)) (fun _ h_ => by simpa only [and_assoc, and_comm, and_left_comm] using h_)⟩, ⟨by (with_reducible repeat (first | apply Kd.N_alloc | apply Kd.N_drewN | apply Kd.N_drew)); first | exact Kd.N_mono HO417.out (fun _ hk => ⟨hk.1.1.1, ⟨hk.1.1.2.1, ⟨hk.1.1.2.2.1, ⟨hk.1.1.2.2.2.1, hk.1.1.2.2.2.2⟩⟩⟩⟩) | exact Kd.N_mono (Kd.N_mono HO417.out (fun _ hk => ⟨hk.1.1.1, ⟨hk.1.1.2.1, ⟨hk.1.1.2.2.1, ⟨hk.1.1.2.2.2.1, hk.1.1.2.2.2.2⟩⟩⟩⟩)) (fun _ h_ => by simpa only [and_assoc, and_comm, and_left_comm] using h_)⟩, ⟨by refine pe_ ?_; exact BK410.out⟩, ⟨by refine pe_ ?_; exact BK411.out⟩, ⟨by refine pe_ ?_; exact BK418.out⟩, ⟨bel_⟩⟩
  case rest =>
    clear HC5
    try clear c2
    try clear p2
    try clear c3
    try clear c4
    try clear c22
    try clear c38
    try clear c39
    try clear c40
    obtain ⟨kq, x40_4, rfl, HA, HJ4, HO_411003, HO_412003, HO_419003, BK410, BK411, BK418, HB⟩ := hcut
    cases kq with
    | zero => exact absurd HA.out (by simp [laws_FnValueEqual.j0])
    | succ kj4 =>
      have H := HA.out
      clear HA
      simp only [laws_FnValueEqual.j0] at H
      by_cases c61 : x40_4 = true
      rotate_left
      · replace c61 := Bool.eq_false_iff.mpr c61
        subst c61
        have H1 : ((laws_asNull.f kj4 t398 t399 t400 t401).bind fun t449 => (if t449 = true then (if t412 = 0 then (some true) else (some (t413 == 0))) else ((laws_asNull.f kj4 t404 t405 t406 t407).bind fun t450 => (if t450 = true then (if t412 = 0 then (some true) else (some (t413 == 0))) else (if t412 = 1 then ((laws_asValue.f kj4 t398 t399 t400 t401 t404 t405 t406 t407).bind fun t451 => (some ((t413 == 1) == t451))) else (some false)))))) = some r := by rw [if_neg (show ¬ (false = true) by decide)] at H; exact H
        clear H
        have H := H1
        clear H1
        replace H := Option.bind_eq_some_iff.mp H
        obtain ⟨t449, A780, H⟩ := H
        replace H : (if t449 = true then (if t412 = 0 then (some true) else (some (t413 == 0))) else ((laws_asNull.f kj4 t404 t405 t406 t407).bind fun t450 => (if t450 = true then (if t412 = 0 then (some true) else (some (t413 == 0))) else (if t412 = 1 then ((laws_asValue.f kj4 t398 t399 t400 t401 t404 t405 t406 t407).bind fun t451 => (some ((t413 == 1) == t451))) else (some false))))) = some r := H
        have A78 := Aside0.mk A780
        clear A780
        by_cases c79 : t449 = true
        · subst c79
          have H1 : (if t412 = 0 then (some true) else (some (t413 == 0))) = some r := by rw [if_pos rfl] at H; exact H
          clear H
          have H := H1
          clear H1
          by_cases c80 : t412 = 0
          · rw [if_pos c80] at H
            have c80b0 : (t412 == 0) = true := beq_iff_eq.mpr c80
            have c80b1 : (t412 != 0) = false := bne_eq_false_iff_eq.mpr c80
            clear c80
            obtain rfl := Option.some.inj H
            have hnb81 := NB410_411.out
            have hnc81 := NB411_410.out
            have hnb82 := NB410_418.out
            have hnc82 := NB418_410.out
            obtain ⟨hcz83_0, hcz83_1, hcz83_2, hcz83_3, hfz83_0, hfz83_1, hfz83_2, hfz83_3⟩ := blk4 BK410
            go_wp2_with (first | ((with_reducible refine gate_callee (f := 44) rfl ?_); refine goesL_ (some 54) rfl rfl Try.func44 (by kernel_rfl) rfl #[.agg #[.int .i64 t398, .int .i64 t399, .string t400, .slice Ao11 t401.length co11]] rfl ar_ ?_; (with_reducible refine (laws_asNull.calls kj4 t398 t399 t400 _ _ t401 true _ ?side1 ?side2 A78.out).mono ?_); (case side1 => repeat (first | exact (Kd.N_reads' HO_411003.out).2.2 | (with_reducible refine Kd.C_alloc ?_ _) | (with_reducible refine Kd.C_drewN ?_ _) | (with_reducible refine Kd.C_drew ?_))); (case side2 => exact (Kd.N_reads' HO_411003.out).2.1); rintro e w84 ⟨rfl, hb⟩; refine ⟨_, rfl, ?_⟩; replace HO_411003 := Aside0.mk (Kd.N_below (by (with_reducible repeat (first | apply Kd.N_alloc | apply Kd.N_drewN | apply Kd.N_drew)); first | exact HO_411003.out | exact Kd.N_mono (HO_411003.out) (fun _ h_ => by simpa only [and_assoc, and_comm, and_left_comm] using h_)) hb); replace HO_412003 := Aside0.mk (Kd.N_below (by (with_reducible repeat (first | apply Kd.N_alloc | apply Kd.N_drewN | apply Kd.N_drew)); first | exact HO_412003.out | exact Kd.N_mono (HO_412003.out) (fun _ h_ => by simpa only [and_assoc, and_comm, and_left_comm] using h_)) hb); replace HO_419003 := Aside0.mk (Kd.N_below (by (with_reducible repeat (first | apply Kd.N_alloc | apply Kd.N_drewN | apply Kd.N_drew)); first | exact HO_419003.out | exact Kd.N_mono (HO_419003.out) (fun _ h_ => by simpa only [and_assoc, and_comm, and_left_comm] using h_)) hb); replace BK410 := bb_ BK410 hb; replace BK411 := bb_ BK411 hb; replace BK418 := bb_ BK418 hb; replace HB := bs_ hb; (try clear hb); (try clear hb2); (try clear hk); (try clear hi); have hnb85 := NB418_411.out; have hnc85 := NB411_418.out; obtain ⟨hcz86_0, hcz86_1, hcz86_2, hcz86_3, hfz86_0, hfz86_1, hfz86_2, hfz86_3⟩ := blk4 BK418))
            go_ret
            exact re_
          rw [if_neg c80] at H
          have c80b0 : (t412 == 0) = false := beq_eq_false_iff_ne.mpr c80
          have c80b1 : (t412 != 0) = true := bne_iff_ne.mpr c80
          obtain rfl := Option.some.inj H
          have hnb87 := NB410_411.out
          have hnc87 := NB411_410.out
          have hnb88 := NB410_418.out
          have hnc88 := NB418_410.out
          obtain ⟨hcz89_0, hcz89_1, hcz89_2, hcz89_3, hfz89_0, hfz89_1, hfz89_2, hfz89_3⟩ := blk4 BK410
          go_wp2_with (first | ((with_reducible refine gate_callee (f := 44) rfl ?_); refine goesL_ (some 54) rfl rfl Try.func44 (by kernel_rfl) rfl #[.agg #[.int .i64 t398, .int .i64 t399, .string t400, .slice Ao11 t401.length co11]] rfl ar_ ?_; (with_reducible refine (laws_asNull.calls kj4 t398 t399 t400 _ _ t401 true _ ?side1 ?side2 A78.out).mono ?_); (case side1 => repeat (first | exact (Kd.N_reads' HO_411003.out).2.2 | (with_reducible refine Kd.C_alloc ?_ _) | (with_reducible refine Kd.C_drewN ?_ _) | (with_reducible refine Kd.C_drew ?_))); (case side2 => exact (Kd.N_reads' HO_411003.out).2.1); rintro e w90 ⟨rfl, hb⟩; refine ⟨_, rfl, ?_⟩; replace HO_411003 := Aside0.mk (Kd.N_below (by (with_reducible repeat (first | apply Kd.N_alloc | apply Kd.N_drewN | apply Kd.N_drew)); first | exact HO_411003.out | exact Kd.N_mono (HO_411003.out) (fun _ h_ => by simpa only [and_assoc, and_comm, and_left_comm] using h_)) hb); replace HO_412003 := Aside0.mk (Kd.N_below (by (with_reducible repeat (first | apply Kd.N_alloc | apply Kd.N_drewN | apply Kd.N_drew)); first | exact HO_412003.out | exact Kd.N_mono (HO_412003.out) (fun _ h_ => by simpa only [and_assoc, and_comm, and_left_comm] using h_)) hb); replace HO_419003 := Aside0.mk (Kd.N_below (by (with_reducible repeat (first | apply Kd.N_alloc | apply Kd.N_drewN | apply Kd.N_drew)); first | exact HO_419003.out | exact Kd.N_mono (HO_419003.out) (fun _ h_ => by simpa only [and_assoc, and_comm, and_left_comm] using h_)) hb); replace BK410 := bb_ BK410 hb; replace BK411 := bb_ BK411 hb; replace BK418 := bb_ BK418 hb; replace HB := bs_ hb; (try clear hb); (try clear hb2); (try clear hk); (try clear hi); have hnb91 := NB418_411.out; have hnc91 := NB411_418.out; obtain ⟨hcz92_0, hcz92_1, hcz92_2, hcz92_3, hfz92_0, hfz92_1, hfz92_2, hfz92_3⟩ := blk4 BK418))
          go_ret
          exact re_
        replace c79 := Bool.eq_false_iff.mpr c79
        subst c79
        have H1 : ((laws_asNull.f kj4 t404 t405 t406 t407).bind fun t450 => (if t450 = true then (if t412 = 0 then (some true) else (some (t413 == 0))) else (if t412 = 1 then ((laws_asValue.f kj4 t398 t399 t400 t401 t404 t405 t406 t407).bind fun t451 => (some ((t413 == 1) == t451))) else (some false)))) = some r := by rw [if_neg (show ¬ (false = true) by decide)] at H; exact H
        clear H
        have H := H1
        clear H1
        replace H := Option.bind_eq_some_iff.mp H
        obtain ⟨t450, A930, H⟩ := H
        replace H : (if t450 = true then (if t412 = 0 then (some true) else (some (t413 == 0))) else (if t412 = 1 then ((laws_asValue.f kj4 t398 t399 t400 t401 t404 t405 t406 t407).bind fun t451 => (some ((t413 == 1) == t451))) else (some false))) = some r := H
        have A93 := Aside0.mk A930
        clear A930
        by_cases c94 : t450 = true
        · subst c94
          have H1 : (if t412 = 0 then (some true) else (some (t413 == 0))) = some r := by rw [if_pos rfl] at H; exact H
          clear H
          have H := H1
          clear H1
          by_cases c95 : t412 = 0
          · rw [if_pos c95] at H
            have c95b0 : (t412 == 0) = true := beq_iff_eq.mpr c95
            have c95b1 : (t412 != 0) = false := bne_eq_false_iff_eq.mpr c95
            clear c95
            obtain rfl := Option.some.inj H
            have hnb96 := NB410_411.out
            have hnc96 := NB411_410.out
            have hnb97 := NB410_418.out
            have hnc97 := NB418_410.out
            obtain ⟨hcz98_0, hcz98_1, hcz98_2, hcz98_3, hfz98_0, hfz98_1, hfz98_2, hfz98_3⟩ := blk4 BK410
            go_wp2_with (first | ((with_reducible refine gate_callee (f := 44) rfl ?_); refine goesL_ (some 54) rfl rfl Try.func44 (by kernel_rfl) rfl #[.agg #[.int .i64 t398, .int .i64 t399, .string t400, .slice Ao11 t401.length co11]] rfl ar_ ?_; (with_reducible refine (laws_asNull.calls kj4 t398 t399 t400 _ _ t401 false _ ?side1 ?side2 A78.out).mono ?_); (case side1 => repeat (first | exact (Kd.N_reads' HO_411003.out).2.2 | (with_reducible refine Kd.C_alloc ?_ _) | (with_reducible refine Kd.C_drewN ?_ _) | (with_reducible refine Kd.C_drew ?_))); (case side2 => exact (Kd.N_reads' HO_411003.out).2.1); rintro e w99 ⟨rfl, hb⟩; refine ⟨_, rfl, ?_⟩; replace HO_411003 := Aside0.mk (Kd.N_below (by (with_reducible repeat (first | apply Kd.N_alloc | apply Kd.N_drewN | apply Kd.N_drew)); first | exact HO_411003.out | exact Kd.N_mono (HO_411003.out) (fun _ h_ => by simpa only [and_assoc, and_comm, and_left_comm] using h_)) hb); replace HO_412003 := Aside0.mk (Kd.N_below (by (with_reducible repeat (first | apply Kd.N_alloc | apply Kd.N_drewN | apply Kd.N_drew)); first | exact HO_412003.out | exact Kd.N_mono (HO_412003.out) (fun _ h_ => by simpa only [and_assoc, and_comm, and_left_comm] using h_)) hb); replace HO_419003 := Aside0.mk (Kd.N_below (by (with_reducible repeat (first | apply Kd.N_alloc | apply Kd.N_drewN | apply Kd.N_drew)); first | exact HO_419003.out | exact Kd.N_mono (HO_419003.out) (fun _ h_ => by simpa only [and_assoc, and_comm, and_left_comm] using h_)) hb); replace BK410 := bb_ BK410 hb; replace BK411 := bb_ BK411 hb; replace BK418 := bb_ BK418 hb; replace HB := bs_ hb; (try clear hb); (try clear hb2); (try clear hk); (try clear hi); have hnb100 := NB411_418.out; have hnc100 := NB418_411.out; obtain ⟨hcz101_0, hcz101_1, hcz101_2, hcz101_3, hfz101_0, hfz101_1, hfz101_2, hfz101_3⟩ := blk4 BK411) | (go_at_call 44; (with_reducible refine (laws_asNull.calls kj4 t404 t405 t406 _ _ t407 true _ ?side1 ?side2 A93.out).mono ?_); (case side1 => repeat (first | exact (Kd.N_reads' HO_412003.out).2.2 | (with_reducible refine Kd.C_alloc ?_ _) | (with_reducible refine Kd.C_drewN ?_ _) | (with_reducible refine Kd.C_drew ?_))); (case side2 => exact (Kd.N_reads' HO_412003.out).2.1); rintro e w102 ⟨rfl, hb⟩; replace HO_411003 := Aside0.mk (Kd.N_below (by (with_reducible repeat (first | apply Kd.N_alloc | apply Kd.N_drewN | apply Kd.N_drew)); first | exact HO_411003.out | exact Kd.N_mono (HO_411003.out) (fun _ h_ => by simpa only [and_assoc, and_comm, and_left_comm] using h_)) hb); replace HO_412003 := Aside0.mk (Kd.N_below (by (with_reducible repeat (first | apply Kd.N_alloc | apply Kd.N_drewN | apply Kd.N_drew)); first | exact HO_412003.out | exact Kd.N_mono (HO_412003.out) (fun _ h_ => by simpa only [and_assoc, and_comm, and_left_comm] using h_)) hb); replace HO_419003 := Aside0.mk (Kd.N_below (by (with_reducible repeat (first | apply Kd.N_alloc | apply Kd.N_drewN | apply Kd.N_drew)); first | exact HO_419003.out | exact Kd.N_mono (HO_419003.out) (fun _ h_ => by simpa only [and_assoc, and_comm, and_left_comm] using h_)) hb); replace BK410 := bb_ BK410 hb; replace BK411 := bb_ BK411 hb; replace BK418 := bb_ BK418 hb; replace HB := bs_ hb; (try clear hb); (try clear hb2); (try clear hk); (try clear hi); obtain ⟨hcz103_0, hcz103_1, hcz103_2, hcz103_3, hfz103_0, hfz103_1, hfz103_2, hfz103_3⟩ := blk4 BK418))
            go_ret
            exact re_
          rw [if_neg c95] at H
          have c95b0 : (t412 == 0) = false := beq_eq_false_iff_ne.mpr c95
          have c95b1 : (t412 != 0) = true := bne_iff_ne.mpr c95
          obtain rfl := Option.some.inj H
          have hnb104 := NB410_411.out
          have hnc104 := NB411_410.out
          have hnb105 := NB410_418.out
          have hnc105 := NB418_410.out
          obtain ⟨hcz106_0, hcz106_1, hcz106_2, hcz106_3, hfz106_0, hfz106_1, hfz106_2, hfz106_3⟩ := blk4 BK410
          go_wp2_with (first | ((with_reducible refine gate_callee (f := 44) rfl ?_); refine goesL_ (some 54) rfl rfl Try.func44 (by kernel_rfl) rfl #[.agg #[.int .i64 t398, .int .i64 t399, .string t400, .slice Ao11 t401.length co11]] rfl ar_ ?_; (with_reducible refine (laws_asNull.calls kj4 t398 t399 t400 _ _ t401 false _ ?side1 ?side2 A78.out).mono ?_); (case side1 => repeat (first | exact (Kd.N_reads' HO_411003.out).2.2 | (with_reducible refine Kd.C_alloc ?_ _) | (with_reducible refine Kd.C_drewN ?_ _) | (with_reducible refine Kd.C_drew ?_))); (case side2 => exact (Kd.N_reads' HO_411003.out).2.1); rintro e w107 ⟨rfl, hb⟩; refine ⟨_, rfl, ?_⟩; replace HO_411003 := Aside0.mk (Kd.N_below (by (with_reducible repeat (first | apply Kd.N_alloc | apply Kd.N_drewN | apply Kd.N_drew)); first | exact HO_411003.out | exact Kd.N_mono (HO_411003.out) (fun _ h_ => by simpa only [and_assoc, and_comm, and_left_comm] using h_)) hb); replace HO_412003 := Aside0.mk (Kd.N_below (by (with_reducible repeat (first | apply Kd.N_alloc | apply Kd.N_drewN | apply Kd.N_drew)); first | exact HO_412003.out | exact Kd.N_mono (HO_412003.out) (fun _ h_ => by simpa only [and_assoc, and_comm, and_left_comm] using h_)) hb); replace HO_419003 := Aside0.mk (Kd.N_below (by (with_reducible repeat (first | apply Kd.N_alloc | apply Kd.N_drewN | apply Kd.N_drew)); first | exact HO_419003.out | exact Kd.N_mono (HO_419003.out) (fun _ h_ => by simpa only [and_assoc, and_comm, and_left_comm] using h_)) hb); replace BK410 := bb_ BK410 hb; replace BK411 := bb_ BK411 hb; replace BK418 := bb_ BK418 hb; replace HB := bs_ hb; (try clear hb); (try clear hb2); (try clear hk); (try clear hi); have hnb108 := NB411_418.out; have hnc108 := NB418_411.out; obtain ⟨hcz109_0, hcz109_1, hcz109_2, hcz109_3, hfz109_0, hfz109_1, hfz109_2, hfz109_3⟩ := blk4 BK411) | (go_at_call 44; (with_reducible refine (laws_asNull.calls kj4 t404 t405 t406 _ _ t407 true _ ?side1 ?side2 A93.out).mono ?_); (case side1 => repeat (first | exact (Kd.N_reads' HO_412003.out).2.2 | (with_reducible refine Kd.C_alloc ?_ _) | (with_reducible refine Kd.C_drewN ?_ _) | (with_reducible refine Kd.C_drew ?_))); (case side2 => exact (Kd.N_reads' HO_412003.out).2.1); rintro e w110 ⟨rfl, hb⟩; replace HO_411003 := Aside0.mk (Kd.N_below (by (with_reducible repeat (first | apply Kd.N_alloc | apply Kd.N_drewN | apply Kd.N_drew)); first | exact HO_411003.out | exact Kd.N_mono (HO_411003.out) (fun _ h_ => by simpa only [and_assoc, and_comm, and_left_comm] using h_)) hb); replace HO_412003 := Aside0.mk (Kd.N_below (by (with_reducible repeat (first | apply Kd.N_alloc | apply Kd.N_drewN | apply Kd.N_drew)); first | exact HO_412003.out | exact Kd.N_mono (HO_412003.out) (fun _ h_ => by simpa only [and_assoc, and_comm, and_left_comm] using h_)) hb); replace HO_419003 := Aside0.mk (Kd.N_below (by (with_reducible repeat (first | apply Kd.N_alloc | apply Kd.N_drewN | apply Kd.N_drew)); first | exact HO_419003.out | exact Kd.N_mono (HO_419003.out) (fun _ h_ => by simpa only [and_assoc, and_comm, and_left_comm] using h_)) hb); replace BK410 := bb_ BK410 hb; replace BK411 := bb_ BK411 hb; replace BK418 := bb_ BK418 hb; replace HB := bs_ hb; (try clear hb); (try clear hb2); (try clear hk); (try clear hi); obtain ⟨hcz111_0, hcz111_1, hcz111_2, hcz111_3, hfz111_0, hfz111_1, hfz111_2, hfz111_3⟩ := blk4 BK418))
          go_ret
          exact re_
        replace c94 := Bool.eq_false_iff.mpr c94
        subst c94
        have H1 : (if t412 = 1 then ((laws_asValue.f kj4 t398 t399 t400 t401 t404 t405 t406 t407).bind fun t451 => (some ((t413 == 1) == t451))) else (some false)) = some r := by rw [if_neg (show ¬ (false = true) by decide)] at H; exact H
        clear H
        have H := H1
        clear H1
        by_cases c112 : t412 = 1
        rotate_left
        · rw [if_neg c112] at H
          have c112b0 : (t412 == 1) = false := beq_eq_false_iff_ne.mpr c112
          have c112b1 : (t412 != 1) = true := bne_iff_ne.mpr c112
          obtain rfl := Option.some.inj H
          have hnb123 := NB410_411.out
          have hnc123 := NB411_410.out
          have hnb124 := NB410_418.out
          have hnc124 := NB418_410.out
          obtain ⟨hcz125_0, hcz125_1, hcz125_2, hcz125_3, hfz125_0, hfz125_1, hfz125_2, hfz125_3⟩ := blk4 BK410
          try go_wp2_with (first | ((with_reducible refine gate_callee (f := 44) rfl ?_); refine goesL_ (some 54) rfl rfl Try.func44 (by kernel_rfl) rfl #[.agg #[.int .i64 t398, .int .i64 t399, .string t400, .slice Ao11 t401.length co11]] rfl ar_ ?_; (with_reducible refine (laws_asNull.calls kj4 t398 t399 t400 _ _ t401 false _ ?side1 ?side2 A78.out).mono ?_); (case side1 => repeat (first | exact (Kd.N_reads' HO_411003.out).2.2 | (with_reducible refine Kd.C_alloc ?_ _) | (with_reducible refine Kd.C_drewN ?_ _) | (with_reducible refine Kd.C_drew ?_))); (case side2 => exact (Kd.N_reads' HO_411003.out).2.1); rintro e w126 ⟨rfl, hb⟩; refine ⟨_, rfl, ?_⟩; replace HO_411003 := Aside0.mk (Kd.N_below (by (with_reducible repeat (first | apply Kd.N_alloc | apply Kd.N_drewN | apply Kd.N_drew)); first | exact HO_411003.out | exact Kd.N_mono (HO_411003.out) (fun _ h_ => by simpa only [and_assoc, and_comm, and_left_comm] using h_)) hb); replace HO_412003 := Aside0.mk (Kd.N_below (by (with_reducible repeat (first | apply Kd.N_alloc | apply Kd.N_drewN | apply Kd.N_drew)); first | exact HO_412003.out | exact Kd.N_mono (HO_412003.out) (fun _ h_ => by simpa only [and_assoc, and_comm, and_left_comm] using h_)) hb); replace HO_419003 := Aside0.mk (Kd.N_below (by (with_reducible repeat (first | apply Kd.N_alloc | apply Kd.N_drewN | apply Kd.N_drew)); first | exact HO_419003.out | exact Kd.N_mono (HO_419003.out) (fun _ h_ => by simpa only [and_assoc, and_comm, and_left_comm] using h_)) hb); replace BK410 := bb_ BK410 hb; replace BK411 := bb_ BK411 hb; replace BK418 := bb_ BK418 hb; replace HB := bs_ hb; (try clear hb); (try clear hb2); (try clear hk); (try clear hi); have hnb127 := NB411_418.out; have hnc127 := NB418_411.out; obtain ⟨hcz128_0, hcz128_1, hcz128_2, hcz128_3, hfz128_0, hfz128_1, hfz128_2, hfz128_3⟩ := blk4 BK411) | (go_at_call 44; (with_reducible refine (laws_asNull.calls kj4 t404 t405 t406 _ _ t407 false _ ?side1 ?side2 A93.out).mono ?_); (case side1 => repeat (first | exact (Kd.N_reads' HO_412003.out).2.2 | (with_reducible refine Kd.C_alloc ?_ _) | (with_reducible refine Kd.C_drewN ?_ _) | (with_reducible refine Kd.C_drew ?_))); (case side2 => exact (Kd.N_reads' HO_412003.out).2.1); rintro e w129 ⟨rfl, hb⟩; replace HO_411003 := Aside0.mk (Kd.N_below (by (with_reducible repeat (first | apply Kd.N_alloc | apply Kd.N_drewN | apply Kd.N_drew)); first | exact HO_411003.out | exact Kd.N_mono (HO_411003.out) (fun _ h_ => by simpa only [and_assoc, and_comm, and_left_comm] using h_)) hb); replace HO_412003 := Aside0.mk (Kd.N_below (by (with_reducible repeat (first | apply Kd.N_alloc | apply Kd.N_drewN | apply Kd.N_drew)); first | exact HO_412003.out | exact Kd.N_mono (HO_412003.out) (fun _ h_ => by simpa only [and_assoc, and_comm, and_left_comm] using h_)) hb); replace HO_419003 := Aside0.mk (Kd.N_below (by (with_reducible repeat (first | apply Kd.N_alloc | apply Kd.N_drewN | apply Kd.N_drew)); first | exact HO_419003.out | exact Kd.N_mono (HO_419003.out) (fun _ h_ => by simpa only [and_assoc, and_comm, and_left_comm] using h_)) hb); replace BK410 := bb_ BK410 hb; replace BK411 := bb_ BK411 hb; replace BK418 := bb_ BK418 hb; replace HB := bs_ hb; (try clear hb); (try clear hb2); (try clear hk); (try clear hi)))
          replace HO_411003 := Aside0.mk (Kd.N_drew HO_411003.out)
          replace HO_412003 := Aside0.mk (Kd.N_drew HO_412003.out)
          replace HO_419003 := Aside0.mk (Kd.N_drew HO_419003.out)
          replace BK410 := Aside0.mk (blk_drew BK410.out)
          replace BK411 := Aside0.mk (blk_drew BK411.out)
          replace BK418 := Aside0.mk (blk_drew BK418.out)
          replace HB := Aside0.mk (below_drew1 HB.out)
          refine start_ (n := 13) (S := fun w' => w'.cell? ⟨gb418, 0, none⟩ = some (.int .i64 t412) ∧ w'.cell? ⟨gb418, 1, none⟩ = some (.int .i64 t413) ∧ w'.cell? ⟨gb418, 2, none⟩ = some (.string t414) ∧ w'.cell? ⟨gb418, 3, none⟩ = some (.slice Ao19 t415.length co19)) (ds := []) #[false, false, false, false, false, false, false, false, false, false, false, false, false] (by kernel_rfl) rfl rfl ⟨(blkc BK418 0), (blkc BK418 1), (blkc BK418 2), (blkc BK418 3)⟩ (fun hHeld => ?_); refine with_tabW laws_FnValueEqual.tab9 laws_FnValueEqual.bits9 (fun HT_ HW_ => ?_)
          generalize w129.drew = w130 at HO_411003 HO_412003 HO_419003 BK410 BK411 BK418 HB hHeld ⊢
          refine puA 0 (some 67) ?_
          refine taA 1 (some 68) ?_
          refine puA 2 (some 69) ?_
          refine puA 3 (some 70) ?_
          refine puX 4 (some 71) ?_
          refine puX 5 (some 72) ?_
          refine puX 6 (some 73) ?_
          refine puX 7 (some 74) ?_
          refine puX 8 (some 75) ?_
          refine puX 9 (some 76) ?_
          refine puX 10 (some 77) ?_
          refine puA 11 (some 78) ?_
          refine puA 12 (some 2) ?_
          refine done_ (done_of HT_.out (by kernel_rfl)) ?_
          try go_wp2
          go_ret
          exact re_
        rw [if_pos c112] at H
        have c112b0 : (t412 == 1) = true := beq_iff_eq.mpr c112
        have c112b1 : (t412 != 1) = false := bne_eq_false_iff_eq.mpr c112
        clear c112
        replace H := Option.bind_eq_some_iff.mp H
        obtain ⟨t451, A1130, H⟩ := H
        replace H : (some ((t413 == 1) == t451)) = some r := H
        have A113 := Aside0.mk A1130
        clear A1130
        obtain rfl := Option.some.inj H
        have hnb114 := NB410_411.out
        have hnc114 := NB411_410.out
        have hnb115 := NB410_418.out
        have hnc115 := NB418_410.out
        obtain ⟨hcz116_0, hcz116_1, hcz116_2, hcz116_3, hfz116_0, hfz116_1, hfz116_2, hfz116_3⟩ := blk4 BK410
        try go_wp2_with (first | ((with_reducible refine gate_callee (f := 44) rfl ?_); refine goesL_ (some 54) rfl rfl Try.func44 (by kernel_rfl) rfl #[.agg #[.int .i64 t398, .int .i64 t399, .string t400, .slice Ao11 t401.length co11]] rfl ar_ ?_; (with_reducible refine (laws_asNull.calls kj4 t398 t399 t400 _ _ t401 false _ ?side1 ?side2 A78.out).mono ?_); (case side1 => repeat (first | exact (Kd.N_reads' HO_411003.out).2.2 | (with_reducible refine Kd.C_alloc ?_ _) | (with_reducible refine Kd.C_drewN ?_ _) | (with_reducible refine Kd.C_drew ?_))); (case side2 => exact (Kd.N_reads' HO_411003.out).2.1); rintro e w117 ⟨rfl, hb⟩; refine ⟨_, rfl, ?_⟩; replace HO_411003 := Aside0.mk (Kd.N_below (by (with_reducible repeat (first | apply Kd.N_alloc | apply Kd.N_drewN | apply Kd.N_drew)); first | exact HO_411003.out | exact Kd.N_mono (HO_411003.out) (fun _ h_ => by simpa only [and_assoc, and_comm, and_left_comm] using h_)) hb); replace HO_412003 := Aside0.mk (Kd.N_below (by (with_reducible repeat (first | apply Kd.N_alloc | apply Kd.N_drewN | apply Kd.N_drew)); first | exact HO_412003.out | exact Kd.N_mono (HO_412003.out) (fun _ h_ => by simpa only [and_assoc, and_comm, and_left_comm] using h_)) hb); replace HO_419003 := Aside0.mk (Kd.N_below (by (with_reducible repeat (first | apply Kd.N_alloc | apply Kd.N_drewN | apply Kd.N_drew)); first | exact HO_419003.out | exact Kd.N_mono (HO_419003.out) (fun _ h_ => by simpa only [and_assoc, and_comm, and_left_comm] using h_)) hb); replace BK410 := bb_ BK410 hb; replace BK411 := bb_ BK411 hb; replace BK418 := bb_ BK418 hb; replace HB := bs_ hb; (try clear hb); (try clear hb2); (try clear hk); (try clear hi); have hnb118 := NB411_418.out; have hnc118 := NB418_411.out; obtain ⟨hcz119_0, hcz119_1, hcz119_2, hcz119_3, hfz119_0, hfz119_1, hfz119_2, hfz119_3⟩ := blk4 BK411) | (go_at_call 44; (with_reducible refine (laws_asNull.calls kj4 t404 t405 t406 _ _ t407 false _ ?side1 ?side2 A93.out).mono ?_); (case side1 => repeat (first | exact (Kd.N_reads' HO_412003.out).2.2 | (with_reducible refine Kd.C_alloc ?_ _) | (with_reducible refine Kd.C_drewN ?_ _) | (with_reducible refine Kd.C_drew ?_))); (case side2 => exact (Kd.N_reads' HO_412003.out).2.1); rintro e w120 ⟨rfl, hb⟩; replace HO_411003 := Aside0.mk (Kd.N_below (by (with_reducible repeat (first | apply Kd.N_alloc | apply Kd.N_drewN | apply Kd.N_drew)); first | exact HO_411003.out | exact Kd.N_mono (HO_411003.out) (fun _ h_ => by simpa only [and_assoc, and_comm, and_left_comm] using h_)) hb); replace HO_412003 := Aside0.mk (Kd.N_below (by (with_reducible repeat (first | apply Kd.N_alloc | apply Kd.N_drewN | apply Kd.N_drew)); first | exact HO_412003.out | exact Kd.N_mono (HO_412003.out) (fun _ h_ => by simpa only [and_assoc, and_comm, and_left_comm] using h_)) hb); replace HO_419003 := Aside0.mk (Kd.N_below (by (with_reducible repeat (first | apply Kd.N_alloc | apply Kd.N_drewN | apply Kd.N_drew)); first | exact HO_419003.out | exact Kd.N_mono (HO_419003.out) (fun _ h_ => by simpa only [and_assoc, and_comm, and_left_comm] using h_)) hb); replace BK410 := bb_ BK410 hb; replace BK411 := bb_ BK411 hb; replace BK418 := bb_ BK418 hb; replace HB := bs_ hb; (try clear hb); (try clear hb2); (try clear hk); (try clear hi)))
        replace HO_411003 := Aside0.mk (Kd.N_drew HO_411003.out)
        replace HO_412003 := Aside0.mk (Kd.N_drew HO_412003.out)
        replace HO_419003 := Aside0.mk (Kd.N_drew HO_419003.out)
        replace BK410 := Aside0.mk (blk_drew BK410.out)
        replace BK411 := Aside0.mk (blk_drew BK411.out)
        replace BK418 := Aside0.mk (blk_drew BK418.out)
        replace HB := Aside0.mk (below_drew1 HB.out)
        refine start_ (n := 13) (S := fun w' => w'.cell? ⟨gb418, 0, none⟩ = some (.int .i64 t412) ∧ w'.cell? ⟨gb418, 1, none⟩ = some (.int .i64 t413) ∧ w'.cell? ⟨gb418, 2, none⟩ = some (.string t414) ∧ w'.cell? ⟨gb418, 3, none⟩ = some (.slice Ao19 t415.length co19) ∧ w'.cell? ⟨gb410, 0, none⟩ = some (.int .i64 t398) ∧ w'.cell? ⟨gb410, 1, none⟩ = some (.int .i64 t399) ∧ w'.cell? ⟨gb410, 2, none⟩ = some (.string t400) ∧ w'.cell? ⟨gb410, 3, none⟩ = some (.slice Ao11 t401.length co11) ∧ w'.cell? ⟨gb411, 0, none⟩ = some (.int .i64 t404) ∧ w'.cell? ⟨gb411, 1, none⟩ = some (.int .i64 t405) ∧ w'.cell? ⟨gb411, 2, none⟩ = some (.string t406) ∧ w'.cell? ⟨gb411, 3, none⟩ = some (.slice Ao13 t407.length co13)) (ds := []) #[false, false, false, false, false, false, false, false, false, false, false, false, false] (by kernel_rfl) rfl rfl ⟨(blkc BK418 0), (blkc BK418 1), (blkc BK418 2), (blkc BK418 3), (blkc BK410 0), (blkc BK410 1), (blkc BK410 2), (blkc BK410 3), (blkc BK411 0), (blkc BK411 1), (blkc BK411 2), (blkc BK411 3)⟩ (fun hHeld => ?_); refine with_tabW laws_FnValueEqual.tab9 laws_FnValueEqual.bits9 (fun HT_ HW_ => ?_)
        generalize w120.drew = w121 at HO_411003 HO_412003 HO_419003 BK410 BK411 BK418 HB hHeld ⊢
        refine puA 0 (some 67) ?_
        refine taA 1 (some 68) ?_
        refine puA 2 (some 69) ?_
        refine puA 3 (some 70) ?_
        refine puA 4 (some 71) ?_
        refine taA 5 (some 72) ?_
        refine puA 6 (some 73) ?_
        refine taA 7 (some 74) ?_
        refine taA 8 (some 75) ?_
        refine one_ (i := 9) (N := some 76) #[true, true, true, true, true, true, true, true, true, true, false, false, false] rfl rfl (one_of HT_.out (by kernel_rfl)) (by decide) (fun K hK => ?_)
        refine goes_ Try.func38 (by kernel_rfl) rfl #[.agg #[.int .i64 t398, .int .i64 t399, .string t400, .slice Ao11 t401.length co11], .agg #[.int .i64 t404, .int .i64 t405, .string t406, .slice Ao13 t407.length co13]] (by rfl) rfl rfl ar_ ?_
        with_reducible refine (laws_asValue.calls kj4 t398 t399 t400 _ _ t401 t404 t405 t406 _ _ t407 t451 _ ?side1 ?side2 ?side3 ?side4 A113.out).mono ?_
        (case side1 => repeat (first | exact (Kd.N_reads' HO_411003.out).2.2 | (with_reducible refine Kd.C_alloc ?_ _) | (with_reducible refine Kd.C_drewN ?_ _) | (with_reducible refine Kd.C_drew ?_)))
        (case side2 => exact (Kd.N_reads' HO_411003.out).2.1)
        (case side3 => repeat (first | exact (Kd.N_reads' HO_412003.out).2.2 | (with_reducible refine Kd.C_alloc ?_ _) | (with_reducible refine Kd.C_drewN ?_ _) | (with_reducible refine Kd.C_drew ?_)))
        (case side4 => exact (Kd.N_reads' HO_412003.out).2.1)
        rintro e w122 ⟨rfl, hb⟩
        refine ⟨_, rfl, ?_⟩
        replace HO_411003 := Aside0.mk (Kd.N_below (by (with_reducible repeat (first | apply Kd.N_alloc | apply Kd.N_drewN | apply Kd.N_drew)); first | exact HO_411003.out | exact Kd.N_mono (HO_411003.out) (fun _ h_ => by simpa only [and_assoc, and_comm, and_left_comm] using h_)) hb)
        replace HO_412003 := Aside0.mk (Kd.N_below (by (with_reducible repeat (first | apply Kd.N_alloc | apply Kd.N_drewN | apply Kd.N_drew)); first | exact HO_412003.out | exact Kd.N_mono (HO_412003.out) (fun _ h_ => by simpa only [and_assoc, and_comm, and_left_comm] using h_)) hb)
        replace HO_419003 := Aside0.mk (Kd.N_below (by (with_reducible repeat (first | apply Kd.N_alloc | apply Kd.N_drewN | apply Kd.N_drew)); first | exact HO_419003.out | exact Kd.N_mono (HO_419003.out) (fun _ h_ => by simpa only [and_assoc, and_comm, and_left_comm] using h_)) hb)
        replace BK410 := bb_ BK410 hb
        replace BK411 := bb_ BK411 hb
        replace BK418 := bb_ BK418 hb
        replace HB := bs_ hb
        (try clear hb)
        (try clear hb2)
        (try clear hk)
        (try clear hi)
        refine hK.out _ _ ⟨(blkc BK418 0), (blkc BK418 1), (blkc BK418 2), (blkc BK418 3), (blkc BK410 0), (blkc BK410 1), (blkc BK410 2), (blkc BK410 3), (blkc BK411 0), (blkc BK411 1), (blkc BK411 2), (blkc BK411 3)⟩ (fun hHeld => ?_)
        clear hK K
        refine norm_ (a' := ?_) ?_ ?_
        rotate_left
        · show Act.put _ (some 76) _ = _
          simp only [Act.put, List.setIfInBounds_toArray, List.set_cons_zero, List.set_cons_succ, i64_w, i32_w]
          rfl
        refine puA 10 (some 77) ?_
        refine puA 11 (some 78) ?_
        refine puA 12 (some 2) ?_
        refine done_ (done_of HT_.out (by kernel_rfl)) ?_
        try go_wp2
        go_ret
        exact re_
      subst c61
      have H1 : ((spec_ValueEqual.f kj4 t398 t399 t400 t401 t404 t405 t406 t407).bind fun bt435 => ((laws_asValue.f kj4 t412 t413 t414 t415 bt435.1 bt435.2.1 bt435.2.2.1 bt435.2.2.2).bind fun t441 => (if t441 = true then ((impl_ValueEqual.f kj4 t404 t405 t406 t407 t398 t399 t400 t401).bind fun bt442 => ((laws_asValue.f kj4 bt442.1 bt442.2.1 bt442.2.2.1 bt442.2.2.2 t412 t413 t414 t415).bind fun t448 => (some t448))) else (some false)))) = some r := by rw [if_pos rfl] at H; exact H
      clear H
      have H := H1
      clear H1
      replace H := Option.bind_eq_some_iff.mp H
      obtain ⟨⟨t435, t436, t437, t438⟩, A620, H⟩ := H
      replace H : ((laws_asValue.f kj4 t412 t413 t414 t415 t435 t436 t437 t438).bind fun t441 => (if t441 = true then ((impl_ValueEqual.f kj4 t404 t405 t406 t407 t398 t399 t400 t401).bind fun bt442 => ((laws_asValue.f kj4 bt442.1 bt442.2.1 bt442.2.2.1 bt442.2.2.2 t412 t413 t414 t415).bind fun t448 => (some t448))) else (some false))) = some r := H
      have A62 := Aside0.mk A620
      clear A620
      replace H := Option.bind_eq_some_iff.mp H
      obtain ⟨t441, A630, H⟩ := H
      replace H : (if t441 = true then ((impl_ValueEqual.f kj4 t404 t405 t406 t407 t398 t399 t400 t401).bind fun bt442 => ((laws_asValue.f kj4 bt442.1 bt442.2.1 bt442.2.2.1 bt442.2.2.2 t412 t413 t414 t415).bind fun t448 => (some t448))) else (some false)) = some r := H
      have A63 := Aside0.mk A630
      clear A630
      by_cases c64 : t441 = true
      rotate_left
      · replace c64 := Bool.eq_false_iff.mpr c64
        subst c64
        have H1 : (some false) = some r := by rw [if_neg (show ¬ (false = true) by decide)] at H; exact H
        clear H
        have H := H1
        clear H1
        obtain rfl := Option.some.inj H
        try go_wp2
        replace HO_411003 := Aside0.mk (Kd.N_drew HO_411003.out)
        replace HO_412003 := Aside0.mk (Kd.N_drew HO_412003.out)
        replace HO_419003 := Aside0.mk (Kd.N_drew HO_419003.out)
        replace BK410 := Aside0.mk (blk_drew BK410.out)
        replace BK411 := Aside0.mk (blk_drew BK411.out)
        replace BK418 := Aside0.mk (blk_drew BK418.out)
        replace HB := Aside0.mk (below_drew1 HB.out)
        refine start_ (n := 13) (S := fun w' => w'.cell? ⟨gb418, 0, none⟩ = some (.int .i64 t412) ∧ w'.cell? ⟨gb418, 1, none⟩ = some (.int .i64 t413) ∧ w'.cell? ⟨gb418, 2, none⟩ = some (.string t414) ∧ w'.cell? ⟨gb418, 3, none⟩ = some (.slice Ao19 t415.length co19) ∧ w'.cell? ⟨gb410, 0, none⟩ = some (.int .i64 t398) ∧ w'.cell? ⟨gb410, 1, none⟩ = some (.int .i64 t399) ∧ w'.cell? ⟨gb410, 2, none⟩ = some (.string t400) ∧ w'.cell? ⟨gb410, 3, none⟩ = some (.slice Ao11 t401.length co11) ∧ w'.cell? ⟨gb411, 0, none⟩ = some (.int .i64 t404) ∧ w'.cell? ⟨gb411, 1, none⟩ = some (.int .i64 t405) ∧ w'.cell? ⟨gb411, 2, none⟩ = some (.string t406) ∧ w'.cell? ⟨gb411, 3, none⟩ = some (.slice Ao13 t407.length co13)) (ds := []) #[false, false, false, false, false, false, false, false, false, false, false, false, false] (by kernel_rfl) rfl rfl ⟨(blkc BK418 0), (blkc BK418 1), (blkc BK418 2), (blkc BK418 3), (blkc BK410 0), (blkc BK410 1), (blkc BK410 2), (blkc BK410 3), (blkc BK411 0), (blkc BK411 1), (blkc BK411 2), (blkc BK411 3)⟩ (fun hHeld => ?_); refine with_tabW laws_FnValueEqual.tab6 laws_FnValueEqual.bits6 (fun HT_ HW_ => ?_)
        generalize wc.drew = w74 at HO_411003 HO_412003 HO_419003 BK410 BK411 BK418 HB hHeld ⊢
        refine taA 0 (some 41) ?_
        refine taA 1 (some 42) ?_
        refine taA 2 (some 43) ?_
        refine one_ (i := 3) (N := some 44) #[true, true, true, true, false, false, false, false, false, false, false, false, false] rfl rfl (one_of HT_.out (by kernel_rfl)) (by decide) (fun K hK => ?_)
        refine goes_ Try.func39 (by kernel_rfl) rfl #[.agg #[.int .i64 t398, .int .i64 t399, .string t400, .slice Ao11 t401.length co11], .agg #[.int .i64 t404, .int .i64 t405, .string t406, .slice Ao13 t407.length co13]] (by rfl) rfl rfl ar_ ?_
        with_reducible refine (spec_ValueEqual.calls kj4 t398 t399 t400 _ _ t401 t404 t405 t406 _ _ t407 t435 t436 t437 t438 _ ?side1 ?side2 ?side3 ?side4 A62.out).mono ?_
        (case side1 => repeat (first | exact (Kd.N_reads' HO_411003.out).2.2 | (with_reducible refine Kd.C_alloc ?_ _) | (with_reducible refine Kd.C_drewN ?_ _) | (with_reducible refine Kd.C_drew ?_)))
        (case side2 => exact (Kd.N_reads' HO_411003.out).2.1)
        (case side3 => repeat (first | exact (Kd.N_reads' HO_412003.out).2.2 | (with_reducible refine Kd.C_alloc ?_ _) | (with_reducible refine Kd.C_drewN ?_ _) | (with_reducible refine Kd.C_drew ?_)))
        (case side4 => exact (Kd.N_reads' HO_412003.out).2.1)
        rintro e w75 ⟨v439, rfl, ho0, hb⟩
        refine ⟨_, rfl, ?_⟩
        have HO440 := Aside0.mk (Kd.N_lower (Kd.N_mono (ok' := fun k_ => some k_ ≠ (.slice Ao11 t401.length co11 : Value).ownBlock ∧ some k_ ≠ (.slice Ao13 t407.length co13 : Value).ownBlock ∧ some k_ ≠ (.slice Ao19 t415.length co19 : Value).ownBlock ∧ k_ ≠ gb410 ∧ k_ ≠ gb411 ∧ k_ ≠ gb418) (Kd.R_N (Kd.R_bound ho0)) (fun k_ hk_ => ⟨(Kd.fresh' (Kd.N_lt (by (with_reducible repeat (first | apply Kd.N_alloc | apply Kd.N_drewN | apply Kd.N_drew)); first | exact HO_411003.out | exact Kd.N_mono (HO_411003.out) (fun _ h_ => by simpa only [and_assoc, and_comm, and_left_comm] using h_))) k_ hk_.2.1), (Kd.fresh' (Kd.N_lt (by (with_reducible repeat (first | apply Kd.N_alloc | apply Kd.N_drewN | apply Kd.N_drew)); first | exact HO_412003.out | exact Kd.N_mono (HO_412003.out) (fun _ h_ => by simpa only [and_assoc, and_comm, and_left_comm] using h_))) k_ hk_.2.1), (Kd.fresh' (Kd.N_lt (by (with_reducible repeat (first | apply Kd.N_alloc | apply Kd.N_drewN | apply Kd.N_drew)); first | exact HO_419003.out | exact Kd.N_mono (HO_419003.out) (fun _ h_ => by simpa only [and_assoc, and_comm, and_left_comm] using h_))) k_ hk_.2.1), (Kd.freshB (g := gb410) (o := .cells #[.int .i64 t398, .int .i64 t399, .string t400, .slice Ao11 t401.length co11] 31 (0, 0)) (bk_ BK410) k_ hk_.2.1), (Kd.freshB (g := gb411) (o := .cells #[.int .i64 t404, .int .i64 t405, .string t406, .slice Ao13 t407.length co13] 31 (0, 0)) (bk_ BK411) k_ hk_.2.1), (Kd.freshB (g := gb418) (o := .cells #[.int .i64 t412, .int .i64 t413, .string t414, .slice Ao19 t415.length co19] 31 (0, 0)) (bk_ BK418) k_ hk_.2.1)⟩)) (below_size (bel_)))
        replace HO_411003 := Aside0.mk (Kd.N_elder' (by (with_reducible repeat (first | apply Kd.N_alloc | apply Kd.N_drewN | apply Kd.N_drew)); first | exact HO_411003.out | exact Kd.N_mono (HO_411003.out) (fun _ h_ => by simpa only [and_assoc, and_comm, and_left_comm] using h_)) (Kd.R_base ho0) hb)
        replace HO_412003 := Aside0.mk (Kd.N_elder' (by (with_reducible repeat (first | apply Kd.N_alloc | apply Kd.N_drewN | apply Kd.N_drew)); first | exact HO_412003.out | exact Kd.N_mono (HO_412003.out) (fun _ h_ => by simpa only [and_assoc, and_comm, and_left_comm] using h_)) (Kd.R_base ho0) hb)
        replace HO_419003 := Aside0.mk (Kd.N_elder' (by (with_reducible repeat (first | apply Kd.N_alloc | apply Kd.N_drewN | apply Kd.N_drew)); first | exact HO_419003.out | exact Kd.N_mono (HO_419003.out) (fun _ h_ => by simpa only [and_assoc, and_comm, and_left_comm] using h_)) (Kd.R_base ho0) hb)
        replace BK410 := bb_ BK410 hb
        replace BK411 := bb_ BK411 hb
        replace BK418 := bb_ BK418 hb
        replace HB := bs_ hb
        (try clear hb)
        (try clear hb2)
        (try clear hk)
        (try clear hi)
        (try clear ho0)
        obtain ⟨Ao76, co76, eo76⟩ := Kd.N_slice HO440.out
        (first | subst eo76 | (injection eo76 with f1_ f2_ f3_; have f4_ := f1_.symm; have f5_ := f3_.symm; clear f1_ f2_ f3_; subst f4_; subst f5_))
        refine hK.out _ _ ⟨(blkc BK418 0), (blkc BK418 1), (blkc BK418 2), (blkc BK418 3), (blkc BK410 0), (blkc BK410 1), (blkc BK410 2), (blkc BK410 3), (blkc BK411 0), (blkc BK411 1), (blkc BK411 2), (blkc BK411 3)⟩ (fun hHeld => ?_)
        clear hK K
        refine norm_ (a' := ?_) ?_ ?_
        rotate_left
        · show Act.put _ (some 44) _ = _
          simp only [Act.put, List.setIfInBounds_toArray, List.set_cons_zero, List.set_cons_succ, i64_w, i32_w]
          rfl
        refine one_ (i := 4) (N := some 45) #[true, true, true, true, true, false, false, false, false, false, false, false, false] rfl rfl (one_of HT_.out (by kernel_rfl)) (by decide) (fun K hK => ?_)
        refine goes_ Try.func38 (by kernel_rfl) rfl #[.agg #[.int .i64 t412, .int .i64 t413, .string t414, .slice Ao19 t415.length co19], .agg #[.int .i64 t435, .int .i64 t436, .string t437, .slice Ao76 t438.length co76]] (by rfl) rfl rfl ar_ ?_
        with_reducible refine (laws_asValue.calls kj4 t412 t413 t414 _ _ t415 t435 t436 t437 _ _ t438 false _ ?side1 ?side2 ?side3 ?side4 A63.out).mono ?_
        (case side1 => repeat (first | exact (Kd.N_reads' HO_419003.out).2.2 | (with_reducible refine Kd.C_alloc ?_ _) | (with_reducible refine Kd.C_drewN ?_ _) | (with_reducible refine Kd.C_drew ?_)))
        (case side2 => exact (Kd.N_reads' HO_419003.out).2.1)
        (case side3 => repeat (first | exact (Kd.N_reads' HO440.out).2.2 | (with_reducible refine Kd.C_alloc ?_ _) | (with_reducible refine Kd.C_drewN ?_ _) | (with_reducible refine Kd.C_drew ?_)))
        (case side4 => exact (Kd.N_reads' HO440.out).2.1)
        rintro e w77 ⟨rfl, hb⟩
        refine ⟨_, rfl, ?_⟩
        replace HO_411003 := Aside0.mk (Kd.N_below (by (with_reducible repeat (first | apply Kd.N_alloc | apply Kd.N_drewN | apply Kd.N_drew)); first | exact HO_411003.out | exact Kd.N_mono (HO_411003.out) (fun _ h_ => by simpa only [and_assoc, and_comm, and_left_comm] using h_)) hb)
        replace HO_412003 := Aside0.mk (Kd.N_below (by (with_reducible repeat (first | apply Kd.N_alloc | apply Kd.N_drewN | apply Kd.N_drew)); first | exact HO_412003.out | exact Kd.N_mono (HO_412003.out) (fun _ h_ => by simpa only [and_assoc, and_comm, and_left_comm] using h_)) hb)
        replace HO_419003 := Aside0.mk (Kd.N_below (by (with_reducible repeat (first | apply Kd.N_alloc | apply Kd.N_drewN | apply Kd.N_drew)); first | exact HO_419003.out | exact Kd.N_mono (HO_419003.out) (fun _ h_ => by simpa only [and_assoc, and_comm, and_left_comm] using h_)) hb)
        replace HO440 := Aside0.mk (Kd.N_below (by (with_reducible repeat (first | apply Kd.N_alloc | apply Kd.N_drewN | apply Kd.N_drew)); first | exact HO440.out | exact Kd.N_mono (HO440.out) (fun _ h_ => by simpa only [and_assoc, and_comm, and_left_comm] using h_)) hb)
        replace BK410 := bb_ BK410 hb
        replace BK411 := bb_ BK411 hb
        replace BK418 := bb_ BK418 hb
        replace HB := bs_ hb
        (try clear hb)
        (try clear hb2)
        (try clear hk)
        (try clear hi)
        refine hK.out _ _ ⟨(blkc BK418 0), (blkc BK418 1), (blkc BK418 2), (blkc BK418 3), (blkc BK410 0), (blkc BK410 1), (blkc BK410 2), (blkc BK410 3), (blkc BK411 0), (blkc BK411 1), (blkc BK411 2), (blkc BK411 3)⟩ (fun hHeld => ?_)
        clear hK K
        refine norm_ (a' := ?_) ?_ ?_
        rotate_left
        · show Act.put _ (some 45) _ = _
          simp only [Act.put, List.setIfInBounds_toArray, List.set_cons_zero, List.set_cons_succ, i64_w, i32_w]
          rfl
        refine puA 5 (some 46) ?_
        refine puX 6 (some 47) ?_
        refine puX 7 (some 48) ?_
        refine puX 8 (some 49) ?_
        refine puX 9 (some 50) ?_
        refine puX 10 (some 51) ?_
        refine puA 11 (some 52) ?_
        refine puA 12 (some 2) ?_
        refine done_ (done_of HT_.out (by kernel_rfl)) ?_
        try go_wp2
        go_ret
        exact re_
      subst c64
      have H1 : ((impl_ValueEqual.f kj4 t404 t405 t406 t407 t398 t399 t400 t401).bind fun bt442 => ((laws_asValue.f kj4 bt442.1 bt442.2.1 bt442.2.2.1 bt442.2.2.2 t412 t413 t414 t415).bind fun t448 => (some t448))) = some r := by rw [if_pos rfl] at H; exact H
      clear H
      have H := H1
      clear H1
      replace H := Option.bind_eq_some_iff.mp H
      obtain ⟨⟨t442, t443, t444, t445⟩, A650, H⟩ := H
      replace H : ((laws_asValue.f kj4 t442 t443 t444 t445 t412 t413 t414 t415).bind fun t448 => (some t448)) = some r := H
      have A65 := Aside0.mk A650
      clear A650
      replace H := Option.bind_eq_some_iff.mp H
      obtain ⟨t448, A660, H⟩ := H
      replace H : (some t448) = some r := H
      have A66 := Aside0.mk A660
      clear A660
      obtain rfl := Option.some.inj H
      try go_wp2
      replace HO_411003 := Aside0.mk (Kd.N_drew HO_411003.out)
      replace HO_412003 := Aside0.mk (Kd.N_drew HO_412003.out)
      replace HO_419003 := Aside0.mk (Kd.N_drew HO_419003.out)
      replace BK410 := Aside0.mk (blk_drew BK410.out)
      replace BK411 := Aside0.mk (blk_drew BK411.out)
      replace BK418 := Aside0.mk (blk_drew BK418.out)
      replace HB := Aside0.mk (below_drew1 HB.out)
      refine start_ (n := 13) (S := fun w' => w'.cell? ⟨gb418, 0, none⟩ = some (.int .i64 t412) ∧ w'.cell? ⟨gb418, 1, none⟩ = some (.int .i64 t413) ∧ w'.cell? ⟨gb418, 2, none⟩ = some (.string t414) ∧ w'.cell? ⟨gb418, 3, none⟩ = some (.slice Ao19 t415.length co19) ∧ w'.cell? ⟨gb410, 0, none⟩ = some (.int .i64 t398) ∧ w'.cell? ⟨gb410, 1, none⟩ = some (.int .i64 t399) ∧ w'.cell? ⟨gb410, 2, none⟩ = some (.string t400) ∧ w'.cell? ⟨gb410, 3, none⟩ = some (.slice Ao11 t401.length co11) ∧ w'.cell? ⟨gb411, 0, none⟩ = some (.int .i64 t404) ∧ w'.cell? ⟨gb411, 1, none⟩ = some (.int .i64 t405) ∧ w'.cell? ⟨gb411, 2, none⟩ = some (.string t406) ∧ w'.cell? ⟨gb411, 3, none⟩ = some (.slice Ao13 t407.length co13)) (ds := []) #[false, false, false, false, false, false, false, false, false, false, false, false, false] (by kernel_rfl) rfl rfl ⟨(blkc BK418 0), (blkc BK418 1), (blkc BK418 2), (blkc BK418 3), (blkc BK410 0), (blkc BK410 1), (blkc BK410 2), (blkc BK410 3), (blkc BK411 0), (blkc BK411 1), (blkc BK411 2), (blkc BK411 3)⟩ (fun hHeld => ?_); refine with_tabW laws_FnValueEqual.tab6 laws_FnValueEqual.bits6 (fun HT_ HW_ => ?_)
      generalize wc.drew = w67 at HO_411003 HO_412003 HO_419003 BK410 BK411 BK418 HB hHeld ⊢
      refine taA 0 (some 41) ?_
      refine taA 1 (some 42) ?_
      refine taA 2 (some 43) ?_
      refine one_ (i := 3) (N := some 44) #[true, true, true, true, false, false, false, false, false, false, false, false, false] rfl rfl (one_of HT_.out (by kernel_rfl)) (by decide) (fun K hK => ?_)
      refine goes_ Try.func39 (by kernel_rfl) rfl #[.agg #[.int .i64 t398, .int .i64 t399, .string t400, .slice Ao11 t401.length co11], .agg #[.int .i64 t404, .int .i64 t405, .string t406, .slice Ao13 t407.length co13]] (by rfl) rfl rfl ar_ ?_
      with_reducible refine (spec_ValueEqual.calls kj4 t398 t399 t400 _ _ t401 t404 t405 t406 _ _ t407 t435 t436 t437 t438 _ ?side1 ?side2 ?side3 ?side4 A62.out).mono ?_
      (case side1 => repeat (first | exact (Kd.N_reads' HO_411003.out).2.2 | (with_reducible refine Kd.C_alloc ?_ _) | (with_reducible refine Kd.C_drewN ?_ _) | (with_reducible refine Kd.C_drew ?_)))
      (case side2 => exact (Kd.N_reads' HO_411003.out).2.1)
      (case side3 => repeat (first | exact (Kd.N_reads' HO_412003.out).2.2 | (with_reducible refine Kd.C_alloc ?_ _) | (with_reducible refine Kd.C_drewN ?_ _) | (with_reducible refine Kd.C_drew ?_)))
      (case side4 => exact (Kd.N_reads' HO_412003.out).2.1)
      rintro e w68 ⟨v439, rfl, ho0, hb⟩
      refine ⟨_, rfl, ?_⟩
      have HO440 := Aside0.mk (Kd.N_lower (Kd.N_mono (ok' := fun k_ => some k_ ≠ (.slice Ao11 t401.length co11 : Value).ownBlock ∧ some k_ ≠ (.slice Ao13 t407.length co13 : Value).ownBlock ∧ some k_ ≠ (.slice Ao19 t415.length co19 : Value).ownBlock ∧ k_ ≠ gb410 ∧ k_ ≠ gb411 ∧ k_ ≠ gb418) (Kd.R_N (Kd.R_bound ho0)) (fun k_ hk_ => ⟨(Kd.fresh' (Kd.N_lt (by (with_reducible repeat (first | apply Kd.N_alloc | apply Kd.N_drewN | apply Kd.N_drew)); first | exact HO_411003.out | exact Kd.N_mono (HO_411003.out) (fun _ h_ => by simpa only [and_assoc, and_comm, and_left_comm] using h_))) k_ hk_.2.1), (Kd.fresh' (Kd.N_lt (by (with_reducible repeat (first | apply Kd.N_alloc | apply Kd.N_drewN | apply Kd.N_drew)); first | exact HO_412003.out | exact Kd.N_mono (HO_412003.out) (fun _ h_ => by simpa only [and_assoc, and_comm, and_left_comm] using h_))) k_ hk_.2.1), (Kd.fresh' (Kd.N_lt (by (with_reducible repeat (first | apply Kd.N_alloc | apply Kd.N_drewN | apply Kd.N_drew)); first | exact HO_419003.out | exact Kd.N_mono (HO_419003.out) (fun _ h_ => by simpa only [and_assoc, and_comm, and_left_comm] using h_))) k_ hk_.2.1), (Kd.freshB (g := gb410) (o := .cells #[.int .i64 t398, .int .i64 t399, .string t400, .slice Ao11 t401.length co11] 31 (0, 0)) (bk_ BK410) k_ hk_.2.1), (Kd.freshB (g := gb411) (o := .cells #[.int .i64 t404, .int .i64 t405, .string t406, .slice Ao13 t407.length co13] 31 (0, 0)) (bk_ BK411) k_ hk_.2.1), (Kd.freshB (g := gb418) (o := .cells #[.int .i64 t412, .int .i64 t413, .string t414, .slice Ao19 t415.length co19] 31 (0, 0)) (bk_ BK418) k_ hk_.2.1)⟩)) (below_size (bel_)))
      replace HO_411003 := Aside0.mk (Kd.N_elder' (by (with_reducible repeat (first | apply Kd.N_alloc | apply Kd.N_drewN | apply Kd.N_drew)); first | exact HO_411003.out | exact Kd.N_mono (HO_411003.out) (fun _ h_ => by simpa only [and_assoc, and_comm, and_left_comm] using h_)) (Kd.R_base ho0) hb)
      replace HO_412003 := Aside0.mk (Kd.N_elder' (by (with_reducible repeat (first | apply Kd.N_alloc | apply Kd.N_drewN | apply Kd.N_drew)); first | exact HO_412003.out | exact Kd.N_mono (HO_412003.out) (fun _ h_ => by simpa only [and_assoc, and_comm, and_left_comm] using h_)) (Kd.R_base ho0) hb)
      replace HO_419003 := Aside0.mk (Kd.N_elder' (by (with_reducible repeat (first | apply Kd.N_alloc | apply Kd.N_drewN | apply Kd.N_drew)); first | exact HO_419003.out | exact Kd.N_mono (HO_419003.out) (fun _ h_ => by simpa only [and_assoc, and_comm, and_left_comm] using h_)) (Kd.R_base ho0) hb)
      replace BK410 := bb_ BK410 hb
      replace BK411 := bb_ BK411 hb
      replace BK418 := bb_ BK418 hb
      replace HB := bs_ hb
      (try clear hb)
      (try clear hb2)
      (try clear hk)
      (try clear hi)
      (try clear ho0)
      obtain ⟨Ao69, co69, eo69⟩ := Kd.N_slice HO440.out
      (first | subst eo69 | (injection eo69 with f1_ f2_ f3_; have f4_ := f1_.symm; have f5_ := f3_.symm; clear f1_ f2_ f3_; subst f4_; subst f5_))
      refine hK.out _ _ ⟨(blkc BK418 0), (blkc BK418 1), (blkc BK418 2), (blkc BK418 3), (blkc BK410 0), (blkc BK410 1), (blkc BK410 2), (blkc BK410 3), (blkc BK411 0), (blkc BK411 1), (blkc BK411 2), (blkc BK411 3)⟩ (fun hHeld => ?_)
      clear hK K
      refine norm_ (a' := ?_) ?_ ?_
      rotate_left
      · show Act.put _ (some 44) _ = _
        simp only [Act.put, List.setIfInBounds_toArray, List.set_cons_zero, List.set_cons_succ, i64_w, i32_w]
        rfl
      refine one_ (i := 4) (N := some 45) #[true, true, true, true, true, false, false, false, false, false, false, false, false] rfl rfl (one_of HT_.out (by kernel_rfl)) (by decide) (fun K hK => ?_)
      refine goes_ Try.func38 (by kernel_rfl) rfl #[.agg #[.int .i64 t412, .int .i64 t413, .string t414, .slice Ao19 t415.length co19], .agg #[.int .i64 t435, .int .i64 t436, .string t437, .slice Ao69 t438.length co69]] (by rfl) rfl rfl ar_ ?_
      with_reducible refine (laws_asValue.calls kj4 t412 t413 t414 _ _ t415 t435 t436 t437 _ _ t438 true _ ?side1 ?side2 ?side3 ?side4 A63.out).mono ?_
      (case side1 => repeat (first | exact (Kd.N_reads' HO_419003.out).2.2 | (with_reducible refine Kd.C_alloc ?_ _) | (with_reducible refine Kd.C_drewN ?_ _) | (with_reducible refine Kd.C_drew ?_)))
      (case side2 => exact (Kd.N_reads' HO_419003.out).2.1)
      (case side3 => repeat (first | exact (Kd.N_reads' HO440.out).2.2 | (with_reducible refine Kd.C_alloc ?_ _) | (with_reducible refine Kd.C_drewN ?_ _) | (with_reducible refine Kd.C_drew ?_)))
      (case side4 => exact (Kd.N_reads' HO440.out).2.1)
      rintro e w70 ⟨rfl, hb⟩
      refine ⟨_, rfl, ?_⟩
      replace HO_411003 := Aside0.mk (Kd.N_below (by (with_reducible repeat (first | apply Kd.N_alloc | apply Kd.N_drewN | apply Kd.N_drew)); first | exact HO_411003.out | exact Kd.N_mono (HO_411003.out) (fun _ h_ => by simpa only [and_assoc, and_comm, and_left_comm] using h_)) hb)
      replace HO_412003 := Aside0.mk (Kd.N_below (by (with_reducible repeat (first | apply Kd.N_alloc | apply Kd.N_drewN | apply Kd.N_drew)); first | exact HO_412003.out | exact Kd.N_mono (HO_412003.out) (fun _ h_ => by simpa only [and_assoc, and_comm, and_left_comm] using h_)) hb)
      replace HO_419003 := Aside0.mk (Kd.N_below (by (with_reducible repeat (first | apply Kd.N_alloc | apply Kd.N_drewN | apply Kd.N_drew)); first | exact HO_419003.out | exact Kd.N_mono (HO_419003.out) (fun _ h_ => by simpa only [and_assoc, and_comm, and_left_comm] using h_)) hb)
      replace HO440 := Aside0.mk (Kd.N_below (by (with_reducible repeat (first | apply Kd.N_alloc | apply Kd.N_drewN | apply Kd.N_drew)); first | exact HO440.out | exact Kd.N_mono (HO440.out) (fun _ h_ => by simpa only [and_assoc, and_comm, and_left_comm] using h_)) hb)
      replace BK410 := bb_ BK410 hb
      replace BK411 := bb_ BK411 hb
      replace BK418 := bb_ BK418 hb
      replace HB := bs_ hb
      (try clear hb)
      (try clear hb2)
      (try clear hk)
      (try clear hi)
      refine hK.out _ _ ⟨(blkc BK418 0), (blkc BK418 1), (blkc BK418 2), (blkc BK418 3), (blkc BK410 0), (blkc BK410 1), (blkc BK410 2), (blkc BK410 3), (blkc BK411 0), (blkc BK411 1), (blkc BK411 2), (blkc BK411 3)⟩ (fun hHeld => ?_)
      clear hK K
      refine norm_ (a' := ?_) ?_ ?_
      rotate_left
      · show Act.put _ (some 45) _ = _
        simp only [Act.put, List.setIfInBounds_toArray, List.set_cons_zero, List.set_cons_succ, i64_w, i32_w]
        rfl
      refine puA 5 (some 46) ?_
      refine taA 6 (some 47) ?_
      refine taA 7 (some 48) ?_
      refine taA 9 (some 50) ?_
      refine one_ (i := 8) (N := some 49) #[true, true, true, true, true, true, true, true, true, true, false, false, false] rfl rfl (one_of HT_.out (by kernel_rfl)) (by decide) (fun K hK => ?_)
      refine goes_ Try.func40 (by kernel_rfl) rfl #[.agg #[.int .i64 t404, .int .i64 t405, .string t406, .slice Ao13 t407.length co13], .agg #[.int .i64 t398, .int .i64 t399, .string t400, .slice Ao11 t401.length co11]] (by rfl) rfl rfl ar_ ?_
      with_reducible refine (impl_ValueEqual.calls kj4 t404 t405 t406 _ _ t407 t398 t399 t400 _ _ t401 t442 t443 t444 t445 _ ?side1 ?side2 ?side3 ?side4 A65.out).mono ?_
      (case side1 => repeat (first | exact (Kd.N_reads' HO_412003.out).2.2 | (with_reducible refine Kd.C_alloc ?_ _) | (with_reducible refine Kd.C_drewN ?_ _) | (with_reducible refine Kd.C_drew ?_)))
      (case side2 => exact (Kd.N_reads' HO_412003.out).2.1)
      (case side3 => repeat (first | exact (Kd.N_reads' HO_411003.out).2.2 | (with_reducible refine Kd.C_alloc ?_ _) | (with_reducible refine Kd.C_drewN ?_ _) | (with_reducible refine Kd.C_drew ?_)))
      (case side4 => exact (Kd.N_reads' HO_411003.out).2.1)
      rintro e w71 ⟨v446, rfl, ho0, hb⟩
      refine ⟨_, rfl, ?_⟩
      have HO447 := Aside0.mk (Kd.N_lower (Kd.N_mono (ok' := fun k_ => some k_ ≠ (.slice Ao11 t401.length co11 : Value).ownBlock ∧ some k_ ≠ (.slice Ao13 t407.length co13 : Value).ownBlock ∧ some k_ ≠ (.slice Ao19 t415.length co19 : Value).ownBlock ∧ some k_ ≠ (.slice Ao69 t438.length co69 : Value).ownBlock ∧ k_ ≠ gb410 ∧ k_ ≠ gb411 ∧ k_ ≠ gb418) (Kd.R_N (Kd.R_bound ho0)) (fun k_ hk_ => ⟨(Kd.fresh' (Kd.N_lt (by (with_reducible repeat (first | apply Kd.N_alloc | apply Kd.N_drewN | apply Kd.N_drew)); first | exact HO_411003.out | exact Kd.N_mono (HO_411003.out) (fun _ h_ => by simpa only [and_assoc, and_comm, and_left_comm] using h_))) k_ hk_.2.1), (Kd.fresh' (Kd.N_lt (by (with_reducible repeat (first | apply Kd.N_alloc | apply Kd.N_drewN | apply Kd.N_drew)); first | exact HO_412003.out | exact Kd.N_mono (HO_412003.out) (fun _ h_ => by simpa only [and_assoc, and_comm, and_left_comm] using h_))) k_ hk_.2.1), (Kd.fresh' (Kd.N_lt (by (with_reducible repeat (first | apply Kd.N_alloc | apply Kd.N_drewN | apply Kd.N_drew)); first | exact HO_419003.out | exact Kd.N_mono (HO_419003.out) (fun _ h_ => by simpa only [and_assoc, and_comm, and_left_comm] using h_))) k_ hk_.2.1), (Kd.fresh' (Kd.N_lt (by (with_reducible repeat (first | apply Kd.N_alloc | apply Kd.N_drewN | apply Kd.N_drew)); first | exact HO440.out | exact Kd.N_mono (HO440.out) (fun _ h_ => by simpa only [and_assoc, and_comm, and_left_comm] using h_))) k_ hk_.2.1), (Kd.freshB (g := gb410) (o := .cells #[.int .i64 t398, .int .i64 t399, .string t400, .slice Ao11 t401.length co11] 31 (0, 0)) (bk_ BK410) k_ hk_.2.1), (Kd.freshB (g := gb411) (o := .cells #[.int .i64 t404, .int .i64 t405, .string t406, .slice Ao13 t407.length co13] 31 (0, 0)) (bk_ BK411) k_ hk_.2.1), (Kd.freshB (g := gb418) (o := .cells #[.int .i64 t412, .int .i64 t413, .string t414, .slice Ao19 t415.length co19] 31 (0, 0)) (bk_ BK418) k_ hk_.2.1)⟩)) (below_size (bel_)))
      replace HO_411003 := Aside0.mk (Kd.N_elder' (by (with_reducible repeat (first | apply Kd.N_alloc | apply Kd.N_drewN | apply Kd.N_drew)); first | exact HO_411003.out | exact Kd.N_mono (HO_411003.out) (fun _ h_ => by simpa only [and_assoc, and_comm, and_left_comm] using h_)) (Kd.R_base ho0) hb)
      replace HO_412003 := Aside0.mk (Kd.N_elder' (by (with_reducible repeat (first | apply Kd.N_alloc | apply Kd.N_drewN | apply Kd.N_drew)); first | exact HO_412003.out | exact Kd.N_mono (HO_412003.out) (fun _ h_ => by simpa only [and_assoc, and_comm, and_left_comm] using h_)) (Kd.R_base ho0) hb)
      replace HO_419003 := Aside0.mk (Kd.N_elder' (by (with_reducible repeat (first | apply Kd.N_alloc | apply Kd.N_drewN | apply Kd.N_drew)); first | exact HO_419003.out | exact Kd.N_mono (HO_419003.out) (fun _ h_ => by simpa only [and_assoc, and_comm, and_left_comm] using h_)) (Kd.R_base ho0) hb)
      replace HO440 := Aside0.mk (Kd.N_elder' (by (with_reducible repeat (first | apply Kd.N_alloc | apply Kd.N_drewN | apply Kd.N_drew)); first | exact HO440.out | exact Kd.N_mono (HO440.out) (fun _ h_ => by simpa only [and_assoc, and_comm, and_left_comm] using h_)) (Kd.R_base ho0) hb)
      replace BK410 := bb_ BK410 hb
      replace BK411 := bb_ BK411 hb
      replace BK418 := bb_ BK418 hb
      replace HB := bs_ hb
      (try clear hb)
      (try clear hb2)
      (try clear hk)
      (try clear hi)
      (try clear ho0)
      obtain ⟨Ao72, co72, eo72⟩ := Kd.N_slice HO447.out
      (first | subst eo72 | (injection eo72 with f1_ f2_ f3_; have f4_ := f1_.symm; have f5_ := f3_.symm; clear f1_ f2_ f3_; subst f4_; subst f5_))
      refine hK.out _ _ ⟨(blkc BK418 0), (blkc BK418 1), (blkc BK418 2), (blkc BK418 3), (blkc BK410 0), (blkc BK410 1), (blkc BK410 2), (blkc BK410 3), (blkc BK411 0), (blkc BK411 1), (blkc BK411 2), (blkc BK411 3)⟩ (fun hHeld => ?_)
      clear hK K
      refine norm_ (a' := ?_) ?_ ?_
      rotate_left
      · show Act.put _ (some 49) _ = _
        simp only [Act.put, List.setIfInBounds_toArray, List.set_cons_zero, List.set_cons_succ, i64_w, i32_w]
        rfl
      refine one_ (i := 10) (N := some 51) #[true, true, true, true, true, true, true, true, true, true, true, false, false] rfl rfl (one_of HT_.out (by kernel_rfl)) (by decide) (fun K hK => ?_)
      refine goes_ Try.func38 (by kernel_rfl) rfl #[.agg #[.int .i64 t442, .int .i64 t443, .string t444, .slice Ao72 t445.length co72], .agg #[.int .i64 t412, .int .i64 t413, .string t414, .slice Ao19 t415.length co19]] (by rfl) rfl rfl ar_ ?_
      with_reducible refine (laws_asValue.calls kj4 t442 t443 t444 _ _ t445 t412 t413 t414 _ _ t415 t448 _ ?side1 ?side2 ?side3 ?side4 A66.out).mono ?_
      (case side1 => repeat (first | exact (Kd.N_reads' HO447.out).2.2 | (with_reducible refine Kd.C_alloc ?_ _) | (with_reducible refine Kd.C_drewN ?_ _) | (with_reducible refine Kd.C_drew ?_)))
      (case side2 => exact (Kd.N_reads' HO447.out).2.1)
      (case side3 => repeat (first | exact (Kd.N_reads' HO_419003.out).2.2 | (with_reducible refine Kd.C_alloc ?_ _) | (with_reducible refine Kd.C_drewN ?_ _) | (with_reducible refine Kd.C_drew ?_)))
      (case side4 => exact (Kd.N_reads' HO_419003.out).2.1)
      rintro e w73 ⟨rfl, hb⟩
      refine ⟨_, rfl, ?_⟩
      replace HO_411003 := Aside0.mk (Kd.N_below (by (with_reducible repeat (first | apply Kd.N_alloc | apply Kd.N_drewN | apply Kd.N_drew)); first | exact HO_411003.out | exact Kd.N_mono (HO_411003.out) (fun _ h_ => by simpa only [and_assoc, and_comm, and_left_comm] using h_)) hb)
      replace HO_412003 := Aside0.mk (Kd.N_below (by (with_reducible repeat (first | apply Kd.N_alloc | apply Kd.N_drewN | apply Kd.N_drew)); first | exact HO_412003.out | exact Kd.N_mono (HO_412003.out) (fun _ h_ => by simpa only [and_assoc, and_comm, and_left_comm] using h_)) hb)
      replace HO_419003 := Aside0.mk (Kd.N_below (by (with_reducible repeat (first | apply Kd.N_alloc | apply Kd.N_drewN | apply Kd.N_drew)); first | exact HO_419003.out | exact Kd.N_mono (HO_419003.out) (fun _ h_ => by simpa only [and_assoc, and_comm, and_left_comm] using h_)) hb)
      replace HO440 := Aside0.mk (Kd.N_below (by (with_reducible repeat (first | apply Kd.N_alloc | apply Kd.N_drewN | apply Kd.N_drew)); first | exact HO440.out | exact Kd.N_mono (HO440.out) (fun _ h_ => by simpa only [and_assoc, and_comm, and_left_comm] using h_)) hb)
      replace HO447 := Aside0.mk (Kd.N_below (by (with_reducible repeat (first | apply Kd.N_alloc | apply Kd.N_drewN | apply Kd.N_drew)); first | exact HO447.out | exact Kd.N_mono (HO447.out) (fun _ h_ => by simpa only [and_assoc, and_comm, and_left_comm] using h_)) hb)
      replace BK410 := bb_ BK410 hb
      replace BK411 := bb_ BK411 hb
      replace BK418 := bb_ BK418 hb
      replace HB := bs_ hb
      (try clear hb)
      (try clear hb2)
      (try clear hk)
      (try clear hi)
      refine hK.out _ _ ⟨(blkc BK418 0), (blkc BK418 1), (blkc BK418 2), (blkc BK418 3), (blkc BK410 0), (blkc BK410 1), (blkc BK410 2), (blkc BK410 3), (blkc BK411 0), (blkc BK411 1), (blkc BK411 2), (blkc BK411 3)⟩ (fun hHeld => ?_)
      clear hK K
      refine norm_ (a' := ?_) ?_ ?_
      rotate_left
      · show Act.put _ (some 51) _ = _
        simp only [Act.put, List.setIfInBounds_toArray, List.set_cons_zero, List.set_cons_succ, i64_w, i32_w]
        rfl
      refine puA 11 (some 52) ?_
      refine puA 12 (some 2) ?_
      refine done_ (done_of HT_.out (by kernel_rfl)) ?_
      try go_wp2
      go_ret
      exact re_

/-- THE ONE PURE STATEMENT of laws_FnValueEqual: yours. -/
def laws_FnValueEqual.Pure : Prop := ∀ (l0 : List Int), l0.length ≤ maxLen → l0.length * 1 ≤ 140737488351232 → (∀ x ∈ l0, (Lit.int .u8 x).wf = true) → ∃ k, laws_FnValueEqual.f k l0 = some true
theorem laws_FnValueEqual.walk (P : laws_FnValueEqual.Pure) (a0 : Option Addr) (len0 cap0 : Nat) (z0 : List Int) (w : World) (w0 : (a0 = none ∧ len0 = 0 ∧ cap0 = 0 ∧ z0 = []) ∨ ∃ x, a0 = some x ∧ len0 ≤ cap0 ∧ cap0 ≤ maxLen ∧ z0.length = cap0 ∧ (∀ i, i < z0.length → w.cell? (x.add i) = some (.int .u8 (z0.getD i 0))) ∧ ∀ n ∈ z0, (Lit.int .u8 n).wf = true) (y0 : len0 * 1 ≤ 140737488351232) :
    Calls Try.prog 13 #[.slice a0 len0 cap0] w fun e w' => e = .returned (.bool true) ∧ Below w.heap.size w w' := by
  obtain ⟨l0, rfl, hr0, hm0, hw0, hc0⟩ := ReadsInt.ofRowC w0
  obtain ⟨k, h⟩ := P l0 hm0 y0 hw0
  refine (laws_FnValueEqual.calls k _ _ l0 true w (Kd.C_of_reads (d := (0 : Int)) (h1 := fun _ => rfl) hr0) hc0 h).mono ?_
  rintro e w' ⟨rfl, hd⟩
  exact ⟨rfl, hd⟩

end Go.Proofs.Ytejikddbdhahaaa.G
