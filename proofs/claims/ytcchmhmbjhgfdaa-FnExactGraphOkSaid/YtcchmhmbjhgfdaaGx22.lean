-- Printed by a program of this claim's writer (wip/gen), out of the translation. Lean checks it.
import Derived.Test.YtcchmhmbjhgfdaaGx0
import Derived.Test.YtcchmhmbjhgfdaaGx1
import Derived.Test.YtcchmhmbjhgfdaaGx2
import Derived.Test.YtcchmhmbjhgfdaaGx10
import Derived.Test.YtcchmhmbjhgfdaaGx11
import Derived.Test.YtcchmhmbjhgfdaaGx18
import Derived.Test.YtcchmhmbjhgfdaaGx21
namespace Go.Proofs.Ytcchmhmbjhgfdaa.G
open Go.RowKit Go.Proofs.YtcchmhmbjhgfdaaW.PrintWords Go.Proofs.YtcchmhmbjhgfdaaW.PrintLast Go.Proofs.YtcchmhmbjhgfdaaW.PrintMore
attribute [local go_sem] max2_int min2_int max_two min_two max_three min_three max_four min_four Own.str_gtr Own.str_leq Own.str_geq Own.sto_fn   -- for this text's walks alone
open Own
set_option linter.unusedVariables false
set_option linter.unusedSimpArgs false

/-! ### laws_FnExactGraphOk: function 3 -/
def laws_FnExactGraphOk.f (k : Nat) (l0_0 : List (S170)) (l0_1 : List (S173)) (a0_2 : Int) (a0_3 : Int) : Option (Bool) := (laws_szGraph.f k l0_0 l0_1 a0_2 a0_3 1048576).bind fun t363 => (if t363 < 0 then (some true) else ((laws_toGraph.f k l0_0 l0_1 a0_2 a0_3).bind fun bt364 => ((spec_GraphOk.f k bt364.1 bt364.2.1 bt364.2.2.1 bt364.2.2.2).bind fun t372 => ((laws_toGraph.f k l0_0 l0_1 a0_2 a0_3).bind fun bt373 => ((impl_GraphOk.f k bt373.1 bt373.2.1 bt373.2.2.1 bt373.2.2.2).bind fun t382 => (if (t382 != t372) = true then (some false) else ((laws_toGraph.f k l0_0 l0_1 a0_2 a0_3).bind fun bt383 => ((laws_eqGraph.f k bt373.1 bt373.2.1 bt373.2.2.1 bt373.2.2.2 bt383.1 bt383.2.1 bt383.2.2.1 bt383.2.2.2).bind fun t391 => (if t391 = true then (some true) else (some false))))))))))
set_option maxHeartbeats 8000000 in
set_option maxRecDepth 100000 in
theorem laws_FnExactGraphOk.calls (k : Nat) (A0_0 : Option Addr) (c0_0 : Nat) (l0_0 : List (S170)) (A0_1 : Option Addr) (c0_1 : Nat) (l0_1 : List (S173)) (a0_2 : Int) (a0_3 : Int) (r : Bool) (w : World) (hr0_0 : Kd.C k170 w A0_0 l0_0.length l0_0) (hc0_0 : l0_0.length ≤ c0_0) (hr0_1 : Kd.C k173 w A0_1 l0_1.length l0_1) (hc0_1 : l0_1.length ≤ c0_1) (h : laws_FnExactGraphOk.f k l0_0 l0_1 a0_2 a0_3 = some r) :
    Calls Try.prog 3 #[.agg #[.slice A0_0 l0_0.length c0_0, .slice A0_1 l0_1.length c0_1, .int .i64 a0_2, .int .i64 a0_3]] w fun e w' => e = .returned (.bool r) ∧ Below w.heap.size w w' := by
  have hu25 := Try.underlying25
  have hu31 := Try.underlying31
  have HR0_0 := Aside0.mk hr0_0
  have HC0_0 := Aside0.mk hc0_0
  clear hr0_0 hc0_0
  have HR0_1 := Aside0.mk hr0_1
  have HC0_1 := Aside0.mk hc0_1
  clear hr0_1 hc0_1
  have HB := Aside0.mk (Below.refl w.heap.size w)
  have H : ((laws_szGraph.f k l0_0 l0_1 a0_2 a0_3 1048576).bind fun t363 => (if t363 < 0 then (some true) else ((laws_toGraph.f k l0_0 l0_1 a0_2 a0_3).bind fun bt364 => ((spec_GraphOk.f k bt364.1 bt364.2.1 bt364.2.2.1 bt364.2.2.2).bind fun t372 => ((laws_toGraph.f k l0_0 l0_1 a0_2 a0_3).bind fun bt373 => ((impl_GraphOk.f k bt373.1 bt373.2.1 bt373.2.2.1 bt373.2.2.2).bind fun t382 => (if (t382 != t372) = true then (some false) else ((laws_toGraph.f k l0_0 l0_1 a0_2 a0_3).bind fun bt383 => ((laws_eqGraph.f k bt373.1 bt373.2.1 bt373.2.2.1 bt373.2.2.2 bt383.1 bt383.2.1 bt383.2.2.1 bt383.2.2.2).bind fun t391 => (if t391 = true then (some true) else (some false))))))))))) = some r := h
  clear h
  replace H := Option.bind_eq_some_iff.mp H
  obtain ⟨t363, A20, H⟩ := H
  replace H : (if t363 < 0 then (some true) else ((laws_toGraph.f k l0_0 l0_1 a0_2 a0_3).bind fun bt364 => ((spec_GraphOk.f k bt364.1 bt364.2.1 bt364.2.2.1 bt364.2.2.2).bind fun t372 => ((laws_toGraph.f k l0_0 l0_1 a0_2 a0_3).bind fun bt373 => ((impl_GraphOk.f k bt373.1 bt373.2.1 bt373.2.2.1 bt373.2.2.2).bind fun t382 => (if (t382 != t372) = true then (some false) else ((laws_toGraph.f k l0_0 l0_1 a0_2 a0_3).bind fun bt383 => ((laws_eqGraph.f k bt373.1 bt373.2.1 bt373.2.2.1 bt373.2.2.2 bt383.1 bt383.2.1 bt383.2.2.1 bt383.2.2.2).bind fun t391 => (if t391 = true then (some true) else (some false)))))))))) = some r := H
  have A2 := Aside0.mk A20
  clear A20
  by_cases c3 : t363 < 0
  · rw [if_pos c3] at H
    have c3b0 : decide (t363 < 0) = true := decide_eq_true c3
    clear c3
    obtain rfl := Option.some.inj H
    go_enter Try.func3, Try.ntmps3
    go_wp2_with (first | ((with_reducible refine gate_dst (N := 1) rfl ?_); refine bx_ 1 #[.slice A0_0 l0_0.length c0_0, .slice A0_1 l0_1.length c0_1, .int .i64 a0_2, .int .i64 a0_3] 25 ?_; intro gb362 hg w4 hbox hb; have BK362 := Aside0.mk (hbox); have GW362 := gw_ hg; have GE362 := gw_ hg; replace HB := bs_ hb; clear hb hbox hg; obtain ⟨hcz5_0, hcz5_1, hcz5_2, hcz5_3, hfz5_0, hfz5_1, hfz5_2, hfz5_3⟩ := blk4 BK362) | ((with_reducible refine gate_callee (f := 15) rfl ?_); refine goesL_ (some 9) rfl rfl Try.func15 (by kernel_rfl) rfl #[.agg #[.slice A0_0 l0_0.length c0_0, .slice A0_1 l0_1.length c0_1, .int .i64 a0_2, .int .i64 a0_3], .int .i64 1048576] rfl ar_ ?_; (with_reducible refine (laws_szGraph.calls k _ _ l0_0 _ _ l0_1 a0_2 a0_3 1048576 t363 _ ?side1 ?side2 ?side3 ?side4 A2.out).mono ?_); (case side1 => exact rdb_ HR0_0); (case side2 => exact HC0_0.out); (case side3 => exact rdb_ HR0_1); (case side4 => exact HC0_1.out); rintro e w6 ⟨rfl, hb⟩; refine ⟨_, rfl, ?_⟩; replace BK362 := bb_ BK362 hb; replace HB := bs_ hb; (try clear hb); (try clear hb2); (try clear hk); (try clear hi)))
    go_ret
    exact re_
  rw [if_neg c3] at H
  have c3b0 : decide (t363 < 0) = false := decide_eq_false c3
  clear c3
  replace H := Option.bind_eq_some_iff.mp H
  obtain ⟨⟨t364, t367, t370, t371⟩, A70, H⟩ := H
  replace H : ((spec_GraphOk.f k t364 t367 t370 t371).bind fun t372 => ((laws_toGraph.f k l0_0 l0_1 a0_2 a0_3).bind fun bt373 => ((impl_GraphOk.f k bt373.1 bt373.2.1 bt373.2.2.1 bt373.2.2.2).bind fun t382 => (if (t382 != t372) = true then (some false) else ((laws_toGraph.f k l0_0 l0_1 a0_2 a0_3).bind fun bt383 => ((laws_eqGraph.f k bt373.1 bt373.2.1 bt373.2.2.1 bt373.2.2.2 bt383.1 bt383.2.1 bt383.2.2.1 bt383.2.2.2).bind fun t391 => (if t391 = true then (some true) else (some false)))))))) = some r := H
  have A7 := Aside0.mk A70
  clear A70
  replace H := Option.bind_eq_some_iff.mp H
  obtain ⟨t372, A80, H⟩ := H
  replace H : ((laws_toGraph.f k l0_0 l0_1 a0_2 a0_3).bind fun bt373 => ((impl_GraphOk.f k bt373.1 bt373.2.1 bt373.2.2.1 bt373.2.2.2).bind fun t382 => (if (t382 != t372) = true then (some false) else ((laws_toGraph.f k l0_0 l0_1 a0_2 a0_3).bind fun bt383 => ((laws_eqGraph.f k bt373.1 bt373.2.1 bt373.2.2.1 bt373.2.2.2 bt383.1 bt383.2.1 bt383.2.2.1 bt383.2.2.2).bind fun t391 => (if t391 = true then (some true) else (some false))))))) = some r := H
  have A8 := Aside0.mk A80
  clear A80
  replace H := Option.bind_eq_some_iff.mp H
  obtain ⟨⟨t373, t376, t379, t380⟩, A90, H⟩ := H
  replace H : ((impl_GraphOk.f k t373 t376 t379 t380).bind fun t382 => (if (t382 != t372) = true then (some false) else ((laws_toGraph.f k l0_0 l0_1 a0_2 a0_3).bind fun bt383 => ((laws_eqGraph.f k t373 t376 t379 t380 bt383.1 bt383.2.1 bt383.2.2.1 bt383.2.2.2).bind fun t391 => (if t391 = true then (some true) else (some false)))))) = some r := H
  have A9 := Aside0.mk A90
  clear A90
  replace H := Option.bind_eq_some_iff.mp H
  obtain ⟨t382, A100, H⟩ := H
  replace H : (if (t382 != t372) = true then (some false) else ((laws_toGraph.f k l0_0 l0_1 a0_2 a0_3).bind fun bt383 => ((laws_eqGraph.f k t373 t376 t379 t380 bt383.1 bt383.2.1 bt383.2.2.1 bt383.2.2.2).bind fun t391 => (if t391 = true then (some true) else (some false))))) = some r := H
  have A10 := Aside0.mk A100
  clear A100
  by_cases c11 : (t382 != t372) = true
  · rw [if_pos c11] at H
    have c11b0 : (t382 != t372) = true := c11
    (try (have c11b1 : decide (t382 = t372) = false := by simpa using c11))
    (try (have c11b2 : (t382 == t372) = false := by simpa using c11))
    (try (have c11b3 : ¬ (t382 = t372) := by simpa using c11))
    clear c11
    obtain rfl := Option.some.inj H
    go_enter Try.func3, Try.ntmps3
    go_wp2_with (first | ((with_reducible refine gate_dst (N := 1) rfl ?_); refine bx_ 1 #[.slice A0_0 l0_0.length c0_0, .slice A0_1 l0_1.length c0_1, .int .i64 a0_2, .int .i64 a0_3] 25 ?_; intro gb362 hg w12 hbox hb; have BK362 := Aside0.mk (hbox); have GW362 := gw_ hg; have GE362 := gw_ hg; replace HB := bs_ hb; clear hb hbox hg; obtain ⟨hcz13_0, hcz13_1, hcz13_2, hcz13_3, hfz13_0, hfz13_1, hfz13_2, hfz13_3⟩ := blk4 BK362) | ((with_reducible refine gate_callee (f := 15) rfl ?_); refine goesL_ (some 9) rfl rfl Try.func15 (by kernel_rfl) rfl #[.agg #[.slice A0_0 l0_0.length c0_0, .slice A0_1 l0_1.length c0_1, .int .i64 a0_2, .int .i64 a0_3], .int .i64 1048576] rfl ar_ ?_; (with_reducible refine (laws_szGraph.calls k _ _ l0_0 _ _ l0_1 a0_2 a0_3 1048576 t363 _ ?side1 ?side2 ?side3 ?side4 A2.out).mono ?_); (case side1 => exact rdb_ HR0_0); (case side2 => exact HC0_0.out); (case side3 => exact rdb_ HR0_1); (case side4 => exact HC0_1.out); rintro e w14 ⟨rfl, hb⟩; refine ⟨_, rfl, ?_⟩; replace BK362 := bb_ BK362 hb; replace HB := bs_ hb; (try clear hb); (try clear hb2); (try clear hk); (try clear hi); obtain ⟨hcz15_0, hcz15_1, hcz15_2, hcz15_3, hfz15_0, hfz15_1, hfz15_2, hfz15_3⟩ := blk4 BK362) | ((with_reducible refine gate_callee (f := 17) rfl ?_); refine goesL_ (some 13) rfl rfl Try.func17 (by kernel_rfl) rfl #[.agg #[.slice A0_0 l0_0.length c0_0, .slice A0_1 l0_1.length c0_1, .int .i64 a0_2, .int .i64 a0_3]] rfl ar_ ?_; (with_reducible refine (laws_toGraph.calls k _ _ l0_0 _ _ l0_1 a0_2 a0_3 t364 t367 t370 t371 _ ?side1 ?side2 ?side3 ?side4 A7.out).mono ?_); (case side1 => exact rdb_ HR0_0); (case side2 => exact HC0_0.out); (case side3 => exact rdb_ HR0_1); (case side4 => exact HC0_1.out); rintro e w16 ⟨v365, v368, rfl, ho0, ho1, hb⟩; refine ⟨_, rfl, ?_⟩; have HO366 := Aside0.mk (Kd.R_lower ho0 (below_size (bel_))); have HO369 := Aside0.mk (Kd.R_lower ho1 (below_size (bel_))); replace BK362 := bb_ BK362 hb; replace HB := bs_ hb; (try clear hb); (try clear hb2); (try clear hk); (try clear hi); (try clear ho0); (try clear ho1); obtain ⟨Ao17, co17, eo17⟩ := Kd.R_slice HO366.out; subst eo17; obtain ⟨Ao18, co18, eo18⟩ := Kd.R_slice HO369.out; subst eo18) | ((with_reducible refine gate_callee (f := 16) rfl ?_); refine goesL_ (some 14) rfl rfl Try.func16 (by kernel_rfl) rfl #[.agg #[.slice Ao17 t364.length co17, .slice Ao18 t367.length co18, .int .i64 t370, .int .i64 t371]] rfl ar_ ?_; (with_reducible refine (spec_GraphOk.calls k _ _ t364 _ _ t367 t370 t371 t372 _ ?side1 ?side2 ?side3 ?side4 A8.out).mono ?_); (case side1 => repeat (first | exact (Kd.R_reads' HO366.out).2.2 | (with_reducible refine Kd.C_alloc ?_ _) | (with_reducible refine Kd.C_drewN ?_ _) | (with_reducible refine Kd.C_drew ?_))); (case side2 => exact (Kd.R_reads' HO366.out).2.1); (case side3 => repeat (first | exact (Kd.R_reads' HO369.out).2.2 | (with_reducible refine Kd.C_alloc ?_ _) | (with_reducible refine Kd.C_drewN ?_ _) | (with_reducible refine Kd.C_drew ?_))); (case side4 => exact (Kd.R_reads' HO369.out).2.1); rintro e w19 ⟨rfl, hb⟩; refine ⟨_, rfl, ?_⟩; replace HO366 := Aside0.mk (Kd.R_below (by (with_reducible repeat (first | apply Kd.R_alloc | apply Kd.R_drewN | apply Kd.R_drew)); exact HO366.out) hb); replace HO369 := Aside0.mk (Kd.R_below (by (with_reducible repeat (first | apply Kd.R_alloc | apply Kd.R_drewN | apply Kd.R_drew)); exact HO369.out) hb); replace BK362 := bb_ BK362 hb; replace HB := bs_ hb; (try clear hb); (try clear hb2); (try clear hk); (try clear hi); obtain ⟨hcz20_0, hcz20_1, hcz20_2, hcz20_3, hfz20_0, hfz20_1, hfz20_2, hfz20_3⟩ := blk4 BK362) | ((with_reducible refine gate_callee (f := 17) rfl ?_); refine goesL_ (some 16) rfl rfl Try.func17 (by kernel_rfl) rfl #[.agg #[.slice A0_0 l0_0.length c0_0, .slice A0_1 l0_1.length c0_1, .int .i64 a0_2, .int .i64 a0_3]] rfl ar_ ?_; (with_reducible refine (laws_toGraph.calls k _ _ l0_0 _ _ l0_1 a0_2 a0_3 t373 t376 t379 t380 _ ?side1 ?side2 ?side3 ?side4 A9.out).mono ?_); (case side1 => exact rdb_ HR0_0); (case side2 => exact HC0_0.out); (case side3 => exact rdb_ HR0_1); (case side4 => exact HC0_1.out); rintro e w21 ⟨v374, v377, rfl, ho0, ho1, hb⟩; refine ⟨_, rfl, ?_⟩; have HO375 := Aside0.mk (Kd.R_lower (Kd.R_new' ho0 (Kd.R_lt (by (with_reducible repeat (first | apply Kd.R_alloc | apply Kd.R_drewN | apply Kd.R_drew)); exact HO366.out))) (below_size (bel_))); have HO378 := Aside0.mk (Kd.R_lower (Kd.R_new' ho1 (Kd.R_lt (by (with_reducible repeat (first | apply Kd.R_alloc | apply Kd.R_drewN | apply Kd.R_drew)); exact HO369.out))) (below_size (bel_))); replace HO366 := Aside0.mk (Kd.R_elder' (by (with_reducible repeat (first | apply Kd.R_alloc | apply Kd.R_drewN | apply Kd.R_drew)); exact HO366.out) (Kd.R_base ho0) hb); replace HO369 := Aside0.mk (Kd.R_elder' (by (with_reducible repeat (first | apply Kd.R_alloc | apply Kd.R_drewN | apply Kd.R_drew)); exact HO369.out) (Kd.R_base ho1) hb); replace BK362 := bb_ BK362 hb; replace HB := bs_ hb; (try clear hb); (try clear hb2); (try clear hk); (try clear hi); (try clear ho0); (try clear ho1)) | ((with_reducible refine gate_dst (N := 5) rfl ?_); refine bx_ 5 #[.slice none 0 0, .slice none 0 0, .int .i64 0, .int .i64 0] 31 ?_; intro gb381 hg w22 hbox hb; have BK381 := Aside0.mk (hbox); have GW381 := gw_ hg; have GE381 := gw_ hg; have NB362_381 := nlt_ hg BK362; have NB381_362 := ngt_ hg BK362; replace HO366 := Aside0.mk (Kd.R_below (by (with_reducible repeat (first | apply Kd.R_alloc | apply Kd.R_drewN | apply Kd.R_drew)); exact HO366.out) hb); replace HO369 := Aside0.mk (Kd.R_below (by (with_reducible repeat (first | apply Kd.R_alloc | apply Kd.R_drewN | apply Kd.R_drew)); exact HO369.out) hb); replace HO375 := Aside0.mk (Kd.R_below (by (with_reducible repeat (first | apply Kd.R_alloc | apply Kd.R_drewN | apply Kd.R_drew)); exact HO375.out) hb); replace HO378 := Aside0.mk (Kd.R_below (by (with_reducible repeat (first | apply Kd.R_alloc | apply Kd.R_drewN | apply Kd.R_drew)); exact HO378.out) hb); replace BK362 := bb_ BK362 hb; replace HB := bs_ hb; clear hb hbox hg; obtain ⟨Ao23, co23, eo23⟩ := Kd.R_slice HO375.out; subst eo23; have hnb24 := NB381_362.out; have hnc24 := NB362_381.out; obtain ⟨hcz25_0, hcz25_1, hcz25_2, hcz25_3, hfz25_0, hfz25_1, hfz25_2, hfz25_3⟩ := blk4 BK381; obtain ⟨Ao26, co26, eo26⟩ := Kd.R_slice HO378.out; subst eo26) | ((with_reducible refine gate_callee (f := 18) rfl ?_); refine goesL_ (some 18) rfl rfl Try.func18 (by kernel_rfl) rfl #[.agg #[.slice Ao23 t373.length co23, .slice Ao26 t376.length co26, .int .i64 t379, .int .i64 t380]] rfl ar_ ?_; (with_reducible refine (impl_GraphOk.calls k _ _ t373 _ _ t376 t379 t380 t382 _ ?side1 ?side2 ?side3 ?side4 A10.out).mono ?_); (case side1 => refine (Kd.R_reads' (e := 99) (base := w.heap.size) (ok := fun k_ => (True ∧ some k_ ≠ (.slice Ao17 t364.length co17 : Value).ownBlock)) (n := t373.length) (c := co23) ?_).2.2; exact (by (with_reducible repeat (first | apply Kd.R_alloc | apply Kd.R_drewN | apply Kd.R_drew)); exact (Kd.R_mono (rf4 gb381 (Kd.R_types HO375.out BK381.out (by decide)) (fun _ hk => hk.2)) (fun _ h_ => h_.1)))); (case side2 => exact (Kd.R_reads' HO375.out).2.1); (case side3 => refine (Kd.R_reads' (e := 104) (base := w.heap.size) (ok := fun k_ => (True ∧ some k_ ≠ (.slice Ao18 t367.length co18 : Value).ownBlock)) (n := t376.length) (c := co26) ?_).2.2; exact (by (with_reducible repeat (first | apply Kd.R_alloc | apply Kd.R_drewN | apply Kd.R_drew)); exact (Kd.R_mono (rf4 gb381 (Kd.R_types HO378.out BK381.out (by decide)) (fun _ hk => hk.2)) (fun _ h_ => h_.1)))); (case side4 => exact (Kd.R_reads' HO378.out).2.1); rintro e w27 ⟨rfl, hb⟩; refine ⟨_, rfl, ?_⟩; replace HO366 := Aside0.mk (Kd.R_below (by (with_reducible repeat (first | apply Kd.R_alloc | apply Kd.R_drewN | apply Kd.R_drew)); exact (Kd.R_mono (rf4 gb381 (Kd.R_types HO366.out BK381.out (by decide)) (fun _ hk => hk.2)) (fun _ h_ => h_.1))) hb); replace HO369 := Aside0.mk (Kd.R_below (by (with_reducible repeat (first | apply Kd.R_alloc | apply Kd.R_drewN | apply Kd.R_drew)); exact (Kd.R_mono (rf4 gb381 (Kd.R_types HO369.out BK381.out (by decide)) (fun _ hk => hk.2)) (fun _ h_ => h_.1))) hb); replace HO375 := Aside0.mk (Kd.R_below (by (with_reducible repeat (first | apply Kd.R_alloc | apply Kd.R_drewN | apply Kd.R_drew)); exact (Kd.R_mono (rf4 gb381 (Kd.R_types HO375.out BK381.out (by decide)) (fun _ hk => hk.2)) (fun _ h_ => h_.1))) hb); replace HO378 := Aside0.mk (Kd.R_below (by (with_reducible repeat (first | apply Kd.R_alloc | apply Kd.R_drewN | apply Kd.R_drew)); exact (Kd.R_mono (rf4 gb381 (Kd.R_types HO378.out BK381.out (by decide)) (fun _ hk => hk.2)) (fun _ h_ => h_.1))) hb); replace BK362 := Aside0.mk (blk_below (g := gb362) (o := .cells #[.slice A0_0 l0_0.length c0_0, .slice A0_1 l0_1.length c0_1, .int .i64 a0_2, .int .i64 a0_3] 25 (0, 0)) (by refine pe_ ?_; refine blk_far ?_ NB362_381.out _; refine pe_ ?_; refine blk_far ?_ NB362_381.out _; refine pe_ ?_; refine blk_far ?_ NB362_381.out _; refine pe_ ?_; refine blk_far ?_ NB362_381.out _; refine pe_ ?_; exact BK362.out) hb); replace BK381 := Aside0.mk (blk_below (g := gb381) (o := .cells #[.slice Ao23 t373.length co23, .slice Ao26 t376.length co26, .int .i64 t379, .int .i64 t380] 31 (0, 0)) (by refine pe_ ?_; refine blk_put (cs := #[.slice Ao23 t373.length co23, .slice Ao26 t376.length co26, .int .i64 t379, .int .i64 0]) ?_ 3 _ rfl; refine pe_ ?_; refine blk_put (cs := #[.slice Ao23 t373.length co23, .slice Ao26 t376.length co26, .int .i64 0, .int .i64 0]) ?_ 2 _ rfl; refine pe_ ?_; refine blk_put (cs := #[.slice Ao23 t373.length co23, .slice none 0 0, .int .i64 0, .int .i64 0]) ?_ 1 _ rfl; refine pe_ ?_; refine blk_put (cs := #[.slice none 0 0, .slice none 0 0, .int .i64 0, .int .i64 0]) ?_ 0 _ rfl; refine pe_ ?_; exact BK381.out) hb); replace HB := bs_ hb; (try clear hb); (try clear hb2); (try clear hk); (try clear hi)))
    go_ret
    exact re_
  rw [if_neg c11] at H
  have c11b0 : (t382 != t372) = false := by simpa using c11
  (try (have c11b1 : decide (t382 = t372) = true := by simpa using c11))
  (try (have c11b2 : (t382 == t372) = true := by simpa using c11))
  clear c11
  replace H := Option.bind_eq_some_iff.mp H
  obtain ⟨⟨t383, t386, t389, t390⟩, A280, H⟩ := H
  replace H : ((laws_eqGraph.f k t373 t376 t379 t380 t383 t386 t389 t390).bind fun t391 => (if t391 = true then (some true) else (some false))) = some r := H
  have A28 := Aside0.mk A280
  clear A280
  replace H := Option.bind_eq_some_iff.mp H
  obtain ⟨t391, A290, H⟩ := H
  replace H : (if t391 = true then (some true) else (some false)) = some r := H
  have A29 := Aside0.mk A290
  clear A290
  by_cases c30 : t391 = true
  · subst c30
    have H1 : (some true) = some r := by rw [if_pos rfl] at H; exact H
    clear H
    have H := H1
    clear H1
    obtain rfl := Option.some.inj H
    go_enter Try.func3, Try.ntmps3
    try go_wp2_with (first | ((with_reducible refine gate_dst (N := 1) rfl ?_); refine bx_ 1 #[.slice A0_0 l0_0.length c0_0, .slice A0_1 l0_1.length c0_1, .int .i64 a0_2, .int .i64 a0_3] 25 ?_; intro gb362 hg w31 hbox hb; have BK362 := Aside0.mk (hbox); have GW362 := gw_ hg; have GE362 := gw_ hg; replace HB := bs_ hb; clear hb hbox hg; obtain ⟨hcz32_0, hcz32_1, hcz32_2, hcz32_3, hfz32_0, hfz32_1, hfz32_2, hfz32_3⟩ := blk4 BK362) | ((with_reducible refine gate_callee (f := 15) rfl ?_); refine goesL_ (some 9) rfl rfl Try.func15 (by kernel_rfl) rfl #[.agg #[.slice A0_0 l0_0.length c0_0, .slice A0_1 l0_1.length c0_1, .int .i64 a0_2, .int .i64 a0_3], .int .i64 1048576] rfl ar_ ?_; (with_reducible refine (laws_szGraph.calls k _ _ l0_0 _ _ l0_1 a0_2 a0_3 1048576 t363 _ ?side1 ?side2 ?side3 ?side4 A2.out).mono ?_); (case side1 => exact rdb_ HR0_0); (case side2 => exact HC0_0.out); (case side3 => exact rdb_ HR0_1); (case side4 => exact HC0_1.out); rintro e w33 ⟨rfl, hb⟩; refine ⟨_, rfl, ?_⟩; replace BK362 := bb_ BK362 hb; replace HB := bs_ hb; (try clear hb); (try clear hb2); (try clear hk); (try clear hi); obtain ⟨hcz34_0, hcz34_1, hcz34_2, hcz34_3, hfz34_0, hfz34_1, hfz34_2, hfz34_3⟩ := blk4 BK362) | ((with_reducible refine gate_callee (f := 17) rfl ?_); refine goesL_ (some 13) rfl rfl Try.func17 (by kernel_rfl) rfl #[.agg #[.slice A0_0 l0_0.length c0_0, .slice A0_1 l0_1.length c0_1, .int .i64 a0_2, .int .i64 a0_3]] rfl ar_ ?_; (with_reducible refine (laws_toGraph.calls k _ _ l0_0 _ _ l0_1 a0_2 a0_3 t364 t367 t370 t371 _ ?side1 ?side2 ?side3 ?side4 A7.out).mono ?_); (case side1 => exact rdb_ HR0_0); (case side2 => exact HC0_0.out); (case side3 => exact rdb_ HR0_1); (case side4 => exact HC0_1.out); rintro e w35 ⟨v365, v368, rfl, ho0, ho1, hb⟩; refine ⟨_, rfl, ?_⟩; have HO366 := Aside0.mk (Kd.R_lower ho0 (below_size (bel_))); have HO369 := Aside0.mk (Kd.R_lower ho1 (below_size (bel_))); replace BK362 := bb_ BK362 hb; replace HB := bs_ hb; (try clear hb); (try clear hb2); (try clear hk); (try clear hi); (try clear ho0); (try clear ho1); obtain ⟨Ao36, co36, eo36⟩ := Kd.R_slice HO366.out; subst eo36; obtain ⟨Ao37, co37, eo37⟩ := Kd.R_slice HO369.out; subst eo37) | ((with_reducible refine gate_callee (f := 16) rfl ?_); refine goesL_ (some 14) rfl rfl Try.func16 (by kernel_rfl) rfl #[.agg #[.slice Ao36 t364.length co36, .slice Ao37 t367.length co37, .int .i64 t370, .int .i64 t371]] rfl ar_ ?_; (with_reducible refine (spec_GraphOk.calls k _ _ t364 _ _ t367 t370 t371 t372 _ ?side1 ?side2 ?side3 ?side4 A8.out).mono ?_); (case side1 => repeat (first | exact (Kd.R_reads' HO366.out).2.2 | (with_reducible refine Kd.C_alloc ?_ _) | (with_reducible refine Kd.C_drewN ?_ _) | (with_reducible refine Kd.C_drew ?_))); (case side2 => exact (Kd.R_reads' HO366.out).2.1); (case side3 => repeat (first | exact (Kd.R_reads' HO369.out).2.2 | (with_reducible refine Kd.C_alloc ?_ _) | (with_reducible refine Kd.C_drewN ?_ _) | (with_reducible refine Kd.C_drew ?_))); (case side4 => exact (Kd.R_reads' HO369.out).2.1); rintro e w38 ⟨rfl, hb⟩; refine ⟨_, rfl, ?_⟩; replace HO366 := Aside0.mk (Kd.R_below (by (with_reducible repeat (first | apply Kd.R_alloc | apply Kd.R_drewN | apply Kd.R_drew)); exact HO366.out) hb); replace HO369 := Aside0.mk (Kd.R_below (by (with_reducible repeat (first | apply Kd.R_alloc | apply Kd.R_drewN | apply Kd.R_drew)); exact HO369.out) hb); replace BK362 := bb_ BK362 hb; replace HB := bs_ hb; (try clear hb); (try clear hb2); (try clear hk); (try clear hi); obtain ⟨hcz39_0, hcz39_1, hcz39_2, hcz39_3, hfz39_0, hfz39_1, hfz39_2, hfz39_3⟩ := blk4 BK362) | ((with_reducible refine gate_callee (f := 17) rfl ?_); refine goesL_ (some 16) rfl rfl Try.func17 (by kernel_rfl) rfl #[.agg #[.slice A0_0 l0_0.length c0_0, .slice A0_1 l0_1.length c0_1, .int .i64 a0_2, .int .i64 a0_3]] rfl ar_ ?_; (with_reducible refine (laws_toGraph.calls k _ _ l0_0 _ _ l0_1 a0_2 a0_3 t373 t376 t379 t380 _ ?side1 ?side2 ?side3 ?side4 A9.out).mono ?_); (case side1 => exact rdb_ HR0_0); (case side2 => exact HC0_0.out); (case side3 => exact rdb_ HR0_1); (case side4 => exact HC0_1.out); rintro e w40 ⟨v374, v377, rfl, ho0, ho1, hb⟩; refine ⟨_, rfl, ?_⟩; have HO375 := Aside0.mk (Kd.R_lower (Kd.R_new' ho0 (Kd.R_lt (by (with_reducible repeat (first | apply Kd.R_alloc | apply Kd.R_drewN | apply Kd.R_drew)); exact HO366.out))) (below_size (bel_))); have HO378 := Aside0.mk (Kd.R_lower (Kd.R_new' ho1 (Kd.R_lt (by (with_reducible repeat (first | apply Kd.R_alloc | apply Kd.R_drewN | apply Kd.R_drew)); exact HO369.out))) (below_size (bel_))); replace HO366 := Aside0.mk (Kd.R_elder' (by (with_reducible repeat (first | apply Kd.R_alloc | apply Kd.R_drewN | apply Kd.R_drew)); exact HO366.out) (Kd.R_base ho0) hb); replace HO369 := Aside0.mk (Kd.R_elder' (by (with_reducible repeat (first | apply Kd.R_alloc | apply Kd.R_drewN | apply Kd.R_drew)); exact HO369.out) (Kd.R_base ho1) hb); replace BK362 := bb_ BK362 hb; replace HB := bs_ hb; (try clear hb); (try clear hb2); (try clear hk); (try clear hi); (try clear ho0); (try clear ho1)) | ((with_reducible refine gate_dst (N := 5) rfl ?_); refine bx_ 5 #[.slice none 0 0, .slice none 0 0, .int .i64 0, .int .i64 0] 31 ?_; intro gb381 hg w41 hbox hb; have BK381 := Aside0.mk (hbox); have GW381 := gw_ hg; have GE381 := gw_ hg; have NB362_381 := nlt_ hg BK362; have NB381_362 := ngt_ hg BK362; replace HO366 := Aside0.mk (Kd.R_below (by (with_reducible repeat (first | apply Kd.R_alloc | apply Kd.R_drewN | apply Kd.R_drew)); exact HO366.out) hb); replace HO369 := Aside0.mk (Kd.R_below (by (with_reducible repeat (first | apply Kd.R_alloc | apply Kd.R_drewN | apply Kd.R_drew)); exact HO369.out) hb); replace HO375 := Aside0.mk (Kd.R_below (by (with_reducible repeat (first | apply Kd.R_alloc | apply Kd.R_drewN | apply Kd.R_drew)); exact HO375.out) hb); replace HO378 := Aside0.mk (Kd.R_below (by (with_reducible repeat (first | apply Kd.R_alloc | apply Kd.R_drewN | apply Kd.R_drew)); exact HO378.out) hb); replace BK362 := bb_ BK362 hb; replace HB := bs_ hb; clear hb hbox hg; obtain ⟨Ao42, co42, eo42⟩ := Kd.R_slice HO375.out; subst eo42; have hnb43 := NB381_362.out; have hnc43 := NB362_381.out; obtain ⟨hcz44_0, hcz44_1, hcz44_2, hcz44_3, hfz44_0, hfz44_1, hfz44_2, hfz44_3⟩ := blk4 BK381; obtain ⟨Ao45, co45, eo45⟩ := Kd.R_slice HO378.out; subst eo45) | ((with_reducible refine gate_callee (f := 18) rfl ?_); refine goesL_ (some 18) rfl rfl Try.func18 (by kernel_rfl) rfl #[.agg #[.slice Ao42 t373.length co42, .slice Ao45 t376.length co45, .int .i64 t379, .int .i64 t380]] rfl ar_ ?_; (with_reducible refine (impl_GraphOk.calls k _ _ t373 _ _ t376 t379 t380 t382 _ ?side1 ?side2 ?side3 ?side4 A10.out).mono ?_); (case side1 => refine (Kd.R_reads' (e := 99) (base := w.heap.size) (ok := fun k_ => (True ∧ some k_ ≠ (.slice Ao36 t364.length co36 : Value).ownBlock)) (n := t373.length) (c := co42) ?_).2.2; exact (by (with_reducible repeat (first | apply Kd.R_alloc | apply Kd.R_drewN | apply Kd.R_drew)); exact (Kd.R_mono (rf4 gb381 (Kd.R_types HO375.out BK381.out (by decide)) (fun _ hk => hk.2)) (fun _ h_ => h_.1)))); (case side2 => exact (Kd.R_reads' HO375.out).2.1); (case side3 => refine (Kd.R_reads' (e := 104) (base := w.heap.size) (ok := fun k_ => (True ∧ some k_ ≠ (.slice Ao37 t367.length co37 : Value).ownBlock)) (n := t376.length) (c := co45) ?_).2.2; exact (by (with_reducible repeat (first | apply Kd.R_alloc | apply Kd.R_drewN | apply Kd.R_drew)); exact (Kd.R_mono (rf4 gb381 (Kd.R_types HO378.out BK381.out (by decide)) (fun _ hk => hk.2)) (fun _ h_ => h_.1)))); (case side4 => exact (Kd.R_reads' HO378.out).2.1); rintro e w46 ⟨rfl, hb⟩; refine ⟨_, rfl, ?_⟩; replace HO366 := Aside0.mk (Kd.R_below (by (with_reducible repeat (first | apply Kd.R_alloc | apply Kd.R_drewN | apply Kd.R_drew)); exact (Kd.R_mono (rf4 gb381 (Kd.R_types HO366.out BK381.out (by decide)) (fun _ hk => hk.2)) (fun _ h_ => h_.1))) hb); replace HO369 := Aside0.mk (Kd.R_below (by (with_reducible repeat (first | apply Kd.R_alloc | apply Kd.R_drewN | apply Kd.R_drew)); exact (Kd.R_mono (rf4 gb381 (Kd.R_types HO369.out BK381.out (by decide)) (fun _ hk => hk.2)) (fun _ h_ => h_.1))) hb); replace HO375 := Aside0.mk (Kd.R_below (by (with_reducible repeat (first | apply Kd.R_alloc | apply Kd.R_drewN | apply Kd.R_drew)); exact (Kd.R_mono (rf4 gb381 (Kd.R_types HO375.out BK381.out (by decide)) (fun _ hk => hk.2)) (fun _ h_ => h_.1))) hb); replace HO378 := Aside0.mk (Kd.R_below (by (with_reducible repeat (first | apply Kd.R_alloc | apply Kd.R_drewN | apply Kd.R_drew)); exact (Kd.R_mono (rf4 gb381 (Kd.R_types HO378.out BK381.out (by decide)) (fun _ hk => hk.2)) (fun _ h_ => h_.1))) hb); replace BK362 := Aside0.mk (blk_below (g := gb362) (o := .cells #[.slice A0_0 l0_0.length c0_0, .slice A0_1 l0_1.length c0_1, .int .i64 a0_2, .int .i64 a0_3] 25 (0, 0)) (by refine pe_ ?_; refine blk_far ?_ NB362_381.out _; refine pe_ ?_; refine blk_far ?_ NB362_381.out _; refine pe_ ?_; refine blk_far ?_ NB362_381.out _; refine pe_ ?_; refine blk_far ?_ NB362_381.out _; refine pe_ ?_; exact BK362.out) hb); replace BK381 := Aside0.mk (blk_below (g := gb381) (o := .cells #[.slice Ao42 t373.length co42, .slice Ao45 t376.length co45, .int .i64 t379, .int .i64 t380] 31 (0, 0)) (by refine pe_ ?_; refine blk_put (cs := #[.slice Ao42 t373.length co42, .slice Ao45 t376.length co45, .int .i64 t379, .int .i64 0]) ?_ 3 _ rfl; refine pe_ ?_; refine blk_put (cs := #[.slice Ao42 t373.length co42, .slice Ao45 t376.length co45, .int .i64 0, .int .i64 0]) ?_ 2 _ rfl; refine pe_ ?_; refine blk_put (cs := #[.slice Ao42 t373.length co42, .slice none 0 0, .int .i64 0, .int .i64 0]) ?_ 1 _ rfl; refine pe_ ?_; refine blk_put (cs := #[.slice none 0 0, .slice none 0 0, .int .i64 0, .int .i64 0]) ?_ 0 _ rfl; refine pe_ ?_; exact BK381.out) hb); replace HB := bs_ hb; (try clear hb); (try clear hb2); (try clear hk); (try clear hi)))
    replace HO366 := Aside0.mk (Kd.R_drew HO366.out)
    replace HO369 := Aside0.mk (Kd.R_drew HO369.out)
    replace HO375 := Aside0.mk (Kd.R_drew HO375.out)
    replace HO378 := Aside0.mk (Kd.R_drew HO378.out)
    replace BK362 := Aside0.mk (blk_drew BK362.out)
    replace BK381 := Aside0.mk (blk_drew BK381.out)
    replace HB := Aside0.mk (below_drew1 HB.out)
    refine start_ (n := 5) (S := fun w' => w'.cell? ⟨gb381, 0, none⟩ = some (.slice Ao42 t373.length co42) ∧ w'.cell? ⟨gb381, 1, none⟩ = some (.slice Ao45 t376.length co45) ∧ w'.cell? ⟨gb381, 2, none⟩ = some (.int .i64 t379) ∧ w'.cell? ⟨gb381, 3, none⟩ = some (.int .i64 t380) ∧ w'.cell? ⟨gb362, 0, none⟩ = some (.slice A0_0 l0_0.length c0_0) ∧ w'.cell? ⟨gb362, 1, none⟩ = some (.slice A0_1 l0_1.length c0_1) ∧ w'.cell? ⟨gb362, 2, none⟩ = some (.int .i64 a0_2) ∧ w'.cell? ⟨gb362, 3, none⟩ = some (.int .i64 a0_3)) (ds := []) #[false, false, false, false, false] (by kernel_rfl) rfl rfl ⟨(blkc BK381 0), (blkc BK381 1), (blkc BK381 2), (blkc BK381 3), (blkc BK362 0), (blkc BK362 1), (blkc BK362 2), (blkc BK362 3)⟩ (fun hHeld => ?_)
    generalize w46.drew = w47 at HO366 HO369 HO375 HO378 BK362 BK381 HB hHeld ⊢
    refine take_ (i := 0) (N := some 22) (v := ?_) (a' := ?_) #[true, false, false, false, false] rfl rfl (by kernel_rfl) (fun _ _ _ h => h) (Or.inl ⟨by rfl, ?_⟩) hHeld ?_ ?_
    rotate_left
    · rintro w' ⟨s0, s1, s2, s3, s4, s5, s6, s7⟩
      go_simp
      with_reducible rfl
    rotate_left
    · simp only [Act.put, List.setIfInBounds_toArray, List.set_cons_zero, List.set_cons_succ, i64_w, i32_w]
      rfl
    refine take_ (i := 1) (N := some 23) (v := ?_) (a' := ?_) #[true, true, false, false, false] rfl rfl (by kernel_rfl) (fun _ _ _ h => h) (Or.inl ⟨by rfl, ?_⟩) hHeld ?_ ?_
    rotate_left
    · rintro w' ⟨s0, s1, s2, s3, s4, s5, s6, s7⟩
      go_simp
      with_reducible rfl
    rotate_left
    · simp only [Act.put, List.setIfInBounds_toArray, List.set_cons_zero, List.set_cons_succ, i64_w, i32_w]
      rfl
    refine one_ (i := 2) (N := some 24) #[true, true, true, false, false] rfl rfl (by kernel_rfl) (by decide) (fun K hK => ?_)
    refine goes_ Try.func17 (by kernel_rfl) rfl #[.agg #[.slice A0_0 l0_0.length c0_0, .slice A0_1 l0_1.length c0_1, .int .i64 a0_2, .int .i64 a0_3]] (by rfl) rfl rfl ar_ ?_
    with_reducible refine (laws_toGraph.calls k _ _ l0_0 _ _ l0_1 a0_2 a0_3 t383 t386 t389 t390 _ ?side1 ?side2 ?side3 ?side4 A28.out).mono ?_
    (case side1 => exact rdb_ HR0_0)
    (case side2 => exact HC0_0.out)
    (case side3 => exact rdb_ HR0_1)
    (case side4 => exact HC0_1.out)
    rintro e w48 ⟨v384, v387, rfl, ho0, ho1, hb⟩
    refine ⟨_, rfl, ?_⟩
    have HO385 := Aside0.mk (Kd.R_lower (Kd.R_new' (Kd.R_new' ho0 (Kd.R_lt (by (with_reducible repeat (first | apply Kd.R_alloc | apply Kd.R_drewN | apply Kd.R_drew)); exact HO366.out))) (Kd.R_lt (by (with_reducible repeat (first | apply Kd.R_alloc | apply Kd.R_drewN | apply Kd.R_drew)); exact HO375.out))) (below_size (bel_)))
    have HO388 := Aside0.mk (Kd.R_lower (Kd.R_new' (Kd.R_new' ho1 (Kd.R_lt (by (with_reducible repeat (first | apply Kd.R_alloc | apply Kd.R_drewN | apply Kd.R_drew)); exact HO369.out))) (Kd.R_lt (by (with_reducible repeat (first | apply Kd.R_alloc | apply Kd.R_drewN | apply Kd.R_drew)); exact HO378.out))) (below_size (bel_)))
    replace HO366 := Aside0.mk (Kd.R_elder' (by (with_reducible repeat (first | apply Kd.R_alloc | apply Kd.R_drewN | apply Kd.R_drew)); exact HO366.out) (Kd.R_base ho0) hb)
    replace HO369 := Aside0.mk (Kd.R_elder' (by (with_reducible repeat (first | apply Kd.R_alloc | apply Kd.R_drewN | apply Kd.R_drew)); exact HO369.out) (Kd.R_base ho1) hb)
    replace HO375 := Aside0.mk (Kd.R_elder' (by (with_reducible repeat (first | apply Kd.R_alloc | apply Kd.R_drewN | apply Kd.R_drew)); exact HO375.out) (Kd.R_base ho0) hb)
    replace HO378 := Aside0.mk (Kd.R_elder' (by (with_reducible repeat (first | apply Kd.R_alloc | apply Kd.R_drewN | apply Kd.R_drew)); exact HO378.out) (Kd.R_base ho1) hb)
    replace BK362 := bb_ BK362 hb
    replace BK381 := bb_ BK381 hb
    replace HB := bs_ hb
    (try clear hb)
    (try clear hb2)
    (try clear hk)
    (try clear hi)
    (try clear ho0)
    (try clear ho1)
    obtain ⟨Ao49, co49, eo49⟩ := Kd.R_slice HO385.out
    (first | subst eo49 | (injection eo49 with f1_ f2_ f3_; have f4_ := f1_.symm; have f5_ := f3_.symm; clear f1_ f2_ f3_; subst f4_; subst f5_))
    obtain ⟨Ao50, co50, eo50⟩ := Kd.R_slice HO388.out
    (first | subst eo50 | (injection eo50 with f1_ f2_ f3_; have f4_ := f1_.symm; have f5_ := f3_.symm; clear f1_ f2_ f3_; subst f4_; subst f5_))
    refine hK.out _ _ ⟨(blkc BK381 0), (blkc BK381 1), (blkc BK381 2), (blkc BK381 3), (blkc BK362 0), (blkc BK362 1), (blkc BK362 2), (blkc BK362 3)⟩ (fun hHeld => ?_)
    clear hK K
    refine norm_ (a' := ?_) ?_ ?_
    rotate_left
    · show Act.put _ (some 24) _ = _
      simp only [Act.put, List.setIfInBounds_toArray, List.set_cons_zero, List.set_cons_succ, i64_w, i32_w]
      rfl
    refine one_ (i := 3) (N := some 25) #[true, true, true, true, false] rfl rfl (by kernel_rfl) (by decide) (fun K hK => ?_)
    refine goes_ Try.func19 (by kernel_rfl) rfl #[.agg #[.slice Ao42 t373.length co42, .slice Ao45 t376.length co45, .int .i64 t379, .int .i64 t380], .agg #[.slice Ao49 t383.length co49, .slice Ao50 t386.length co50, .int .i64 t389, .int .i64 t390]] (by rfl) rfl rfl ar_ ?_
    with_reducible refine (laws_eqGraph.calls k _ _ t373 _ _ t376 t379 t380 _ _ t383 _ _ t386 t389 t390 true _ ?side1 ?side2 ?side3 ?side4 ?side5 ?side6 ?side7 ?side8 A29.out).mono ?_
    (case side1 => repeat (first | exact (Kd.R_reads' HO375.out).2.2 | (with_reducible refine Kd.C_alloc ?_ _) | (with_reducible refine Kd.C_drewN ?_ _) | (with_reducible refine Kd.C_drew ?_)))
    (case side2 => exact (Kd.R_reads' HO375.out).2.1)
    (case side3 => repeat (first | exact (Kd.R_reads' HO378.out).2.2 | (with_reducible refine Kd.C_alloc ?_ _) | (with_reducible refine Kd.C_drewN ?_ _) | (with_reducible refine Kd.C_drew ?_)))
    (case side4 => exact (Kd.R_reads' HO378.out).2.1)
    (case side5 => repeat (first | exact (Kd.R_reads' HO385.out).2.2 | (with_reducible refine Kd.C_alloc ?_ _) | (with_reducible refine Kd.C_drewN ?_ _) | (with_reducible refine Kd.C_drew ?_)))
    (case side6 => exact (Kd.R_reads' HO385.out).2.1)
    (case side7 => repeat (first | exact (Kd.R_reads' HO388.out).2.2 | (with_reducible refine Kd.C_alloc ?_ _) | (with_reducible refine Kd.C_drewN ?_ _) | (with_reducible refine Kd.C_drew ?_)))
    (case side8 => exact (Kd.R_reads' HO388.out).2.1)
    rintro e w51 ⟨rfl, hb⟩
    refine ⟨_, rfl, ?_⟩
    replace HO366 := Aside0.mk (Kd.R_below (by (with_reducible repeat (first | apply Kd.R_alloc | apply Kd.R_drewN | apply Kd.R_drew)); exact HO366.out) hb)
    replace HO369 := Aside0.mk (Kd.R_below (by (with_reducible repeat (first | apply Kd.R_alloc | apply Kd.R_drewN | apply Kd.R_drew)); exact HO369.out) hb)
    replace HO375 := Aside0.mk (Kd.R_below (by (with_reducible repeat (first | apply Kd.R_alloc | apply Kd.R_drewN | apply Kd.R_drew)); exact HO375.out) hb)
    replace HO378 := Aside0.mk (Kd.R_below (by (with_reducible repeat (first | apply Kd.R_alloc | apply Kd.R_drewN | apply Kd.R_drew)); exact HO378.out) hb)
    replace HO385 := Aside0.mk (Kd.R_below (by (with_reducible repeat (first | apply Kd.R_alloc | apply Kd.R_drewN | apply Kd.R_drew)); exact HO385.out) hb)
    replace HO388 := Aside0.mk (Kd.R_below (by (with_reducible repeat (first | apply Kd.R_alloc | apply Kd.R_drewN | apply Kd.R_drew)); exact HO388.out) hb)
    replace BK362 := bb_ BK362 hb
    replace BK381 := bb_ BK381 hb
    replace HB := bs_ hb
    (try clear hb)
    (try clear hb2)
    (try clear hk)
    (try clear hi)
    refine hK.out _ _ ⟨(blkc BK381 0), (blkc BK381 1), (blkc BK381 2), (blkc BK381 3), (blkc BK362 0), (blkc BK362 1), (blkc BK362 2), (blkc BK362 3)⟩ (fun hHeld => ?_)
    clear hK K
    refine norm_ (a' := ?_) ?_ ?_
    rotate_left
    · show Act.put _ (some 25) _ = _
      simp only [Act.put, List.setIfInBounds_toArray, List.set_cons_zero, List.set_cons_succ, i64_w, i32_w]
      rfl
    refine pure_ (i := 4) (N := some 26) (v := ?_) (a' := ?_) #[true, true, true, true, true] rfl rfl (by kernel_rfl) (fun _ _ _ h => h) (Or.inl ⟨by rfl, ?_⟩) ?_ ?_
    rotate_left
    · intro w'
      go_simp
      with_reducible rfl
    rotate_left
    · simp only [Act.put, List.setIfInBounds_toArray, List.set_cons_zero, List.set_cons_succ, i64_w, i32_w]
      rfl
    refine done_ (by kernel_rfl) ?_
    try go_wp2
    go_ret
    exact re_
  replace c30 := Bool.eq_false_iff.mpr c30
  subst c30
  have H1 : (some false) = some r := by rw [if_neg (show ¬ (false = true) by decide)] at H; exact H
  clear H
  have H := H1
  clear H1
  obtain rfl := Option.some.inj H
  go_enter Try.func3, Try.ntmps3
  try go_wp2_with (first | ((with_reducible refine gate_dst (N := 1) rfl ?_); refine bx_ 1 #[.slice A0_0 l0_0.length c0_0, .slice A0_1 l0_1.length c0_1, .int .i64 a0_2, .int .i64 a0_3] 25 ?_; intro gb362 hg w52 hbox hb; have BK362 := Aside0.mk (hbox); have GW362 := gw_ hg; have GE362 := gw_ hg; replace HB := bs_ hb; clear hb hbox hg; obtain ⟨hcz53_0, hcz53_1, hcz53_2, hcz53_3, hfz53_0, hfz53_1, hfz53_2, hfz53_3⟩ := blk4 BK362) | ((with_reducible refine gate_callee (f := 15) rfl ?_); refine goesL_ (some 9) rfl rfl Try.func15 (by kernel_rfl) rfl #[.agg #[.slice A0_0 l0_0.length c0_0, .slice A0_1 l0_1.length c0_1, .int .i64 a0_2, .int .i64 a0_3], .int .i64 1048576] rfl ar_ ?_; (with_reducible refine (laws_szGraph.calls k _ _ l0_0 _ _ l0_1 a0_2 a0_3 1048576 t363 _ ?side1 ?side2 ?side3 ?side4 A2.out).mono ?_); (case side1 => exact rdb_ HR0_0); (case side2 => exact HC0_0.out); (case side3 => exact rdb_ HR0_1); (case side4 => exact HC0_1.out); rintro e w54 ⟨rfl, hb⟩; refine ⟨_, rfl, ?_⟩; replace BK362 := bb_ BK362 hb; replace HB := bs_ hb; (try clear hb); (try clear hb2); (try clear hk); (try clear hi); obtain ⟨hcz55_0, hcz55_1, hcz55_2, hcz55_3, hfz55_0, hfz55_1, hfz55_2, hfz55_3⟩ := blk4 BK362) | ((with_reducible refine gate_callee (f := 17) rfl ?_); refine goesL_ (some 13) rfl rfl Try.func17 (by kernel_rfl) rfl #[.agg #[.slice A0_0 l0_0.length c0_0, .slice A0_1 l0_1.length c0_1, .int .i64 a0_2, .int .i64 a0_3]] rfl ar_ ?_; (with_reducible refine (laws_toGraph.calls k _ _ l0_0 _ _ l0_1 a0_2 a0_3 t364 t367 t370 t371 _ ?side1 ?side2 ?side3 ?side4 A7.out).mono ?_); (case side1 => exact rdb_ HR0_0); (case side2 => exact HC0_0.out); (case side3 => exact rdb_ HR0_1); (case side4 => exact HC0_1.out); rintro e w56 ⟨v365, v368, rfl, ho0, ho1, hb⟩; refine ⟨_, rfl, ?_⟩; have HO366 := Aside0.mk (Kd.R_lower ho0 (below_size (bel_))); have HO369 := Aside0.mk (Kd.R_lower ho1 (below_size (bel_))); replace BK362 := bb_ BK362 hb; replace HB := bs_ hb; (try clear hb); (try clear hb2); (try clear hk); (try clear hi); (try clear ho0); (try clear ho1); obtain ⟨Ao57, co57, eo57⟩ := Kd.R_slice HO366.out; subst eo57; obtain ⟨Ao58, co58, eo58⟩ := Kd.R_slice HO369.out; subst eo58) | ((with_reducible refine gate_callee (f := 16) rfl ?_); refine goesL_ (some 14) rfl rfl Try.func16 (by kernel_rfl) rfl #[.agg #[.slice Ao57 t364.length co57, .slice Ao58 t367.length co58, .int .i64 t370, .int .i64 t371]] rfl ar_ ?_; (with_reducible refine (spec_GraphOk.calls k _ _ t364 _ _ t367 t370 t371 t372 _ ?side1 ?side2 ?side3 ?side4 A8.out).mono ?_); (case side1 => repeat (first | exact (Kd.R_reads' HO366.out).2.2 | (with_reducible refine Kd.C_alloc ?_ _) | (with_reducible refine Kd.C_drewN ?_ _) | (with_reducible refine Kd.C_drew ?_))); (case side2 => exact (Kd.R_reads' HO366.out).2.1); (case side3 => repeat (first | exact (Kd.R_reads' HO369.out).2.2 | (with_reducible refine Kd.C_alloc ?_ _) | (with_reducible refine Kd.C_drewN ?_ _) | (with_reducible refine Kd.C_drew ?_))); (case side4 => exact (Kd.R_reads' HO369.out).2.1); rintro e w59 ⟨rfl, hb⟩; refine ⟨_, rfl, ?_⟩; replace HO366 := Aside0.mk (Kd.R_below (by (with_reducible repeat (first | apply Kd.R_alloc | apply Kd.R_drewN | apply Kd.R_drew)); exact HO366.out) hb); replace HO369 := Aside0.mk (Kd.R_below (by (with_reducible repeat (first | apply Kd.R_alloc | apply Kd.R_drewN | apply Kd.R_drew)); exact HO369.out) hb); replace BK362 := bb_ BK362 hb; replace HB := bs_ hb; (try clear hb); (try clear hb2); (try clear hk); (try clear hi); obtain ⟨hcz60_0, hcz60_1, hcz60_2, hcz60_3, hfz60_0, hfz60_1, hfz60_2, hfz60_3⟩ := blk4 BK362) | ((with_reducible refine gate_callee (f := 17) rfl ?_); refine goesL_ (some 16) rfl rfl Try.func17 (by kernel_rfl) rfl #[.agg #[.slice A0_0 l0_0.length c0_0, .slice A0_1 l0_1.length c0_1, .int .i64 a0_2, .int .i64 a0_3]] rfl ar_ ?_; (with_reducible refine (laws_toGraph.calls k _ _ l0_0 _ _ l0_1 a0_2 a0_3 t373 t376 t379 t380 _ ?side1 ?side2 ?side3 ?side4 A9.out).mono ?_); (case side1 => exact rdb_ HR0_0); (case side2 => exact HC0_0.out); (case side3 => exact rdb_ HR0_1); (case side4 => exact HC0_1.out); rintro e w61 ⟨v374, v377, rfl, ho0, ho1, hb⟩; refine ⟨_, rfl, ?_⟩; have HO375 := Aside0.mk (Kd.R_lower (Kd.R_new' ho0 (Kd.R_lt (by (with_reducible repeat (first | apply Kd.R_alloc | apply Kd.R_drewN | apply Kd.R_drew)); exact HO366.out))) (below_size (bel_))); have HO378 := Aside0.mk (Kd.R_lower (Kd.R_new' ho1 (Kd.R_lt (by (with_reducible repeat (first | apply Kd.R_alloc | apply Kd.R_drewN | apply Kd.R_drew)); exact HO369.out))) (below_size (bel_))); replace HO366 := Aside0.mk (Kd.R_elder' (by (with_reducible repeat (first | apply Kd.R_alloc | apply Kd.R_drewN | apply Kd.R_drew)); exact HO366.out) (Kd.R_base ho0) hb); replace HO369 := Aside0.mk (Kd.R_elder' (by (with_reducible repeat (first | apply Kd.R_alloc | apply Kd.R_drewN | apply Kd.R_drew)); exact HO369.out) (Kd.R_base ho1) hb); replace BK362 := bb_ BK362 hb; replace HB := bs_ hb; (try clear hb); (try clear hb2); (try clear hk); (try clear hi); (try clear ho0); (try clear ho1)) | ((with_reducible refine gate_dst (N := 5) rfl ?_); refine bx_ 5 #[.slice none 0 0, .slice none 0 0, .int .i64 0, .int .i64 0] 31 ?_; intro gb381 hg w62 hbox hb; have BK381 := Aside0.mk (hbox); have GW381 := gw_ hg; have GE381 := gw_ hg; have NB362_381 := nlt_ hg BK362; have NB381_362 := ngt_ hg BK362; replace HO366 := Aside0.mk (Kd.R_below (by (with_reducible repeat (first | apply Kd.R_alloc | apply Kd.R_drewN | apply Kd.R_drew)); exact HO366.out) hb); replace HO369 := Aside0.mk (Kd.R_below (by (with_reducible repeat (first | apply Kd.R_alloc | apply Kd.R_drewN | apply Kd.R_drew)); exact HO369.out) hb); replace HO375 := Aside0.mk (Kd.R_below (by (with_reducible repeat (first | apply Kd.R_alloc | apply Kd.R_drewN | apply Kd.R_drew)); exact HO375.out) hb); replace HO378 := Aside0.mk (Kd.R_below (by (with_reducible repeat (first | apply Kd.R_alloc | apply Kd.R_drewN | apply Kd.R_drew)); exact HO378.out) hb); replace BK362 := bb_ BK362 hb; replace HB := bs_ hb; clear hb hbox hg; obtain ⟨Ao63, co63, eo63⟩ := Kd.R_slice HO375.out; subst eo63; have hnb64 := NB381_362.out; have hnc64 := NB362_381.out; obtain ⟨hcz65_0, hcz65_1, hcz65_2, hcz65_3, hfz65_0, hfz65_1, hfz65_2, hfz65_3⟩ := blk4 BK381; obtain ⟨Ao66, co66, eo66⟩ := Kd.R_slice HO378.out; subst eo66) | ((with_reducible refine gate_callee (f := 18) rfl ?_); refine goesL_ (some 18) rfl rfl Try.func18 (by kernel_rfl) rfl #[.agg #[.slice Ao63 t373.length co63, .slice Ao66 t376.length co66, .int .i64 t379, .int .i64 t380]] rfl ar_ ?_; (with_reducible refine (impl_GraphOk.calls k _ _ t373 _ _ t376 t379 t380 t382 _ ?side1 ?side2 ?side3 ?side4 A10.out).mono ?_); (case side1 => refine (Kd.R_reads' (e := 99) (base := w.heap.size) (ok := fun k_ => (True ∧ some k_ ≠ (.slice Ao57 t364.length co57 : Value).ownBlock)) (n := t373.length) (c := co63) ?_).2.2; exact (by (with_reducible repeat (first | apply Kd.R_alloc | apply Kd.R_drewN | apply Kd.R_drew)); exact (Kd.R_mono (rf4 gb381 (Kd.R_types HO375.out BK381.out (by decide)) (fun _ hk => hk.2)) (fun _ h_ => h_.1)))); (case side2 => exact (Kd.R_reads' HO375.out).2.1); (case side3 => refine (Kd.R_reads' (e := 104) (base := w.heap.size) (ok := fun k_ => (True ∧ some k_ ≠ (.slice Ao58 t367.length co58 : Value).ownBlock)) (n := t376.length) (c := co66) ?_).2.2; exact (by (with_reducible repeat (first | apply Kd.R_alloc | apply Kd.R_drewN | apply Kd.R_drew)); exact (Kd.R_mono (rf4 gb381 (Kd.R_types HO378.out BK381.out (by decide)) (fun _ hk => hk.2)) (fun _ h_ => h_.1)))); (case side4 => exact (Kd.R_reads' HO378.out).2.1); rintro e w67 ⟨rfl, hb⟩; refine ⟨_, rfl, ?_⟩; replace HO366 := Aside0.mk (Kd.R_below (by (with_reducible repeat (first | apply Kd.R_alloc | apply Kd.R_drewN | apply Kd.R_drew)); exact (Kd.R_mono (rf4 gb381 (Kd.R_types HO366.out BK381.out (by decide)) (fun _ hk => hk.2)) (fun _ h_ => h_.1))) hb); replace HO369 := Aside0.mk (Kd.R_below (by (with_reducible repeat (first | apply Kd.R_alloc | apply Kd.R_drewN | apply Kd.R_drew)); exact (Kd.R_mono (rf4 gb381 (Kd.R_types HO369.out BK381.out (by decide)) (fun _ hk => hk.2)) (fun _ h_ => h_.1))) hb); replace HO375 := Aside0.mk (Kd.R_below (by (with_reducible repeat (first | apply Kd.R_alloc | apply Kd.R_drewN | apply Kd.R_drew)); exact (Kd.R_mono (rf4 gb381 (Kd.R_types HO375.out BK381.out (by decide)) (fun _ hk => hk.2)) (fun _ h_ => h_.1))) hb); replace HO378 := Aside0.mk (Kd.R_below (by (with_reducible repeat (first | apply Kd.R_alloc | apply Kd.R_drewN | apply Kd.R_drew)); exact (Kd.R_mono (rf4 gb381 (Kd.R_types HO378.out BK381.out (by decide)) (fun _ hk => hk.2)) (fun _ h_ => h_.1))) hb); replace BK362 := Aside0.mk (blk_below (g := gb362) (o := .cells #[.slice A0_0 l0_0.length c0_0, .slice A0_1 l0_1.length c0_1, .int .i64 a0_2, .int .i64 a0_3] 25 (0, 0)) (by refine pe_ ?_; refine blk_far ?_ NB362_381.out _; refine pe_ ?_; refine blk_far ?_ NB362_381.out _; refine pe_ ?_; refine blk_far ?_ NB362_381.out _; refine pe_ ?_; refine blk_far ?_ NB362_381.out _; refine pe_ ?_; exact BK362.out) hb); replace BK381 := Aside0.mk (blk_below (g := gb381) (o := .cells #[.slice Ao63 t373.length co63, .slice Ao66 t376.length co66, .int .i64 t379, .int .i64 t380] 31 (0, 0)) (by refine pe_ ?_; refine blk_put (cs := #[.slice Ao63 t373.length co63, .slice Ao66 t376.length co66, .int .i64 t379, .int .i64 0]) ?_ 3 _ rfl; refine pe_ ?_; refine blk_put (cs := #[.slice Ao63 t373.length co63, .slice Ao66 t376.length co66, .int .i64 0, .int .i64 0]) ?_ 2 _ rfl; refine pe_ ?_; refine blk_put (cs := #[.slice Ao63 t373.length co63, .slice none 0 0, .int .i64 0, .int .i64 0]) ?_ 1 _ rfl; refine pe_ ?_; refine blk_put (cs := #[.slice none 0 0, .slice none 0 0, .int .i64 0, .int .i64 0]) ?_ 0 _ rfl; refine pe_ ?_; exact BK381.out) hb); replace HB := bs_ hb; (try clear hb); (try clear hb2); (try clear hk); (try clear hi)))
  replace HO366 := Aside0.mk (Kd.R_drew HO366.out)
  replace HO369 := Aside0.mk (Kd.R_drew HO369.out)
  replace HO375 := Aside0.mk (Kd.R_drew HO375.out)
  replace HO378 := Aside0.mk (Kd.R_drew HO378.out)
  replace BK362 := Aside0.mk (blk_drew BK362.out)
  replace BK381 := Aside0.mk (blk_drew BK381.out)
  replace HB := Aside0.mk (below_drew1 HB.out)
  refine start_ (n := 5) (S := fun w' => w'.cell? ⟨gb381, 0, none⟩ = some (.slice Ao63 t373.length co63) ∧ w'.cell? ⟨gb381, 1, none⟩ = some (.slice Ao66 t376.length co66) ∧ w'.cell? ⟨gb381, 2, none⟩ = some (.int .i64 t379) ∧ w'.cell? ⟨gb381, 3, none⟩ = some (.int .i64 t380) ∧ w'.cell? ⟨gb362, 0, none⟩ = some (.slice A0_0 l0_0.length c0_0) ∧ w'.cell? ⟨gb362, 1, none⟩ = some (.slice A0_1 l0_1.length c0_1) ∧ w'.cell? ⟨gb362, 2, none⟩ = some (.int .i64 a0_2) ∧ w'.cell? ⟨gb362, 3, none⟩ = some (.int .i64 a0_3)) (ds := []) #[false, false, false, false, false] (by kernel_rfl) rfl rfl ⟨(blkc BK381 0), (blkc BK381 1), (blkc BK381 2), (blkc BK381 3), (blkc BK362 0), (blkc BK362 1), (blkc BK362 2), (blkc BK362 3)⟩ (fun hHeld => ?_)
  generalize w67.drew = w68 at HO366 HO369 HO375 HO378 BK362 BK381 HB hHeld ⊢
  refine take_ (i := 0) (N := some 22) (v := ?_) (a' := ?_) #[true, false, false, false, false] rfl rfl (by kernel_rfl) (fun _ _ _ h => h) (Or.inl ⟨by rfl, ?_⟩) hHeld ?_ ?_
  rotate_left
  · rintro w' ⟨s0, s1, s2, s3, s4, s5, s6, s7⟩
    go_simp
    with_reducible rfl
  rotate_left
  · simp only [Act.put, List.setIfInBounds_toArray, List.set_cons_zero, List.set_cons_succ, i64_w, i32_w]
    rfl
  refine take_ (i := 1) (N := some 23) (v := ?_) (a' := ?_) #[true, true, false, false, false] rfl rfl (by kernel_rfl) (fun _ _ _ h => h) (Or.inl ⟨by rfl, ?_⟩) hHeld ?_ ?_
  rotate_left
  · rintro w' ⟨s0, s1, s2, s3, s4, s5, s6, s7⟩
    go_simp
    with_reducible rfl
  rotate_left
  · simp only [Act.put, List.setIfInBounds_toArray, List.set_cons_zero, List.set_cons_succ, i64_w, i32_w]
    rfl
  refine one_ (i := 2) (N := some 24) #[true, true, true, false, false] rfl rfl (by kernel_rfl) (by decide) (fun K hK => ?_)
  refine goes_ Try.func17 (by kernel_rfl) rfl #[.agg #[.slice A0_0 l0_0.length c0_0, .slice A0_1 l0_1.length c0_1, .int .i64 a0_2, .int .i64 a0_3]] (by rfl) rfl rfl ar_ ?_
  with_reducible refine (laws_toGraph.calls k _ _ l0_0 _ _ l0_1 a0_2 a0_3 t383 t386 t389 t390 _ ?side1 ?side2 ?side3 ?side4 A28.out).mono ?_
  (case side1 => exact rdb_ HR0_0)
  (case side2 => exact HC0_0.out)
  (case side3 => exact rdb_ HR0_1)
  (case side4 => exact HC0_1.out)
  rintro e w69 ⟨v384, v387, rfl, ho0, ho1, hb⟩
  refine ⟨_, rfl, ?_⟩
  have HO385 := Aside0.mk (Kd.R_lower (Kd.R_new' (Kd.R_new' ho0 (Kd.R_lt (by (with_reducible repeat (first | apply Kd.R_alloc | apply Kd.R_drewN | apply Kd.R_drew)); exact HO366.out))) (Kd.R_lt (by (with_reducible repeat (first | apply Kd.R_alloc | apply Kd.R_drewN | apply Kd.R_drew)); exact HO375.out))) (below_size (bel_)))
  have HO388 := Aside0.mk (Kd.R_lower (Kd.R_new' (Kd.R_new' ho1 (Kd.R_lt (by (with_reducible repeat (first | apply Kd.R_alloc | apply Kd.R_drewN | apply Kd.R_drew)); exact HO369.out))) (Kd.R_lt (by (with_reducible repeat (first | apply Kd.R_alloc | apply Kd.R_drewN | apply Kd.R_drew)); exact HO378.out))) (below_size (bel_)))
  replace HO366 := Aside0.mk (Kd.R_elder' (by (with_reducible repeat (first | apply Kd.R_alloc | apply Kd.R_drewN | apply Kd.R_drew)); exact HO366.out) (Kd.R_base ho0) hb)
  replace HO369 := Aside0.mk (Kd.R_elder' (by (with_reducible repeat (first | apply Kd.R_alloc | apply Kd.R_drewN | apply Kd.R_drew)); exact HO369.out) (Kd.R_base ho1) hb)
  replace HO375 := Aside0.mk (Kd.R_elder' (by (with_reducible repeat (first | apply Kd.R_alloc | apply Kd.R_drewN | apply Kd.R_drew)); exact HO375.out) (Kd.R_base ho0) hb)
  replace HO378 := Aside0.mk (Kd.R_elder' (by (with_reducible repeat (first | apply Kd.R_alloc | apply Kd.R_drewN | apply Kd.R_drew)); exact HO378.out) (Kd.R_base ho1) hb)
  replace BK362 := bb_ BK362 hb
  replace BK381 := bb_ BK381 hb
  replace HB := bs_ hb
  (try clear hb)
  (try clear hb2)
  (try clear hk)
  (try clear hi)
  (try clear ho0)
  (try clear ho1)
  obtain ⟨Ao70, co70, eo70⟩ := Kd.R_slice HO385.out
  (first | subst eo70 | (injection eo70 with f1_ f2_ f3_; have f4_ := f1_.symm; have f5_ := f3_.symm; clear f1_ f2_ f3_; subst f4_; subst f5_))
  obtain ⟨Ao71, co71, eo71⟩ := Kd.R_slice HO388.out
  (first | subst eo71 | (injection eo71 with f1_ f2_ f3_; have f4_ := f1_.symm; have f5_ := f3_.symm; clear f1_ f2_ f3_; subst f4_; subst f5_))
  refine hK.out _ _ ⟨(blkc BK381 0), (blkc BK381 1), (blkc BK381 2), (blkc BK381 3), (blkc BK362 0), (blkc BK362 1), (blkc BK362 2), (blkc BK362 3)⟩ (fun hHeld => ?_)
  clear hK K
  refine norm_ (a' := ?_) ?_ ?_
  rotate_left
  · show Act.put _ (some 24) _ = _
    simp only [Act.put, List.setIfInBounds_toArray, List.set_cons_zero, List.set_cons_succ, i64_w, i32_w]
    rfl
  refine one_ (i := 3) (N := some 25) #[true, true, true, true, false] rfl rfl (by kernel_rfl) (by decide) (fun K hK => ?_)
  refine goes_ Try.func19 (by kernel_rfl) rfl #[.agg #[.slice Ao63 t373.length co63, .slice Ao66 t376.length co66, .int .i64 t379, .int .i64 t380], .agg #[.slice Ao70 t383.length co70, .slice Ao71 t386.length co71, .int .i64 t389, .int .i64 t390]] (by rfl) rfl rfl ar_ ?_
  with_reducible refine (laws_eqGraph.calls k _ _ t373 _ _ t376 t379 t380 _ _ t383 _ _ t386 t389 t390 false _ ?side1 ?side2 ?side3 ?side4 ?side5 ?side6 ?side7 ?side8 A29.out).mono ?_
  (case side1 => repeat (first | exact (Kd.R_reads' HO375.out).2.2 | (with_reducible refine Kd.C_alloc ?_ _) | (with_reducible refine Kd.C_drewN ?_ _) | (with_reducible refine Kd.C_drew ?_)))
  (case side2 => exact (Kd.R_reads' HO375.out).2.1)
  (case side3 => repeat (first | exact (Kd.R_reads' HO378.out).2.2 | (with_reducible refine Kd.C_alloc ?_ _) | (with_reducible refine Kd.C_drewN ?_ _) | (with_reducible refine Kd.C_drew ?_)))
  (case side4 => exact (Kd.R_reads' HO378.out).2.1)
  (case side5 => repeat (first | exact (Kd.R_reads' HO385.out).2.2 | (with_reducible refine Kd.C_alloc ?_ _) | (with_reducible refine Kd.C_drewN ?_ _) | (with_reducible refine Kd.C_drew ?_)))
  (case side6 => exact (Kd.R_reads' HO385.out).2.1)
  (case side7 => repeat (first | exact (Kd.R_reads' HO388.out).2.2 | (with_reducible refine Kd.C_alloc ?_ _) | (with_reducible refine Kd.C_drewN ?_ _) | (with_reducible refine Kd.C_drew ?_)))
  (case side8 => exact (Kd.R_reads' HO388.out).2.1)
  rintro e w72 ⟨rfl, hb⟩
  refine ⟨_, rfl, ?_⟩
  replace HO366 := Aside0.mk (Kd.R_below (by (with_reducible repeat (first | apply Kd.R_alloc | apply Kd.R_drewN | apply Kd.R_drew)); exact HO366.out) hb)
  replace HO369 := Aside0.mk (Kd.R_below (by (with_reducible repeat (first | apply Kd.R_alloc | apply Kd.R_drewN | apply Kd.R_drew)); exact HO369.out) hb)
  replace HO375 := Aside0.mk (Kd.R_below (by (with_reducible repeat (first | apply Kd.R_alloc | apply Kd.R_drewN | apply Kd.R_drew)); exact HO375.out) hb)
  replace HO378 := Aside0.mk (Kd.R_below (by (with_reducible repeat (first | apply Kd.R_alloc | apply Kd.R_drewN | apply Kd.R_drew)); exact HO378.out) hb)
  replace HO385 := Aside0.mk (Kd.R_below (by (with_reducible repeat (first | apply Kd.R_alloc | apply Kd.R_drewN | apply Kd.R_drew)); exact HO385.out) hb)
  replace HO388 := Aside0.mk (Kd.R_below (by (with_reducible repeat (first | apply Kd.R_alloc | apply Kd.R_drewN | apply Kd.R_drew)); exact HO388.out) hb)
  replace BK362 := bb_ BK362 hb
  replace BK381 := bb_ BK381 hb
  replace HB := bs_ hb
  (try clear hb)
  (try clear hb2)
  (try clear hk)
  (try clear hi)
  refine hK.out _ _ ⟨(blkc BK381 0), (blkc BK381 1), (blkc BK381 2), (blkc BK381 3), (blkc BK362 0), (blkc BK362 1), (blkc BK362 2), (blkc BK362 3)⟩ (fun hHeld => ?_)
  clear hK K
  refine norm_ (a' := ?_) ?_ ?_
  rotate_left
  · show Act.put _ (some 25) _ = _
    simp only [Act.put, List.setIfInBounds_toArray, List.set_cons_zero, List.set_cons_succ, i64_w, i32_w]
    rfl
  refine pure_ (i := 4) (N := some 26) (v := ?_) (a' := ?_) #[true, true, true, true, true] rfl rfl (by kernel_rfl) (fun _ _ _ h => h) (Or.inl ⟨by rfl, ?_⟩) ?_ ?_
  rotate_left
  · intro w'
    go_simp
    with_reducible rfl
  rotate_left
  · simp only [Act.put, List.setIfInBounds_toArray, List.set_cons_zero, List.set_cons_succ, i64_w, i32_w]
    rfl
  refine done_ (by kernel_rfl) ?_
  try go_wp2
  go_ret
  exact re_

/-- THE ONE PURE STATEMENT of laws_FnExactGraphOk. -/
def laws_FnExactGraphOk.Pure : Prop := ∀ (l0_0 : List (S170)) (l0_1 : List (S173)) (a0_2 : Int) (a0_3 : Int), Ok25 (⟨l0_0, l0_1, a0_2, a0_3⟩ : S25) → ∃ k, laws_FnExactGraphOk.f k l0_0 l0_1 a0_2 a0_3 = some true
theorem laws_FnExactGraphOk.walk (P : laws_FnExactGraphOk.Pure) (A0_0 : Option Addr) (c0_0 : Nat) (l0_0 : List (S170)) (A0_1 : Option Addr) (c0_1 : Nat) (l0_1 : List (S173)) (a0_2 : Int) (a0_3 : Int) (w : World) (hr0_0 : Kd.C k170 w A0_0 l0_0.length l0_0) (hc0_0 : l0_0.length ≤ c0_0) (hr0_1 : Kd.C k173 w A0_1 l0_1.length l0_1) (hc0_1 : l0_1.length ≤ c0_1) (w0 : Ok25 (⟨l0_0, l0_1, a0_2, a0_3⟩ : S25)) :
    Calls Try.prog 3 #[.agg #[.slice A0_0 l0_0.length c0_0, .slice A0_1 l0_1.length c0_1, .int .i64 a0_2, .int .i64 a0_3]] w fun e w' => e = .returned (.bool true) ∧ Below w.heap.size w w' := by
  obtain ⟨k, h⟩ := P l0_0 l0_1 a0_2 a0_3 w0
  refine (laws_FnExactGraphOk.calls k _ _ l0_0 _ _ l0_1 a0_2 a0_3 true w hr0_0 hc0_0 hr0_1 hc0_1 h).mono ?_
  rintro e w' ⟨rfl, hd⟩
  exact ⟨rfl, hd⟩

end Go.Proofs.Ytcchmhmbjhgfdaa.G
