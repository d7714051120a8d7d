-- Printed by a program of this claim's writer (wip/gen), out of the translation. Lean checks it.
import Derived.Test.YtnecmjmimdojcaaGx0
import Derived.Test.YtnecmjmimdojcaaGx10
import Derived.Test.YtnecmjmimdojcaaGx11
namespace Go.Proofs.Ytnecmjmimdojcaa.G
open Go.RowKit Go.Proofs.YtnecmjmimdojcaaW.PrintWords Go.Proofs.YtnecmjmimdojcaaW.PrintLast Go.Proofs.YtnecmjmimdojcaaW.PrintMore
attribute [local go_sem] max2_int min2_int max_two min_two max_three min_three max_four min_four Own.str_gtr Own.str_leq Own.str_geq   -- for this text's walks alone
open Own
set_option linter.unusedVariables false
set_option linter.unusedSimpArgs false

/-! ### impl_exprFits: function 40 -/
mutual
def impl_exprFits.j0 : Nat → Int → Bool → Int → Int → Int → ByteArray → List (S43) → ByteArray → ByteArray → List (S46) → Option (Bool)
  | 0, _, _, _, _, _, _, _, _, _, _ => none
  | k + 1, x1, x19, x209000, x209001, x209002, x209003, x209004, x209005, x209006, x209007 => if x19 = true then (some false) else (if x209000 = 2 then (impl_exprFits.j1 k x1 true (x209000 == 3) x209000 x209001 x209002 x209003 x209004 x209005 x209006 x209007) else (if x209000 = 3 then (impl_exprFits.j1 k x1 true (x209000 == 3) x209000 x209001 x209002 x209003 x209004 x209005 x209006 x209007) else (impl_exprFits.j1 k x1 (x209000 == 4) (x209000 == 3) x209000 x209001 x209002 x209003 x209004 x209005 x209006 x209007)))
def impl_exprFits.j1 : Nat → Int → Bool → Bool → Int → Int → Int → ByteArray → List (S43) → ByteArray → ByteArray → List (S46) → Option (Bool)
  | 0, _, _, _, _, _, _, _, _, _, _, _ => none
  | k + 1, x1, x5, x6, x209000, x209001, x209002, x209003, x209004, x209005, x209006, x209007 => (impl_NameOk.f k x209005).bind fun t210 => (if (x5 != t210) = true then (impl_exprFits.j2 k x1 true x209000 x209001 x209002 x209003 x209004 x209005 x209006 x209007) else (if x5 = true then ((impl_NameOk.f k x209006).bind fun t211 => (if (x6 != t211) = true then (impl_exprFits.j2 k x1 true x209000 x209001 x209002 x209003 x209004 x209005 x209006 x209007) else (if x6 = true then (impl_exprFits.j2 k x1 false x209000 x209001 x209002 x209003 x209004 x209005 x209006 x209007) else (impl_exprFits.j2 k x1 (x209006.toList != ([] : List UInt8)) x209000 x209001 x209002 x209003 x209004 x209005 x209006 x209007)))) else (if x209005.toList = ([] : List UInt8) then ((impl_NameOk.f k x209006).bind fun t212 => (if (x6 != t212) = true then (impl_exprFits.j2 k x1 true x209000 x209001 x209002 x209003 x209004 x209005 x209006 x209007) else (if x6 = true then (impl_exprFits.j2 k x1 false x209000 x209001 x209002 x209003 x209004 x209005 x209006 x209007) else (impl_exprFits.j2 k x1 (x209006.toList != ([] : List UInt8)) x209000 x209001 x209002 x209003 x209004 x209005 x209006 x209007)))) else (impl_exprFits.j2 k x1 true x209000 x209001 x209002 x209003 x209004 x209005 x209006 x209007))))
def impl_exprFits.j2 : Nat → Int → Bool → Int → Int → Int → ByteArray → List (S43) → ByteArray → ByteArray → List (S46) → Option (Bool)
  | 0, _, _, _, _, _, _, _, _, _, _ => none
  | k + 1, x1, x65, x209000, x209001, x209002, x209003, x209004, x209005, x209006, x209007 => if x65 = true then (some false) else (if x209000 = 1 then ((impl_ValueOk.f k x209001 x209002 x209003 x209004).bind fun t213 => (if t213 = true then ((impl_valueHas.f k x209001 x209002 x209003 x209004 5).bind fun t214 => (if t214 = true then (some false) else ((impl_valueHas.f k x209001 x209002 x209003 x209004 6).bind fun t215 => (some (!t215))))) else (some false))) else ((impl_valueEmpty.f x209001 x209002 x209003 x209004).bind fun t216 => (if t216 = true then (impl_exprFits.l0 k x1 x209007 (x209007.length : Int) 0) else (some false))))
def impl_exprFits.l0 : Nat → Int → List (S46) → Int → Int → Option (Bool)
  | 0, _, _, _, _ => none
  | k + 1, x1, x89, x90, x91 => if x91 < x90 then (if 0 ≤ x91 then (if x91 < (x89.length : Int) then ((impl_exprFits.f k ((rd_T46 x89 x91).f0) ((rd_T46 x89 x91).f1.f0) ((rd_T46 x89 x91).f1.f1) ((rd_T46 x89 x91).f1.f2) ((rd_T46 x89 x91).f1.f3) ((rd_T46 x89 x91).f2) ((rd_T46 x89 x91).f3) ((rd_T46 x89 x91).f4) (wrap64 (x1 - 1))).bind fun t219 => (if t219 = true then (impl_exprFits.l0 k x1 x89 x90 (wrap64 (x91 + 1))) else (some false))) else (none)) else (none)) else (some true)
def impl_exprFits.f : Nat → Int → Int → Int → ByteArray → List (S43) → ByteArray → ByteArray → List (S46) → Int → Option (Bool)
  | 0, _, _, _, _, _, _, _, _, _ => none
  | k + 1, a0_0, a0_1, a0_2, a0_3, l0_4, a0_5, a0_6, l0_7, a1 => if a1 < 1 then (impl_exprFits.j0 k a1 true a0_0 a0_1 a0_2 a0_3 l0_4 a0_5 a0_6 l0_7) else ((impl_partsOf.f k a0_0).bind fun t209 => (impl_exprFits.j0 k a1 ((l0_7.length : Int) != t209) a0_0 a0_1 a0_2 a0_3 l0_4 a0_5 a0_6 l0_7))
end
set_option maxHeartbeats 8000000 in
set_option maxRecDepth 100000 in
theorem impl_exprFits.calls (k : Nat) : ∀ (a0_0 : Int) (a0_1 : Int) (a0_2 : Int) (a0_3 : ByteArray) (A0_4 : Option Addr) (c0_4 : Nat) (l0_4 : List (S43)) (a0_5 : ByteArray) (a0_6 : ByteArray) (A0_7 : Option Addr) (c0_7 : Nat) (l0_7 : List (S46)) (a1 : Int) (r : Bool) (w : World) (hr0_4 : Kd.C k43 w A0_4 l0_4.length l0_4) (hc0_4 : l0_4.length ≤ c0_4) (hr0_7 : Kd.C k46 w A0_7 l0_7.length l0_7) (hc0_7 : l0_7.length ≤ c0_7) (h : impl_exprFits.f k a0_0 a0_1 a0_2 a0_3 l0_4 a0_5 a0_6 l0_7 a1 = some r),
    Calls Try.prog 40 #[.agg #[.int .i64 a0_0, .int .i64 a0_1, .int .i64 a0_2, .string a0_3, .slice A0_4 l0_4.length c0_4, .string a0_5, .string a0_6, .slice A0_7 l0_7.length c0_7], .int .i64 a1] w fun e w' => e = .returned (.bool r) ∧ Below w.heap.size w w' := by
  induction k using Nat.strongRecOn with
  | _ k ih =>
  intro a0_0 a0_1 a0_2 a0_3 A0_4 c0_4 l0_4 a0_5 a0_6 A0_7 c0_7 l0_7 a1 r w hr0_4 hc0_4 hr0_7 hc0_7 h
  cases k with
  | zero => exact absurd h (by simp [impl_exprFits.f])
  | succ k =>
  simp only [impl_exprFits.f] at h
  have hu46 := Try.underlying46
  have hu43 := Try.underlying43
  have HR0_4 := Aside0.mk hr0_4
  have HC0_4 := Aside0.mk hc0_4
  clear hr0_4 hc0_4
  have HR0_7 := Aside0.mk hr0_7
  have HC0_7 := Aside0.mk hc0_7
  clear hr0_7 hc0_7
  have HB := Aside0.mk (Below.refl w.heap.size w)
  have H : (if a1 < 1 then (impl_exprFits.j0 k a1 true a0_0 a0_1 a0_2 a0_3 l0_4 a0_5 a0_6 l0_7) else ((impl_partsOf.f k a0_0).bind fun t209 => (impl_exprFits.j0 k a1 ((l0_7.length : Int) != t209) a0_0 a0_1 a0_2 a0_3 l0_4 a0_5 a0_6 l0_7))) = some r := h
  clear h
  have HC3 := Aside0.mk H
  clear H
  go_enter Try.func40, Try.ntmps40
  go_upto_region 1 with (first | ((with_reducible refine gate_dst (N := 2) rfl ?_); (try (refine gate_guard (by rfl) ?_; dsimp only)); refine box_event ?hg (N := 2) ?hd (cs := #[.int .i64 a0_0, .int .i64 a0_1, .int .i64 a0_2, .string a0_3, .slice A0_4 l0_4.length c0_4, .string a0_5, .string a0_6, .slice A0_7 l0_7.length c0_7]) (t := 46) ?hr ?_; (case hd => rfl); (case hg => rfl); (case hr => first | (go_simp; done) | (go_simp; rfl)); intro gb208 hg w4 hbox hb; have BK208 := Aside0.mk (hbox); have GW208 := gw_ hg; have GE208 := gw_ hg; replace HB := bs_ hb; clear hb hbox hg))
  repeat (go_quiet (first | ((with_reducible refine gate_dst (N := 2) rfl ?_); (try (refine gate_guard (by rfl) ?_; dsimp only)); refine box_event ?hg (N := 2) ?hd (cs := #[.int .i64 a0_0, .int .i64 a0_1, .int .i64 a0_2, .string a0_3, .slice A0_4 l0_4.length c0_4, .string a0_5, .string a0_6, .slice A0_7 l0_7.length c0_7]) (t := 46) ?hr ?_; (case hd => rfl); (case hg => rfl); (case hr => first | (go_simp; done) | (go_simp; rfl)); intro gb208 hg w4 hbox hb; have n0_ := bs_ hb; have n1_ := Aside0.mk (hbox); have n2_ := gw_ hg; have n3_ := gw_ hg; clear HB; have HB := n0_; have BK208 := n1_; have GW208 := n2_; have GE208 := n3_; clear n0_ n1_ n2_ n3_; clear hb hbox hg)); go_upto_region 1 with (first | ((with_reducible refine gate_dst (N := 2) rfl ?_); (try (refine gate_guard (by rfl) ?_; dsimp only)); refine box_event ?hg (N := 2) ?hd (cs := #[.int .i64 a0_0, .int .i64 a0_1, .int .i64 a0_2, .string a0_3, .slice A0_4 l0_4.length c0_4, .string a0_5, .string a0_6, .slice A0_7 l0_7.length c0_7]) (t := 46) ?hr ?_; (case hd => rfl); (case hg => rfl); (case hr => first | (go_simp; done) | (go_simp; rfl)); intro gb208 hg w4 hbox hb; have n0_ := bs_ hb; have n1_ := Aside0.mk (hbox); have n2_ := gw_ hg; have n3_ := gw_ hg; clear HB; have HB := n0_; have BK208 := n1_; have GW208 := n2_; have GE208 := n3_; clear n0_ n1_ n2_ n3_; clear hb hbox hg)))
  (try simp only [Act.put, List.setIfInBounds_toArray, List.set_cons_zero, List.set_cons_succ])
  go_cut [19] (fun v19 wc => ∃ (kq : Nat) (x19_2 : Bool), v19 = .bool x19_2 ∧ Aside0 (impl_exprFits.j0 kq a1 x19_2 a0_0 a0_1 a0_2 a0_3 l0_4 a0_5 a0_6 l0_7 = some r) ∧ Aside0 (kq ≤ k) ∧ Aside0 (wc.heap[gb208]? = some (.cells #[.int .i64 a0_0, .int .i64 a0_1, .int .i64 a0_2, .string a0_3, (.slice A0_4 l0_4.length c0_4), .string a0_5, .string a0_6, (.slice A0_7 l0_7.length c0_7)] 46 (0, 0))) ∧ Aside0 (Below w.heap.size w wc))
  case first =>
    have H := HC3.out
    clear HC3
    by_cases c5 : a1 < 1
    · rw [if_pos c5] at H
      have c5b0 : decide (a1 < 1) = true := decide_eq_true c5
      clear c5
      (first | rw [c5b0] | (simp only [i64_w, i32_w]; rw [c5b0]) | skip)
      have H' := Aside0.mk H
      clear H
      go_wp2
      repeat (go_quiet (fail); try go_wp2)
      go_meet
      case rel => exact ⟨_, (true), sm_, H', ⟨by first | omega | exact Nat.le_refl _⟩, ⟨by (with_reducible repeat (first | refine blk_drewN ?_ _ | refine blk_drew ?_ | refine blk_alloc ?_ _)); exact BK208.out⟩, ⟨bel_⟩⟩
    rw [if_neg c5] at H
    have c5b0 : decide (a1 < 1) = false := decide_eq_false c5
    clear c5
    (first | rw [c5b0] | (simp only [i64_w, i32_w]; rw [c5b0]) | skip)
    replace H := Option.bind_eq_some_iff.mp H
    obtain ⟨t209, A60, H⟩ := H
    replace H : (impl_exprFits.j0 k a1 ((l0_7.length : Int) != t209) a0_0 a0_1 a0_2 a0_3 l0_4 a0_5 a0_6 l0_7) = some r := H
    have A6 := Aside0.mk A60
    clear A60
    have H' := Aside0.mk H
    clear H
    obtain ⟨hcz7_0, hcz7_1, hcz7_2, hcz7_3, hcz7_4, hcz7_5, hcz7_6, hcz7_7, hfz7_0, hfz7_1, hfz7_2, hfz7_3, hfz7_4, hfz7_5, hfz7_6, hfz7_7⟩ := blk8 BK208
    go_wp2_with (first | (go_at_call 66; (with_reducible refine (impl_partsOf.calls k a0_0 t209 _ A6.out).mono ?_); rintro e w' ⟨rfl, ⟨nd, rfl⟩⟩; (try first | exact ⟨rfl, _, World.drewN_drewN _ _ _⟩ | exact ⟨rfl, _, Eq.trans (World.drewN_drewN _ _ _) (congrArg (World.drewN _) (Nat.add_assoc _ _ _))⟩)))
    repeat (go_quiet (first | (go_at_call 66; (with_reducible refine (impl_partsOf.calls k a0_0 t209 _ A6.out).mono ?_); rintro e w' ⟨rfl, ⟨nd, rfl⟩⟩; (try first | exact ⟨rfl, _, World.drewN_drewN _ _ _⟩ | exact ⟨rfl, _, Eq.trans (World.drewN_drewN _ _ _) (congrArg (World.drewN _) (Nat.add_assoc _ _ _))⟩))); try go_wp2_with (first | (go_at_call 66; (with_reducible refine (impl_partsOf.calls k a0_0 t209 _ A6.out).mono ?_); rintro e w' ⟨rfl, ⟨nd, rfl⟩⟩; (try first | exact ⟨rfl, _, World.drewN_drewN _ _ _⟩ | exact ⟨rfl, _, Eq.trans (World.drewN_drewN _ _ _) (congrArg (World.drewN _) (Nat.add_assoc _ _ _))⟩))))
    go_meet
    case rel => exact ⟨_, (((l0_7.length : Int) != t209)), sm_, H', ⟨by first | omega | exact Nat.le_refl _⟩, ⟨by (with_reducible repeat (first | refine blk_drewN ?_ _ | refine blk_drew ?_ | refine blk_alloc ?_ _)); exact BK208.out⟩, ⟨bel_⟩⟩
  case rest =>
    clear HC3
    try clear p2
    try clear c4
    try clear c5
    try clear c5b0
    try clear hcz7_0
    try clear hcz7_1
    try clear hcz7_2
    try clear hcz7_3
    try clear hcz7_4
    try clear hcz7_5
    try clear hcz7_6
    try clear hcz7_7
    try clear hfz7_0
    try clear hfz7_1
    try clear hfz7_2
    try clear hfz7_3
    try clear hfz7_4
    try clear hfz7_5
    try clear hfz7_6
    try clear hfz7_7
    obtain ⟨kq, x19_2, rfl, HA, HJ2, BK208, HB⟩ := hcut
    cases kq with
    | zero => exact absurd HA.out (by simp [impl_exprFits.j0])
    | succ kj2 =>
      have H := HA.out
      clear HA
      simp only [impl_exprFits.j0] at H
      by_cases c8 : x19_2 = true
      · subst c8
        have H1 : (some false) = some r := by rw [if_pos rfl] at H; exact H
        clear H
        have H := H1
        clear H1
        obtain rfl := Option.some.inj H
        go_wp2
        repeat (go_quiet (fail); try go_wp2)
        go_ret
        exact re_
      replace c8 := Bool.eq_false_iff.mpr c8
      subst c8
      have H1 : (if a0_0 = 2 then (impl_exprFits.j1 kj2 a1 true (a0_0 == 3) a0_0 a0_1 a0_2 a0_3 l0_4 a0_5 a0_6 l0_7) else (if a0_0 = 3 then (impl_exprFits.j1 kj2 a1 true (a0_0 == 3) a0_0 a0_1 a0_2 a0_3 l0_4 a0_5 a0_6 l0_7) else (impl_exprFits.j1 kj2 a1 (a0_0 == 4) (a0_0 == 3) a0_0 a0_1 a0_2 a0_3 l0_4 a0_5 a0_6 l0_7))) = some r := by rw [if_neg (show ¬ (false = true) by decide)] at H; exact H
      clear H
      have H := H1
      clear H1
      have HC9 := Aside0.mk H
      clear H
      go_upto_region 3 with (fail)
      repeat (go_quiet (fail); go_upto_region 3 with (fail))
      go_cut [5, 6] (fun v5 v6 wc => ∃ (kq : Nat) (x5_8 : Bool) (x6_8 : Bool), v5 = .bool x5_8 ∧ v6 = .bool x6_8 ∧ Aside0 (impl_exprFits.j1 kq a1 x5_8 x6_8 a0_0 a0_1 a0_2 a0_3 l0_4 a0_5 a0_6 l0_7 = some r) ∧ Aside0 (kq ≤ kj2) ∧ Aside0 (wc.heap[gb208]? = some (.cells #[.int .i64 a0_0, .int .i64 a0_1, .int .i64 a0_2, .string a0_3, (.slice A0_4 l0_4.length c0_4), .string a0_5, .string a0_6, (.slice A0_7 l0_7.length c0_7)] 46 (0, 0))) ∧ Aside0 (Below w.heap.size w wc))
      case first =>
        have H := HC9.out
        clear HC9
        by_cases c10 : a0_0 = 2
        · rw [if_pos c10] at H
          have c10b0 : (a0_0 == 2) = true := beq_iff_eq.mpr c10
          have c10b1 : (a0_0 != 2) = false := bne_eq_false_iff_eq.mpr c10
          clear c10
          (first | rw [c10b0] | (simp only [i64_w, i32_w]; rw [c10b0]) | skip)
          have H' := Aside0.mk H
          clear H
          obtain ⟨hcz11_0, hcz11_1, hcz11_2, hcz11_3, hcz11_4, hcz11_5, hcz11_6, hcz11_7, hfz11_0, hfz11_1, hfz11_2, hfz11_3, hfz11_4, hfz11_5, hfz11_6, hfz11_7⟩ := blk8 BK208
          go_wp2
          repeat (go_quiet (fail); try go_wp2)
          go_meet
          case rel => exact ⟨_, (true), ((a0_0 == 3)), sm_, sm_, H', ⟨by have := HJ2.out; first | omega | exact Nat.le_refl _⟩, ⟨by (with_reducible repeat (first | refine blk_drewN ?_ _ | refine blk_drew ?_ | refine blk_alloc ?_ _)); exact BK208.out⟩, ⟨bel_⟩⟩
        rw [if_neg c10] at H
        have c10b0 : (a0_0 == 2) = false := beq_eq_false_iff_ne.mpr c10
        have c10b1 : (a0_0 != 2) = true := bne_iff_ne.mpr c10
        (first | rw [c10b0] | (simp only [i64_w, i32_w]; rw [c10b0]) | skip)
        by_cases c12 : a0_0 = 3
        · rw [if_pos c12] at H
          have c12b0 : (a0_0 == 3) = true := beq_iff_eq.mpr c12
          have c12b1 : (a0_0 != 3) = false := bne_eq_false_iff_eq.mpr c12
          clear c12
          have H' := Aside0.mk H
          clear H
          obtain ⟨hcz13_0, hcz13_1, hcz13_2, hcz13_3, hcz13_4, hcz13_5, hcz13_6, hcz13_7, hfz13_0, hfz13_1, hfz13_2, hfz13_3, hfz13_4, hfz13_5, hfz13_6, hfz13_7⟩ := blk8 BK208
          go_wp2
          repeat (go_quiet (fail); try go_wp2)
          go_meet
          case rel => exact ⟨_, (true), ((a0_0 == 3)), sm_, sm_, H', ⟨by have := HJ2.out; first | omega | exact Nat.le_refl _⟩, ⟨by (with_reducible repeat (first | refine blk_drewN ?_ _ | refine blk_drew ?_ | refine blk_alloc ?_ _)); exact BK208.out⟩, ⟨bel_⟩⟩
        rw [if_neg c12] at H
        have c12b0 : (a0_0 == 3) = false := beq_eq_false_iff_ne.mpr c12
        have c12b1 : (a0_0 != 3) = true := bne_iff_ne.mpr c12
        have H' := Aside0.mk H
        clear H
        obtain ⟨hcz14_0, hcz14_1, hcz14_2, hcz14_3, hcz14_4, hcz14_5, hcz14_6, hcz14_7, hfz14_0, hfz14_1, hfz14_2, hfz14_3, hfz14_4, hfz14_5, hfz14_6, hfz14_7⟩ := blk8 BK208
        go_wp2
        repeat (go_quiet (fail); try go_wp2)
        go_meet
        case rel => exact ⟨_, ((a0_0 == 4)), ((a0_0 == 3)), sm_, sm_, H', ⟨by have := HJ2.out; first | omega | exact Nat.le_refl _⟩, ⟨by (with_reducible repeat (first | refine blk_drewN ?_ _ | refine blk_drew ?_ | refine blk_alloc ?_ _)); exact BK208.out⟩, ⟨bel_⟩⟩
      case rest =>
        clear HC9
        try clear c1
        try clear p2
        try clear c4
        try clear c5
        try clear c5b0
        try clear c8
        try clear c10
        try clear c10b0
        try clear c10b1
        try clear c12
        try clear c12b0
        try clear c12b1
        try clear hcz11_0
        try clear hcz11_1
        try clear hcz11_2
        try clear hcz11_3
        try clear hcz11_4
        try clear hcz11_5
        try clear hcz11_6
        try clear hcz11_7
        try clear hcz13_0
        try clear hcz13_1
        try clear hcz13_2
        try clear hcz13_3
        try clear hcz13_4
        try clear hcz13_5
        try clear hcz13_6
        try clear hcz13_7
        try clear hcz14_0
        try clear hcz14_1
        try clear hcz14_2
        try clear hcz14_3
        try clear hcz14_4
        try clear hcz14_5
        try clear hcz14_6
        try clear hcz14_7
        try clear hcz7_0
        try clear hcz7_1
        try clear hcz7_2
        try clear hcz7_3
        try clear hcz7_4
        try clear hcz7_5
        try clear hcz7_6
        try clear hcz7_7
        try clear hfz11_0
        try clear hfz11_1
        try clear hfz11_2
        try clear hfz11_3
        try clear hfz11_4
        try clear hfz11_5
        try clear hfz11_6
        try clear hfz11_7
        try clear hfz13_0
        try clear hfz13_1
        try clear hfz13_2
        try clear hfz13_3
        try clear hfz13_4
        try clear hfz13_5
        try clear hfz13_6
        try clear hfz13_7
        try clear hfz14_0
        try clear hfz14_1
        try clear hfz14_2
        try clear hfz14_3
        try clear hfz14_4
        try clear hfz14_5
        try clear hfz14_6
        try clear hfz14_7
        try clear hfz7_0
        try clear hfz7_1
        try clear hfz7_2
        try clear hfz7_3
        try clear hfz7_4
        try clear hfz7_5
        try clear hfz7_6
        try clear hfz7_7
        try clear p2
        obtain ⟨kq, x5_8, x6_8, rfl, rfl, HA, HJ8, BK208, HB⟩ := hcut
        cases kq with
        | zero => exact absurd HA.out (by simp [impl_exprFits.j1])
        | succ kj8 =>
          have H := HA.out
          clear HA
          simp only [impl_exprFits.j1] at H
          have HC15 := Aside0.mk H
          clear H
          go_upto_region 4 with (fail)
          repeat (go_quiet (fail); go_upto_region 4 with (fail))
          go_cut [65] (fun v65 wc => ∃ (kq : Nat) (x65_14 : Bool), v65 = .bool x65_14 ∧ Aside0 (impl_exprFits.j2 kq a1 x65_14 a0_0 a0_1 a0_2 a0_3 l0_4 a0_5 a0_6 l0_7 = some r) ∧ Aside0 (kq ≤ kj8) ∧ Aside0 (wc.heap[gb208]? = some (.cells #[.int .i64 a0_0, .int .i64 a0_1, .int .i64 a0_2, .string a0_3, (.slice A0_4 l0_4.length c0_4), .string a0_5, .string a0_6, (.slice A0_7 l0_7.length c0_7)] 46 (0, 0))) ∧ Aside0 (Below w.heap.size w wc))
          case first =>
            have H := HC15.out
            clear HC15
            replace H := Option.bind_eq_some_iff.mp H
            obtain ⟨t210, A160, H⟩ := H
            replace H : (if (x5_8 != t210) = true then (impl_exprFits.j2 kj8 a1 true a0_0 a0_1 a0_2 a0_3 l0_4 a0_5 a0_6 l0_7) else (if x5_8 = true then ((impl_NameOk.f kj8 a0_6).bind fun t211 => (if (x6_8 != t211) = true then (impl_exprFits.j2 kj8 a1 true a0_0 a0_1 a0_2 a0_3 l0_4 a0_5 a0_6 l0_7) else (if x6_8 = true then (impl_exprFits.j2 kj8 a1 false a0_0 a0_1 a0_2 a0_3 l0_4 a0_5 a0_6 l0_7) else (impl_exprFits.j2 kj8 a1 (a0_6.toList != ([] : List UInt8)) a0_0 a0_1 a0_2 a0_3 l0_4 a0_5 a0_6 l0_7)))) else (if a0_5.toList = ([] : List UInt8) then ((impl_NameOk.f kj8 a0_6).bind fun t212 => (if (x6_8 != t212) = true then (impl_exprFits.j2 kj8 a1 true a0_0 a0_1 a0_2 a0_3 l0_4 a0_5 a0_6 l0_7) else (if x6_8 = true then (impl_exprFits.j2 kj8 a1 false a0_0 a0_1 a0_2 a0_3 l0_4 a0_5 a0_6 l0_7) else (impl_exprFits.j2 kj8 a1 (a0_6.toList != ([] : List UInt8)) a0_0 a0_1 a0_2 a0_3 l0_4 a0_5 a0_6 l0_7)))) else (impl_exprFits.j2 kj8 a1 true a0_0 a0_1 a0_2 a0_3 l0_4 a0_5 a0_6 l0_7)))) = some r := H
            have A16 := Aside0.mk A160
            clear A160
            by_cases c17 : (x5_8 != t210) = true
            · rw [if_pos c17] at H
              have c17b0 : (x5_8 != t210) = true := c17
              (try (have c17b1 : decide (x5_8 = t210) = false := by simpa using c17))
              (try (have c17b2 : (x5_8 == t210) = false := by simpa using c17))
              (try (have c17b3 : ¬ (x5_8 = t210) := by simpa using c17))
              clear c17
              (first | rw [c17b0] | (simp only [i64_w, i32_w]; rw [c17b0]) | skip)
              have H' := Aside0.mk H
              clear H
              obtain ⟨hcz18_0, hcz18_1, hcz18_2, hcz18_3, hcz18_4, hcz18_5, hcz18_6, hcz18_7, hfz18_0, hfz18_1, hfz18_2, hfz18_3, hfz18_4, hfz18_5, hfz18_6, hfz18_7⟩ := blk8 BK208
              go_wp2_with (first | (go_at_call 32; (with_reducible refine (impl_NameOk.calls kj8 a0_5 t210 _ A16.out).mono ?_); rintro e w' ⟨rfl, ⟨nd, rfl⟩⟩; (try first | exact ⟨rfl, _, World.drewN_drewN _ _ _⟩ | exact ⟨rfl, _, Eq.trans (World.drewN_drewN _ _ _) (congrArg (World.drewN _) (Nat.add_assoc _ _ _))⟩)))
              repeat (go_quiet (first | (go_at_call 32; (with_reducible refine (impl_NameOk.calls kj8 a0_5 t210 _ A16.out).mono ?_); rintro e w' ⟨rfl, ⟨nd, rfl⟩⟩; (try first | exact ⟨rfl, _, World.drewN_drewN _ _ _⟩ | exact ⟨rfl, _, Eq.trans (World.drewN_drewN _ _ _) (congrArg (World.drewN _) (Nat.add_assoc _ _ _))⟩))); try go_wp2_with (first | (go_at_call 32; (with_reducible refine (impl_NameOk.calls kj8 a0_5 t210 _ A16.out).mono ?_); rintro e w' ⟨rfl, ⟨nd, rfl⟩⟩; (try first | exact ⟨rfl, _, World.drewN_drewN _ _ _⟩ | exact ⟨rfl, _, Eq.trans (World.drewN_drewN _ _ _) (congrArg (World.drewN _) (Nat.add_assoc _ _ _))⟩))))
              go_meet
              case rel => exact ⟨_, (true), sm_, H', ⟨by have := HJ2.out; have := HJ8.out; first | omega | exact Nat.le_refl _⟩, ⟨by (with_reducible repeat (first | refine blk_drewN ?_ _ | refine blk_drew ?_ | refine blk_alloc ?_ _)); exact BK208.out⟩, ⟨bel_⟩⟩
            rw [if_neg c17] at H
            have c17b0 : (x5_8 != t210) = false := by simpa using c17
            (try (have c17b1 : decide (x5_8 = t210) = true := by simpa using c17))
            (try (have c17b2 : (x5_8 == t210) = true := by simpa using c17))
            clear c17
            (first | rw [c17b0] | (simp only [i64_w, i32_w]; rw [c17b0]) | skip)
            by_cases c19 : x5_8 = true
            · subst c19
              have H1 : ((impl_NameOk.f kj8 a0_6).bind fun t211 => (if (x6_8 != t211) = true then (impl_exprFits.j2 kj8 a1 true a0_0 a0_1 a0_2 a0_3 l0_4 a0_5 a0_6 l0_7) else (if x6_8 = true then (impl_exprFits.j2 kj8 a1 false a0_0 a0_1 a0_2 a0_3 l0_4 a0_5 a0_6 l0_7) else (impl_exprFits.j2 kj8 a1 (a0_6.toList != ([] : List UInt8)) a0_0 a0_1 a0_2 a0_3 l0_4 a0_5 a0_6 l0_7)))) = some r := by rw [if_pos rfl] at H; exact H
              clear H
              have H := H1
              clear H1
              replace H := Option.bind_eq_some_iff.mp H
              obtain ⟨t211, A200, H⟩ := H
              replace H : (if (x6_8 != t211) = true then (impl_exprFits.j2 kj8 a1 true a0_0 a0_1 a0_2 a0_3 l0_4 a0_5 a0_6 l0_7) else (if x6_8 = true then (impl_exprFits.j2 kj8 a1 false a0_0 a0_1 a0_2 a0_3 l0_4 a0_5 a0_6 l0_7) else (impl_exprFits.j2 kj8 a1 (a0_6.toList != ([] : List UInt8)) a0_0 a0_1 a0_2 a0_3 l0_4 a0_5 a0_6 l0_7))) = some r := H
              have A20 := Aside0.mk A200
              clear A200
              by_cases c21 : (x6_8 != t211) = true
              · rw [if_pos c21] at H
                have c21b0 : (x6_8 != t211) = true := c21
                (try (have c21b1 : decide (x6_8 = t211) = false := by simpa using c21))
                (try (have c21b2 : (x6_8 == t211) = false := by simpa using c21))
                (try (have c21b3 : ¬ (x6_8 = t211) := by simpa using c21))
                clear c21
                have H' := Aside0.mk H
                clear H
                obtain ⟨hcz22_0, hcz22_1, hcz22_2, hcz22_3, hcz22_4, hcz22_5, hcz22_6, hcz22_7, hfz22_0, hfz22_1, hfz22_2, hfz22_3, hfz22_4, hfz22_5, hfz22_6, hfz22_7⟩ := blk8 BK208
                go_wp2_with (first | (go_at_call 32; (with_reducible refine (impl_NameOk.calls kj8 a0_5 t210 _ A16.out).mono ?_); rintro e w' ⟨rfl, ⟨nd, rfl⟩⟩; (try first | exact ⟨rfl, _, World.drewN_drewN _ _ _⟩ | exact ⟨rfl, _, Eq.trans (World.drewN_drewN _ _ _) (congrArg (World.drewN _) (Nat.add_assoc _ _ _))⟩)) | (go_at_call 32; (with_reducible refine (impl_NameOk.calls kj8 a0_6 t211 _ A20.out).mono ?_); rintro e w' ⟨rfl, ⟨nd, rfl⟩⟩; (try first | exact ⟨rfl, _, World.drewN_drewN _ _ _⟩ | exact ⟨rfl, _, Eq.trans (World.drewN_drewN _ _ _) (congrArg (World.drewN _) (Nat.add_assoc _ _ _))⟩)))
                repeat (go_quiet (first | (go_at_call 32; (with_reducible refine (impl_NameOk.calls kj8 a0_5 t210 _ A16.out).mono ?_); rintro e w' ⟨rfl, ⟨nd, rfl⟩⟩; (try first | exact ⟨rfl, _, World.drewN_drewN _ _ _⟩ | exact ⟨rfl, _, Eq.trans (World.drewN_drewN _ _ _) (congrArg (World.drewN _) (Nat.add_assoc _ _ _))⟩)) | (go_at_call 32; (with_reducible refine (impl_NameOk.calls kj8 a0_6 t211 _ A20.out).mono ?_); rintro e w' ⟨rfl, ⟨nd, rfl⟩⟩; (try first | exact ⟨rfl, _, World.drewN_drewN _ _ _⟩ | exact ⟨rfl, _, Eq.trans (World.drewN_drewN _ _ _) (congrArg (World.drewN _) (Nat.add_assoc _ _ _))⟩))); try go_wp2_with (first | (go_at_call 32; (with_reducible refine (impl_NameOk.calls kj8 a0_5 t210 _ A16.out).mono ?_); rintro e w' ⟨rfl, ⟨nd, rfl⟩⟩; (try first | exact ⟨rfl, _, World.drewN_drewN _ _ _⟩ | exact ⟨rfl, _, Eq.trans (World.drewN_drewN _ _ _) (congrArg (World.drewN _) (Nat.add_assoc _ _ _))⟩)) | (go_at_call 32; (with_reducible refine (impl_NameOk.calls kj8 a0_6 t211 _ A20.out).mono ?_); rintro e w' ⟨rfl, ⟨nd, rfl⟩⟩; (try first | exact ⟨rfl, _, World.drewN_drewN _ _ _⟩ | exact ⟨rfl, _, Eq.trans (World.drewN_drewN _ _ _) (congrArg (World.drewN _) (Nat.add_assoc _ _ _))⟩))))
                go_meet
                case rel => exact ⟨_, (true), sm_, H', ⟨by have := HJ2.out; have := HJ8.out; first | omega | exact Nat.le_refl _⟩, ⟨by (with_reducible repeat (first | refine blk_drewN ?_ _ | refine blk_drew ?_ | refine blk_alloc ?_ _)); exact BK208.out⟩, ⟨bel_⟩⟩
              rw [if_neg c21] at H
              have c21b0 : (x6_8 != t211) = false := by simpa using c21
              (try (have c21b1 : decide (x6_8 = t211) = true := by simpa using c21))
              (try (have c21b2 : (x6_8 == t211) = true := by simpa using c21))
              clear c21
              by_cases c23 : x6_8 = true
              · subst c23
                have H1 : (impl_exprFits.j2 kj8 a1 false a0_0 a0_1 a0_2 a0_3 l0_4 a0_5 a0_6 l0_7) = some r := by rw [if_pos rfl] at H; exact H
                clear H
                have H := H1
                clear H1
                have H' := Aside0.mk H
                clear H
                obtain ⟨hcz24_0, hcz24_1, hcz24_2, hcz24_3, hcz24_4, hcz24_5, hcz24_6, hcz24_7, hfz24_0, hfz24_1, hfz24_2, hfz24_3, hfz24_4, hfz24_5, hfz24_6, hfz24_7⟩ := blk8 BK208
                go_wp2_with (first | (go_at_call 32; (with_reducible refine (impl_NameOk.calls kj8 a0_5 t210 _ A16.out).mono ?_); rintro e w' ⟨rfl, ⟨nd, rfl⟩⟩; (try first | exact ⟨rfl, _, World.drewN_drewN _ _ _⟩ | exact ⟨rfl, _, Eq.trans (World.drewN_drewN _ _ _) (congrArg (World.drewN _) (Nat.add_assoc _ _ _))⟩)) | (go_at_call 32; (with_reducible refine (impl_NameOk.calls kj8 a0_6 t211 _ A20.out).mono ?_); rintro e w' ⟨rfl, ⟨nd, rfl⟩⟩; (try first | exact ⟨rfl, _, World.drewN_drewN _ _ _⟩ | exact ⟨rfl, _, Eq.trans (World.drewN_drewN _ _ _) (congrArg (World.drewN _) (Nat.add_assoc _ _ _))⟩)))
                repeat (go_quiet (first | (go_at_call 32; (with_reducible refine (impl_NameOk.calls kj8 a0_5 t210 _ A16.out).mono ?_); rintro e w' ⟨rfl, ⟨nd, rfl⟩⟩; (try first | exact ⟨rfl, _, World.drewN_drewN _ _ _⟩ | exact ⟨rfl, _, Eq.trans (World.drewN_drewN _ _ _) (congrArg (World.drewN _) (Nat.add_assoc _ _ _))⟩)) | (go_at_call 32; (with_reducible refine (impl_NameOk.calls kj8 a0_6 t211 _ A20.out).mono ?_); rintro e w' ⟨rfl, ⟨nd, rfl⟩⟩; (try first | exact ⟨rfl, _, World.drewN_drewN _ _ _⟩ | exact ⟨rfl, _, Eq.trans (World.drewN_drewN _ _ _) (congrArg (World.drewN _) (Nat.add_assoc _ _ _))⟩))); try go_wp2_with (first | (go_at_call 32; (with_reducible refine (impl_NameOk.calls kj8 a0_5 t210 _ A16.out).mono ?_); rintro e w' ⟨rfl, ⟨nd, rfl⟩⟩; (try first | exact ⟨rfl, _, World.drewN_drewN _ _ _⟩ | exact ⟨rfl, _, Eq.trans (World.drewN_drewN _ _ _) (congrArg (World.drewN _) (Nat.add_assoc _ _ _))⟩)) | (go_at_call 32; (with_reducible refine (impl_NameOk.calls kj8 a0_6 t211 _ A20.out).mono ?_); rintro e w' ⟨rfl, ⟨nd, rfl⟩⟩; (try first | exact ⟨rfl, _, World.drewN_drewN _ _ _⟩ | exact ⟨rfl, _, Eq.trans (World.drewN_drewN _ _ _) (congrArg (World.drewN _) (Nat.add_assoc _ _ _))⟩))))
                go_meet
                case rel => exact ⟨_, (false), sm_, H', ⟨by have := HJ2.out; have := HJ8.out; first | omega | exact Nat.le_refl _⟩, ⟨by (with_reducible repeat (first | refine blk_drewN ?_ _ | refine blk_drew ?_ | refine blk_alloc ?_ _)); exact BK208.out⟩, ⟨bel_⟩⟩
              replace c23 := Bool.eq_false_iff.mpr c23
              subst c23
              have H1 : (impl_exprFits.j2 kj8 a1 (a0_6.toList != ([] : List UInt8)) a0_0 a0_1 a0_2 a0_3 l0_4 a0_5 a0_6 l0_7) = some r := by rw [if_neg (show ¬ (false = true) by decide)] at H; exact H
              clear H
              have H := H1
              clear H1
              have H' := Aside0.mk H
              clear H
              obtain ⟨hcz25_0, hcz25_1, hcz25_2, hcz25_3, hcz25_4, hcz25_5, hcz25_6, hcz25_7, hfz25_0, hfz25_1, hfz25_2, hfz25_3, hfz25_4, hfz25_5, hfz25_6, hfz25_7⟩ := blk8 BK208
              go_wp2_with (first | (go_at_call 32; (with_reducible refine (impl_NameOk.calls kj8 a0_5 t210 _ A16.out).mono ?_); rintro e w' ⟨rfl, ⟨nd, rfl⟩⟩; (try first | exact ⟨rfl, _, World.drewN_drewN _ _ _⟩ | exact ⟨rfl, _, Eq.trans (World.drewN_drewN _ _ _) (congrArg (World.drewN _) (Nat.add_assoc _ _ _))⟩)) | (go_at_call 32; (with_reducible refine (impl_NameOk.calls kj8 a0_6 t211 _ A20.out).mono ?_); rintro e w' ⟨rfl, ⟨nd, rfl⟩⟩; (try first | exact ⟨rfl, _, World.drewN_drewN _ _ _⟩ | exact ⟨rfl, _, Eq.trans (World.drewN_drewN _ _ _) (congrArg (World.drewN _) (Nat.add_assoc _ _ _))⟩)))
              repeat (go_quiet (first | (go_at_call 32; (with_reducible refine (impl_NameOk.calls kj8 a0_5 t210 _ A16.out).mono ?_); rintro e w' ⟨rfl, ⟨nd, rfl⟩⟩; (try first | exact ⟨rfl, _, World.drewN_drewN _ _ _⟩ | exact ⟨rfl, _, Eq.trans (World.drewN_drewN _ _ _) (congrArg (World.drewN _) (Nat.add_assoc _ _ _))⟩)) | (go_at_call 32; (with_reducible refine (impl_NameOk.calls kj8 a0_6 t211 _ A20.out).mono ?_); rintro e w' ⟨rfl, ⟨nd, rfl⟩⟩; (try first | exact ⟨rfl, _, World.drewN_drewN _ _ _⟩ | exact ⟨rfl, _, Eq.trans (World.drewN_drewN _ _ _) (congrArg (World.drewN _) (Nat.add_assoc _ _ _))⟩))); try go_wp2_with (first | (go_at_call 32; (with_reducible refine (impl_NameOk.calls kj8 a0_5 t210 _ A16.out).mono ?_); rintro e w' ⟨rfl, ⟨nd, rfl⟩⟩; (try first | exact ⟨rfl, _, World.drewN_drewN _ _ _⟩ | exact ⟨rfl, _, Eq.trans (World.drewN_drewN _ _ _) (congrArg (World.drewN _) (Nat.add_assoc _ _ _))⟩)) | (go_at_call 32; (with_reducible refine (impl_NameOk.calls kj8 a0_6 t211 _ A20.out).mono ?_); rintro e w' ⟨rfl, ⟨nd, rfl⟩⟩; (try first | exact ⟨rfl, _, World.drewN_drewN _ _ _⟩ | exact ⟨rfl, _, Eq.trans (World.drewN_drewN _ _ _) (congrArg (World.drewN _) (Nat.add_assoc _ _ _))⟩))))
              go_meet
              case rel => exact ⟨_, ((a0_6.toList != ([] : List UInt8))), sm_, H', ⟨by have := HJ2.out; have := HJ8.out; first | omega | exact Nat.le_refl _⟩, ⟨by (with_reducible repeat (first | refine blk_drewN ?_ _ | refine blk_drew ?_ | refine blk_alloc ?_ _)); exact BK208.out⟩, ⟨bel_⟩⟩
            replace c19 := Bool.eq_false_iff.mpr c19
            subst c19
            have H1 : (if a0_5.toList = ([] : List UInt8) then ((impl_NameOk.f kj8 a0_6).bind fun t212 => (if (x6_8 != t212) = true then (impl_exprFits.j2 kj8 a1 true a0_0 a0_1 a0_2 a0_3 l0_4 a0_5 a0_6 l0_7) else (if x6_8 = true then (impl_exprFits.j2 kj8 a1 false a0_0 a0_1 a0_2 a0_3 l0_4 a0_5 a0_6 l0_7) else (impl_exprFits.j2 kj8 a1 (a0_6.toList != ([] : List UInt8)) a0_0 a0_1 a0_2 a0_3 l0_4 a0_5 a0_6 l0_7)))) else (impl_exprFits.j2 kj8 a1 true a0_0 a0_1 a0_2 a0_3 l0_4 a0_5 a0_6 l0_7)) = some r := by rw [if_neg (show ¬ (false = true) by decide)] at H; exact H
            clear H
            have H := H1
            clear H1
            by_cases c26 : a0_5.toList = ([] : List UInt8)
            rotate_left
            · rw [if_neg c26] at H
              have c26b0 : (a0_5.toList == ([] : List UInt8)) = false := beq_eq_false_iff_ne.mpr c26
              have c26b1 : (a0_5.toList != ([] : List UInt8)) = true := bne_iff_ne.mpr c26
              have H' := Aside0.mk H
              clear H
              obtain ⟨hcz33_0, hcz33_1, hcz33_2, hcz33_3, hcz33_4, hcz33_5, hcz33_6, hcz33_7, hfz33_0, hfz33_1, hfz33_2, hfz33_3, hfz33_4, hfz33_5, hfz33_6, hfz33_7⟩ := blk8 BK208
              go_wp2_with (first | (go_at_call 32; (with_reducible refine (impl_NameOk.calls kj8 a0_5 t210 _ A16.out).mono ?_); rintro e w' ⟨rfl, ⟨nd, rfl⟩⟩; (try first | exact ⟨rfl, _, World.drewN_drewN _ _ _⟩ | exact ⟨rfl, _, Eq.trans (World.drewN_drewN _ _ _) (congrArg (World.drewN _) (Nat.add_assoc _ _ _))⟩)))
              repeat (go_quiet (first | (go_at_call 32; (with_reducible refine (impl_NameOk.calls kj8 a0_5 t210 _ A16.out).mono ?_); rintro e w' ⟨rfl, ⟨nd, rfl⟩⟩; (try first | exact ⟨rfl, _, World.drewN_drewN _ _ _⟩ | exact ⟨rfl, _, Eq.trans (World.drewN_drewN _ _ _) (congrArg (World.drewN _) (Nat.add_assoc _ _ _))⟩))); try go_wp2_with (first | (go_at_call 32; (with_reducible refine (impl_NameOk.calls kj8 a0_5 t210 _ A16.out).mono ?_); rintro e w' ⟨rfl, ⟨nd, rfl⟩⟩; (try first | exact ⟨rfl, _, World.drewN_drewN _ _ _⟩ | exact ⟨rfl, _, Eq.trans (World.drewN_drewN _ _ _) (congrArg (World.drewN _) (Nat.add_assoc _ _ _))⟩))))
              go_meet
              case rel => exact ⟨_, (true), sm_, H', ⟨by have := HJ2.out; have := HJ8.out; first | omega | exact Nat.le_refl _⟩, ⟨by (with_reducible repeat (first | refine blk_drewN ?_ _ | refine blk_drew ?_ | refine blk_alloc ?_ _)); exact BK208.out⟩, ⟨bel_⟩⟩
            rw [if_pos c26] at H
            have c26b0 : (a0_5.toList == ([] : List UInt8)) = true := beq_iff_eq.mpr c26
            have c26b1 : (a0_5.toList != ([] : List UInt8)) = false := bne_eq_false_iff_eq.mpr c26
            clear c26
            replace H := Option.bind_eq_some_iff.mp H
            obtain ⟨t212, A270, H⟩ := H
            replace H : (if (x6_8 != t212) = true then (impl_exprFits.j2 kj8 a1 true a0_0 a0_1 a0_2 a0_3 l0_4 a0_5 a0_6 l0_7) else (if x6_8 = true then (impl_exprFits.j2 kj8 a1 false a0_0 a0_1 a0_2 a0_3 l0_4 a0_5 a0_6 l0_7) else (impl_exprFits.j2 kj8 a1 (a0_6.toList != ([] : List UInt8)) a0_0 a0_1 a0_2 a0_3 l0_4 a0_5 a0_6 l0_7))) = some r := H
            have A27 := Aside0.mk A270
            clear A270
            by_cases c28 : (x6_8 != t212) = true
            · rw [if_pos c28] at H
              have c28b0 : (x6_8 != t212) = true := c28
              (try (have c28b1 : decide (x6_8 = t212) = false := by simpa using c28))
              (try (have c28b2 : (x6_8 == t212) = false := by simpa using c28))
              (try (have c28b3 : ¬ (x6_8 = t212) := by simpa using c28))
              clear c28
              have H' := Aside0.mk H
              clear H
              obtain ⟨hcz29_0, hcz29_1, hcz29_2, hcz29_3, hcz29_4, hcz29_5, hcz29_6, hcz29_7, hfz29_0, hfz29_1, hfz29_2, hfz29_3, hfz29_4, hfz29_5, hfz29_6, hfz29_7⟩ := blk8 BK208
              go_wp2_with (first | (go_at_call 32; (with_reducible refine (impl_NameOk.calls kj8 a0_5 t210 _ A16.out).mono ?_); rintro e w' ⟨rfl, ⟨nd, rfl⟩⟩; (try first | exact ⟨rfl, _, World.drewN_drewN _ _ _⟩ | exact ⟨rfl, _, Eq.trans (World.drewN_drewN _ _ _) (congrArg (World.drewN _) (Nat.add_assoc _ _ _))⟩)) | (go_at_call 32; (with_reducible refine (impl_NameOk.calls kj8 a0_6 t212 _ A27.out).mono ?_); rintro e w' ⟨rfl, ⟨nd, rfl⟩⟩; (try first | exact ⟨rfl, _, World.drewN_drewN _ _ _⟩ | exact ⟨rfl, _, Eq.trans (World.drewN_drewN _ _ _) (congrArg (World.drewN _) (Nat.add_assoc _ _ _))⟩)))
              repeat (go_quiet (first | (go_at_call 32; (with_reducible refine (impl_NameOk.calls kj8 a0_5 t210 _ A16.out).mono ?_); rintro e w' ⟨rfl, ⟨nd, rfl⟩⟩; (try first | exact ⟨rfl, _, World.drewN_drewN _ _ _⟩ | exact ⟨rfl, _, Eq.trans (World.drewN_drewN _ _ _) (congrArg (World.drewN _) (Nat.add_assoc _ _ _))⟩)) | (go_at_call 32; (with_reducible refine (impl_NameOk.calls kj8 a0_6 t212 _ A27.out).mono ?_); rintro e w' ⟨rfl, ⟨nd, rfl⟩⟩; (try first | exact ⟨rfl, _, World.drewN_drewN _ _ _⟩ | exact ⟨rfl, _, Eq.trans (World.drewN_drewN _ _ _) (congrArg (World.drewN _) (Nat.add_assoc _ _ _))⟩))); try go_wp2_with (first | (go_at_call 32; (with_reducible refine (impl_NameOk.calls kj8 a0_5 t210 _ A16.out).mono ?_); rintro e w' ⟨rfl, ⟨nd, rfl⟩⟩; (try first | exact ⟨rfl, _, World.drewN_drewN _ _ _⟩ | exact ⟨rfl, _, Eq.trans (World.drewN_drewN _ _ _) (congrArg (World.drewN _) (Nat.add_assoc _ _ _))⟩)) | (go_at_call 32; (with_reducible refine (impl_NameOk.calls kj8 a0_6 t212 _ A27.out).mono ?_); rintro e w' ⟨rfl, ⟨nd, rfl⟩⟩; (try first | exact ⟨rfl, _, World.drewN_drewN _ _ _⟩ | exact ⟨rfl, _, Eq.trans (World.drewN_drewN _ _ _) (congrArg (World.drewN _) (Nat.add_assoc _ _ _))⟩))))
              go_meet
              case rel => exact ⟨_, (true), sm_, H', ⟨by have := HJ2.out; have := HJ8.out; first | omega | exact Nat.le_refl _⟩, ⟨by (with_reducible repeat (first | refine blk_drewN ?_ _ | refine blk_drew ?_ | refine blk_alloc ?_ _)); exact BK208.out⟩, ⟨bel_⟩⟩
            rw [if_neg c28] at H
            have c28b0 : (x6_8 != t212) = false := by simpa using c28
            (try (have c28b1 : decide (x6_8 = t212) = true := by simpa using c28))
            (try (have c28b2 : (x6_8 == t212) = true := by simpa using c28))
            clear c28
            by_cases c30 : x6_8 = true
            · subst c30
              have H1 : (impl_exprFits.j2 kj8 a1 false a0_0 a0_1 a0_2 a0_3 l0_4 a0_5 a0_6 l0_7) = some r := by rw [if_pos rfl] at H; exact H
              clear H
              have H := H1
              clear H1
              have H' := Aside0.mk H
              clear H
              obtain ⟨hcz31_0, hcz31_1, hcz31_2, hcz31_3, hcz31_4, hcz31_5, hcz31_6, hcz31_7, hfz31_0, hfz31_1, hfz31_2, hfz31_3, hfz31_4, hfz31_5, hfz31_6, hfz31_7⟩ := blk8 BK208
              go_wp2_with (first | (go_at_call 32; (with_reducible refine (impl_NameOk.calls kj8 a0_5 t210 _ A16.out).mono ?_); rintro e w' ⟨rfl, ⟨nd, rfl⟩⟩; (try first | exact ⟨rfl, _, World.drewN_drewN _ _ _⟩ | exact ⟨rfl, _, Eq.trans (World.drewN_drewN _ _ _) (congrArg (World.drewN _) (Nat.add_assoc _ _ _))⟩)) | (go_at_call 32; (with_reducible refine (impl_NameOk.calls kj8 a0_6 t212 _ A27.out).mono ?_); rintro e w' ⟨rfl, ⟨nd, rfl⟩⟩; (try first | exact ⟨rfl, _, World.drewN_drewN _ _ _⟩ | exact ⟨rfl, _, Eq.trans (World.drewN_drewN _ _ _) (congrArg (World.drewN _) (Nat.add_assoc _ _ _))⟩)))
              repeat (go_quiet (first | (go_at_call 32; (with_reducible refine (impl_NameOk.calls kj8 a0_5 t210 _ A16.out).mono ?_); rintro e w' ⟨rfl, ⟨nd, rfl⟩⟩; (try first | exact ⟨rfl, _, World.drewN_drewN _ _ _⟩ | exact ⟨rfl, _, Eq.trans (World.drewN_drewN _ _ _) (congrArg (World.drewN _) (Nat.add_assoc _ _ _))⟩)) | (go_at_call 32; (with_reducible refine (impl_NameOk.calls kj8 a0_6 t212 _ A27.out).mono ?_); rintro e w' ⟨rfl, ⟨nd, rfl⟩⟩; (try first | exact ⟨rfl, _, World.drewN_drewN _ _ _⟩ | exact ⟨rfl, _, Eq.trans (World.drewN_drewN _ _ _) (congrArg (World.drewN _) (Nat.add_assoc _ _ _))⟩))); try go_wp2_with (first | (go_at_call 32; (with_reducible refine (impl_NameOk.calls kj8 a0_5 t210 _ A16.out).mono ?_); rintro e w' ⟨rfl, ⟨nd, rfl⟩⟩; (try first | exact ⟨rfl, _, World.drewN_drewN _ _ _⟩ | exact ⟨rfl, _, Eq.trans (World.drewN_drewN _ _ _) (congrArg (World.drewN _) (Nat.add_assoc _ _ _))⟩)) | (go_at_call 32; (with_reducible refine (impl_NameOk.calls kj8 a0_6 t212 _ A27.out).mono ?_); rintro e w' ⟨rfl, ⟨nd, rfl⟩⟩; (try first | exact ⟨rfl, _, World.drewN_drewN _ _ _⟩ | exact ⟨rfl, _, Eq.trans (World.drewN_drewN _ _ _) (congrArg (World.drewN _) (Nat.add_assoc _ _ _))⟩))))
              go_meet
              case rel => exact ⟨_, (false), sm_, H', ⟨by have := HJ2.out; have := HJ8.out; first | omega | exact Nat.le_refl _⟩, ⟨by (with_reducible repeat (first | refine blk_drewN ?_ _ | refine blk_drew ?_ | refine blk_alloc ?_ _)); exact BK208.out⟩, ⟨bel_⟩⟩
            replace c30 := Bool.eq_false_iff.mpr c30
            subst c30
            have H1 : (impl_exprFits.j2 kj8 a1 (a0_6.toList != ([] : List UInt8)) a0_0 a0_1 a0_2 a0_3 l0_4 a0_5 a0_6 l0_7) = some r := by rw [if_neg (show ¬ (false = true) by decide)] at H; exact H
            clear H
            have H := H1
            clear H1
            have H' := Aside0.mk H
            clear H
            obtain ⟨hcz32_0, hcz32_1, hcz32_2, hcz32_3, hcz32_4, hcz32_5, hcz32_6, hcz32_7, hfz32_0, hfz32_1, hfz32_2, hfz32_3, hfz32_4, hfz32_5, hfz32_6, hfz32_7⟩ := blk8 BK208
            go_wp2_with (first | (go_at_call 32; (with_reducible refine (impl_NameOk.calls kj8 a0_5 t210 _ A16.out).mono ?_); rintro e w' ⟨rfl, ⟨nd, rfl⟩⟩; (try first | exact ⟨rfl, _, World.drewN_drewN _ _ _⟩ | exact ⟨rfl, _, Eq.trans (World.drewN_drewN _ _ _) (congrArg (World.drewN _) (Nat.add_assoc _ _ _))⟩)) | (go_at_call 32; (with_reducible refine (impl_NameOk.calls kj8 a0_6 t212 _ A27.out).mono ?_); rintro e w' ⟨rfl, ⟨nd, rfl⟩⟩; (try first | exact ⟨rfl, _, World.drewN_drewN _ _ _⟩ | exact ⟨rfl, _, Eq.trans (World.drewN_drewN _ _ _) (congrArg (World.drewN _) (Nat.add_assoc _ _ _))⟩)))
            repeat (go_quiet (first | (go_at_call 32; (with_reducible refine (impl_NameOk.calls kj8 a0_5 t210 _ A16.out).mono ?_); rintro e w' ⟨rfl, ⟨nd, rfl⟩⟩; (try first | exact ⟨rfl, _, World.drewN_drewN _ _ _⟩ | exact ⟨rfl, _, Eq.trans (World.drewN_drewN _ _ _) (congrArg (World.drewN _) (Nat.add_assoc _ _ _))⟩)) | (go_at_call 32; (with_reducible refine (impl_NameOk.calls kj8 a0_6 t212 _ A27.out).mono ?_); rintro e w' ⟨rfl, ⟨nd, rfl⟩⟩; (try first | exact ⟨rfl, _, World.drewN_drewN _ _ _⟩ | exact ⟨rfl, _, Eq.trans (World.drewN_drewN _ _ _) (congrArg (World.drewN _) (Nat.add_assoc _ _ _))⟩))); try go_wp2_with (first | (go_at_call 32; (with_reducible refine (impl_NameOk.calls kj8 a0_5 t210 _ A16.out).mono ?_); rintro e w' ⟨rfl, ⟨nd, rfl⟩⟩; (try first | exact ⟨rfl, _, World.drewN_drewN _ _ _⟩ | exact ⟨rfl, _, Eq.trans (World.drewN_drewN _ _ _) (congrArg (World.drewN _) (Nat.add_assoc _ _ _))⟩)) | (go_at_call 32; (with_reducible refine (impl_NameOk.calls kj8 a0_6 t212 _ A27.out).mono ?_); rintro e w' ⟨rfl, ⟨nd, rfl⟩⟩; (try first | exact ⟨rfl, _, World.drewN_drewN _ _ _⟩ | exact ⟨rfl, _, Eq.trans (World.drewN_drewN _ _ _) (congrArg (World.drewN _) (Nat.add_assoc _ _ _))⟩))))
            go_meet
            case rel => exact ⟨_, ((a0_6.toList != ([] : List UInt8))), sm_, H', ⟨by have := HJ2.out; have := HJ8.out; first | omega | exact Nat.le_refl _⟩, ⟨by (with_reducible repeat (first | refine blk_drewN ?_ _ | refine blk_drew ?_ | refine blk_alloc ?_ _)); exact BK208.out⟩, ⟨bel_⟩⟩
          case rest =>
            clear HC15
            try clear c1
            try clear c2
            try clear p2
            try clear c3
            try clear c4
            try clear c5
            try clear c5b0
            try clear c8
            try clear c10
            try clear c10b0
            try clear c10b1
            try clear c12
            try clear c12b0
            try clear c12b1
            try clear c17
            try clear c17b0
            try clear c17b1
            try clear c17b2
            try clear c19
            try clear c21
            try clear c21b0
            try clear c21b1
            try clear c21b2
            try clear c23
            try clear c26
            try clear c26b0
            try clear c26b1
            try clear c28
            try clear c28b0
            try clear c28b1
            try clear c28b2
            try clear c30
            try clear hcz11_0
            try clear hcz11_1
            try clear hcz11_2
            try clear hcz11_3
            try clear hcz11_4
            try clear hcz11_5
            try clear hcz11_6
            try clear hcz11_7
            try clear hcz13_0
            try clear hcz13_1
            try clear hcz13_2
            try clear hcz13_3
            try clear hcz13_4
            try clear hcz13_5
            try clear hcz13_6
            try clear hcz13_7
            try clear hcz14_0
            try clear hcz14_1
            try clear hcz14_2
            try clear hcz14_3
            try clear hcz14_4
            try clear hcz14_5
            try clear hcz14_6
            try clear hcz14_7
            try clear hcz18_0
            try clear hcz18_1
            try clear hcz18_2
            try clear hcz18_3
            try clear hcz18_4
            try clear hcz18_5
            try clear hcz18_6
            try clear hcz18_7
            try clear hcz22_0
            try clear hcz22_1
            try clear hcz22_2
            try clear hcz22_3
            try clear hcz22_4
            try clear hcz22_5
            try clear hcz22_6
            try clear hcz22_7
            try clear hcz24_0
            try clear hcz24_1
            try clear hcz24_2
            try clear hcz24_3
            try clear hcz24_4
            try clear hcz24_5
            try clear hcz24_6
            try clear hcz24_7
            try clear hcz25_0
            try clear hcz25_1
            try clear hcz25_2
            try clear hcz25_3
            try clear hcz25_4
            try clear hcz25_5
            try clear hcz25_6
            try clear hcz25_7
            try clear hcz29_0
            try clear hcz29_1
            try clear hcz29_2
            try clear hcz29_3
            try clear hcz29_4
            try clear hcz29_5
            try clear hcz29_6
            try clear hcz29_7
            try clear hcz31_0
            try clear hcz31_1
            try clear hcz31_2
            try clear hcz31_3
            try clear hcz31_4
            try clear hcz31_5
            try clear hcz31_6
            try clear hcz31_7
            try clear hcz32_0
            try clear hcz32_1
            try clear hcz32_2
            try clear hcz32_3
            try clear hcz32_4
            try clear hcz32_5
            try clear hcz32_6
            try clear hcz32_7
            try clear hcz33_0
            try clear hcz33_1
            try clear hcz33_2
            try clear hcz33_3
            try clear hcz33_4
            try clear hcz33_5
            try clear hcz33_6
            try clear hcz33_7
            try clear hcz7_0
            try clear hcz7_1
            try clear hcz7_2
            try clear hcz7_3
            try clear hcz7_4
            try clear hcz7_5
            try clear hcz7_6
            try clear hcz7_7
            try clear hfz11_0
            try clear hfz11_1
            try clear hfz11_2
            try clear hfz11_3
            try clear hfz11_4
            try clear hfz11_5
            try clear hfz11_6
            try clear hfz11_7
            try clear hfz13_0
            try clear hfz13_1
            try clear hfz13_2
            try clear hfz13_3
            try clear hfz13_4
            try clear hfz13_5
            try clear hfz13_6
            try clear hfz13_7
            try clear hfz14_0
            try clear hfz14_1
            try clear hfz14_2
            try clear hfz14_3
            try clear hfz14_4
            try clear hfz14_5
            try clear hfz14_6
            try clear hfz14_7
            try clear hfz18_0
            try clear hfz18_1
            try clear hfz18_2
            try clear hfz18_3
            try clear hfz18_4
            try clear hfz18_5
            try clear hfz18_6
            try clear hfz18_7
            try clear hfz22_0
            try clear hfz22_1
            try clear hfz22_2
            try clear hfz22_3
            try clear hfz22_4
            try clear hfz22_5
            try clear hfz22_6
            try clear hfz22_7
            try clear hfz24_0
            try clear hfz24_1
            try clear hfz24_2
            try clear hfz24_3
            try clear hfz24_4
            try clear hfz24_5
            try clear hfz24_6
            try clear hfz24_7
            try clear hfz25_0
            try clear hfz25_1
            try clear hfz25_2
            try clear hfz25_3
            try clear hfz25_4
            try clear hfz25_5
            try clear hfz25_6
            try clear hfz25_7
            try clear hfz29_0
            try clear hfz29_1
            try clear hfz29_2
            try clear hfz29_3
            try clear hfz29_4
            try clear hfz29_5
            try clear hfz29_6
            try clear hfz29_7
            try clear hfz31_0
            try clear hfz31_1
            try clear hfz31_2
            try clear hfz31_3
            try clear hfz31_4
            try clear hfz31_5
            try clear hfz31_6
            try clear hfz31_7
            try clear hfz32_0
            try clear hfz32_1
            try clear hfz32_2
            try clear hfz32_3
            try clear hfz32_4
            try clear hfz32_5
            try clear hfz32_6
            try clear hfz32_7
            try clear hfz33_0
            try clear hfz33_1
            try clear hfz33_2
            try clear hfz33_3
            try clear hfz33_4
            try clear hfz33_5
            try clear hfz33_6
            try clear hfz33_7
            try clear hfz7_0
            try clear hfz7_1
            try clear hfz7_2
            try clear hfz7_3
            try clear hfz7_4
            try clear hfz7_5
            try clear hfz7_6
            try clear hfz7_7
            try clear p2
            obtain ⟨kq, x65_14, rfl, HA, HJ14, BK208, HB⟩ := hcut
            cases kq with
            | zero => exact absurd HA.out (by simp [impl_exprFits.j2])
            | succ kj14 =>
              have H := HA.out
              clear HA
              simp only [impl_exprFits.j2] at H
              by_cases c34 : x65_14 = true
              · subst c34
                have H1 : (some false) = some r := by rw [if_pos rfl] at H; exact H
                clear H
                have H := H1
                clear H1
                obtain rfl := Option.some.inj H
                go_wp2
                repeat (go_quiet (fail); try go_wp2)
                go_ret
                exact re_
              replace c34 := Bool.eq_false_iff.mpr c34
              subst c34
              have H1 : (if a0_0 = 1 then ((impl_ValueOk.f kj14 a0_1 a0_2 a0_3 l0_4).bind fun t213 => (if t213 = true then ((impl_valueHas.f kj14 a0_1 a0_2 a0_3 l0_4 5).bind fun t214 => (if t214 = true then (some false) else ((impl_valueHas.f kj14 a0_1 a0_2 a0_3 l0_4 6).bind fun t215 => (some (!t215))))) else (some false))) else ((impl_valueEmpty.f a0_1 a0_2 a0_3 l0_4).bind fun t216 => (if t216 = true then (impl_exprFits.l0 kj14 a1 l0_7 (l0_7.length : Int) 0) else (some false)))) = some r := by rw [if_neg (show ¬ (false = true) by decide)] at H; exact H
              clear H
              have H := H1
              clear H1
              by_cases c35 : a0_0 = 1
              · rw [if_pos c35] at H
                have c35b0 : (a0_0 == 1) = true := beq_iff_eq.mpr c35
                have c35b1 : (a0_0 != 1) = false := bne_eq_false_iff_eq.mpr c35
                clear c35
                replace H := Option.bind_eq_some_iff.mp H
                obtain ⟨t213, A360, H⟩ := H
                replace H : (if t213 = true then ((impl_valueHas.f kj14 a0_1 a0_2 a0_3 l0_4 5).bind fun t214 => (if t214 = true then (some false) else ((impl_valueHas.f kj14 a0_1 a0_2 a0_3 l0_4 6).bind fun t215 => (some (!t215))))) else (some false)) = some r := H
                have A36 := Aside0.mk A360
                clear A360
                by_cases c37 : t213 = true
                rotate_left
                · replace c37 := Bool.eq_false_iff.mpr c37
                  subst c37
                  have H1 : (some false) = some r := by rw [if_neg (show ¬ (false = true) by decide)] at H; exact H
                  clear H
                  have H := H1
                  clear H1
                  obtain rfl := Option.some.inj H
                  obtain ⟨hcz51_0, hcz51_1, hcz51_2, hcz51_3, hcz51_4, hcz51_5, hcz51_6, hcz51_7, hfz51_0, hfz51_1, hfz51_2, hfz51_3, hfz51_4, hfz51_5, hfz51_6, hfz51_7⟩ := blk8 BK208
                  go_wp2_with (first | (go_at_call 20; (with_reducible refine (impl_ValueOk.calls kj14 a0_1 a0_2 a0_3 _ _ l0_4 false _ ?side1 ?side2 A36.out).mono ?_); (case side1 => exact rdb_ HR0_4); (case side2 => exact HC0_4.out); rintro e w52 ⟨rfl, hb⟩; replace BK208 := bb_ BK208 hb; replace HB := bs_ hb; (try clear hb); (try clear hb2); (try clear hk); (try clear hi)))
                  repeat (go_quiet (first | (go_at_call 20; (with_reducible refine (impl_ValueOk.calls kj14 a0_1 a0_2 a0_3 _ _ l0_4 false _ ?side1 ?side2 A36.out).mono ?_); (case side1 => exact rdb_ HR0_4); (case side2 => exact HC0_4.out); rintro e w52 ⟨rfl, hb⟩; have n0_ := bb_ BK208 hb; have n1_ := bs_ hb; clear BK208; clear HB; have BK208 := n0_; have HB := n1_; clear n0_ n1_; (try clear hb); (try clear hb2); (try clear hk); (try clear hi))); try go_wp2_with (first | (go_at_call 20; (with_reducible refine (impl_ValueOk.calls kj14 a0_1 a0_2 a0_3 _ _ l0_4 false _ ?side1 ?side2 A36.out).mono ?_); (case side1 => exact rdb_ HR0_4); (case side2 => exact HC0_4.out); rintro e w52 ⟨rfl, hb⟩; have n0_ := bb_ BK208 hb; have n1_ := bs_ hb; clear BK208; clear HB; have BK208 := n0_; have HB := n1_; clear n0_ n1_; (try clear hb); (try clear hb2); (try clear hk); (try clear hi))))
                  go_ret
                  exact re_
                subst c37
                have H1 : ((impl_valueHas.f kj14 a0_1 a0_2 a0_3 l0_4 5).bind fun t214 => (if t214 = true then (some false) else ((impl_valueHas.f kj14 a0_1 a0_2 a0_3 l0_4 6).bind fun t215 => (some (!t215))))) = some r := by rw [if_pos rfl] at H; exact H
                clear H
                have H := H1
                clear H1
                replace H := Option.bind_eq_some_iff.mp H
                obtain ⟨t214, A380, H⟩ := H
                replace H : (if t214 = true then (some false) else ((impl_valueHas.f kj14 a0_1 a0_2 a0_3 l0_4 6).bind fun t215 => (some (!t215)))) = some r := H
                have A38 := Aside0.mk A380
                clear A380
                by_cases c39 : t214 = true
                · subst c39
                  have H1 : (some false) = some r := by rw [if_pos rfl] at H; exact H
                  clear H
                  have H := H1
                  clear H1
                  obtain rfl := Option.some.inj H
                  obtain ⟨hcz40_0, hcz40_1, hcz40_2, hcz40_3, hcz40_4, hcz40_5, hcz40_6, hcz40_7, hfz40_0, hfz40_1, hfz40_2, hfz40_3, hfz40_4, hfz40_5, hfz40_6, hfz40_7⟩ := blk8 BK208
                  go_wp2_with (first | (go_at_call 20; (with_reducible refine (impl_ValueOk.calls kj14 a0_1 a0_2 a0_3 _ _ l0_4 true _ ?side1 ?side2 A36.out).mono ?_); (case side1 => exact rdb_ HR0_4); (case side2 => exact HC0_4.out); rintro e w41 ⟨rfl, hb⟩; replace BK208 := bb_ BK208 hb; replace HB := bs_ hb; (try clear hb); (try clear hb2); (try clear hk); (try clear hi); obtain ⟨hcz42_0, hcz42_1, hcz42_2, hcz42_3, hcz42_4, hcz42_5, hcz42_6, hcz42_7, hfz42_0, hfz42_1, hfz42_2, hfz42_3, hfz42_4, hfz42_5, hfz42_6, hfz42_7⟩ := blk8 BK208) | (go_at_call 67; (with_reducible refine (impl_valueHas.calls kj14 a0_1 a0_2 a0_3 _ _ l0_4 5 true _ ?side1 ?side2 A38.out).mono ?_); (case side1 => exact rdb_ HR0_4); (case side2 => exact HC0_4.out); rintro e w43 ⟨rfl, hb⟩; replace BK208 := bb_ BK208 hb; replace HB := bs_ hb; (try clear hb); (try clear hb2); (try clear hk); (try clear hi)))
                  repeat (go_quiet (first | (go_at_call 20; (with_reducible refine (impl_ValueOk.calls kj14 a0_1 a0_2 a0_3 _ _ l0_4 true _ ?side1 ?side2 A36.out).mono ?_); (case side1 => exact rdb_ HR0_4); (case side2 => exact HC0_4.out); rintro e w41 ⟨rfl, hb⟩; have n0_ := bb_ BK208 hb; have n1_ := bs_ hb; clear BK208; clear HB; have BK208 := n0_; have HB := n1_; clear n0_ n1_; (try clear hb); (try clear hb2); (try clear hk); (try clear hi); have hcz42_0 : w41.cell? ⟨gb208, 0, none⟩ = some (.int .i64 a0_0) := (blk_cell BK208.out 0).trans rfl; have hcz42_1 : w41.cell? ⟨gb208, 1, none⟩ = some (.int .i64 a0_1) := (blk_cell BK208.out 1).trans rfl; have hcz42_2 : w41.cell? ⟨gb208, 2, none⟩ = some (.int .i64 a0_2) := (blk_cell BK208.out 2).trans rfl; have hcz42_3 : w41.cell? ⟨gb208, 3, none⟩ = some (.string a0_3) := (blk_cell BK208.out 3).trans rfl; have hcz42_4 : w41.cell? ⟨gb208, 4, none⟩ = some (.slice A0_4 l0_4.length c0_4) := (blk_cell BK208.out 4).trans rfl; have hcz42_5 : w41.cell? ⟨gb208, 5, none⟩ = some (.string a0_5) := (blk_cell BK208.out 5).trans rfl; have hcz42_6 : w41.cell? ⟨gb208, 6, none⟩ = some (.string a0_6) := (blk_cell BK208.out 6).trans rfl; have hcz42_7 : w41.cell? ⟨gb208, 7, none⟩ = some (.slice A0_7 l0_7.length c0_7) := (blk_cell BK208.out 7).trans rfl; have hfz42_0 := blk_frozen BK208.out 0; have hfz42_1 := blk_frozen BK208.out 1; have hfz42_2 := blk_frozen BK208.out 2; have hfz42_3 := blk_frozen BK208.out 3; have hfz42_4 := blk_frozen BK208.out 4; have hfz42_5 := blk_frozen BK208.out 5; have hfz42_6 := blk_frozen BK208.out 6; have hfz42_7 := blk_frozen BK208.out 7) | (go_at_call 67; (with_reducible refine (impl_valueHas.calls kj14 a0_1 a0_2 a0_3 _ _ l0_4 5 true _ ?side1 ?side2 A38.out).mono ?_); (case side1 => exact rdb_ HR0_4); (case side2 => exact HC0_4.out); rintro e w43 ⟨rfl, hb⟩; have n0_ := bb_ BK208 hb; have n1_ := bs_ hb; clear BK208; clear HB; have BK208 := n0_; have HB := n1_; clear n0_ n1_; (try clear hb); (try clear hb2); (try clear hk); (try clear hi))); try go_wp2_with (first | (go_at_call 20; (with_reducible refine (impl_ValueOk.calls kj14 a0_1 a0_2 a0_3 _ _ l0_4 true _ ?side1 ?side2 A36.out).mono ?_); (case side1 => exact rdb_ HR0_4); (case side2 => exact HC0_4.out); rintro e w41 ⟨rfl, hb⟩; have n0_ := bb_ BK208 hb; have n1_ := bs_ hb; clear BK208; clear HB; have BK208 := n0_; have HB := n1_; clear n0_ n1_; (try clear hb); (try clear hb2); (try clear hk); (try clear hi); have hcz42_0 : w41.cell? ⟨gb208, 0, none⟩ = some (.int .i64 a0_0) := (blk_cell BK208.out 0).trans rfl; have hcz42_1 : w41.cell? ⟨gb208, 1, none⟩ = some (.int .i64 a0_1) := (blk_cell BK208.out 1).trans rfl; have hcz42_2 : w41.cell? ⟨gb208, 2, none⟩ = some (.int .i64 a0_2) := (blk_cell BK208.out 2).trans rfl; have hcz42_3 : w41.cell? ⟨gb208, 3, none⟩ = some (.string a0_3) := (blk_cell BK208.out 3).trans rfl; have hcz42_4 : w41.cell? ⟨gb208, 4, none⟩ = some (.slice A0_4 l0_4.length c0_4) := (blk_cell BK208.out 4).trans rfl; have hcz42_5 : w41.cell? ⟨gb208, 5, none⟩ = some (.string a0_5) := (blk_cell BK208.out 5).trans rfl; have hcz42_6 : w41.cell? ⟨gb208, 6, none⟩ = some (.string a0_6) := (blk_cell BK208.out 6).trans rfl; have hcz42_7 : w41.cell? ⟨gb208, 7, none⟩ = some (.slice A0_7 l0_7.length c0_7) := (blk_cell BK208.out 7).trans rfl; have hfz42_0 := blk_frozen BK208.out 0; have hfz42_1 := blk_frozen BK208.out 1; have hfz42_2 := blk_frozen BK208.out 2; have hfz42_3 := blk_frozen BK208.out 3; have hfz42_4 := blk_frozen BK208.out 4; have hfz42_5 := blk_frozen BK208.out 5; have hfz42_6 := blk_frozen BK208.out 6; have hfz42_7 := blk_frozen BK208.out 7) | (go_at_call 67; (with_reducible refine (impl_valueHas.calls kj14 a0_1 a0_2 a0_3 _ _ l0_4 5 true _ ?side1 ?side2 A38.out).mono ?_); (case side1 => exact rdb_ HR0_4); (case side2 => exact HC0_4.out); rintro e w43 ⟨rfl, hb⟩; have n0_ := bb_ BK208 hb; have n1_ := bs_ hb; clear BK208; clear HB; have BK208 := n0_; have HB := n1_; clear n0_ n1_; (try clear hb); (try clear hb2); (try clear hk); (try clear hi))))
                  go_ret
                  exact re_
                replace c39 := Bool.eq_false_iff.mpr c39
                subst c39
                have H1 : ((impl_valueHas.f kj14 a0_1 a0_2 a0_3 l0_4 6).bind fun t215 => (some (!t215))) = some r := by rw [if_neg (show ¬ (false = true) by decide)] at H; exact H
                clear H
                have H := H1
                clear H1
                replace H := Option.bind_eq_some_iff.mp H
                obtain ⟨t215, A440, H⟩ := H
                replace H : (some (!t215)) = some r := H
                have A44 := Aside0.mk A440
                clear A440
                obtain rfl := Option.some.inj H
                obtain ⟨hcz45_0, hcz45_1, hcz45_2, hcz45_3, hcz45_4, hcz45_5, hcz45_6, hcz45_7, hfz45_0, hfz45_1, hfz45_2, hfz45_3, hfz45_4, hfz45_5, hfz45_6, hfz45_7⟩ := blk8 BK208
                go_wp2_with (first | (go_at_call 20; (with_reducible refine (impl_ValueOk.calls kj14 a0_1 a0_2 a0_3 _ _ l0_4 true _ ?side1 ?side2 A36.out).mono ?_); (case side1 => exact rdb_ HR0_4); (case side2 => exact HC0_4.out); rintro e w46 ⟨rfl, hb⟩; replace BK208 := bb_ BK208 hb; replace HB := bs_ hb; (try clear hb); (try clear hb2); (try clear hk); (try clear hi); obtain ⟨hcz47_0, hcz47_1, hcz47_2, hcz47_3, hcz47_4, hcz47_5, hcz47_6, hcz47_7, hfz47_0, hfz47_1, hfz47_2, hfz47_3, hfz47_4, hfz47_5, hfz47_6, hfz47_7⟩ := blk8 BK208) | (go_at_call 67; (with_reducible refine (impl_valueHas.calls kj14 a0_1 a0_2 a0_3 _ _ l0_4 5 false _ ?side1 ?side2 A38.out).mono ?_); (case side1 => exact rdb_ HR0_4); (case side2 => exact HC0_4.out); rintro e w48 ⟨rfl, hb⟩; replace BK208 := bb_ BK208 hb; replace HB := bs_ hb; (try clear hb); (try clear hb2); (try clear hk); (try clear hi); obtain ⟨hcz49_0, hcz49_1, hcz49_2, hcz49_3, hcz49_4, hcz49_5, hcz49_6, hcz49_7, hfz49_0, hfz49_1, hfz49_2, hfz49_3, hfz49_4, hfz49_5, hfz49_6, hfz49_7⟩ := blk8 BK208) | (go_at_call 67; (with_reducible refine (impl_valueHas.calls kj14 a0_1 a0_2 a0_3 _ _ l0_4 6 t215 _ ?side1 ?side2 A44.out).mono ?_); (case side1 => exact rdb_ HR0_4); (case side2 => exact HC0_4.out); rintro e w50 ⟨rfl, hb⟩; replace BK208 := bb_ BK208 hb; replace HB := bs_ hb; (try clear hb); (try clear hb2); (try clear hk); (try clear hi)))
                repeat (go_quiet (first | (go_at_call 20; (with_reducible refine (impl_ValueOk.calls kj14 a0_1 a0_2 a0_3 _ _ l0_4 true _ ?side1 ?side2 A36.out).mono ?_); (case side1 => exact rdb_ HR0_4); (case side2 => exact HC0_4.out); rintro e w46 ⟨rfl, hb⟩; have n0_ := bb_ BK208 hb; have n1_ := bs_ hb; clear BK208; clear HB; have BK208 := n0_; have HB := n1_; clear n0_ n1_; (try clear hb); (try clear hb2); (try clear hk); (try clear hi); have hcz47_0 : w46.cell? ⟨gb208, 0, none⟩ = some (.int .i64 a0_0) := (blk_cell BK208.out 0).trans rfl; have hcz47_1 : w46.cell? ⟨gb208, 1, none⟩ = some (.int .i64 a0_1) := (blk_cell BK208.out 1).trans rfl; have hcz47_2 : w46.cell? ⟨gb208, 2, none⟩ = some (.int .i64 a0_2) := (blk_cell BK208.out 2).trans rfl; have hcz47_3 : w46.cell? ⟨gb208, 3, none⟩ = some (.string a0_3) := (blk_cell BK208.out 3).trans rfl; have hcz47_4 : w46.cell? ⟨gb208, 4, none⟩ = some (.slice A0_4 l0_4.length c0_4) := (blk_cell BK208.out 4).trans rfl; have hcz47_5 : w46.cell? ⟨gb208, 5, none⟩ = some (.string a0_5) := (blk_cell BK208.out 5).trans rfl; have hcz47_6 : w46.cell? ⟨gb208, 6, none⟩ = some (.string a0_6) := (blk_cell BK208.out 6).trans rfl; have hcz47_7 : w46.cell? ⟨gb208, 7, none⟩ = some (.slice A0_7 l0_7.length c0_7) := (blk_cell BK208.out 7).trans rfl; have hfz47_0 := blk_frozen BK208.out 0; have hfz47_1 := blk_frozen BK208.out 1; have hfz47_2 := blk_frozen BK208.out 2; have hfz47_3 := blk_frozen BK208.out 3; have hfz47_4 := blk_frozen BK208.out 4; have hfz47_5 := blk_frozen BK208.out 5; have hfz47_6 := blk_frozen BK208.out 6; have hfz47_7 := blk_frozen BK208.out 7) | (go_at_call 67; (with_reducible refine (impl_valueHas.calls kj14 a0_1 a0_2 a0_3 _ _ l0_4 5 false _ ?side1 ?side2 A38.out).mono ?_); (case side1 => exact rdb_ HR0_4); (case side2 => exact HC0_4.out); rintro e w48 ⟨rfl, hb⟩; have n0_ := bb_ BK208 hb; have n1_ := bs_ hb; clear BK208; clear HB; have BK208 := n0_; have HB := n1_; clear n0_ n1_; (try clear hb); (try clear hb2); (try clear hk); (try clear hi); have hcz49_0 : w48.cell? ⟨gb208, 0, none⟩ = some (.int .i64 a0_0) := (blk_cell BK208.out 0).trans rfl; have hcz49_1 : w48.cell? ⟨gb208, 1, none⟩ = some (.int .i64 a0_1) := (blk_cell BK208.out 1).trans rfl; have hcz49_2 : w48.cell? ⟨gb208, 2, none⟩ = some (.int .i64 a0_2) := (blk_cell BK208.out 2).trans rfl; have hcz49_3 : w48.cell? ⟨gb208, 3, none⟩ = some (.string a0_3) := (blk_cell BK208.out 3).trans rfl; have hcz49_4 : w48.cell? ⟨gb208, 4, none⟩ = some (.slice A0_4 l0_4.length c0_4) := (blk_cell BK208.out 4).trans rfl; have hcz49_5 : w48.cell? ⟨gb208, 5, none⟩ = some (.string a0_5) := (blk_cell BK208.out 5).trans rfl; have hcz49_6 : w48.cell? ⟨gb208, 6, none⟩ = some (.string a0_6) := (blk_cell BK208.out 6).trans rfl; have hcz49_7 : w48.cell? ⟨gb208, 7, none⟩ = some (.slice A0_7 l0_7.length c0_7) := (blk_cell BK208.out 7).trans rfl; have hfz49_0 := blk_frozen BK208.out 0; have hfz49_1 := blk_frozen BK208.out 1; have hfz49_2 := blk_frozen BK208.out 2; have hfz49_3 := blk_frozen BK208.out 3; have hfz49_4 := blk_frozen BK208.out 4; have hfz49_5 := blk_frozen BK208.out 5; have hfz49_6 := blk_frozen BK208.out 6; have hfz49_7 := blk_frozen BK208.out 7) | (go_at_call 67; (with_reducible refine (impl_valueHas.calls kj14 a0_1 a0_2 a0_3 _ _ l0_4 6 t215 _ ?side1 ?side2 A44.out).mono ?_); (case side1 => exact rdb_ HR0_4); (case side2 => exact HC0_4.out); rintro e w50 ⟨rfl, hb⟩; have n0_ := bb_ BK208 hb; have n1_ := bs_ hb; clear BK208; clear HB; have BK208 := n0_; have HB := n1_; clear n0_ n1_; (try clear hb); (try clear hb2); (try clear hk); (try clear hi))); try go_wp2_with (first | (go_at_call 20; (with_reducible refine (impl_ValueOk.calls kj14 a0_1 a0_2 a0_3 _ _ l0_4 true _ ?side1 ?side2 A36.out).mono ?_); (case side1 => exact rdb_ HR0_4); (case side2 => exact HC0_4.out); rintro e w46 ⟨rfl, hb⟩; have n0_ := bb_ BK208 hb; have n1_ := bs_ hb; clear BK208; clear HB; have BK208 := n0_; have HB := n1_; clear n0_ n1_; (try clear hb); (try clear hb2); (try clear hk); (try clear hi); have hcz47_0 : w46.cell? ⟨gb208, 0, none⟩ = some (.int .i64 a0_0) := (blk_cell BK208.out 0).trans rfl; have hcz47_1 : w46.cell? ⟨gb208, 1, none⟩ = some (.int .i64 a0_1) := (blk_cell BK208.out 1).trans rfl; have hcz47_2 : w46.cell? ⟨gb208, 2, none⟩ = some (.int .i64 a0_2) := (blk_cell BK208.out 2).trans rfl; have hcz47_3 : w46.cell? ⟨gb208, 3, none⟩ = some (.string a0_3) := (blk_cell BK208.out 3).trans rfl; have hcz47_4 : w46.cell? ⟨gb208, 4, none⟩ = some (.slice A0_4 l0_4.length c0_4) := (blk_cell BK208.out 4).trans rfl; have hcz47_5 : w46.cell? ⟨gb208, 5, none⟩ = some (.string a0_5) := (blk_cell BK208.out 5).trans rfl; have hcz47_6 : w46.cell? ⟨gb208, 6, none⟩ = some (.string a0_6) := (blk_cell BK208.out 6).trans rfl; have hcz47_7 : w46.cell? ⟨gb208, 7, none⟩ = some (.slice A0_7 l0_7.length c0_7) := (blk_cell BK208.out 7).trans rfl; have hfz47_0 := blk_frozen BK208.out 0; have hfz47_1 := blk_frozen BK208.out 1; have hfz47_2 := blk_frozen BK208.out 2; have hfz47_3 := blk_frozen BK208.out 3; have hfz47_4 := blk_frozen BK208.out 4; have hfz47_5 := blk_frozen BK208.out 5; have hfz47_6 := blk_frozen BK208.out 6; have hfz47_7 := blk_frozen BK208.out 7) | (go_at_call 67; (with_reducible refine (impl_valueHas.calls kj14 a0_1 a0_2 a0_3 _ _ l0_4 5 false _ ?side1 ?side2 A38.out).mono ?_); (case side1 => exact rdb_ HR0_4); (case side2 => exact HC0_4.out); rintro e w48 ⟨rfl, hb⟩; have n0_ := bb_ BK208 hb; have n1_ := bs_ hb; clear BK208; clear HB; have BK208 := n0_; have HB := n1_; clear n0_ n1_; (try clear hb); (try clear hb2); (try clear hk); (try clear hi); have hcz49_0 : w48.cell? ⟨gb208, 0, none⟩ = some (.int .i64 a0_0) := (blk_cell BK208.out 0).trans rfl; have hcz49_1 : w48.cell? ⟨gb208, 1, none⟩ = some (.int .i64 a0_1) := (blk_cell BK208.out 1).trans rfl; have hcz49_2 : w48.cell? ⟨gb208, 2, none⟩ = some (.int .i64 a0_2) := (blk_cell BK208.out 2).trans rfl; have hcz49_3 : w48.cell? ⟨gb208, 3, none⟩ = some (.string a0_3) := (blk_cell BK208.out 3).trans rfl; have hcz49_4 : w48.cell? ⟨gb208, 4, none⟩ = some (.slice A0_4 l0_4.length c0_4) := (blk_cell BK208.out 4).trans rfl; have hcz49_5 : w48.cell? ⟨gb208, 5, none⟩ = some (.string a0_5) := (blk_cell BK208.out 5).trans rfl; have hcz49_6 : w48.cell? ⟨gb208, 6, none⟩ = some (.string a0_6) := (blk_cell BK208.out 6).trans rfl; have hcz49_7 : w48.cell? ⟨gb208, 7, none⟩ = some (.slice A0_7 l0_7.length c0_7) := (blk_cell BK208.out 7).trans rfl; have hfz49_0 := blk_frozen BK208.out 0; have hfz49_1 := blk_frozen BK208.out 1; have hfz49_2 := blk_frozen BK208.out 2; have hfz49_3 := blk_frozen BK208.out 3; have hfz49_4 := blk_frozen BK208.out 4; have hfz49_5 := blk_frozen BK208.out 5; have hfz49_6 := blk_frozen BK208.out 6; have hfz49_7 := blk_frozen BK208.out 7) | (go_at_call 67; (with_reducible refine (impl_valueHas.calls kj14 a0_1 a0_2 a0_3 _ _ l0_4 6 t215 _ ?side1 ?side2 A44.out).mono ?_); (case side1 => exact rdb_ HR0_4); (case side2 => exact HC0_4.out); rintro e w50 ⟨rfl, hb⟩; have n0_ := bb_ BK208 hb; have n1_ := bs_ hb; clear BK208; clear HB; have BK208 := n0_; have HB := n1_; clear n0_ n1_; (try clear hb); (try clear hb2); (try clear hk); (try clear hi))))
                go_ret
                exact re_
              rw [if_neg c35] at H
              have c35b0 : (a0_0 == 1) = false := beq_eq_false_iff_ne.mpr c35
              have c35b1 : (a0_0 != 1) = true := bne_iff_ne.mpr c35
              replace H := Option.bind_eq_some_iff.mp H
              obtain ⟨t216, A530, H⟩ := H
              replace H : (if t216 = true then (impl_exprFits.l0 kj14 a1 l0_7 (l0_7.length : Int) 0) else (some false)) = some r := H
              have A53 := Aside0.mk A530
              clear A530
              by_cases c54 : t216 = true
              rotate_left
              · replace c54 := Bool.eq_false_iff.mpr c54
                subst c54
                have H1 : (some false) = some r := by rw [if_neg (show ¬ (false = true) by decide)] at H; exact H
                clear H
                have H := H1
                clear H1
                obtain rfl := Option.some.inj H
                obtain ⟨hcz71_0, hcz71_1, hcz71_2, hcz71_3, hcz71_4, hcz71_5, hcz71_6, hcz71_7, hfz71_0, hfz71_1, hfz71_2, hfz71_3, hfz71_4, hfz71_5, hfz71_6, hfz71_7⟩ := blk8 BK208
                go_wp2_with (first | (go_at_call 68; (with_reducible refine (impl_valueEmpty.calls a0_1 a0_2 a0_3 _ _ l0_4 false _ ?side1 ?side2 A53.out).mono ?_); (case side1 => exact rdb_ HR0_4); (case side2 => exact HC0_4.out); rintro e w72 ⟨rfl, hb⟩; replace BK208 := bb_ BK208 hb; replace HB := bs_ hb; (try clear hb); (try clear hb2); (try clear hk); (try clear hi)))
                repeat (go_quiet (first | (go_at_call 68; (with_reducible refine (impl_valueEmpty.calls a0_1 a0_2 a0_3 _ _ l0_4 false _ ?side1 ?side2 A53.out).mono ?_); (case side1 => exact rdb_ HR0_4); (case side2 => exact HC0_4.out); rintro e w72 ⟨rfl, hb⟩; have n0_ := bb_ BK208 hb; have n1_ := bs_ hb; clear BK208; clear HB; have BK208 := n0_; have HB := n1_; clear n0_ n1_; (try clear hb); (try clear hb2); (try clear hk); (try clear hi))); try go_wp2_with (first | (go_at_call 68; (with_reducible refine (impl_valueEmpty.calls a0_1 a0_2 a0_3 _ _ l0_4 false _ ?side1 ?side2 A53.out).mono ?_); (case side1 => exact rdb_ HR0_4); (case side2 => exact HC0_4.out); rintro e w72 ⟨rfl, hb⟩; have n0_ := bb_ BK208 hb; have n1_ := bs_ hb; clear BK208; clear HB; have BK208 := n0_; have HB := n1_; clear n0_ n1_; (try clear hb); (try clear hb2); (try clear hk); (try clear hi))))
                go_ret
                exact re_
              subst c54
              have H1 : (impl_exprFits.l0 kj14 a1 l0_7 (l0_7.length : Int) 0) = some r := by rw [if_pos rfl] at H; exact H
              clear H
              have H := H1
              clear H1
              have H' := Aside0.mk H
              clear H
              obtain ⟨hcz55_0, hcz55_1, hcz55_2, hcz55_3, hcz55_4, hcz55_5, hcz55_6, hcz55_7, hfz55_0, hfz55_1, hfz55_2, hfz55_3, hfz55_4, hfz55_5, hfz55_6, hfz55_7⟩ := blk8 BK208
              go_wp2_with (first | (go_at_call 68; (with_reducible refine (impl_valueEmpty.calls a0_1 a0_2 a0_3 _ _ l0_4 true _ ?side1 ?side2 A53.out).mono ?_); (case side1 => exact rdb_ HR0_4); (case side2 => exact HC0_4.out); rintro e w56 ⟨rfl, hb⟩; replace BK208 := bb_ BK208 hb; replace HB := bs_ hb; (try clear hb); (try clear hb2); (try clear hk); (try clear hi); obtain ⟨hcz57_0, hcz57_1, hcz57_2, hcz57_3, hcz57_4, hcz57_5, hcz57_6, hcz57_7, hfz57_0, hfz57_1, hfz57_2, hfz57_3, hfz57_4, hfz57_5, hfz57_6, hfz57_7⟩ := blk8 BK208))
              repeat (go_quiet (first | (go_at_call 68; (with_reducible refine (impl_valueEmpty.calls a0_1 a0_2 a0_3 _ _ l0_4 true _ ?side1 ?side2 A53.out).mono ?_); (case side1 => exact rdb_ HR0_4); (case side2 => exact HC0_4.out); rintro e w56 ⟨rfl, hb⟩; have n0_ := bb_ BK208 hb; have n1_ := bs_ hb; clear BK208; clear HB; have BK208 := n0_; have HB := n1_; clear n0_ n1_; (try clear hb); (try clear hb2); (try clear hk); (try clear hi); have hcz57_0 : w56.cell? ⟨gb208, 0, none⟩ = some (.int .i64 a0_0) := (blk_cell BK208.out 0).trans rfl; have hcz57_1 : w56.cell? ⟨gb208, 1, none⟩ = some (.int .i64 a0_1) := (blk_cell BK208.out 1).trans rfl; have hcz57_2 : w56.cell? ⟨gb208, 2, none⟩ = some (.int .i64 a0_2) := (blk_cell BK208.out 2).trans rfl; have hcz57_3 : w56.cell? ⟨gb208, 3, none⟩ = some (.string a0_3) := (blk_cell BK208.out 3).trans rfl; have hcz57_4 : w56.cell? ⟨gb208, 4, none⟩ = some (.slice A0_4 l0_4.length c0_4) := (blk_cell BK208.out 4).trans rfl; have hcz57_5 : w56.cell? ⟨gb208, 5, none⟩ = some (.string a0_5) := (blk_cell BK208.out 5).trans rfl; have hcz57_6 : w56.cell? ⟨gb208, 6, none⟩ = some (.string a0_6) := (blk_cell BK208.out 6).trans rfl; have hcz57_7 : w56.cell? ⟨gb208, 7, none⟩ = some (.slice A0_7 l0_7.length c0_7) := (blk_cell BK208.out 7).trans rfl; have hfz57_0 := blk_frozen BK208.out 0; have hfz57_1 := blk_frozen BK208.out 1; have hfz57_2 := blk_frozen BK208.out 2; have hfz57_3 := blk_frozen BK208.out 3; have hfz57_4 := blk_frozen BK208.out 4; have hfz57_5 := blk_frozen BK208.out 5; have hfz57_6 := blk_frozen BK208.out 6; have hfz57_7 := blk_frozen BK208.out 7)); try go_wp2_with (first | (go_at_call 68; (with_reducible refine (impl_valueEmpty.calls a0_1 a0_2 a0_3 _ _ l0_4 true _ ?side1 ?side2 A53.out).mono ?_); (case side1 => exact rdb_ HR0_4); (case side2 => exact HC0_4.out); rintro e w56 ⟨rfl, hb⟩; have n0_ := bb_ BK208 hb; have n1_ := bs_ hb; clear BK208; clear HB; have BK208 := n0_; have HB := n1_; clear n0_ n1_; (try clear hb); (try clear hb2); (try clear hk); (try clear hi); have hcz57_0 : w56.cell? ⟨gb208, 0, none⟩ = some (.int .i64 a0_0) := (blk_cell BK208.out 0).trans rfl; have hcz57_1 : w56.cell? ⟨gb208, 1, none⟩ = some (.int .i64 a0_1) := (blk_cell BK208.out 1).trans rfl; have hcz57_2 : w56.cell? ⟨gb208, 2, none⟩ = some (.int .i64 a0_2) := (blk_cell BK208.out 2).trans rfl; have hcz57_3 : w56.cell? ⟨gb208, 3, none⟩ = some (.string a0_3) := (blk_cell BK208.out 3).trans rfl; have hcz57_4 : w56.cell? ⟨gb208, 4, none⟩ = some (.slice A0_4 l0_4.length c0_4) := (blk_cell BK208.out 4).trans rfl; have hcz57_5 : w56.cell? ⟨gb208, 5, none⟩ = some (.string a0_5) := (blk_cell BK208.out 5).trans rfl; have hcz57_6 : w56.cell? ⟨gb208, 6, none⟩ = some (.string a0_6) := (blk_cell BK208.out 6).trans rfl; have hcz57_7 : w56.cell? ⟨gb208, 7, none⟩ = some (.slice A0_7 l0_7.length c0_7) := (blk_cell BK208.out 7).trans rfl; have hfz57_0 := blk_frozen BK208.out 0; have hfz57_1 := blk_frozen BK208.out 1; have hfz57_2 := blk_frozen BK208.out 2; have hfz57_3 := blk_frozen BK208.out 3; have hfz57_4 := blk_frozen BK208.out 4; have hfz57_5 := blk_frozen BK208.out 5; have hfz57_6 := blk_frozen BK208.out 6; have hfz57_7 := blk_frozen BK208.out 7)))
              go_loopg [91] kj14 (fun kq v91 w' => ∃ (x91_4 : Int), v91 = .int .i64 x91_4 ∧ Aside0 (impl_exprFits.l0 kq a1 l0_7 (l0_7.length : Int) x91_4 = some r) ∧ Aside0 (kq ≤ kj14) ∧ Aside0 (w'.heap[gb208]? = some (.cells #[.int .i64 a0_0, .int .i64 a0_1, .int .i64 a0_2, .string a0_3, (.slice A0_4 l0_4.length c0_4), .string a0_5, .string a0_6, (.slice A0_7 l0_7.length c0_7)] 46 (0, 0))) ∧ Aside0 (Below w.heap.size w w'))
              case atStart => exact ⟨(0), sm_, H', ⟨Nat.le_refl _⟩, ⟨by (with_reducible repeat (first | refine blk_drewN ?_ _ | refine blk_drew ?_ | refine blk_alloc ?_ _)); exact BK208.out⟩, ⟨bel_⟩⟩
              case round =>
                clear H'
                try clear c1
                try clear c2
                try clear p2
                try clear c3
                try clear c4
                try clear c5
                try clear c5b0
                try clear c8
                try clear c10
                try clear c10b0
                try clear c10b1
                try clear c12
                try clear c12b0
                try clear c12b1
                try clear c17
                try clear c17b0
                try clear c17b1
                try clear c17b2
                try clear c19
                try clear c21
                try clear c21b0
                try clear c21b1
                try clear c21b2
                try clear c23
                try clear c26
                try clear c26b0
                try clear c26b1
                try clear c28
                try clear c28b0
                try clear c28b1
                try clear c28b2
                try clear c30
                try clear c34
                try clear c35
                try clear c35b0
                try clear c35b1
                try clear c37
                try clear c39
                try clear c54
                try clear hcz11_0
                try clear hcz11_1
                try clear hcz11_2
                try clear hcz11_3
                try clear hcz11_4
                try clear hcz11_5
                try clear hcz11_6
                try clear hcz11_7
                try clear hcz13_0
                try clear hcz13_1
                try clear hcz13_2
                try clear hcz13_3
                try clear hcz13_4
                try clear hcz13_5
                try clear hcz13_6
                try clear hcz13_7
                try clear hcz14_0
                try clear hcz14_1
                try clear hcz14_2
                try clear hcz14_3
                try clear hcz14_4
                try clear hcz14_5
                try clear hcz14_6
                try clear hcz14_7
                try clear hcz18_0
                try clear hcz18_1
                try clear hcz18_2
                try clear hcz18_3
                try clear hcz18_4
                try clear hcz18_5
                try clear hcz18_6
                try clear hcz18_7
                try clear hcz22_0
                try clear hcz22_1
                try clear hcz22_2
                try clear hcz22_3
                try clear hcz22_4
                try clear hcz22_5
                try clear hcz22_6
                try clear hcz22_7
                try clear hcz24_0
                try clear hcz24_1
                try clear hcz24_2
                try clear hcz24_3
                try clear hcz24_4
                try clear hcz24_5
                try clear hcz24_6
                try clear hcz24_7
                try clear hcz25_0
                try clear hcz25_1
                try clear hcz25_2
                try clear hcz25_3
                try clear hcz25_4
                try clear hcz25_5
                try clear hcz25_6
                try clear hcz25_7
                try clear hcz29_0
                try clear hcz29_1
                try clear hcz29_2
                try clear hcz29_3
                try clear hcz29_4
                try clear hcz29_5
                try clear hcz29_6
                try clear hcz29_7
                try clear hcz31_0
                try clear hcz31_1
                try clear hcz31_2
                try clear hcz31_3
                try clear hcz31_4
                try clear hcz31_5
                try clear hcz31_6
                try clear hcz31_7
                try clear hcz32_0
                try clear hcz32_1
                try clear hcz32_2
                try clear hcz32_3
                try clear hcz32_4
                try clear hcz32_5
                try clear hcz32_6
                try clear hcz32_7
                try clear hcz33_0
                try clear hcz33_1
                try clear hcz33_2
                try clear hcz33_3
                try clear hcz33_4
                try clear hcz33_5
                try clear hcz33_6
                try clear hcz33_7
                try clear hcz40_0
                try clear hcz40_1
                try clear hcz40_2
                try clear hcz40_3
                try clear hcz40_4
                try clear hcz40_5
                try clear hcz40_6
                try clear hcz40_7
                try clear hcz42_0
                try clear hcz42_1
                try clear hcz42_2
                try clear hcz42_3
                try clear hcz42_4
                try clear hcz42_5
                try clear hcz42_6
                try clear hcz42_7
                try clear hcz45_0
                try clear hcz45_1
                try clear hcz45_2
                try clear hcz45_3
                try clear hcz45_4
                try clear hcz45_5
                try clear hcz45_6
                try clear hcz45_7
                try clear hcz47_0
                try clear hcz47_1
                try clear hcz47_2
                try clear hcz47_3
                try clear hcz47_4
                try clear hcz47_5
                try clear hcz47_6
                try clear hcz47_7
                try clear hcz49_0
                try clear hcz49_1
                try clear hcz49_2
                try clear hcz49_3
                try clear hcz49_4
                try clear hcz49_5
                try clear hcz49_6
                try clear hcz49_7
                try clear hcz51_0
                try clear hcz51_1
                try clear hcz51_2
                try clear hcz51_3
                try clear hcz51_4
                try clear hcz51_5
                try clear hcz51_6
                try clear hcz51_7
                try clear hcz55_0
                try clear hcz55_1
                try clear hcz55_2
                try clear hcz55_3
                try clear hcz55_4
                try clear hcz55_5
                try clear hcz55_6
                try clear hcz55_7
                try clear hcz57_0
                try clear hcz57_1
                try clear hcz57_2
                try clear hcz57_3
                try clear hcz57_4
                try clear hcz57_5
                try clear hcz57_6
                try clear hcz57_7
                try clear hcz7_0
                try clear hcz7_1
                try clear hcz7_2
                try clear hcz7_3
                try clear hcz7_4
                try clear hcz7_5
                try clear hcz7_6
                try clear hcz7_7
                try clear hfz11_0
                try clear hfz11_1
                try clear hfz11_2
                try clear hfz11_3
                try clear hfz11_4
                try clear hfz11_5
                try clear hfz11_6
                try clear hfz11_7
                try clear hfz13_0
                try clear hfz13_1
                try clear hfz13_2
                try clear hfz13_3
                try clear hfz13_4
                try clear hfz13_5
                try clear hfz13_6
                try clear hfz13_7
                try clear hfz14_0
                try clear hfz14_1
                try clear hfz14_2
                try clear hfz14_3
                try clear hfz14_4
                try clear hfz14_5
                try clear hfz14_6
                try clear hfz14_7
                try clear hfz18_0
                try clear hfz18_1
                try clear hfz18_2
                try clear hfz18_3
                try clear hfz18_4
                try clear hfz18_5
                try clear hfz18_6
                try clear hfz18_7
                try clear hfz22_0
                try clear hfz22_1
                try clear hfz22_2
                try clear hfz22_3
                try clear hfz22_4
                try clear hfz22_5
                try clear hfz22_6
                try clear hfz22_7
                try clear hfz24_0
                try clear hfz24_1
                try clear hfz24_2
                try clear hfz24_3
                try clear hfz24_4
                try clear hfz24_5
                try clear hfz24_6
                try clear hfz24_7
                try clear hfz25_0
                try clear hfz25_1
                try clear hfz25_2
                try clear hfz25_3
                try clear hfz25_4
                try clear hfz25_5
                try clear hfz25_6
                try clear hfz25_7
                try clear hfz29_0
                try clear hfz29_1
                try clear hfz29_2
                try clear hfz29_3
                try clear hfz29_4
                try clear hfz29_5
                try clear hfz29_6
                try clear hfz29_7
                try clear hfz31_0
                try clear hfz31_1
                try clear hfz31_2
                try clear hfz31_3
                try clear hfz31_4
                try clear hfz31_5
                try clear hfz31_6
                try clear hfz31_7
                try clear hfz32_0
                try clear hfz32_1
                try clear hfz32_2
                try clear hfz32_3
                try clear hfz32_4
                try clear hfz32_5
                try clear hfz32_6
                try clear hfz32_7
                try clear hfz33_0
                try clear hfz33_1
                try clear hfz33_2
                try clear hfz33_3
                try clear hfz33_4
                try clear hfz33_5
                try clear hfz33_6
                try clear hfz33_7
                try clear hfz40_0
                try clear hfz40_1
                try clear hfz40_2
                try clear hfz40_3
                try clear hfz40_4
                try clear hfz40_5
                try clear hfz40_6
                try clear hfz40_7
                try clear hfz42_0
                try clear hfz42_1
                try clear hfz42_2
                try clear hfz42_3
                try clear hfz42_4
                try clear hfz42_5
                try clear hfz42_6
                try clear hfz42_7
                try clear hfz45_0
                try clear hfz45_1
                try clear hfz45_2
                try clear hfz45_3
                try clear hfz45_4
                try clear hfz45_5
                try clear hfz45_6
                try clear hfz45_7
                try clear hfz47_0
                try clear hfz47_1
                try clear hfz47_2
                try clear hfz47_3
                try clear hfz47_4
                try clear hfz47_5
                try clear hfz47_6
                try clear hfz47_7
                try clear hfz49_0
                try clear hfz49_1
                try clear hfz49_2
                try clear hfz49_3
                try clear hfz49_4
                try clear hfz49_5
                try clear hfz49_6
                try clear hfz49_7
                try clear hfz51_0
                try clear hfz51_1
                try clear hfz51_2
                try clear hfz51_3
                try clear hfz51_4
                try clear hfz51_5
                try clear hfz51_6
                try clear hfz51_7
                try clear hfz55_0
                try clear hfz55_1
                try clear hfz55_2
                try clear hfz55_3
                try clear hfz55_4
                try clear hfz55_5
                try clear hfz55_6
                try clear hfz55_7
                try clear hfz57_0
                try clear hfz57_1
                try clear hfz57_2
                try clear hfz57_3
                try clear hfz57_4
                try clear hfz57_5
                try clear hfz57_6
                try clear hfz57_7
                try clear hfz7_0
                try clear hfz7_1
                try clear hfz7_2
                try clear hfz7_3
                try clear hfz7_4
                try clear hfz7_5
                try clear hfz7_6
                try clear hfz7_7
                try clear p2
                obtain ⟨x91_4, rfl, HA, HK4, BK208, HB⟩ := hrel
                cases gk with
                | zero => exact absurd HA.out (by simp [impl_exprFits.l0])
                | succ k4 =>
                  have H := HA.out
                  clear HA
                  simp only [impl_exprFits.l0] at H
                  by_cases c58 : x91_4 < (l0_7.length : Int)
                  rotate_left
                  · rw [if_neg c58] at H
                    have c58b0 : decide (x91_4 < (l0_7.length : Int)) = false := decide_eq_false c58
                    clear c58
                    obtain rfl := Option.some.inj H
                    go_wp2
                    repeat (go_quiet (fail); try go_wp2)
                    go_ret
                    exact re_
                  rw [if_pos c58] at H
                  have c58b0 : decide (x91_4 < (l0_7.length : Int)) = true := decide_eq_true c58
                  clear c58
                  by_cases c59 : 0 ≤ x91_4
                  rotate_left
                  · rw [if_neg c59] at H
                    exact absurd H (by simp)
                  rw [if_pos c59] at H
                  have c59b0 : decide (0 ≤ x91_4) = true := decide_eq_true c59
                  clear c59
                  by_cases c60 : x91_4 < (l0_7.length : Int)
                  rotate_left
                  · rw [if_neg c60] at H
                    exact absurd H (by simp)
                  rw [if_pos c60] at H
                  have c60b0 : decide (x91_4 < (l0_7.length : Int)) = true := decide_eq_true c60
                  clear c60
                  replace H := Option.bind_eq_some_iff.mp H
                  obtain ⟨t219, A610, H⟩ := H
                  replace H : (if t219 = true then (impl_exprFits.l0 k4 a1 l0_7 (l0_7.length : Int) (wrap64 (x91_4 + 1))) else (some false)) = some r := H
                  have A61 := Aside0.mk A610
                  clear A610
                  by_cases c62 : t219 = true
                  · subst c62
                    have H1 : (impl_exprFits.l0 k4 a1 l0_7 (l0_7.length : Int) (wrap64 (x91_4 + 1))) = some r := by rw [if_pos rfl] at H; exact H
                    clear H
                    have H := H1
                    clear H1
                    have H' := Aside0.mk H
                    clear H
                    have p217 : 0 ≤ (x91_4 : Int) := od_
                    have q217 : x91_4 < (l0_7.length : Int) := od_
                    obtain ⟨ad217, A217_4, c217_4, A217_7, c217_7, e217, hx217_0, hx217_1, hx217_2, hx217_3, hx217_4, hx217_5, hx217_6, hx217_7, hl217_4, hi217_4, hl217_7, hi217_7⟩ := at_T46 HR0_7.out x91_4 p217 q217
                    cases e217
                    replace hx217_0 := mv_ HB hx217_0
                    replace hx217_1 := mv_ HB hx217_1
                    replace hx217_2 := mv_ HB hx217_2
                    replace hx217_3 := mv_ HB hx217_3
                    replace hx217_4 := mv_ HB hx217_4
                    replace hx217_5 := mv_ HB hx217_5
                    replace hx217_6 := mv_ HB hx217_6
                    replace hx217_7 := mv_ HB hx217_7
                    have HR217_4 := Aside0.mk hi217_4
                    have HC217_4 := Aside0.mk hl217_4
                    clear hi217_4 hl217_4
                    have HR217_7 := Aside0.mk hi217_7
                    have HC217_7 := Aside0.mk hl217_7
                    clear hi217_7 hl217_7
                    replace p217 := eq_true p217
                    replace q217 := eq_true q217
                    go_wp2_with (first | ((with_reducible refine gate_dst (N := 8) rfl ?_); (try (refine gate_guard (by rfl) ?_; dsimp only)); refine box_event ?hg (N := 8) ?hd (cs := #[.int .i64 0, .int .i64 0, .int .i64 0, .string (⟨#[]⟩ : ByteArray), .slice none 0 0, .string (⟨#[]⟩ : ByteArray), .string (⟨#[]⟩ : ByteArray), .slice none 0 0]) (t := 46) ?hr ?_; (case hd => rfl); (case hg => rfl); (case hr => first | (go_simp; done) | (go_simp; rfl)); intro gb218 hg w63 hbox hb; have BK218 := Aside0.mk (hbox); have GW218 := gw_ hg; have GE218 := gw_ hg; have NB208_218 := nlt_ hg BK208; have NB218_208 := ngt_ hg BK208; replace BK208 := bb_ BK208 hb; replace HB := bs_ hb; clear hb hbox hg; have hnb64 := NB218_208.out; have hnc64 := NB208_218.out; obtain ⟨hcz65_0, hcz65_1, hcz65_2, hcz65_3, hcz65_4, hcz65_5, hcz65_6, hcz65_7, hfz65_0, hfz65_1, hfz65_2, hfz65_3, hfz65_4, hfz65_5, hfz65_6, hfz65_7⟩ := blk8 BK218) | (go_at_call 40; (with_reducible refine (ih k4 (by have := HJ2.out; have := HJ8.out; have := HJ14.out; have := HK4.out; omega) ((rd_T46 l0_7 x91_4).f0) ((rd_T46 l0_7 x91_4).f1.f0) ((rd_T46 l0_7 x91_4).f1.f1) ((rd_T46 l0_7 x91_4).f1.f2) _ _ ((rd_T46 l0_7 x91_4).f1.f3) ((rd_T46 l0_7 x91_4).f2) ((rd_T46 l0_7 x91_4).f3) _ _ ((rd_T46 l0_7 x91_4).f4) (wrap64 (a1 - 1)) true _ ?side1 ?side2 ?side3 ?side4 A61.out).mono ?_); (case side1 => exact Kd.C_below HR217_4.out (bel_)); (case side2 => exact HC217_4.out); (case side3 => exact Kd.C_below HR217_7.out (bel_)); (case side4 => exact HC217_7.out); rintro e w66 ⟨rfl, hb⟩; replace BK208 := Aside0.mk (blk_below (g := gb208) (o := .cells #[.int .i64 a0_0, .int .i64 a0_1, .int .i64 a0_2, .string a0_3, .slice A0_4 l0_4.length c0_4, .string a0_5, .string a0_6, .slice (some ad217) l0_7.length c0_7] 46 (0, 0)) (by (with_reducible repeat (first | refine blk_drewN ?_ _ | refine blk_drew ?_ | refine blk_alloc ?_ _)); refine blk_far ?_ NB208_218.out _; (with_reducible repeat (first | refine blk_drewN ?_ _ | refine blk_drew ?_ | refine blk_alloc ?_ _)); refine blk_far ?_ NB208_218.out _; (with_reducible repeat (first | refine blk_drewN ?_ _ | refine blk_drew ?_ | refine blk_alloc ?_ _)); refine blk_far ?_ NB208_218.out _; (with_reducible repeat (first | refine blk_drewN ?_ _ | refine blk_drew ?_ | refine blk_alloc ?_ _)); refine blk_far ?_ NB208_218.out _; (with_reducible repeat (first | refine blk_drewN ?_ _ | refine blk_drew ?_ | refine blk_alloc ?_ _)); refine blk_far ?_ NB208_218.out _; (with_reducible repeat (first | refine blk_drewN ?_ _ | refine blk_drew ?_ | refine blk_alloc ?_ _)); refine blk_far ?_ NB208_218.out _; (with_reducible repeat (first | refine blk_drewN ?_ _ | refine blk_drew ?_ | refine blk_alloc ?_ _)); refine blk_far ?_ NB208_218.out _; (with_reducible repeat (first | refine blk_drewN ?_ _ | refine blk_drew ?_ | refine blk_alloc ?_ _)); refine blk_far ?_ NB208_218.out _; (with_reducible repeat (first | refine blk_drewN ?_ _ | refine blk_drew ?_ | refine blk_alloc ?_ _)); exact BK208.out) hb); replace BK218 := Aside0.mk (blk_below (g := gb218) (o := .cells #[.int .i64 ((rd_T46 l0_7 x91_4).f0), .int .i64 ((rd_T46 l0_7 x91_4).f1.f0), .int .i64 ((rd_T46 l0_7 x91_4).f1.f1), .string ((rd_T46 l0_7 x91_4).f1.f2), .slice A217_4 ((rd_T46 l0_7 x91_4).f1.f3).length c217_4, .string ((rd_T46 l0_7 x91_4).f2), .string ((rd_T46 l0_7 x91_4).f3), .slice A217_7 ((rd_T46 l0_7 x91_4).f4).length c217_7] 46 (0, 0)) (by (with_reducible repeat (first | refine blk_drewN ?_ _ | refine blk_drew ?_ | refine blk_alloc ?_ _)); refine blk_put (cs := #[.int .i64 ((rd_T46 l0_7 x91_4).f0), .int .i64 ((rd_T46 l0_7 x91_4).f1.f0), .int .i64 ((rd_T46 l0_7 x91_4).f1.f1), .string ((rd_T46 l0_7 x91_4).f1.f2), .slice A217_4 ((rd_T46 l0_7 x91_4).f1.f3).length c217_4, .string ((rd_T46 l0_7 x91_4).f2), .string ((rd_T46 l0_7 x91_4).f3), .slice none 0 0]) ?_ 7 _ rfl; (with_reducible repeat (first | refine blk_drewN ?_ _ | refine blk_drew ?_ | refine blk_alloc ?_ _)); refine blk_put (cs := #[.int .i64 ((rd_T46 l0_7 x91_4).f0), .int .i64 ((rd_T46 l0_7 x91_4).f1.f0), .int .i64 ((rd_T46 l0_7 x91_4).f1.f1), .string ((rd_T46 l0_7 x91_4).f1.f2), .slice A217_4 ((rd_T46 l0_7 x91_4).f1.f3).length c217_4, .string ((rd_T46 l0_7 x91_4).f2), .string (⟨#[]⟩ : ByteArray), .slice none 0 0]) ?_ 6 _ rfl; (with_reducible repeat (first | refine blk_drewN ?_ _ | refine blk_drew ?_ | refine blk_alloc ?_ _)); refine blk_put (cs := #[.int .i64 ((rd_T46 l0_7 x91_4).f0), .int .i64 ((rd_T46 l0_7 x91_4).f1.f0), .int .i64 ((rd_T46 l0_7 x91_4).f1.f1), .string ((rd_T46 l0_7 x91_4).f1.f2), .slice A217_4 ((rd_T46 l0_7 x91_4).f1.f3).length c217_4, .string (⟨#[]⟩ : ByteArray), .string (⟨#[]⟩ : ByteArray), .slice none 0 0]) ?_ 5 _ rfl; (with_reducible repeat (first | refine blk_drewN ?_ _ | refine blk_drew ?_ | refine blk_alloc ?_ _)); refine blk_put (cs := #[.int .i64 ((rd_T46 l0_7 x91_4).f0), .int .i64 ((rd_T46 l0_7 x91_4).f1.f0), .int .i64 ((rd_T46 l0_7 x91_4).f1.f1), .string ((rd_T46 l0_7 x91_4).f1.f2), .slice none 0 0, .string (⟨#[]⟩ : ByteArray), .string (⟨#[]⟩ : ByteArray), .slice none 0 0]) ?_ 4 _ rfl; (with_reducible repeat (first | refine blk_drewN ?_ _ | refine blk_drew ?_ | refine blk_alloc ?_ _)); refine blk_put (cs := #[.int .i64 ((rd_T46 l0_7 x91_4).f0), .int .i64 ((rd_T46 l0_7 x91_4).f1.f0), .int .i64 ((rd_T46 l0_7 x91_4).f1.f1), .string (⟨#[]⟩ : ByteArray), .slice none 0 0, .string (⟨#[]⟩ : ByteArray), .string (⟨#[]⟩ : ByteArray), .slice none 0 0]) ?_ 3 _ rfl; (with_reducible repeat (first | refine blk_drewN ?_ _ | refine blk_drew ?_ | refine blk_alloc ?_ _)); refine blk_put (cs := #[.int .i64 ((rd_T46 l0_7 x91_4).f0), .int .i64 ((rd_T46 l0_7 x91_4).f1.f0), .int .i64 0, .string (⟨#[]⟩ : ByteArray), .slice none 0 0, .string (⟨#[]⟩ : ByteArray), .string (⟨#[]⟩ : ByteArray), .slice none 0 0]) ?_ 2 _ rfl; (with_reducible repeat (first | refine blk_drewN ?_ _ | refine blk_drew ?_ | refine blk_alloc ?_ _)); refine blk_put (cs := #[.int .i64 ((rd_T46 l0_7 x91_4).f0), .int .i64 0, .int .i64 0, .string (⟨#[]⟩ : ByteArray), .slice none 0 0, .string (⟨#[]⟩ : ByteArray), .string (⟨#[]⟩ : ByteArray), .slice none 0 0]) ?_ 1 _ rfl; (with_reducible repeat (first | refine blk_drewN ?_ _ | refine blk_drew ?_ | refine blk_alloc ?_ _)); refine blk_put (cs := #[.int .i64 0, .int .i64 0, .int .i64 0, .string (⟨#[]⟩ : ByteArray), .slice none 0 0, .string (⟨#[]⟩ : ByteArray), .string (⟨#[]⟩ : ByteArray), .slice none 0 0]) ?_ 0 _ rfl; (with_reducible repeat (first | refine blk_drewN ?_ _ | refine blk_drew ?_ | refine blk_alloc ?_ _)); exact BK218.out) hb); replace HB := bs_ hb; (try clear hb); (try clear hb2); (try clear hk); (try clear hi)))
                    repeat (go_quiet (first | ((with_reducible refine gate_dst (N := 8) rfl ?_); (try (refine gate_guard (by rfl) ?_; dsimp only)); refine box_event ?hg (N := 8) ?hd (cs := #[.int .i64 0, .int .i64 0, .int .i64 0, .string (⟨#[]⟩ : ByteArray), .slice none 0 0, .string (⟨#[]⟩ : ByteArray), .string (⟨#[]⟩ : ByteArray), .slice none 0 0]) (t := 46) ?hr ?_; (case hd => rfl); (case hg => rfl); (case hr => first | (go_simp; done) | (go_simp; rfl)); intro gb218 hg w63 hbox hb; have n0_ := bb_ BK208 hb; have n1_ := bs_ hb; have n2_ := Aside0.mk (hbox); have n3_ := gw_ hg; have n4_ := gw_ hg; have n5_ := nlt_ hg BK208; have n6_ := ngt_ hg BK208; clear BK208; clear HB; have BK208 := n0_; have HB := n1_; have BK218 := n2_; have GW218 := n3_; have GE218 := n4_; have NB208_218 := n5_; have NB218_208 := n6_; clear n0_ n1_ n2_ n3_ n4_ n5_ n6_; clear hb hbox hg; have hnb64 := NB218_208.out; have hnc64 := NB208_218.out; have hcz65_0 : w63.cell? ⟨gb218, 0, none⟩ = some (.int .i64 0) := (blk_cell BK218.out 0).trans rfl; have hcz65_1 : w63.cell? ⟨gb218, 1, none⟩ = some (.int .i64 0) := (blk_cell BK218.out 1).trans rfl; have hcz65_2 : w63.cell? ⟨gb218, 2, none⟩ = some (.int .i64 0) := (blk_cell BK218.out 2).trans rfl; have hcz65_3 : w63.cell? ⟨gb218, 3, none⟩ = some (.string (⟨#[]⟩ : ByteArray)) := (blk_cell BK218.out 3).trans rfl; have hcz65_4 : w63.cell? ⟨gb218, 4, none⟩ = some (.slice none 0 0) := (blk_cell BK218.out 4).trans rfl; have hcz65_5 : w63.cell? ⟨gb218, 5, none⟩ = some (.string (⟨#[]⟩ : ByteArray)) := (blk_cell BK218.out 5).trans rfl; have hcz65_6 : w63.cell? ⟨gb218, 6, none⟩ = some (.string (⟨#[]⟩ : ByteArray)) := (blk_cell BK218.out 6).trans rfl; have hcz65_7 : w63.cell? ⟨gb218, 7, none⟩ = some (.slice none 0 0) := (blk_cell BK218.out 7).trans rfl; have hfz65_0 := blk_frozen BK218.out 0; have hfz65_1 := blk_frozen BK218.out 1; have hfz65_2 := blk_frozen BK218.out 2; have hfz65_3 := blk_frozen BK218.out 3; have hfz65_4 := blk_frozen BK218.out 4; have hfz65_5 := blk_frozen BK218.out 5; have hfz65_6 := blk_frozen BK218.out 6; have hfz65_7 := blk_frozen BK218.out 7) | (go_at_call 40; (with_reducible refine (ih k4 (by have := HJ2.out; have := HJ8.out; have := HJ14.out; have := HK4.out; omega) ((rd_T46 l0_7 x91_4).f0) ((rd_T46 l0_7 x91_4).f1.f0) ((rd_T46 l0_7 x91_4).f1.f1) ((rd_T46 l0_7 x91_4).f1.f2) _ _ ((rd_T46 l0_7 x91_4).f1.f3) ((rd_T46 l0_7 x91_4).f2) ((rd_T46 l0_7 x91_4).f3) _ _ ((rd_T46 l0_7 x91_4).f4) (wrap64 (a1 - 1)) true _ ?side1 ?side2 ?side3 ?side4 A61.out).mono ?_); (case side1 => exact Kd.C_below HR217_4.out (bel_)); (case side2 => exact HC217_4.out); (case side3 => exact Kd.C_below HR217_7.out (bel_)); (case side4 => exact HC217_7.out); rintro e w66 ⟨rfl, hb⟩; have n0_ := Aside0.mk (blk_below (g := gb208) (o := .cells #[.int .i64 a0_0, .int .i64 a0_1, .int .i64 a0_2, .string a0_3, .slice A0_4 l0_4.length c0_4, .string a0_5, .string a0_6, .slice (some ad217) l0_7.length c0_7] 46 (0, 0)) (by (with_reducible repeat (first | refine blk_drewN ?_ _ | refine blk_drew ?_ | refine blk_alloc ?_ _)); refine blk_far ?_ NB208_218.out _; (with_reducible repeat (first | refine blk_drewN ?_ _ | refine blk_drew ?_ | refine blk_alloc ?_ _)); refine blk_far ?_ NB208_218.out _; (with_reducible repeat (first | refine blk_drewN ?_ _ | refine blk_drew ?_ | refine blk_alloc ?_ _)); refine blk_far ?_ NB208_218.out _; (with_reducible repeat (first | refine blk_drewN ?_ _ | refine blk_drew ?_ | refine blk_alloc ?_ _)); refine blk_far ?_ NB208_218.out _; (with_reducible repeat (first | refine blk_drewN ?_ _ | refine blk_drew ?_ | refine blk_alloc ?_ _)); refine blk_far ?_ NB208_218.out _; (with_reducible repeat (first | refine blk_drewN ?_ _ | refine blk_drew ?_ | refine blk_alloc ?_ _)); refine blk_far ?_ NB208_218.out _; (with_reducible repeat (first | refine blk_drewN ?_ _ | refine blk_drew ?_ | refine blk_alloc ?_ _)); refine blk_far ?_ NB208_218.out _; (with_reducible repeat (first | refine blk_drewN ?_ _ | refine blk_drew ?_ | refine blk_alloc ?_ _)); refine blk_far ?_ NB208_218.out _; (with_reducible repeat (first | refine blk_drewN ?_ _ | refine blk_drew ?_ | refine blk_alloc ?_ _)); exact BK208.out) hb); have n1_ := Aside0.mk (blk_below (g := gb218) (o := .cells #[.int .i64 ((rd_T46 l0_7 x91_4).f0), .int .i64 ((rd_T46 l0_7 x91_4).f1.f0), .int .i64 ((rd_T46 l0_7 x91_4).f1.f1), .string ((rd_T46 l0_7 x91_4).f1.f2), .slice A217_4 ((rd_T46 l0_7 x91_4).f1.f3).length c217_4, .string ((rd_T46 l0_7 x91_4).f2), .string ((rd_T46 l0_7 x91_4).f3), .slice A217_7 ((rd_T46 l0_7 x91_4).f4).length c217_7] 46 (0, 0)) (by (with_reducible repeat (first | refine blk_drewN ?_ _ | refine blk_drew ?_ | refine blk_alloc ?_ _)); refine blk_put (cs := #[.int .i64 ((rd_T46 l0_7 x91_4).f0), .int .i64 ((rd_T46 l0_7 x91_4).f1.f0), .int .i64 ((rd_T46 l0_7 x91_4).f1.f1), .string ((rd_T46 l0_7 x91_4).f1.f2), .slice A217_4 ((rd_T46 l0_7 x91_4).f1.f3).length c217_4, .string ((rd_T46 l0_7 x91_4).f2), .string ((rd_T46 l0_7 x91_4).f3), .slice none 0 0]) ?_ 7 _ rfl; (with_reducible repeat (first | refine blk_drewN ?_ _ | refine blk_drew ?_ | refine blk_alloc ?_ _)); refine blk_put (cs := #[.int .i64 ((rd_T46 l0_7 x91_4).f0), .int .i64 ((rd_T46 l0_7 x91_4).f1.f0), .int .i64 ((rd_T46 l0_7 x91_4).f1.f1), .string ((rd_T46 l0_7 x91_4).f1.f2), .slice A217_4 ((rd_T46 l0_7 x91_4).f1.f3).length c217_4, .string ((rd_T46 l0_7 x91_4).f2), .string (⟨#[]⟩ : ByteArray), .slice none 0 0]) ?_ 6 _ rfl; (with_reducible repeat (first | refine blk_drewN ?_ _ | refine blk_drew ?_ | refine blk_alloc ?_ _)); refine blk_put (cs := #[.int .i64 ((rd_T46 l0_7 x91_4).f0), .int .i64 ((rd_T46 l0_7 x91_4).f1.f0), .int .i64 ((rd_T46 l0_7 x91_4).f1.f1), .string ((rd_T46 l0_7 x91_4).f1.f2), .slice A217_4 ((rd_T46 l0_7 x91_4).f1.f3).length c217_4, .string (⟨#[]⟩ : ByteArray), .string (⟨#[]⟩ : ByteArray), .slice none 0 0]) ?_ 5 _ rfl; (with_reducible repeat (first | refine blk_drewN ?_ _ | refine blk_drew ?_ | refine blk_alloc ?_ _)); refine blk_put (cs := #[.int .i64 ((rd_T46 l0_7 x91_4).f0), .int .i64 ((rd_T46 l0_7 x91_4).f1.f0), .int .i64 ((rd_T46 l0_7 x91_4).f1.f1), .string ((rd_T46 l0_7 x91_4).f1.f2), .slice none 0 0, .string (⟨#[]⟩ : ByteArray), .string (⟨#[]⟩ : ByteArray), .slice none 0 0]) ?_ 4 _ rfl; (with_reducible repeat (first | refine blk_drewN ?_ _ | refine blk_drew ?_ | refine blk_alloc ?_ _)); refine blk_put (cs := #[.int .i64 ((rd_T46 l0_7 x91_4).f0), .int .i64 ((rd_T46 l0_7 x91_4).f1.f0), .int .i64 ((rd_T46 l0_7 x91_4).f1.f1), .string (⟨#[]⟩ : ByteArray), .slice none 0 0, .string (⟨#[]⟩ : ByteArray), .string (⟨#[]⟩ : ByteArray), .slice none 0 0]) ?_ 3 _ rfl; (with_reducible repeat (first | refine blk_drewN ?_ _ | refine blk_drew ?_ | refine blk_alloc ?_ _)); refine blk_put (cs := #[.int .i64 ((rd_T46 l0_7 x91_4).f0), .int .i64 ((rd_T46 l0_7 x91_4).f1.f0), .int .i64 0, .string (⟨#[]⟩ : ByteArray), .slice none 0 0, .string (⟨#[]⟩ : ByteArray), .string (⟨#[]⟩ : ByteArray), .slice none 0 0]) ?_ 2 _ rfl; (with_reducible repeat (first | refine blk_drewN ?_ _ | refine blk_drew ?_ | refine blk_alloc ?_ _)); refine blk_put (cs := #[.int .i64 ((rd_T46 l0_7 x91_4).f0), .int .i64 0, .int .i64 0, .string (⟨#[]⟩ : ByteArray), .slice none 0 0, .string (⟨#[]⟩ : ByteArray), .string (⟨#[]⟩ : ByteArray), .slice none 0 0]) ?_ 1 _ rfl; (with_reducible repeat (first | refine blk_drewN ?_ _ | refine blk_drew ?_ | refine blk_alloc ?_ _)); refine blk_put (cs := #[.int .i64 0, .int .i64 0, .int .i64 0, .string (⟨#[]⟩ : ByteArray), .slice none 0 0, .string (⟨#[]⟩ : ByteArray), .string (⟨#[]⟩ : ByteArray), .slice none 0 0]) ?_ 0 _ rfl; (with_reducible repeat (first | refine blk_drewN ?_ _ | refine blk_drew ?_ | refine blk_alloc ?_ _)); exact BK218.out) hb); have n2_ := bs_ hb; clear BK208; clear BK218; clear HB; have BK208 := n0_; have BK218 := n1_; have HB := n2_; clear n0_ n1_ n2_; (try clear hb); (try clear hb2); (try clear hk); (try clear hi))); try go_wp2_with (first | ((with_reducible refine gate_dst (N := 8) rfl ?_); (try (refine gate_guard (by rfl) ?_; dsimp only)); refine box_event ?hg (N := 8) ?hd (cs := #[.int .i64 0, .int .i64 0, .int .i64 0, .string (⟨#[]⟩ : ByteArray), .slice none 0 0, .string (⟨#[]⟩ : ByteArray), .string (⟨#[]⟩ : ByteArray), .slice none 0 0]) (t := 46) ?hr ?_; (case hd => rfl); (case hg => rfl); (case hr => first | (go_simp; done) | (go_simp; rfl)); intro gb218 hg w63 hbox hb; have n0_ := bb_ BK208 hb; have n1_ := bs_ hb; have n2_ := Aside0.mk (hbox); have n3_ := gw_ hg; have n4_ := gw_ hg; have n5_ := nlt_ hg BK208; have n6_ := ngt_ hg BK208; clear BK208; clear HB; have BK208 := n0_; have HB := n1_; have BK218 := n2_; have GW218 := n3_; have GE218 := n4_; have NB208_218 := n5_; have NB218_208 := n6_; clear n0_ n1_ n2_ n3_ n4_ n5_ n6_; clear hb hbox hg; have hnb64 := NB218_208.out; have hnc64 := NB208_218.out; have hcz65_0 : w63.cell? ⟨gb218, 0, none⟩ = some (.int .i64 0) := (blk_cell BK218.out 0).trans rfl; have hcz65_1 : w63.cell? ⟨gb218, 1, none⟩ = some (.int .i64 0) := (blk_cell BK218.out 1).trans rfl; have hcz65_2 : w63.cell? ⟨gb218, 2, none⟩ = some (.int .i64 0) := (blk_cell BK218.out 2).trans rfl; have hcz65_3 : w63.cell? ⟨gb218, 3, none⟩ = some (.string (⟨#[]⟩ : ByteArray)) := (blk_cell BK218.out 3).trans rfl; have hcz65_4 : w63.cell? ⟨gb218, 4, none⟩ = some (.slice none 0 0) := (blk_cell BK218.out 4).trans rfl; have hcz65_5 : w63.cell? ⟨gb218, 5, none⟩ = some (.string (⟨#[]⟩ : ByteArray)) := (blk_cell BK218.out 5).trans rfl; have hcz65_6 : w63.cell? ⟨gb218, 6, none⟩ = some (.string (⟨#[]⟩ : ByteArray)) := (blk_cell BK218.out 6).trans rfl; have hcz65_7 : w63.cell? ⟨gb218, 7, none⟩ = some (.slice none 0 0) := (blk_cell BK218.out 7).trans rfl; have hfz65_0 := blk_frozen BK218.out 0; have hfz65_1 := blk_frozen BK218.out 1; have hfz65_2 := blk_frozen BK218.out 2; have hfz65_3 := blk_frozen BK218.out 3; have hfz65_4 := blk_frozen BK218.out 4; have hfz65_5 := blk_frozen BK218.out 5; have hfz65_6 := blk_frozen BK218.out 6; have hfz65_7 := blk_frozen BK218.out 7) | (go_at_call 40; (with_reducible refine (ih k4 (by have := HJ2.out; have := HJ8.out; have := HJ14.out; have := HK4.out; omega) ((rd_T46 l0_7 x91_4).f0) ((rd_T46 l0_7 x91_4).f1.f0) ((rd_T46 l0_7 x91_4).f1.f1) ((rd_T46 l0_7 x91_4).f1.f2) _ _ ((rd_T46 l0_7 x91_4).f1.f3) ((rd_T46 l0_7 x91_4).f2) ((rd_T46 l0_7 x91_4).f3) _ _ ((rd_T46 l0_7 x91_4).f4) (wrap64 (a1 - 1)) true _ ?side1 ?side2 ?side3 ?side4 A61.out).mono ?_); (case side1 => exact Kd.C_below HR217_4.out (bel_)); (case side2 => exact HC217_4.out); (case side3 => exact Kd.C_below HR217_7.out (bel_)); (case side4 => exact HC217_7.out); rintro e w66 ⟨rfl, hb⟩; have n0_ := Aside0.mk (blk_below (g := gb208) (o := .cells #[.int .i64 a0_0, .int .i64 a0_1, .int .i64 a0_2, .string a0_3, .slice A0_4 l0_4.length c0_4, .string a0_5, .string a0_6, .slice (some ad217) l0_7.length c0_7] 46 (0, 0)) (by (with_reducible repeat (first | refine blk_drewN ?_ _ | refine blk_drew ?_ | refine blk_alloc ?_ _)); refine blk_far ?_ NB208_218.out _; (with_reducible repeat (first | refine blk_drewN ?_ _ | refine blk_drew ?_ | refine blk_alloc ?_ _)); refine blk_far ?_ NB208_218.out _; (with_reducible repeat (first | refine blk_drewN ?_ _ | refine blk_drew ?_ | refine blk_alloc ?_ _)); refine blk_far ?_ NB208_218.out _; (with_reducible repeat (first | refine blk_drewN ?_ _ | refine blk_drew ?_ | refine blk_alloc ?_ _)); refine blk_far ?_ NB208_218.out _; (with_reducible repeat (first | refine blk_drewN ?_ _ | refine blk_drew ?_ | refine blk_alloc ?_ _)); refine blk_far ?_ NB208_218.out _; (with_reducible repeat (first | refine blk_drewN ?_ _ | refine blk_drew ?_ | refine blk_alloc ?_ _)); refine blk_far ?_ NB208_218.out _; (with_reducible repeat (first | refine blk_drewN ?_ _ | refine blk_drew ?_ | refine blk_alloc ?_ _)); refine blk_far ?_ NB208_218.out _; (with_reducible repeat (first | refine blk_drewN ?_ _ | refine blk_drew ?_ | refine blk_alloc ?_ _)); refine blk_far ?_ NB208_218.out _; (with_reducible repeat (first | refine blk_drewN ?_ _ | refine blk_drew ?_ | refine blk_alloc ?_ _)); exact BK208.out) hb); have n1_ := Aside0.mk (blk_below (g := gb218) (o := .cells #[.int .i64 ((rd_T46 l0_7 x91_4).f0), .int .i64 ((rd_T46 l0_7 x91_4).f1.f0), .int .i64 ((rd_T46 l0_7 x91_4).f1.f1), .string ((rd_T46 l0_7 x91_4).f1.f2), .slice A217_4 ((rd_T46 l0_7 x91_4).f1.f3).length c217_4, .string ((rd_T46 l0_7 x91_4).f2), .string ((rd_T46 l0_7 x91_4).f3), .slice A217_7 ((rd_T46 l0_7 x91_4).f4).length c217_7] 46 (0, 0)) (by (with_reducible repeat (first | refine blk_drewN ?_ _ | refine blk_drew ?_ | refine blk_alloc ?_ _)); refine blk_put (cs := #[.int .i64 ((rd_T46 l0_7 x91_4).f0), .int .i64 ((rd_T46 l0_7 x91_4).f1.f0), .int .i64 ((rd_T46 l0_7 x91_4).f1.f1), .string ((rd_T46 l0_7 x91_4).f1.f2), .slice A217_4 ((rd_T46 l0_7 x91_4).f1.f3).length c217_4, .string ((rd_T46 l0_7 x91_4).f2), .string ((rd_T46 l0_7 x91_4).f3), .slice none 0 0]) ?_ 7 _ rfl; (with_reducible repeat (first | refine blk_drewN ?_ _ | refine blk_drew ?_ | refine blk_alloc ?_ _)); refine blk_put (cs := #[.int .i64 ((rd_T46 l0_7 x91_4).f0), .int .i64 ((rd_T46 l0_7 x91_4).f1.f0), .int .i64 ((rd_T46 l0_7 x91_4).f1.f1), .string ((rd_T46 l0_7 x91_4).f1.f2), .slice A217_4 ((rd_T46 l0_7 x91_4).f1.f3).length c217_4, .string ((rd_T46 l0_7 x91_4).f2), .string (⟨#[]⟩ : ByteArray), .slice none 0 0]) ?_ 6 _ rfl; (with_reducible repeat (first | refine blk_drewN ?_ _ | refine blk_drew ?_ | refine blk_alloc ?_ _)); refine blk_put (cs := #[.int .i64 ((rd_T46 l0_7 x91_4).f0), .int .i64 ((rd_T46 l0_7 x91_4).f1.f0), .int .i64 ((rd_T46 l0_7 x91_4).f1.f1), .string ((rd_T46 l0_7 x91_4).f1.f2), .slice A217_4 ((rd_T46 l0_7 x91_4).f1.f3).length c217_4, .string (⟨#[]⟩ : ByteArray), .string (⟨#[]⟩ : ByteArray), .slice none 0 0]) ?_ 5 _ rfl; (with_reducible repeat (first | refine blk_drewN ?_ _ | refine blk_drew ?_ | refine blk_alloc ?_ _)); refine blk_put (cs := #[.int .i64 ((rd_T46 l0_7 x91_4).f0), .int .i64 ((rd_T46 l0_7 x91_4).f1.f0), .int .i64 ((rd_T46 l0_7 x91_4).f1.f1), .string ((rd_T46 l0_7 x91_4).f1.f2), .slice none 0 0, .string (⟨#[]⟩ : ByteArray), .string (⟨#[]⟩ : ByteArray), .slice none 0 0]) ?_ 4 _ rfl; (with_reducible repeat (first | refine blk_drewN ?_ _ | refine blk_drew ?_ | refine blk_alloc ?_ _)); refine blk_put (cs := #[.int .i64 ((rd_T46 l0_7 x91_4).f0), .int .i64 ((rd_T46 l0_7 x91_4).f1.f0), .int .i64 ((rd_T46 l0_7 x91_4).f1.f1), .string (⟨#[]⟩ : ByteArray), .slice none 0 0, .string (⟨#[]⟩ : ByteArray), .string (⟨#[]⟩ : ByteArray), .slice none 0 0]) ?_ 3 _ rfl; (with_reducible repeat (first | refine blk_drewN ?_ _ | refine blk_drew ?_ | refine blk_alloc ?_ _)); refine blk_put (cs := #[.int .i64 ((rd_T46 l0_7 x91_4).f0), .int .i64 ((rd_T46 l0_7 x91_4).f1.f0), .int .i64 0, .string (⟨#[]⟩ : ByteArray), .slice none 0 0, .string (⟨#[]⟩ : ByteArray), .string (⟨#[]⟩ : ByteArray), .slice none 0 0]) ?_ 2 _ rfl; (with_reducible repeat (first | refine blk_drewN ?_ _ | refine blk_drew ?_ | refine blk_alloc ?_ _)); refine blk_put (cs := #[.int .i64 ((rd_T46 l0_7 x91_4).f0), .int .i64 0, .int .i64 0, .string (⟨#[]⟩ : ByteArray), .slice none 0 0, .string (⟨#[]⟩ : ByteArray), .string (⟨#[]⟩ : ByteArray), .slice none 0 0]) ?_ 1 _ rfl; (with_reducible repeat (first | refine blk_drewN ?_ _ | refine blk_drew ?_ | refine blk_alloc ?_ _)); refine blk_put (cs := #[.int .i64 0, .int .i64 0, .int .i64 0, .string (⟨#[]⟩ : ByteArray), .slice none 0 0, .string (⟨#[]⟩ : ByteArray), .string (⟨#[]⟩ : ByteArray), .slice none 0 0]) ?_ 0 _ rfl; (with_reducible repeat (first | refine blk_drewN ?_ _ | refine blk_drew ?_ | refine blk_alloc ?_ _)); exact BK218.out) hb); have n2_ := bs_ hb; clear BK208; clear BK218; clear HB; have BK208 := n0_; have BK218 := n1_; have HB := n2_; clear n0_ n1_ n2_; (try clear hb); (try clear hb2); (try clear hk); (try clear hi))))
                    go_roundg k4
                    case measure => have := HJ2.out; have := HJ8.out; have := HJ14.out; have := HK4.out; omega
                    case rel => exact ⟨(wrap64 (x91_4 + 1)), sm_, H', ⟨by have := HJ2.out; have := HJ8.out; have := HJ14.out; have := HK4.out; omega⟩, ⟨by (with_reducible repeat (first | refine blk_drewN ?_ _ | refine blk_drew ?_ | refine blk_alloc ?_ _)); exact BK208.out⟩, ⟨bel_⟩⟩
                  replace c62 := Bool.eq_false_iff.mpr c62
                  subst c62
                  have H1 : (some false) = some r := by rw [if_neg (show ¬ (false = true) by decide)] at H; exact H
                  clear H
                  have H := H1
                  clear H1
                  obtain rfl := Option.some.inj H
                  have p217 : 0 ≤ (x91_4 : Int) := od_
                  have q217 : x91_4 < (l0_7.length : Int) := od_
                  obtain ⟨ad217, A217_4, c217_4, A217_7, c217_7, e217, hx217_0, hx217_1, hx217_2, hx217_3, hx217_4, hx217_5, hx217_6, hx217_7, hl217_4, hi217_4, hl217_7, hi217_7⟩ := at_T46 HR0_7.out x91_4 p217 q217
                  cases e217
                  replace hx217_0 := mv_ HB hx217_0
                  replace hx217_1 := mv_ HB hx217_1
                  replace hx217_2 := mv_ HB hx217_2
                  replace hx217_3 := mv_ HB hx217_3
                  replace hx217_4 := mv_ HB hx217_4
                  replace hx217_5 := mv_ HB hx217_5
                  replace hx217_6 := mv_ HB hx217_6
                  replace hx217_7 := mv_ HB hx217_7
                  have HR217_4 := Aside0.mk hi217_4
                  have HC217_4 := Aside0.mk hl217_4
                  clear hi217_4 hl217_4
                  have HR217_7 := Aside0.mk hi217_7
                  have HC217_7 := Aside0.mk hl217_7
                  clear hi217_7 hl217_7
                  replace p217 := eq_true p217
                  replace q217 := eq_true q217
                  go_wp2_with (first | ((with_reducible refine gate_dst (N := 8) rfl ?_); (try (refine gate_guard (by rfl) ?_; dsimp only)); refine box_event ?hg (N := 8) ?hd (cs := #[.int .i64 0, .int .i64 0, .int .i64 0, .string (⟨#[]⟩ : ByteArray), .slice none 0 0, .string (⟨#[]⟩ : ByteArray), .string (⟨#[]⟩ : ByteArray), .slice none 0 0]) (t := 46) ?hr ?_; (case hd => rfl); (case hg => rfl); (case hr => first | (go_simp; done) | (go_simp; rfl)); intro gb218 hg w67 hbox hb; have BK218 := Aside0.mk (hbox); have GW218 := gw_ hg; have GE218 := gw_ hg; have NB208_218 := nlt_ hg BK208; have NB218_208 := ngt_ hg BK208; replace BK208 := bb_ BK208 hb; replace HB := bs_ hb; clear hb hbox hg; have hnb68 := NB218_208.out; have hnc68 := NB208_218.out; obtain ⟨hcz69_0, hcz69_1, hcz69_2, hcz69_3, hcz69_4, hcz69_5, hcz69_6, hcz69_7, hfz69_0, hfz69_1, hfz69_2, hfz69_3, hfz69_4, hfz69_5, hfz69_6, hfz69_7⟩ := blk8 BK218) | (go_at_call 40; (with_reducible refine (ih k4 (by have := HJ2.out; have := HJ8.out; have := HJ14.out; have := HK4.out; omega) ((rd_T46 l0_7 x91_4).f0) ((rd_T46 l0_7 x91_4).f1.f0) ((rd_T46 l0_7 x91_4).f1.f1) ((rd_T46 l0_7 x91_4).f1.f2) _ _ ((rd_T46 l0_7 x91_4).f1.f3) ((rd_T46 l0_7 x91_4).f2) ((rd_T46 l0_7 x91_4).f3) _ _ ((rd_T46 l0_7 x91_4).f4) (wrap64 (a1 - 1)) false _ ?side1 ?side2 ?side3 ?side4 A61.out).mono ?_); (case side1 => exact Kd.C_below HR217_4.out (bel_)); (case side2 => exact HC217_4.out); (case side3 => exact Kd.C_below HR217_7.out (bel_)); (case side4 => exact HC217_7.out); rintro e w70 ⟨rfl, hb⟩; replace BK208 := Aside0.mk (blk_below (g := gb208) (o := .cells #[.int .i64 a0_0, .int .i64 a0_1, .int .i64 a0_2, .string a0_3, .slice A0_4 l0_4.length c0_4, .string a0_5, .string a0_6, .slice (some ad217) l0_7.length c0_7] 46 (0, 0)) (by (with_reducible repeat (first | refine blk_drewN ?_ _ | refine blk_drew ?_ | refine blk_alloc ?_ _)); refine blk_far ?_ NB208_218.out _; (with_reducible repeat (first | refine blk_drewN ?_ _ | refine blk_drew ?_ | refine blk_alloc ?_ _)); refine blk_far ?_ NB208_218.out _; (with_reducible repeat (first | refine blk_drewN ?_ _ | refine blk_drew ?_ | refine blk_alloc ?_ _)); refine blk_far ?_ NB208_218.out _; (with_reducible repeat (first | refine blk_drewN ?_ _ | refine blk_drew ?_ | refine blk_alloc ?_ _)); refine blk_far ?_ NB208_218.out _; (with_reducible repeat (first | refine blk_drewN ?_ _ | refine blk_drew ?_ | refine blk_alloc ?_ _)); refine blk_far ?_ NB208_218.out _; (with_reducible repeat (first | refine blk_drewN ?_ _ | refine blk_drew ?_ | refine blk_alloc ?_ _)); refine blk_far ?_ NB208_218.out _; (with_reducible repeat (first | refine blk_drewN ?_ _ | refine blk_drew ?_ | refine blk_alloc ?_ _)); refine blk_far ?_ NB208_218.out _; (with_reducible repeat (first | refine blk_drewN ?_ _ | refine blk_drew ?_ | refine blk_alloc ?_ _)); refine blk_far ?_ NB208_218.out _; (with_reducible repeat (first | refine blk_drewN ?_ _ | refine blk_drew ?_ | refine blk_alloc ?_ _)); exact BK208.out) hb); replace BK218 := Aside0.mk (blk_below (g := gb218) (o := .cells #[.int .i64 ((rd_T46 l0_7 x91_4).f0), .int .i64 ((rd_T46 l0_7 x91_4).f1.f0), .int .i64 ((rd_T46 l0_7 x91_4).f1.f1), .string ((rd_T46 l0_7 x91_4).f1.f2), .slice A217_4 ((rd_T46 l0_7 x91_4).f1.f3).length c217_4, .string ((rd_T46 l0_7 x91_4).f2), .string ((rd_T46 l0_7 x91_4).f3), .slice A217_7 ((rd_T46 l0_7 x91_4).f4).length c217_7] 46 (0, 0)) (by (with_reducible repeat (first | refine blk_drewN ?_ _ | refine blk_drew ?_ | refine blk_alloc ?_ _)); refine blk_put (cs := #[.int .i64 ((rd_T46 l0_7 x91_4).f0), .int .i64 ((rd_T46 l0_7 x91_4).f1.f0), .int .i64 ((rd_T46 l0_7 x91_4).f1.f1), .string ((rd_T46 l0_7 x91_4).f1.f2), .slice A217_4 ((rd_T46 l0_7 x91_4).f1.f3).length c217_4, .string ((rd_T46 l0_7 x91_4).f2), .string ((rd_T46 l0_7 x91_4).f3), .slice none 0 0]) ?_ 7 _ rfl; (with_reducible repeat (first | refine blk_drewN ?_ _ | refine blk_drew ?_ | refine blk_alloc ?_ _)); refine blk_put (cs := #[.int .i64 ((rd_T46 l0_7 x91_4).f0), .int .i64 ((rd_T46 l0_7 x91_4).f1.f0), .int .i64 ((rd_T46 l0_7 x91_4).f1.f1), .string ((rd_T46 l0_7 x91_4).f1.f2), .slice A217_4 ((rd_T46 l0_7 x91_4).f1.f3).length c217_4, .string ((rd_T46 l0_7 x91_4).f2), .string (⟨#[]⟩ : ByteArray), .slice none 0 0]) ?_ 6 _ rfl; (with_reducible repeat (first | refine blk_drewN ?_ _ | refine blk_drew ?_ | refine blk_alloc ?_ _)); refine blk_put (cs := #[.int .i64 ((rd_T46 l0_7 x91_4).f0), .int .i64 ((rd_T46 l0_7 x91_4).f1.f0), .int .i64 ((rd_T46 l0_7 x91_4).f1.f1), .string ((rd_T46 l0_7 x91_4).f1.f2), .slice A217_4 ((rd_T46 l0_7 x91_4).f1.f3).length c217_4, .string (⟨#[]⟩ : ByteArray), .string (⟨#[]⟩ : ByteArray), .slice none 0 0]) ?_ 5 _ rfl; (with_reducible repeat (first | refine blk_drewN ?_ _ | refine blk_drew ?_ | refine blk_alloc ?_ _)); refine blk_put (cs := #[.int .i64 ((rd_T46 l0_7 x91_4).f0), .int .i64 ((rd_T46 l0_7 x91_4).f1.f0), .int .i64 ((rd_T46 l0_7 x91_4).f1.f1), .string ((rd_T46 l0_7 x91_4).f1.f2), .slice none 0 0, .string (⟨#[]⟩ : ByteArray), .string (⟨#[]⟩ : ByteArray), .slice none 0 0]) ?_ 4 _ rfl; (with_reducible repeat (first | refine blk_drewN ?_ _ | refine blk_drew ?_ | refine blk_alloc ?_ _)); refine blk_put (cs := #[.int .i64 ((rd_T46 l0_7 x91_4).f0), .int .i64 ((rd_T46 l0_7 x91_4).f1.f0), .int .i64 ((rd_T46 l0_7 x91_4).f1.f1), .string (⟨#[]⟩ : ByteArray), .slice none 0 0, .string (⟨#[]⟩ : ByteArray), .string (⟨#[]⟩ : ByteArray), .slice none 0 0]) ?_ 3 _ rfl; (with_reducible repeat (first | refine blk_drewN ?_ _ | refine blk_drew ?_ | refine blk_alloc ?_ _)); refine blk_put (cs := #[.int .i64 ((rd_T46 l0_7 x91_4).f0), .int .i64 ((rd_T46 l0_7 x91_4).f1.f0), .int .i64 0, .string (⟨#[]⟩ : ByteArray), .slice none 0 0, .string (⟨#[]⟩ : ByteArray), .string (⟨#[]⟩ : ByteArray), .slice none 0 0]) ?_ 2 _ rfl; (with_reducible repeat (first | refine blk_drewN ?_ _ | refine blk_drew ?_ | refine blk_alloc ?_ _)); refine blk_put (cs := #[.int .i64 ((rd_T46 l0_7 x91_4).f0), .int .i64 0, .int .i64 0, .string (⟨#[]⟩ : ByteArray), .slice none 0 0, .string (⟨#[]⟩ : ByteArray), .string (⟨#[]⟩ : ByteArray), .slice none 0 0]) ?_ 1 _ rfl; (with_reducible repeat (first | refine blk_drewN ?_ _ | refine blk_drew ?_ | refine blk_alloc ?_ _)); refine blk_put (cs := #[.int .i64 0, .int .i64 0, .int .i64 0, .string (⟨#[]⟩ : ByteArray), .slice none 0 0, .string (⟨#[]⟩ : ByteArray), .string (⟨#[]⟩ : ByteArray), .slice none 0 0]) ?_ 0 _ rfl; (with_reducible repeat (first | refine blk_drewN ?_ _ | refine blk_drew ?_ | refine blk_alloc ?_ _)); exact BK218.out) hb); replace HB := bs_ hb; (try clear hb); (try clear hb2); (try clear hk); (try clear hi)))
                  repeat (go_quiet (first | ((with_reducible refine gate_dst (N := 8) rfl ?_); (try (refine gate_guard (by rfl) ?_; dsimp only)); refine box_event ?hg (N := 8) ?hd (cs := #[.int .i64 0, .int .i64 0, .int .i64 0, .string (⟨#[]⟩ : ByteArray), .slice none 0 0, .string (⟨#[]⟩ : ByteArray), .string (⟨#[]⟩ : ByteArray), .slice none 0 0]) (t := 46) ?hr ?_; (case hd => rfl); (case hg => rfl); (case hr => first | (go_simp; done) | (go_simp; rfl)); intro gb218 hg w67 hbox hb; have n0_ := bb_ BK208 hb; have n1_ := bs_ hb; have n2_ := Aside0.mk (hbox); have n3_ := gw_ hg; have n4_ := gw_ hg; have n5_ := nlt_ hg BK208; have n6_ := ngt_ hg BK208; clear BK208; clear HB; have BK208 := n0_; have HB := n1_; have BK218 := n2_; have GW218 := n3_; have GE218 := n4_; have NB208_218 := n5_; have NB218_208 := n6_; clear n0_ n1_ n2_ n3_ n4_ n5_ n6_; clear hb hbox hg; have hnb68 := NB218_208.out; have hnc68 := NB208_218.out; have hcz69_0 : w67.cell? ⟨gb218, 0, none⟩ = some (.int .i64 0) := (blk_cell BK218.out 0).trans rfl; have hcz69_1 : w67.cell? ⟨gb218, 1, none⟩ = some (.int .i64 0) := (blk_cell BK218.out 1).trans rfl; have hcz69_2 : w67.cell? ⟨gb218, 2, none⟩ = some (.int .i64 0) := (blk_cell BK218.out 2).trans rfl; have hcz69_3 : w67.cell? ⟨gb218, 3, none⟩ = some (.string (⟨#[]⟩ : ByteArray)) := (blk_cell BK218.out 3).trans rfl; have hcz69_4 : w67.cell? ⟨gb218, 4, none⟩ = some (.slice none 0 0) := (blk_cell BK218.out 4).trans rfl; have hcz69_5 : w67.cell? ⟨gb218, 5, none⟩ = some (.string (⟨#[]⟩ : ByteArray)) := (blk_cell BK218.out 5).trans rfl; have hcz69_6 : w67.cell? ⟨gb218, 6, none⟩ = some (.string (⟨#[]⟩ : ByteArray)) := (blk_cell BK218.out 6).trans rfl; have hcz69_7 : w67.cell? ⟨gb218, 7, none⟩ = some (.slice none 0 0) := (blk_cell BK218.out 7).trans rfl; have hfz69_0 := blk_frozen BK218.out 0; have hfz69_1 := blk_frozen BK218.out 1; have hfz69_2 := blk_frozen BK218.out 2; have hfz69_3 := blk_frozen BK218.out 3; have hfz69_4 := blk_frozen BK218.out 4; have hfz69_5 := blk_frozen BK218.out 5; have hfz69_6 := blk_frozen BK218.out 6; have hfz69_7 := blk_frozen BK218.out 7) | (go_at_call 40; (with_reducible refine (ih k4 (by have := HJ2.out; have := HJ8.out; have := HJ14.out; have := HK4.out; omega) ((rd_T46 l0_7 x91_4).f0) ((rd_T46 l0_7 x91_4).f1.f0) ((rd_T46 l0_7 x91_4).f1.f1) ((rd_T46 l0_7 x91_4).f1.f2) _ _ ((rd_T46 l0_7 x91_4).f1.f3) ((rd_T46 l0_7 x91_4).f2) ((rd_T46 l0_7 x91_4).f3) _ _ ((rd_T46 l0_7 x91_4).f4) (wrap64 (a1 - 1)) false _ ?side1 ?side2 ?side3 ?side4 A61.out).mono ?_); (case side1 => exact Kd.C_below HR217_4.out (bel_)); (case side2 => exact HC217_4.out); (case side3 => exact Kd.C_below HR217_7.out (bel_)); (case side4 => exact HC217_7.out); rintro e w70 ⟨rfl, hb⟩; have n0_ := Aside0.mk (blk_below (g := gb208) (o := .cells #[.int .i64 a0_0, .int .i64 a0_1, .int .i64 a0_2, .string a0_3, .slice A0_4 l0_4.length c0_4, .string a0_5, .string a0_6, .slice (some ad217) l0_7.length c0_7] 46 (0, 0)) (by (with_reducible repeat (first | refine blk_drewN ?_ _ | refine blk_drew ?_ | refine blk_alloc ?_ _)); refine blk_far ?_ NB208_218.out _; (with_reducible repeat (first | refine blk_drewN ?_ _ | refine blk_drew ?_ | refine blk_alloc ?_ _)); refine blk_far ?_ NB208_218.out _; (with_reducible repeat (first | refine blk_drewN ?_ _ | refine blk_drew ?_ | refine blk_alloc ?_ _)); refine blk_far ?_ NB208_218.out _; (with_reducible repeat (first | refine blk_drewN ?_ _ | refine blk_drew ?_ | refine blk_alloc ?_ _)); refine blk_far ?_ NB208_218.out _; (with_reducible repeat (first | refine blk_drewN ?_ _ | refine blk_drew ?_ | refine blk_alloc ?_ _)); refine blk_far ?_ NB208_218.out _; (with_reducible repeat (first | refine blk_drewN ?_ _ | refine blk_drew ?_ | refine blk_alloc ?_ _)); refine blk_far ?_ NB208_218.out _; (with_reducible repeat (first | refine blk_drewN ?_ _ | refine blk_drew ?_ | refine blk_alloc ?_ _)); refine blk_far ?_ NB208_218.out _; (with_reducible repeat (first | refine blk_drewN ?_ _ | refine blk_drew ?_ | refine blk_alloc ?_ _)); refine blk_far ?_ NB208_218.out _; (with_reducible repeat (first | refine blk_drewN ?_ _ | refine blk_drew ?_ | refine blk_alloc ?_ _)); exact BK208.out) hb); have n1_ := Aside0.mk (blk_below (g := gb218) (o := .cells #[.int .i64 ((rd_T46 l0_7 x91_4).f0), .int .i64 ((rd_T46 l0_7 x91_4).f1.f0), .int .i64 ((rd_T46 l0_7 x91_4).f1.f1), .string ((rd_T46 l0_7 x91_4).f1.f2), .slice A217_4 ((rd_T46 l0_7 x91_4).f1.f3).length c217_4, .string ((rd_T46 l0_7 x91_4).f2), .string ((rd_T46 l0_7 x91_4).f3), .slice A217_7 ((rd_T46 l0_7 x91_4).f4).length c217_7] 46 (0, 0)) (by (with_reducible repeat (first | refine blk_drewN ?_ _ | refine blk_drew ?_ | refine blk_alloc ?_ _)); refine blk_put (cs := #[.int .i64 ((rd_T46 l0_7 x91_4).f0), .int .i64 ((rd_T46 l0_7 x91_4).f1.f0), .int .i64 ((rd_T46 l0_7 x91_4).f1.f1), .string ((rd_T46 l0_7 x91_4).f1.f2), .slice A217_4 ((rd_T46 l0_7 x91_4).f1.f3).length c217_4, .string ((rd_T46 l0_7 x91_4).f2), .string ((rd_T46 l0_7 x91_4).f3), .slice none 0 0]) ?_ 7 _ rfl; (with_reducible repeat (first | refine blk_drewN ?_ _ | refine blk_drew ?_ | refine blk_alloc ?_ _)); refine blk_put (cs := #[.int .i64 ((rd_T46 l0_7 x91_4).f0), .int .i64 ((rd_T46 l0_7 x91_4).f1.f0), .int .i64 ((rd_T46 l0_7 x91_4).f1.f1), .string ((rd_T46 l0_7 x91_4).f1.f2), .slice A217_4 ((rd_T46 l0_7 x91_4).f1.f3).length c217_4, .string ((rd_T46 l0_7 x91_4).f2), .string (⟨#[]⟩ : ByteArray), .slice none 0 0]) ?_ 6 _ rfl; (with_reducible repeat (first | refine blk_drewN ?_ _ | refine blk_drew ?_ | refine blk_alloc ?_ _)); refine blk_put (cs := #[.int .i64 ((rd_T46 l0_7 x91_4).f0), .int .i64 ((rd_T46 l0_7 x91_4).f1.f0), .int .i64 ((rd_T46 l0_7 x91_4).f1.f1), .string ((rd_T46 l0_7 x91_4).f1.f2), .slice A217_4 ((rd_T46 l0_7 x91_4).f1.f3).length c217_4, .string (⟨#[]⟩ : ByteArray), .string (⟨#[]⟩ : ByteArray), .slice none 0 0]) ?_ 5 _ rfl; (with_reducible repeat (first | refine blk_drewN ?_ _ | refine blk_drew ?_ | refine blk_alloc ?_ _)); refine blk_put (cs := #[.int .i64 ((rd_T46 l0_7 x91_4).f0), .int .i64 ((rd_T46 l0_7 x91_4).f1.f0), .int .i64 ((rd_T46 l0_7 x91_4).f1.f1), .string ((rd_T46 l0_7 x91_4).f1.f2), .slice none 0 0, .string (⟨#[]⟩ : ByteArray), .string (⟨#[]⟩ : ByteArray), .slice none 0 0]) ?_ 4 _ rfl; (with_reducible repeat (first | refine blk_drewN ?_ _ | refine blk_drew ?_ | refine blk_alloc ?_ _)); refine blk_put (cs := #[.int .i64 ((rd_T46 l0_7 x91_4).f0), .int .i64 ((rd_T46 l0_7 x91_4).f1.f0), .int .i64 ((rd_T46 l0_7 x91_4).f1.f1), .string (⟨#[]⟩ : ByteArray), .slice none 0 0, .string (⟨#[]⟩ : ByteArray), .string (⟨#[]⟩ : ByteArray), .slice none 0 0]) ?_ 3 _ rfl; (with_reducible repeat (first | refine blk_drewN ?_ _ | refine blk_drew ?_ | refine blk_alloc ?_ _)); refine blk_put (cs := #[.int .i64 ((rd_T46 l0_7 x91_4).f0), .int .i64 ((rd_T46 l0_7 x91_4).f1.f0), .int .i64 0, .string (⟨#[]⟩ : ByteArray), .slice none 0 0, .string (⟨#[]⟩ : ByteArray), .string (⟨#[]⟩ : ByteArray), .slice none 0 0]) ?_ 2 _ rfl; (with_reducible repeat (first | refine blk_drewN ?_ _ | refine blk_drew ?_ | refine blk_alloc ?_ _)); refine blk_put (cs := #[.int .i64 ((rd_T46 l0_7 x91_4).f0), .int .i64 0, .int .i64 0, .string (⟨#[]⟩ : ByteArray), .slice none 0 0, .string (⟨#[]⟩ : ByteArray), .string (⟨#[]⟩ : ByteArray), .slice none 0 0]) ?_ 1 _ rfl; (with_reducible repeat (first | refine blk_drewN ?_ _ | refine blk_drew ?_ | refine blk_alloc ?_ _)); refine blk_put (cs := #[.int .i64 0, .int .i64 0, .int .i64 0, .string (⟨#[]⟩ : ByteArray), .slice none 0 0, .string (⟨#[]⟩ : ByteArray), .string (⟨#[]⟩ : ByteArray), .slice none 0 0]) ?_ 0 _ rfl; (with_reducible repeat (first | refine blk_drewN ?_ _ | refine blk_drew ?_ | refine blk_alloc ?_ _)); exact BK218.out) hb); have n2_ := bs_ hb; clear BK208; clear BK218; clear HB; have BK208 := n0_; have BK218 := n1_; have HB := n2_; clear n0_ n1_ n2_; (try clear hb); (try clear hb2); (try clear hk); (try clear hi))); try go_wp2_with (first | ((with_reducible refine gate_dst (N := 8) rfl ?_); (try (refine gate_guard (by rfl) ?_; dsimp only)); refine box_event ?hg (N := 8) ?hd (cs := #[.int .i64 0, .int .i64 0, .int .i64 0, .string (⟨#[]⟩ : ByteArray), .slice none 0 0, .string (⟨#[]⟩ : ByteArray), .string (⟨#[]⟩ : ByteArray), .slice none 0 0]) (t := 46) ?hr ?_; (case hd => rfl); (case hg => rfl); (case hr => first | (go_simp; done) | (go_simp; rfl)); intro gb218 hg w67 hbox hb; have n0_ := bb_ BK208 hb; have n1_ := bs_ hb; have n2_ := Aside0.mk (hbox); have n3_ := gw_ hg; have n4_ := gw_ hg; have n5_ := nlt_ hg BK208; have n6_ := ngt_ hg BK208; clear BK208; clear HB; have BK208 := n0_; have HB := n1_; have BK218 := n2_; have GW218 := n3_; have GE218 := n4_; have NB208_218 := n5_; have NB218_208 := n6_; clear n0_ n1_ n2_ n3_ n4_ n5_ n6_; clear hb hbox hg; have hnb68 := NB218_208.out; have hnc68 := NB208_218.out; have hcz69_0 : w67.cell? ⟨gb218, 0, none⟩ = some (.int .i64 0) := (blk_cell BK218.out 0).trans rfl; have hcz69_1 : w67.cell? ⟨gb218, 1, none⟩ = some (.int .i64 0) := (blk_cell BK218.out 1).trans rfl; have hcz69_2 : w67.cell? ⟨gb218, 2, none⟩ = some (.int .i64 0) := (blk_cell BK218.out 2).trans rfl; have hcz69_3 : w67.cell? ⟨gb218, 3, none⟩ = some (.string (⟨#[]⟩ : ByteArray)) := (blk_cell BK218.out 3).trans rfl; have hcz69_4 : w67.cell? ⟨gb218, 4, none⟩ = some (.slice none 0 0) := (blk_cell BK218.out 4).trans rfl; have hcz69_5 : w67.cell? ⟨gb218, 5, none⟩ = some (.string (⟨#[]⟩ : ByteArray)) := (blk_cell BK218.out 5).trans rfl; have hcz69_6 : w67.cell? ⟨gb218, 6, none⟩ = some (.string (⟨#[]⟩ : ByteArray)) := (blk_cell BK218.out 6).trans rfl; have hcz69_7 : w67.cell? ⟨gb218, 7, none⟩ = some (.slice none 0 0) := (blk_cell BK218.out 7).trans rfl; have hfz69_0 := blk_frozen BK218.out 0; have hfz69_1 := blk_frozen BK218.out 1; have hfz69_2 := blk_frozen BK218.out 2; have hfz69_3 := blk_frozen BK218.out 3; have hfz69_4 := blk_frozen BK218.out 4; have hfz69_5 := blk_frozen BK218.out 5; have hfz69_6 := blk_frozen BK218.out 6; have hfz69_7 := blk_frozen BK218.out 7) | (go_at_call 40; (with_reducible refine (ih k4 (by have := HJ2.out; have := HJ8.out; have := HJ14.out; have := HK4.out; omega) ((rd_T46 l0_7 x91_4).f0) ((rd_T46 l0_7 x91_4).f1.f0) ((rd_T46 l0_7 x91_4).f1.f1) ((rd_T46 l0_7 x91_4).f1.f2) _ _ ((rd_T46 l0_7 x91_4).f1.f3) ((rd_T46 l0_7 x91_4).f2) ((rd_T46 l0_7 x91_4).f3) _ _ ((rd_T46 l0_7 x91_4).f4) (wrap64 (a1 - 1)) false _ ?side1 ?side2 ?side3 ?side4 A61.out).mono ?_); (case side1 => exact Kd.C_below HR217_4.out (bel_)); (case side2 => exact HC217_4.out); (case side3 => exact Kd.C_below HR217_7.out (bel_)); (case side4 => exact HC217_7.out); rintro e w70 ⟨rfl, hb⟩; have n0_ := Aside0.mk (blk_below (g := gb208) (o := .cells #[.int .i64 a0_0, .int .i64 a0_1, .int .i64 a0_2, .string a0_3, .slice A0_4 l0_4.length c0_4, .string a0_5, .string a0_6, .slice (some ad217) l0_7.length c0_7] 46 (0, 0)) (by (with_reducible repeat (first | refine blk_drewN ?_ _ | refine blk_drew ?_ | refine blk_alloc ?_ _)); refine blk_far ?_ NB208_218.out _; (with_reducible repeat (first | refine blk_drewN ?_ _ | refine blk_drew ?_ | refine blk_alloc ?_ _)); refine blk_far ?_ NB208_218.out _; (with_reducible repeat (first | refine blk_drewN ?_ _ | refine blk_drew ?_ | refine blk_alloc ?_ _)); refine blk_far ?_ NB208_218.out _; (with_reducible repeat (first | refine blk_drewN ?_ _ | refine blk_drew ?_ | refine blk_alloc ?_ _)); refine blk_far ?_ NB208_218.out _; (with_reducible repeat (first | refine blk_drewN ?_ _ | refine blk_drew ?_ | refine blk_alloc ?_ _)); refine blk_far ?_ NB208_218.out _; (with_reducible repeat (first | refine blk_drewN ?_ _ | refine blk_drew ?_ | refine blk_alloc ?_ _)); refine blk_far ?_ NB208_218.out _; (with_reducible repeat (first | refine blk_drewN ?_ _ | refine blk_drew ?_ | refine blk_alloc ?_ _)); refine blk_far ?_ NB208_218.out _; (with_reducible repeat (first | refine blk_drewN ?_ _ | refine blk_drew ?_ | refine blk_alloc ?_ _)); refine blk_far ?_ NB208_218.out _; (with_reducible repeat (first | refine blk_drewN ?_ _ | refine blk_drew ?_ | refine blk_alloc ?_ _)); exact BK208.out) hb); have n1_ := Aside0.mk (blk_below (g := gb218) (o := .cells #[.int .i64 ((rd_T46 l0_7 x91_4).f0), .int .i64 ((rd_T46 l0_7 x91_4).f1.f0), .int .i64 ((rd_T46 l0_7 x91_4).f1.f1), .string ((rd_T46 l0_7 x91_4).f1.f2), .slice A217_4 ((rd_T46 l0_7 x91_4).f1.f3).length c217_4, .string ((rd_T46 l0_7 x91_4).f2), .string ((rd_T46 l0_7 x91_4).f3), .slice A217_7 ((rd_T46 l0_7 x91_4).f4).length c217_7] 46 (0, 0)) (by (with_reducible repeat (first | refine blk_drewN ?_ _ | refine blk_drew ?_ | refine blk_alloc ?_ _)); refine blk_put (cs := #[.int .i64 ((rd_T46 l0_7 x91_4).f0), .int .i64 ((rd_T46 l0_7 x91_4).f1.f0), .int .i64 ((rd_T46 l0_7 x91_4).f1.f1), .string ((rd_T46 l0_7 x91_4).f1.f2), .slice A217_4 ((rd_T46 l0_7 x91_4).f1.f3).length c217_4, .string ((rd_T46 l0_7 x91_4).f2), .string ((rd_T46 l0_7 x91_4).f3), .slice none 0 0]) ?_ 7 _ rfl; (with_reducible repeat (first | refine blk_drewN ?_ _ | refine blk_drew ?_ | refine blk_alloc ?_ _)); refine blk_put (cs := #[.int .i64 ((rd_T46 l0_7 x91_4).f0), .int .i64 ((rd_T46 l0_7 x91_4).f1.f0), .int .i64 ((rd_T46 l0_7 x91_4).f1.f1), .string ((rd_T46 l0_7 x91_4).f1.f2), .slice A217_4 ((rd_T46 l0_7 x91_4).f1.f3).length c217_4, .string ((rd_T46 l0_7 x91_4).f2), .string (⟨#[]⟩ : ByteArray), .slice none 0 0]) ?_ 6 _ rfl; (with_reducible repeat (first | refine blk_drewN ?_ _ | refine blk_drew ?_ | refine blk_alloc ?_ _)); refine blk_put (cs := #[.int .i64 ((rd_T46 l0_7 x91_4).f0), .int .i64 ((rd_T46 l0_7 x91_4).f1.f0), .int .i64 ((rd_T46 l0_7 x91_4).f1.f1), .string ((rd_T46 l0_7 x91_4).f1.f2), .slice A217_4 ((rd_T46 l0_7 x91_4).f1.f3).length c217_4, .string (⟨#[]⟩ : ByteArray), .string (⟨#[]⟩ : ByteArray), .slice none 0 0]) ?_ 5 _ rfl; (with_reducible repeat (first | refine blk_drewN ?_ _ | refine blk_drew ?_ | refine blk_alloc ?_ _)); refine blk_put (cs := #[.int .i64 ((rd_T46 l0_7 x91_4).f0), .int .i64 ((rd_T46 l0_7 x91_4).f1.f0), .int .i64 ((rd_T46 l0_7 x91_4).f1.f1), .string ((rd_T46 l0_7 x91_4).f1.f2), .slice none 0 0, .string (⟨#[]⟩ : ByteArray), .string (⟨#[]⟩ : ByteArray), .slice none 0 0]) ?_ 4 _ rfl; (with_reducible repeat (first | refine blk_drewN ?_ _ | refine blk_drew ?_ | refine blk_alloc ?_ _)); refine blk_put (cs := #[.int .i64 ((rd_T46 l0_7 x91_4).f0), .int .i64 ((rd_T46 l0_7 x91_4).f1.f0), .int .i64 ((rd_T46 l0_7 x91_4).f1.f1), .string (⟨#[]⟩ : ByteArray), .slice none 0 0, .string (⟨#[]⟩ : ByteArray), .string (⟨#[]⟩ : ByteArray), .slice none 0 0]) ?_ 3 _ rfl; (with_reducible repeat (first | refine blk_drewN ?_ _ | refine blk_drew ?_ | refine blk_alloc ?_ _)); refine blk_put (cs := #[.int .i64 ((rd_T46 l0_7 x91_4).f0), .int .i64 ((rd_T46 l0_7 x91_4).f1.f0), .int .i64 0, .string (⟨#[]⟩ : ByteArray), .slice none 0 0, .string (⟨#[]⟩ : ByteArray), .string (⟨#[]⟩ : ByteArray), .slice none 0 0]) ?_ 2 _ rfl; (with_reducible repeat (first | refine blk_drewN ?_ _ | refine blk_drew ?_ | refine blk_alloc ?_ _)); refine blk_put (cs := #[.int .i64 ((rd_T46 l0_7 x91_4).f0), .int .i64 0, .int .i64 0, .string (⟨#[]⟩ : ByteArray), .slice none 0 0, .string (⟨#[]⟩ : ByteArray), .string (⟨#[]⟩ : ByteArray), .slice none 0 0]) ?_ 1 _ rfl; (with_reducible repeat (first | refine blk_drewN ?_ _ | refine blk_drew ?_ | refine blk_alloc ?_ _)); refine blk_put (cs := #[.int .i64 0, .int .i64 0, .int .i64 0, .string (⟨#[]⟩ : ByteArray), .slice none 0 0, .string (⟨#[]⟩ : ByteArray), .string (⟨#[]⟩ : ByteArray), .slice none 0 0]) ?_ 0 _ rfl; (with_reducible repeat (first | refine blk_drewN ?_ _ | refine blk_drew ?_ | refine blk_alloc ?_ _)); exact BK218.out) hb); have n2_ := bs_ hb; clear BK208; clear BK218; clear HB; have BK208 := n0_; have BK218 := n1_; have HB := n2_; clear n0_ n1_ n2_; (try clear hb); (try clear hb2); (try clear hk); (try clear hi))))
                  go_ret
                  exact re_

end Go.Proofs.Ytnecmjmimdojcaa.G
