-- Printed by a program of this claim's writer (wip/gen), out of the translation. Lean checks it.
import Derived.Test.YtcchmhmbjhgfdaaGx0
import Derived.Test.YtcchmhmbjhgfdaaGx2
namespace Go.Proofs.Ytcchmhmbjhgfdaa.G
open Go.RowKit Go.Proofs.YtcchmhmbjhgfdaaW.PrintWords Go.Proofs.YtcchmhmbjhgfdaaW.PrintLast Go.Proofs.YtcchmhmbjhgfdaaW.PrintMore
attribute [local go_sem] max2_int min2_int max_two min_two max_three min_three max_four min_four Own.str_gtr Own.str_leq Own.str_geq Own.sto_fn   -- for this text's walks alone
open Own
set_option linter.unusedVariables false
set_option linter.unusedSimpArgs false

/-! ### spec_l2Plain: function 149 -/
mutual
def spec_l2Plain.l0 : Nat → Int → Int → Int → ByteArray → List (S49) → Option (Bool)
  | 0, _, _, _, _, _ => none
  | k + 1, x3, x143000, x143001, x143002, x143003 => if x3 < (x143003.length : Int) then (if 0 ≤ x3 then ((spec_l2Plain.f k ((rd_T49 x143003 x3).f0) ((rd_T49 x143003 x3).f1) ((rd_T49 x143003 x3).f2) ((rd_T49 x143003 x3).f3)).bind fun t144 => (if t144 = true then (spec_l2Plain.l0 k (wrap64 (x3 + 1)) x143000 x143001 x143002 x143003) else (some false))) else (none)) else ((spec_l1In.f x143000 1 4).bind fun t145 => (some t145))
def spec_l2Plain.f : Nat → Int → Int → ByteArray → List (S49) → Option (Bool)
  | 0, _, _, _, _ => none
  | k + 1, a0_0, a0_1, a0_2, l0_3 => spec_l2Plain.l0 k 0 a0_0 a0_1 a0_2 l0_3
end
set_option maxHeartbeats 8000000 in
set_option maxRecDepth 100000 in
theorem spec_l2Plain.calls (k : Nat) : ∀ (a0_0 : Int) (a0_1 : Int) (a0_2 : ByteArray) (A0_3 : Option Addr) (c0_3 : Nat) (l0_3 : List (S49)) (r : Bool) (w : World) (hr0_3 : Kd.C k49 w A0_3 l0_3.length l0_3) (hc0_3 : l0_3.length ≤ c0_3) (h : spec_l2Plain.f k a0_0 a0_1 a0_2 l0_3 = some r),
    Calls Try.prog 149 #[.agg #[.int .i64 a0_0, .int .i64 a0_1, .string a0_2, .slice A0_3 l0_3.length c0_3]] w fun e w' => e = .returned (.bool r) ∧ Below w.heap.size w w' := by
  induction k using Nat.strongRecOn with
  | _ k ih =>
  intro a0_0 a0_1 a0_2 A0_3 c0_3 l0_3 r w hr0_3 hc0_3 h
  cases k with
  | zero => exact absurd h (by simp [spec_l2Plain.f])
  | succ k =>
  simp only [spec_l2Plain.f] at h
  have hu49 := Try.underlying49
  have HR0_3 := Aside0.mk hr0_3
  have HC0_3 := Aside0.mk hc0_3
  clear hr0_3 hc0_3
  have HB := Aside0.mk (Below.refl w.heap.size w)
  have H : (spec_l2Plain.l0 k 0 a0_0 a0_1 a0_2 l0_3) = some r := h
  clear h
  have H' := Aside0.mk H
  clear H
  go_enter Try.func149, Try.ntmps149
  go_wp2_with (first | ((with_reducible refine gate_dst (N := 1) rfl ?_); refine bx_ 1 #[.int .i64 a0_0, .int .i64 a0_1, .string a0_2, .slice A0_3 l0_3.length c0_3] 49 ?_; intro gb142 hg w2 hbox hb; have BK142 := Aside0.mk (hbox); have GW142 := gw_ hg; have GE142 := gw_ hg; replace HB := bs_ hb; clear hb hbox hg))
  go_loopg [3] k (fun kq v3 w' => ∃ (x3_1 : Int), v3 = .int .i64 x3_1 ∧ Aside0 (spec_l2Plain.l0 kq x3_1 a0_0 a0_1 a0_2 l0_3 = some r) ∧ Aside0 (kq ≤ k) ∧ Aside0 (w'.heap[gb142]? = some (.cells #[.int .i64 a0_0, .int .i64 a0_1, .string a0_2, (.slice A0_3 l0_3.length c0_3)] 49 (0, 0))) ∧ Aside0 (Below w.heap.size w w'))
  case atStart => exact ⟨(0), sm_, H', ⟨Nat.le_refl _⟩, ⟨by refine pe_ ?_; exact BK142.out⟩, ⟨bel_⟩⟩
  case round =>
    clear H'
    try clear c1
    try clear p2
    obtain ⟨x3_1, rfl, HA, HK1, BK142, HB⟩ := hrel
    cases gk with
    | zero => exact absurd HA.out (by simp [spec_l2Plain.l0])
    | succ k1 =>
      have H := HA.out
      clear HA
      simp only [spec_l2Plain.l0] at H
      by_cases c3 : x3_1 < (l0_3.length : Int)
      rotate_left
      · rw [if_neg c3] at H
        have c3b0 : decide (x3_1 < (l0_3.length : Int)) = false := decide_eq_false c3
        clear c3
        replace H := Option.bind_eq_some_iff.mp H
        obtain ⟨t145, A110, H⟩ := H
        replace H : (some t145) = some r := H
        have A11 := Aside0.mk A110
        clear A110
        obtain rfl := Option.some.inj H
        obtain ⟨hcz12_0, hcz12_1, hcz12_2, hcz12_3, hfz12_0, hfz12_1, hfz12_2, hfz12_3⟩ := blk4 BK142
        go_wp2_with (first | ((with_reducible refine gate_callee (f := 69) rfl ?_); refine goesL_ (some 20) rfl rfl Try.func69 (by kernel_rfl) rfl #[.int .i64 a0_0, .int .i64 1, .int .i64 4] rfl ar_ ?_; (with_reducible refine (spec_l1In.calls a0_0 1 4 t145 _ A11.out).mono ?_); rintro e w' ⟨rfl, ⟨nd, rfl⟩⟩; refine ⟨_, rfl, ?_⟩))
        go_ret
        exact re_
      rw [if_pos c3] at H
      have c3b0 : decide (x3_1 < (l0_3.length : Int)) = true := decide_eq_true c3
      clear c3
      by_cases c4 : 0 ≤ x3_1
      rotate_left
      · rw [if_neg c4] at H
        exact absurd H (by simp)
      rw [if_pos c4] at H
      have c4b0 : decide (0 ≤ x3_1) = true := decide_eq_true c4
      clear c4
      replace H := Option.bind_eq_some_iff.mp H
      obtain ⟨t144, A50, H⟩ := H
      replace H : (if t144 = true then (spec_l2Plain.l0 k1 (wrap64 (x3_1 + 1)) a0_0 a0_1 a0_2 l0_3) else (some false)) = some r := H
      have A5 := Aside0.mk A50
      clear A50
      by_cases c6 : t144 = true
      · subst c6
        have H1 : (spec_l2Plain.l0 k1 (wrap64 (x3_1 + 1)) a0_0 a0_1 a0_2 l0_3) = some r := by rw [if_pos rfl] at H; exact H
        clear H
        have H := H1
        clear H1
        have H' := Aside0.mk H
        clear H
        obtain ⟨hcz7_0, hcz7_1, hcz7_2, hcz7_3, hfz7_0, hfz7_1, hfz7_2, hfz7_3⟩ := blk4 BK142
        have p143 : 0 ≤ (x3_1 : Int) := od_
        have q143 : x3_1 < (l0_3.length : Int) := od_
        obtain ⟨ad143, A143_3, c143_3, e143, hx143_0, hx143_1, hx143_2, hx143_3, hl143_3, hi143_3⟩ := at_T49 HR0_3.out x3_1 p143 q143
        cases e143
        replace hx143_0 := mv_ HB hx143_0
        replace hx143_1 := mv_ HB hx143_1
        replace hx143_2 := mv_ HB hx143_2
        replace hx143_3 := mv_ HB hx143_3
        have HR143_3 := Aside0.mk hi143_3
        have HC143_3 := Aside0.mk hl143_3
        clear hi143_3 hl143_3
        replace p143 := eq_true p143
        replace q143 := eq_true q143
        go_wp2_with (first | ((with_reducible refine gate_callee (f := 149) rfl ?_); refine goesL_ (some 16) rfl rfl Try.func149 (by kernel_rfl) rfl #[.agg #[.int .i64 ((rd_T49 l0_3 x3_1).f0), .int .i64 ((rd_T49 l0_3 x3_1).f1), .string ((rd_T49 l0_3 x3_1).f2), .slice A143_3 ((rd_T49 l0_3 x3_1).f3).length c143_3]] rfl ar_ ?_; (with_reducible refine (ih k1 (by have := HK1.out; omega) ((rd_T49 l0_3 x3_1).f0) ((rd_T49 l0_3 x3_1).f1) ((rd_T49 l0_3 x3_1).f2) _ _ ((rd_T49 l0_3 x3_1).f3) true _ ?side1 ?side2 A5.out).mono ?_); (case side1 => exact rdb_ HR143_3); (case side2 => exact HC143_3.out); rintro e w8 ⟨rfl, hb⟩; refine ⟨_, rfl, ?_⟩; replace BK142 := bb_ BK142 hb; replace HB := bs_ hb; (try clear hb); (try clear hb2); (try clear hk); (try clear hi)))
        go_roundg k1
        case measure => have := HK1.out; omega
        case rel => exact ⟨(wrap64 (x3_1 + 1)), sm_, H', ⟨by have := HK1.out; omega⟩, ⟨by refine pe_ ?_; exact BK142.out⟩, ⟨bel_⟩⟩
      replace c6 := Bool.eq_false_iff.mpr c6
      subst c6
      have H1 : (some false) = some r := by rw [if_neg (show ¬ (false = true) by decide)] at H; exact H
      clear H
      have H := H1
      clear H1
      obtain rfl := Option.some.inj H
      obtain ⟨hcz9_0, hcz9_1, hcz9_2, hcz9_3, hfz9_0, hfz9_1, hfz9_2, hfz9_3⟩ := blk4 BK142
      have p143 : 0 ≤ (x3_1 : Int) := od_
      have q143 : x3_1 < (l0_3.length : Int) := od_
      obtain ⟨ad143, A143_3, c143_3, e143, hx143_0, hx143_1, hx143_2, hx143_3, hl143_3, hi143_3⟩ := at_T49 HR0_3.out x3_1 p143 q143
      cases e143
      replace hx143_0 := mv_ HB hx143_0
      replace hx143_1 := mv_ HB hx143_1
      replace hx143_2 := mv_ HB hx143_2
      replace hx143_3 := mv_ HB hx143_3
      have HR143_3 := Aside0.mk hi143_3
      have HC143_3 := Aside0.mk hl143_3
      clear hi143_3 hl143_3
      replace p143 := eq_true p143
      replace q143 := eq_true q143
      go_wp2_with (first | ((with_reducible refine gate_callee (f := 149) rfl ?_); refine goesL_ (some 16) rfl rfl Try.func149 (by kernel_rfl) rfl #[.agg #[.int .i64 ((rd_T49 l0_3 x3_1).f0), .int .i64 ((rd_T49 l0_3 x3_1).f1), .string ((rd_T49 l0_3 x3_1).f2), .slice A143_3 ((rd_T49 l0_3 x3_1).f3).length c143_3]] rfl ar_ ?_; (with_reducible refine (ih k1 (by have := HK1.out; omega) ((rd_T49 l0_3 x3_1).f0) ((rd_T49 l0_3 x3_1).f1) ((rd_T49 l0_3 x3_1).f2) _ _ ((rd_T49 l0_3 x3_1).f3) false _ ?side1 ?side2 A5.out).mono ?_); (case side1 => exact rdb_ HR143_3); (case side2 => exact HC143_3.out); rintro e w10 ⟨rfl, hb⟩; refine ⟨_, rfl, ?_⟩; replace BK142 := bb_ BK142 hb; replace HB := bs_ hb; (try clear hb); (try clear hb2); (try clear hk); (try clear hi)))
      go_ret
      exact re_

end Go.Proofs.Ytcchmhmbjhgfdaa.G
