-- Printed by a program of this claim's writer (wip/gen), out of the translation. Lean checks it.
import Derived.Test.YtejikddbdhahaaaGx0
import Derived.Test.YtejikddbdhahaaaGx7
namespace Go.Proofs.Ytejikddbdhahaaa.G
open Go.RowKit Go.Proofs.YtejikddbdhahaaaW.PrintWords Go.Proofs.YtejikddbdhahaaaW.PrintLast Go.Proofs.YtejikddbdhahaaaW.PrintMore
attribute [local go_sem] max2_int min2_int max_two min_two max_three min_three max_four min_four Own.str_gtr Own.str_leq Own.str_geq   -- for this text's walks alone
open Own
set_option linter.unusedVariables false
set_option linter.unusedSimpArgs false

/-! ### impl_ValueOk: function 34 -/
def impl_ValueOk.f (k : Nat) (a0_0 : Int) (a0_1 : Int) (a0_2 : ByteArray) (l0_3 : List (S31)) : Option (Bool) := (impl_valueFits.f k a0_0 a0_1 a0_2 l0_3 3).bind fun t169 => (some t169)
set_option maxHeartbeats 8000000 in
set_option maxRecDepth 100000 in
theorem impl_ValueOk.calls (k : Nat) (a0_0 : Int) (a0_1 : Int) (a0_2 : ByteArray) (A0_3 : Option Addr) (c0_3 : Nat) (l0_3 : List (S31)) (r : Bool) (w : World) (hr0_3 : Kd.C k31 w A0_3 l0_3.length l0_3) (hc0_3 : l0_3.length ≤ c0_3) (h : impl_ValueOk.f k a0_0 a0_1 a0_2 l0_3 = some r) :
    Calls Try.prog 34 #[.agg #[.int .i64 a0_0, .int .i64 a0_1, .string a0_2, .slice A0_3 l0_3.length c0_3]] w fun e w' => e = .returned (.bool r) ∧ Below w.heap.size w w' := by
  have hu31 := Try.underlying31
  have HR0_3 := Aside0.mk hr0_3
  have HC0_3 := Aside0.mk hc0_3
  clear hr0_3 hc0_3
  have HB := Aside0.mk (Below.refl w.heap.size w)
  have H : ((impl_valueFits.f k a0_0 a0_1 a0_2 l0_3 3).bind fun t169 => (some t169)) = some r := h
  clear h
  replace H := Option.bind_eq_some_iff.mp H
  obtain ⟨t169, A20, H⟩ := H
  replace H : (some t169) = some r := H
  have A2 := Aside0.mk A20
  clear A20
  obtain rfl := Option.some.inj H
  go_enter Try.func34, Try.ntmps34
  go_wp2_with (first | ((with_reducible refine gate_dst (N := 1) rfl ?_); refine bx_ 1 #[.int .i64 a0_0, .int .i64 a0_1, .string a0_2, .slice A0_3 l0_3.length c0_3] 31 ?_; intro gb168 hg w3 hbox hb; have BK168 := Aside0.mk (hbox); have GW168 := gw_ hg; have GE168 := gw_ hg; replace HB := bs_ hb; clear hb hbox hg; obtain ⟨hcz4_0, hcz4_1, hcz4_2, hcz4_3, hfz4_0, hfz4_1, hfz4_2, hfz4_3⟩ := blk4 BK168) | ((with_reducible refine gate_callee (f := 64) rfl ?_); refine goesL_ (some 4) rfl rfl Try.func64 (by kernel_rfl) rfl #[.agg #[.int .i64 a0_0, .int .i64 a0_1, .string a0_2, .slice A0_3 l0_3.length c0_3], .int .i64 3] rfl ar_ ?_; (with_reducible refine (impl_valueFits.calls k a0_0 a0_1 a0_2 _ _ l0_3 3 t169 _ ?side1 ?side2 A2.out).mono ?_); (case side1 => exact rdb_ HR0_3); (case side2 => exact HC0_3.out); rintro e w5 ⟨rfl, hb⟩; refine ⟨_, rfl, ?_⟩; replace BK168 := bb_ BK168 hb; replace HB := bs_ hb; (try clear hb); (try clear hb2); (try clear hk); (try clear hi)))
  go_ret
  exact re_

/-! ### impl_yesOrNo: function 87 -/
def impl_yesOrNo.f (a0 : Bool) : Option (Int × Int × ByteArray × (List (S31))) := if a0 = true then (some (1, 1, (⟨#[]⟩ : ByteArray), ([] : List (S31)))) else (some (1, 0, (⟨#[]⟩ : ByteArray), ([] : List (S31))))
set_option maxHeartbeats 8000000 in
set_option maxRecDepth 100000 in
theorem impl_yesOrNo.calls (a0 : Bool) (r1 : Int) (r2 : Int) (r3 : ByteArray) (r4 : List (S31)) (w : World) (h : impl_yesOrNo.f a0 = some (r1, r2, r3, r4)) :
    Calls Try.prog 87 #[.bool a0] w fun e w' => ∃ v3_ : Value, e = .returned (.agg #[.int .i64 r1, .int .i64 r2, .string r3, v3_]) ∧ Kd.R k31 31 w' w.heap.size (fun _ => True) v3_ r4 ∧ Below w.heap.size w w' := by
  have hu31 := Try.underlying31
  have HB := Aside0.mk (Below.refl w.heap.size w)
  have H : (if a0 = true then (some (1, 1, (⟨#[]⟩ : ByteArray), ([] : List (S31)))) else (some (1, 0, (⟨#[]⟩ : ByteArray), ([] : List (S31))))) = some (r1, r2, r3, r4) := h
  clear h
  by_cases c2 : a0 = true
  · subst c2
    have H1 : (some (1, 1, (⟨#[]⟩ : ByteArray), ([] : List (S31)))) = some (r1, r2, r3, r4) := by rw [if_pos rfl] at H; exact H
    clear H
    have H := H1
    clear H1
    simp only [Option.some.injEq, Prod.mk.injEq] at H
    obtain ⟨rfl, rfl, rfl, rfl⟩ := H
    go_enter Try.func87, Try.ntmps87
    go_wp2_with (first | ((with_reducible refine gate_dst (N := 2) rfl ?_); refine bx_ 2 #[.int .i64 0, .int .i64 0, .string (⟨#[]⟩ : ByteArray), .slice none 0 0] 31 ?_; intro gb170 hg w3 hbox hb; have BK170 := Aside0.mk (hbox); have GW170 := gw_ hg; have GE170 := gw_ hg; replace HB := bs_ hb; clear hb hbox hg; obtain ⟨hcz4_0, hcz4_1, hcz4_2, hcz4_3, hfz4_0, hfz4_1, hfz4_2, hfz4_3⟩ := blk4 BK170))
    refine bodyPost_ret (results_cell_row rfl _ _ gb170 31 #[.int .i64 1, .int .i64 1, .string (⟨#[]⟩ : ByteArray), .slice none 0 0] (0, 0) _ rfl (by refine pe_ ?_; refine blk_put (cs := #[.int .i64 1, .int .i64 1, .string (⟨#[]⟩ : ByteArray), .slice none 0 0]) ?_ 3 _ rfl; refine pe_ ?_; refine blk_put (cs := #[.int .i64 1, .int .i64 1, .string (⟨#[]⟩ : ByteArray), .slice none 0 0]) ?_ 2 _ rfl; refine pe_ ?_; refine blk_put (cs := #[.int .i64 1, .int .i64 0, .string (⟨#[]⟩ : ByteArray), .slice none 0 0]) ?_ 1 _ rfl; refine pe_ ?_; refine blk_put (cs := #[.int .i64 0, .int .i64 0, .string (⟨#[]⟩ : ByteArray), .slice none 0 0]) ?_ 0 _ rfl; refine pe_ ?_; exact BK170.out) Try.underlying31 rfl (by kernel_rfl)) rfl ?_
    exact ⟨_, by first | rfl | (simp [errW_none, errW_some] <;> rfl) | (simp [*, errW_none, errW_some] <;> rfl), by first | exact Kd.R_nil _ _ _ _ _ | exact Kd.N_nil _ _ _ _ _ | exact Kd.V_nil _ _ _ _ _ | exact Kd.Q_nil _ _ _ _ _ | exact Kd.S_nil _ _ _ _ _, bel_⟩
  replace c2 := Bool.eq_false_iff.mpr c2
  subst c2
  have H1 : (some (1, 0, (⟨#[]⟩ : ByteArray), ([] : List (S31)))) = some (r1, r2, r3, r4) := by rw [if_neg (show ¬ (false = true) by decide)] at H; exact H
  clear H
  have H := H1
  clear H1
  simp only [Option.some.injEq, Prod.mk.injEq] at H
  obtain ⟨rfl, rfl, rfl, rfl⟩ := H
  go_enter Try.func87, Try.ntmps87
  go_wp2_with (first | ((with_reducible refine gate_dst (N := 2) rfl ?_); refine bx_ 2 #[.int .i64 0, .int .i64 0, .string (⟨#[]⟩ : ByteArray), .slice none 0 0] 31 ?_; intro gb170 hg w5 hbox hb; have BK170 := Aside0.mk (hbox); have GW170 := gw_ hg; have GE170 := gw_ hg; replace HB := bs_ hb; clear hb hbox hg; obtain ⟨hcz6_0, hcz6_1, hcz6_2, hcz6_3, hfz6_0, hfz6_1, hfz6_2, hfz6_3⟩ := blk4 BK170))
  refine bodyPost_ret (results_cell_row rfl _ _ gb170 31 #[.int .i64 1, .int .i64 0, .string (⟨#[]⟩ : ByteArray), .slice none 0 0] (0, 0) _ rfl (by refine pe_ ?_; refine blk_put (cs := #[.int .i64 1, .int .i64 0, .string (⟨#[]⟩ : ByteArray), .slice none 0 0]) ?_ 3 _ rfl; refine pe_ ?_; refine blk_put (cs := #[.int .i64 1, .int .i64 0, .string (⟨#[]⟩ : ByteArray), .slice none 0 0]) ?_ 2 _ rfl; refine pe_ ?_; refine blk_put (cs := #[.int .i64 1, .int .i64 0, .string (⟨#[]⟩ : ByteArray), .slice none 0 0]) ?_ 1 _ rfl; refine pe_ ?_; refine blk_put (cs := #[.int .i64 0, .int .i64 0, .string (⟨#[]⟩ : ByteArray), .slice none 0 0]) ?_ 0 _ rfl; refine pe_ ?_; exact BK170.out) Try.underlying31 rfl (by kernel_rfl)) rfl ?_
  exact ⟨_, by first | rfl | (simp [errW_none, errW_some] <;> rfl) | (simp [*, errW_none, errW_some] <;> rfl), by first | exact Kd.R_nil _ _ _ _ _ | exact Kd.N_nil _ _ _ _ _ | exact Kd.V_nil _ _ _ _ _ | exact Kd.Q_nil _ _ _ _ _ | exact Kd.S_nil _ _ _ _ _, bel_⟩

/-! ### impl_sameOf: function 88 -/
mutual
def impl_sameOf.j0 : Nat → Bool → Int → Int → ByteArray → List (S31) → Int → Int → ByteArray → List (S31) → Option (Bool)
  | 0, _, _, _, _, _, _, _, _, _ => none
  | k + 1, x33, x172000, x172001, x172002, x172003, x173000, x173001, x173002, x173003 => if x33 = true then (some false) else (impl_sameOf.l0 k (x172003.length : Int) 0 x172000 x172001 x172002 x172003 x173000 x173001 x173002 x173003)
def impl_sameOf.l0 : Nat → Int → Int → Int → Int → ByteArray → List (S31) → Int → Int → ByteArray → List (S31) → Option (Bool)
  | 0, _, _, _, _, _, _, _, _, _, _ => none
  | k + 1, x36, x37, x172000, x172001, x172002, x172003, x173000, x173001, x173002, x173003 => if x37 < x36 then (if 0 ≤ x37 then (if x37 < (x172003.length : Int) then (if x37 < (x173003.length : Int) then ((impl_sameOf.f k ((rd_T31 x172003 x37).f0) ((rd_T31 x172003 x37).f1) ((rd_T31 x172003 x37).f2) ((rd_T31 x172003 x37).f3) ((rd_T31 x173003 x37).f0) ((rd_T31 x173003 x37).f1) ((rd_T31 x173003 x37).f2) ((rd_T31 x173003 x37).f3)).bind fun t175 => (if t175 = true then (impl_sameOf.l0 k x36 (wrap64 (x37 + 1)) x172000 x172001 x172002 x172003 x173000 x173001 x173002 x173003) else (some false))) else (none)) else (none)) else (none)) else (some true)
def impl_sameOf.f : Nat → Int → Int → ByteArray → List (S31) → Int → Int → ByteArray → List (S31) → Option (Bool)
  | 0, _, _, _, _, _, _, _, _ => none
  | k + 1, a0_0, a0_1, a0_2, l0_3, a1_0, a1_1, a1_2, l1_3 => if a0_0 = a1_0 then (if a0_1 = a1_1 then (if a0_2.toList = a1_2.toList then (impl_sameOf.j0 k ((l0_3.length : Int) != (l1_3.length : Int)) a0_0 a0_1 a0_2 l0_3 a1_0 a1_1 a1_2 l1_3) else (impl_sameOf.j0 k true a0_0 a0_1 a0_2 l0_3 a1_0 a1_1 a1_2 l1_3)) else (impl_sameOf.j0 k true a0_0 a0_1 a0_2 l0_3 a1_0 a1_1 a1_2 l1_3)) else (impl_sameOf.j0 k true a0_0 a0_1 a0_2 l0_3 a1_0 a1_1 a1_2 l1_3)
end
def impl_sameOf.T6 : Bool × List (List Nat × List Nat) := (true, [([], []), ([0], [0]), ([], []), ([1, 2], [1, 2]), ([3], [3]), ([], []), ([5], [5]), ([], []), ([6, 7], [6, 7]), ([8], [8]), ([4, 9], [4, 9]), ([10], [10])])
def impl_sameOf.B6 : List Nat := [0, 1, 0, 7, 15, 0, 32, 0, 224, 480, 1023, 2047]
theorem impl_sameOf.tab6 : rtab .any (opsOf Try.f88 6) = impl_sameOf.T6 := by kernel_rfl
theorem impl_sameOf.bits6 : waitsOk impl_sameOf.T6.2 impl_sameOf.B6 = true := by kernel_rfl
set_option maxHeartbeats 8000000 in
set_option maxRecDepth 100000 in
theorem impl_sameOf.calls (k : Nat) : ∀ (a0_0 : Int) (a0_1 : Int) (a0_2 : ByteArray) (A0_3 : Option Addr) (c0_3 : Nat) (l0_3 : List (S31)) (a1_0 : Int) (a1_1 : Int) (a1_2 : ByteArray) (A1_3 : Option Addr) (c1_3 : Nat) (l1_3 : List (S31)) (r : Bool) (w : World) (hr0_3 : Kd.C k31 w A0_3 l0_3.length l0_3) (hc0_3 : l0_3.length ≤ c0_3) (hr1_3 : Kd.C k31 w A1_3 l1_3.length l1_3) (hc1_3 : l1_3.length ≤ c1_3) (h : impl_sameOf.f k a0_0 a0_1 a0_2 l0_3 a1_0 a1_1 a1_2 l1_3 = some r),
    Calls Try.prog 88 #[.agg #[.int .i64 a0_0, .int .i64 a0_1, .string a0_2, .slice A0_3 l0_3.length c0_3], .agg #[.int .i64 a1_0, .int .i64 a1_1, .string a1_2, .slice A1_3 l1_3.length c1_3]] w fun e w' => e = .returned (.bool r) ∧ Below w.heap.size w w' := by
  induction k using Nat.strongRecOn with
  | _ k ih =>
  intro a0_0 a0_1 a0_2 A0_3 c0_3 l0_3 a1_0 a1_1 a1_2 A1_3 c1_3 l1_3 r w hr0_3 hc0_3 hr1_3 hc1_3 h
  cases k with
  | zero => exact absurd h (by simp [impl_sameOf.f])
  | succ k =>
  simp only [impl_sameOf.f] at h
  have hu31 := Try.underlying31
  have HR0_3 := Aside0.mk hr0_3
  have HC0_3 := Aside0.mk hc0_3
  clear hr0_3 hc0_3
  have HR1_3 := Aside0.mk hr1_3
  have HC1_3 := Aside0.mk hc1_3
  clear hr1_3 hc1_3
  have HB := Aside0.mk (Below.refl w.heap.size w)
  have H : (if a0_0 = a1_0 then (if a0_1 = a1_1 then (if a0_2.toList = a1_2.toList then (impl_sameOf.j0 k ((l0_3.length : Int) != (l1_3.length : Int)) a0_0 a0_1 a0_2 l0_3 a1_0 a1_1 a1_2 l1_3) else (impl_sameOf.j0 k true a0_0 a0_1 a0_2 l0_3 a1_0 a1_1 a1_2 l1_3)) else (impl_sameOf.j0 k true a0_0 a0_1 a0_2 l0_3 a1_0 a1_1 a1_2 l1_3)) else (impl_sameOf.j0 k true a0_0 a0_1 a0_2 l0_3 a1_0 a1_1 a1_2 l1_3)) = some r := h
  clear h
  have HC3 := Aside0.mk H
  clear H
  go_enter Try.func88, Try.ntmps88
  go_upto_region 1 with (first | ((with_reducible refine gate_dst (N := 2) rfl ?_); (try (refine gate_guard (by rfl) ?_; dsimp only)); refine box_event ?hg (N := 2) ?hd (cs := #[.int .i64 a0_0, .int .i64 a0_1, .string a0_2, .slice A0_3 l0_3.length c0_3]) (t := 31) ?hr ?_; (case hd => rfl); (case hg => rfl); (case hr => first | (go_simp; done) | (go_simp; rfl)); intro gb171 hg w4 hbox hb; have BK171 := Aside0.mk (hbox); have GW171 := gw_ hg; have GE171 := gw_ hg; replace HB := bs_ hb; clear hb hbox hg) | ((with_reducible refine gate_dst (N := 3) rfl ?_); (try (refine gate_guard (by rfl) ?_; dsimp only)); refine box_event ?hg (N := 3) ?hd (cs := #[.int .i64 a1_0, .int .i64 a1_1, .string a1_2, .slice A1_3 l1_3.length c1_3]) (t := 31) ?hr ?_; (case hd => rfl); (case hg => rfl); (case hr => first | (go_simp; done) | (go_simp; rfl)); intro gb172 hg w5 hbox hb; have BK172 := Aside0.mk (hbox); have GW172 := gw_ hg; have GE172 := gw_ hg; have NB171_172 := nlt_ hg BK171; have NB172_171 := ngt_ hg BK171; replace BK171 := bb_ BK171 hb; replace HB := bs_ hb; clear hb hbox hg))
  (try simp only [Act.put, List.setIfInBounds_toArray, List.set_cons_zero, List.set_cons_succ])
  go_cut [33] (fun v33 wc => ∃ (kq : Nat) (x33_2 : Bool), v33 = .bool x33_2 ∧ Aside0 (impl_sameOf.j0 kq x33_2 a0_0 a0_1 a0_2 l0_3 a1_0 a1_1 a1_2 l1_3 = some r) ∧ Aside0 (kq ≤ k) ∧ Aside0 (wc.heap[gb171]? = some (.cells #[.int .i64 a0_0, .int .i64 a0_1, .string a0_2, (.slice A0_3 l0_3.length c0_3)] 31 (0, 0))) ∧ Aside0 (wc.heap[gb172]? = some (.cells #[.int .i64 a1_0, .int .i64 a1_1, .string a1_2, (.slice A1_3 l1_3.length c1_3)] 31 (0, 0))) ∧ Aside0 (Below w.heap.size w wc))
  case first =>
    have H := HC3.out
    clear HC3
    by_cases c6 : a0_0 = a1_0
    rotate_left
    · rw [if_neg c6] at H
      have c6b0 : (a0_0 == a1_0) = false := beq_eq_false_iff_ne.mpr c6
      have c6b1 : (a0_0 != a1_0) = true := bne_iff_ne.mpr c6
      (first | rw [c6b0] | (simp only [i64_w, i32_w]; rw [c6b0]) | skip)
      have H' := Aside0.mk H
      clear H
      have hnb18 := NB171_172.out
      have hnc18 := NB172_171.out
      obtain ⟨hcz19_0, hcz19_1, hcz19_2, hcz19_3, hfz19_0, hfz19_1, hfz19_2, hfz19_3⟩ := blk4 BK171
      obtain ⟨hcz20_0, hcz20_1, hcz20_2, hcz20_3, hfz20_0, hfz20_1, hfz20_2, hfz20_3⟩ := blk4 BK172
      go_wp2
      go_meet
      case rel => exact ⟨_, (true), sm_, H', ⟨by first | omega | exact Nat.le_refl _⟩, ⟨by refine pe_ ?_; exact BK171.out⟩, ⟨by refine pe_ ?_; exact BK172.out⟩, ⟨bel_⟩⟩
    rw [if_pos c6] at H
    have c6b0 : (a0_0 == a1_0) = true := beq_iff_eq.mpr c6
    have c6b1 : (a0_0 != a1_0) = false := bne_eq_false_iff_eq.mpr c6
    clear c6
    (first | rw [c6b0] | (simp only [i64_w, i32_w]; rw [c6b0]) | skip)
    by_cases c7 : a0_1 = a1_1
    rotate_left
    · rw [if_neg c7] at H
      have c7b0 : (a0_1 == a1_1) = false := beq_eq_false_iff_ne.mpr c7
      have c7b1 : (a0_1 != a1_1) = true := bne_iff_ne.mpr c7
      have H' := Aside0.mk H
      clear H
      have hnb15 := NB171_172.out
      have hnc15 := NB172_171.out
      obtain ⟨hcz16_0, hcz16_1, hcz16_2, hcz16_3, hfz16_0, hfz16_1, hfz16_2, hfz16_3⟩ := blk4 BK171
      obtain ⟨hcz17_0, hcz17_1, hcz17_2, hcz17_3, hfz17_0, hfz17_1, hfz17_2, hfz17_3⟩ := blk4 BK172
      go_wp2
      go_meet
      case rel => exact ⟨_, (true), sm_, H', ⟨by first | omega | exact Nat.le_refl _⟩, ⟨by refine pe_ ?_; exact BK171.out⟩, ⟨by refine pe_ ?_; exact BK172.out⟩, ⟨bel_⟩⟩
    rw [if_pos c7] at H
    have c7b0 : (a0_1 == a1_1) = true := beq_iff_eq.mpr c7
    have c7b1 : (a0_1 != a1_1) = false := bne_eq_false_iff_eq.mpr c7
    clear c7
    by_cases c8 : a0_2.toList = a1_2.toList
    · rw [if_pos c8] at H
      have c8b0 : (a0_2.toList == a1_2.toList) = true := beq_iff_eq.mpr c8
      have c8b1 : (a0_2.toList != a1_2.toList) = false := bne_eq_false_iff_eq.mpr c8
      clear c8
      have H' := Aside0.mk H
      clear H
      have hnb9 := NB171_172.out
      have hnc9 := NB172_171.out
      obtain ⟨hcz10_0, hcz10_1, hcz10_2, hcz10_3, hfz10_0, hfz10_1, hfz10_2, hfz10_3⟩ := blk4 BK171
      obtain ⟨hcz11_0, hcz11_1, hcz11_2, hcz11_3, hfz11_0, hfz11_1, hfz11_2, hfz11_3⟩ := blk4 BK172
      go_wp2
      go_meet
      case rel => exact ⟨_, (((l0_3.length : Int) != (l1_3.length : Int))), sm_, H', ⟨by first | omega | exact Nat.le_refl _⟩, ⟨by refine pe_ ?_; exact BK171.out⟩, ⟨by refine pe_ ?_; exact BK172.out⟩, ⟨bel_⟩⟩
    rw [if_neg c8] at H
    have c8b0 : (a0_2.toList == a1_2.toList) = false := beq_eq_false_iff_ne.mpr c8
    have c8b1 : (a0_2.toList != a1_2.toList) = true := bne_iff_ne.mpr c8
    have H' := Aside0.mk H
    clear H
    have hnb12 := NB171_172.out
    have hnc12 := NB172_171.out
    obtain ⟨hcz13_0, hcz13_1, hcz13_2, hcz13_3, hfz13_0, hfz13_1, hfz13_2, hfz13_3⟩ := blk4 BK171
    obtain ⟨hcz14_0, hcz14_1, hcz14_2, hcz14_3, hfz14_0, hfz14_1, hfz14_2, hfz14_3⟩ := blk4 BK172
    go_wp2
    go_meet
    case rel => exact ⟨_, (true), sm_, H', ⟨by first | omega | exact Nat.le_refl _⟩, ⟨by refine pe_ ?_; exact BK171.out⟩, ⟨by refine pe_ ?_; exact BK172.out⟩, ⟨bel_⟩⟩
  case rest =>
    clear HC3
    try clear c1
    try clear p2
    try clear c6
    try clear c6b0
    try clear c6b1
    try clear c7
    try clear c7b0
    try clear c7b1
    try clear c8
    try clear c8b0
    try clear c8b1
    try clear c9
    try clear c12
    try clear c15
    try clear c18
    try clear hcz10_0 hcz10_1 hcz10_2 hcz10_3
    try clear hcz11_0 hcz11_1 hcz11_2 hcz11_3
    try clear hcz13_0 hcz13_1 hcz13_2 hcz13_3
    try clear hcz14_0 hcz14_1 hcz14_2 hcz14_3
    try clear hcz16_0 hcz16_1 hcz16_2 hcz16_3
    try clear hcz17_0 hcz17_1 hcz17_2 hcz17_3
    try clear hcz19_0 hcz19_1 hcz19_2 hcz19_3
    try clear hcz20_0 hcz20_1 hcz20_2 hcz20_3
    try clear hfz10_0 hfz10_1 hfz10_2 hfz10_3
    try clear hfz11_0 hfz11_1 hfz11_2 hfz11_3
    try clear hfz13_0 hfz13_1 hfz13_2 hfz13_3
    try clear hfz14_0 hfz14_1 hfz14_2 hfz14_3
    try clear hfz16_0 hfz16_1 hfz16_2 hfz16_3
    try clear hfz17_0 hfz17_1 hfz17_2 hfz17_3
    try clear hfz19_0 hfz19_1 hfz19_2 hfz19_3
    try clear hfz20_0 hfz20_1 hfz20_2 hfz20_3
    obtain ⟨kq, x33_2, rfl, HA, HJ2, BK171, BK172, HB⟩ := hcut
    cases kq with
    | zero => exact absurd HA.out (by simp [impl_sameOf.j0])
    | succ kj2 =>
      have H := HA.out
      clear HA
      simp only [impl_sameOf.j0] at H
      by_cases c21 : x33_2 = true
      · subst c21
        have H1 : (some false) = some r := by rw [if_pos rfl] at H; exact H
        clear H
        have H := H1
        clear H1
        obtain rfl := Option.some.inj H
        go_wp2
        go_ret
        exact re_
      replace c21 := Bool.eq_false_iff.mpr c21
      subst c21
      have H1 : (impl_sameOf.l0 kj2 (l0_3.length : Int) 0 a0_0 a0_1 a0_2 l0_3 a1_0 a1_1 a1_2 l1_3) = some r := by rw [if_neg (show ¬ (false = true) by decide)] at H; exact H
      clear H
      have H := H1
      clear H1
      have H' := Aside0.mk H
      clear H
      have hnb22 := NB171_172.out
      have hnc22 := NB172_171.out
      obtain ⟨hcz23_0, hcz23_1, hcz23_2, hcz23_3, hfz23_0, hfz23_1, hfz23_2, hfz23_3⟩ := blk4 BK171
      go_wp2
      go_loopg [37] kj2 (fun kq v37 w' => ∃ (x37_2 : Int), v37 = .int .i64 x37_2 ∧ Aside0 (impl_sameOf.l0 kq (l0_3.length : Int) x37_2 a0_0 a0_1 a0_2 l0_3 a1_0 a1_1 a1_2 l1_3 = some r) ∧ Aside0 (kq ≤ kj2) ∧ Aside0 (w'.heap[gb171]? = some (.cells #[.int .i64 a0_0, .int .i64 a0_1, .string a0_2, (.slice A0_3 l0_3.length c0_3)] 31 (0, 0))) ∧ Aside0 (w'.heap[gb172]? = some (.cells #[.int .i64 a1_0, .int .i64 a1_1, .string a1_2, (.slice A1_3 l1_3.length c1_3)] 31 (0, 0))) ∧ Aside0 (Below w.heap.size w w'))
      case atStart => exact ⟨(0), sm_, H', ⟨Nat.le_refl _⟩, ⟨by refine pe_ ?_; exact BK171.out⟩, ⟨by refine pe_ ?_; exact BK172.out⟩, ⟨bel_⟩⟩
      case round =>
        clear H'
        try clear c1
        try clear c2
        try clear p2
        try clear c6
        try clear c6b0
        try clear c6b1
        try clear c7
        try clear c7b0
        try clear c7b1
        try clear c8
        try clear c8b0
        try clear c8b1
        try clear c9
        try clear c12
        try clear c15
        try clear c18
        try clear c21
        try clear c22
        try clear hcz10_0 hcz10_1 hcz10_2 hcz10_3
        try clear hcz11_0 hcz11_1 hcz11_2 hcz11_3
        try clear hcz13_0 hcz13_1 hcz13_2 hcz13_3
        try clear hcz14_0 hcz14_1 hcz14_2 hcz14_3
        try clear hcz16_0 hcz16_1 hcz16_2 hcz16_3
        try clear hcz17_0 hcz17_1 hcz17_2 hcz17_3
        try clear hcz19_0 hcz19_1 hcz19_2 hcz19_3
        try clear hcz20_0 hcz20_1 hcz20_2 hcz20_3
        try clear hcz23_0 hcz23_1 hcz23_2 hcz23_3
        try clear hfz10_0 hfz10_1 hfz10_2 hfz10_3
        try clear hfz11_0 hfz11_1 hfz11_2 hfz11_3
        try clear hfz13_0 hfz13_1 hfz13_2 hfz13_3
        try clear hfz14_0 hfz14_1 hfz14_2 hfz14_3
        try clear hfz16_0 hfz16_1 hfz16_2 hfz16_3
        try clear hfz17_0 hfz17_1 hfz17_2 hfz17_3
        try clear hfz19_0 hfz19_1 hfz19_2 hfz19_3
        try clear hfz20_0 hfz20_1 hfz20_2 hfz20_3
        try clear hfz23_0 hfz23_1 hfz23_2 hfz23_3
        try clear p2
        obtain ⟨x37_2, rfl, HA, HK2, BK171, BK172, HB⟩ := hrel
        cases gk with
        | zero => exact absurd HA.out (by simp [impl_sameOf.l0])
        | succ k2 =>
          have H := HA.out
          clear HA
          simp only [impl_sameOf.l0] at H
          by_cases c24 : x37_2 < (l0_3.length : Int)
          rotate_left
          · rw [if_neg c24] at H
            have c24b0 : decide (x37_2 < (l0_3.length : Int)) = false := decide_eq_false c24
            clear c24
            obtain rfl := Option.some.inj H
            go_wp2
            go_ret
            exact re_
          rw [if_pos c24] at H
          have c24b0 : decide (x37_2 < (l0_3.length : Int)) = true := decide_eq_true c24
          clear c24
          by_cases c25 : 0 ≤ x37_2
          rotate_left
          · rw [if_neg c25] at H
            exact absurd H (by simp)
          rw [if_pos c25] at H
          have c25b0 : decide (0 ≤ x37_2) = true := decide_eq_true c25
          clear c25
          by_cases c26 : x37_2 < (l0_3.length : Int)
          rotate_left
          · rw [if_neg c26] at H
            exact absurd H (by simp)
          rw [if_pos c26] at H
          have c26b0 : decide (x37_2 < (l0_3.length : Int)) = true := decide_eq_true c26
          clear c26
          by_cases c27 : x37_2 < (l1_3.length : Int)
          rotate_left
          · rw [if_neg c27] at H
            exact absurd H (by simp)
          rw [if_pos c27] at H
          have c27b0 : decide (x37_2 < (l1_3.length : Int)) = true := decide_eq_true c27
          clear c27
          replace H := Option.bind_eq_some_iff.mp H
          obtain ⟨t175, A280, H⟩ := H
          replace H : (if t175 = true then (impl_sameOf.l0 k2 (l0_3.length : Int) (wrap64 (x37_2 + 1)) a0_0 a0_1 a0_2 l0_3 a1_0 a1_1 a1_2 l1_3) else (some false)) = some r := H
          have A28 := Aside0.mk A280
          clear A280
          by_cases c29 : t175 = true
          · subst c29
            have H1 : (impl_sameOf.l0 k2 (l0_3.length : Int) (wrap64 (x37_2 + 1)) a0_0 a0_1 a0_2 l0_3 a1_0 a1_1 a1_2 l1_3) = some r := by rw [if_pos rfl] at H; exact H
            clear H
            have H := H1
            clear H1
            have H' := Aside0.mk H
            clear H
            try go_wp2
            replace BK171 := Aside0.mk (blk_drew BK171.out)
            replace BK172 := Aside0.mk (blk_drew BK172.out)
            replace HB := Aside0.mk (below_drew1 HB.out)
            have p173 : 0 ≤ (x37_2 : Int) := od_
            have q173 : x37_2 < (l0_3.length : Int) := od_
            obtain ⟨ad173, A173_3, c173_3, e173, hx173_0, hx173_1, hx173_2, hx173_3, hl173_3, hi173_3⟩ := at_T31 HR0_3.out x37_2 p173 q173
            have hw173_3 := hx173_3
            have hw173_2 := hx173_2
            have hw173_1 := hx173_1
            have hw173_0 := hx173_0
            cases e173
            replace hx173_0 := mv_ HB hx173_0
            replace hx173_1 := mv_ HB hx173_1
            replace hx173_2 := mv_ HB hx173_2
            replace hx173_3 := mv_ HB hx173_3
            have HR173_3 := Aside0.mk hi173_3
            have HC173_3 := Aside0.mk hl173_3
            clear hi173_3 hl173_3
            replace p173 := eq_true p173
            replace q173 := eq_true q173
            have p174 : 0 ≤ (x37_2 : Int) := od_
            have q174 : x37_2 < (l1_3.length : Int) := od_
            obtain ⟨ad174, A174_3, c174_3, e174, hx174_0, hx174_1, hx174_2, hx174_3, hl174_3, hi174_3⟩ := at_T31 HR1_3.out x37_2 p174 q174
            have hw174_3 := hx174_3
            have hw174_2 := hx174_2
            have hw174_1 := hx174_1
            have hw174_0 := hx174_0
            cases e174
            replace hx174_0 := mv_ HB hx174_0
            replace hx174_1 := mv_ HB hx174_1
            replace hx174_2 := mv_ HB hx174_2
            replace hx174_3 := mv_ HB hx174_3
            have HR174_3 := Aside0.mk hi174_3
            have HC174_3 := Aside0.mk hl174_3
            clear hi174_3 hl174_3
            replace p174 := eq_true p174
            replace q174 := eq_true q174
            refine start_ (n := 12) (S := fun w' => w'.cell? ⟨gb171, 0, none⟩ = some (.int .i64 a0_0) ∧ w'.cell? ⟨gb171, 1, none⟩ = some (.int .i64 a0_1) ∧ w'.cell? ⟨gb171, 2, none⟩ = some (.string a0_2) ∧ w'.cell? ⟨gb171, 3, none⟩ = some (.slice (some ad173) l0_3.length c0_3) ∧ w'.cell? ⟨gb172, 0, none⟩ = some (.int .i64 a1_0) ∧ w'.cell? ⟨gb172, 1, none⟩ = some (.int .i64 a1_1) ∧ w'.cell? ⟨gb172, 2, none⟩ = some (.string a1_2) ∧ w'.cell? ⟨gb172, 3, none⟩ = some (.slice (some ad174) l1_3.length c1_3) ∧ w'.cell? (ad173.add ((x37_2).toNat * 4)) = some (.int .i64 ((rd_T31 l0_3 x37_2).f0)) ∧ w'.cell? ⟨(ad173.add ((x37_2).toNat * 4)).block, (ad173.add ((x37_2).toNat * 4)).off + 1, none⟩ = some (.int .i64 ((rd_T31 l0_3 x37_2).f1)) ∧ w'.cell? ⟨(ad173.add ((x37_2).toNat * 4)).block, (ad173.add ((x37_2).toNat * 4)).off + 2, none⟩ = some (.string ((rd_T31 l0_3 x37_2).f2)) ∧ w'.cell? ⟨(ad173.add ((x37_2).toNat * 4)).block, (ad173.add ((x37_2).toNat * 4)).off + 3, none⟩ = some (.slice A173_3 ((rd_T31 l0_3 x37_2).f3).length c173_3) ∧ w'.cell? (ad174.add ((x37_2).toNat * 4)) = some (.int .i64 ((rd_T31 l1_3 x37_2).f0)) ∧ w'.cell? ⟨(ad174.add ((x37_2).toNat * 4)).block, (ad174.add ((x37_2).toNat * 4)).off + 1, none⟩ = some (.int .i64 ((rd_T31 l1_3 x37_2).f1)) ∧ w'.cell? ⟨(ad174.add ((x37_2).toNat * 4)).block, (ad174.add ((x37_2).toNat * 4)).off + 2, none⟩ = some (.string ((rd_T31 l1_3 x37_2).f2)) ∧ w'.cell? ⟨(ad174.add ((x37_2).toNat * 4)).block, (ad174.add ((x37_2).toNat * 4)).off + 3, none⟩ = some (.slice A174_3 ((rd_T31 l1_3 x37_2).f3).length c174_3)) (ds := []) #[false, false, false, false, false, false, false, false, false, false, false, false] (by kernel_rfl) rfl rfl ⟨(blkc BK171 0), (blkc BK171 1), (blkc BK171 2), (blkc BK171 3), (blkc BK172 0), (blkc BK172 1), (blkc BK172 2), (blkc BK172 3), (mv_ HB hw173_0), (mv_ HB hw173_1), (mv_ HB hw173_2), (mv_ HB hw173_3), (mv_ HB hw174_0), (mv_ HB hw174_1), (mv_ HB hw174_2), (mv_ HB hw174_3)⟩ (fun hHeld => ?_); refine with_tabW impl_sameOf.tab6 impl_sameOf.bits6 (fun HT_ HW_ => ?_)
            generalize wr.drew = w30 at BK171 BK172 HB HR173_3 HR174_3 hx173_0 hx173_1 hx173_2 hx173_3 hx174_0 hx174_1 hx174_2 hx174_3 hHeld ⊢
            refine puA 0 (some 40) ?_
            refine puA 2 (some 42) ?_
            refine puA 5 (some 45) ?_
            refine puA 7 (some 47) ?_
            refine taA 1 (some 41) ?_
            refine puA 3 (some 43) ?_
            refine taA 4 (some 44) ?_
            refine taA 6 (some 46) ?_
            refine puA 8 (some 48) ?_
            refine taA 9 (some 49) ?_
            refine one_ (i := 10) (N := some 50) #[true, true, true, true, true, true, true, true, true, true, true, false] rfl rfl (one_of HT_.out (by kernel_rfl)) (by decide) (fun K hK => ?_)
            refine goes_ Try.func88 (by kernel_rfl) rfl #[.agg #[.int .i64 ((rd_T31 l0_3 x37_2).f0), .int .i64 ((rd_T31 l0_3 x37_2).f1), .string ((rd_T31 l0_3 x37_2).f2), .slice A173_3 ((rd_T31 l0_3 x37_2).f3).length c173_3], .agg #[.int .i64 ((rd_T31 l1_3 x37_2).f0), .int .i64 ((rd_T31 l1_3 x37_2).f1), .string ((rd_T31 l1_3 x37_2).f2), .slice A174_3 ((rd_T31 l1_3 x37_2).f3).length c174_3]] (by rfl) rfl rfl ar_ ?_
            with_reducible refine (ih k2 (by have := HJ2.out; have := HK2.out; omega) ((rd_T31 l0_3 x37_2).f0) ((rd_T31 l0_3 x37_2).f1) ((rd_T31 l0_3 x37_2).f2) _ _ ((rd_T31 l0_3 x37_2).f3) ((rd_T31 l1_3 x37_2).f0) ((rd_T31 l1_3 x37_2).f1) ((rd_T31 l1_3 x37_2).f2) _ _ ((rd_T31 l1_3 x37_2).f3) true _ ?side1 ?side2 ?side3 ?side4 A28.out).mono ?_
            (case side1 => exact rdb_ HR173_3)
            (case side2 => exact HC173_3.out)
            (case side3 => exact rdb_ HR174_3)
            (case side4 => exact HC174_3.out)
            rintro e w31 ⟨rfl, hb⟩
            refine ⟨_, rfl, ?_⟩
            replace BK171 := bb_ BK171 hb
            replace BK172 := bb_ BK172 hb
            replace HB := bs_ hb
            (try clear hb)
            (try clear hb2)
            (try clear hk)
            (try clear hi)
            refine hK.out _ _ ⟨(blkc BK171 0), (blkc BK171 1), (blkc BK171 2), (blkc BK171 3), (blkc BK172 0), (blkc BK172 1), (blkc BK172 2), (blkc BK172 3), (mv_ HB hw173_0), (mv_ HB hw173_1), (mv_ HB hw173_2), (mv_ HB hw173_3), (mv_ HB hw174_0), (mv_ HB hw174_1), (mv_ HB hw174_2), (mv_ HB hw174_3)⟩ (fun hHeld => ?_)
            clear hK K
            refine norm_ (a' := ?_) ?_ ?_
            rotate_left
            · show Act.put _ (some 50) _ = _
              simp only [Act.put, List.setIfInBounds_toArray, List.set_cons_zero, List.set_cons_succ, i64_w, i32_w]
              rfl
            refine puA 11 (some 51) ?_
            refine done_ (done_of HT_.out (by kernel_rfl)) ?_
            try go_wp2
            go_roundg k2
            case measure => have := HJ2.out; have := HK2.out; omega
            case rel => exact ⟨(wrap64 (x37_2 + 1)), sm_, H', ⟨by have := HJ2.out; have := HK2.out; omega⟩, ⟨by refine pe_ ?_; exact BK171.out⟩, ⟨by refine pe_ ?_; exact BK172.out⟩, ⟨bel_⟩⟩
          replace c29 := Bool.eq_false_iff.mpr c29
          subst c29
          have H1 : (some false) = some r := by rw [if_neg (show ¬ (false = true) by decide)] at H; exact H
          clear H
          have H := H1
          clear H1
          obtain rfl := Option.some.inj H
          try go_wp2
          replace BK171 := Aside0.mk (blk_drew BK171.out)
          replace BK172 := Aside0.mk (blk_drew BK172.out)
          replace HB := Aside0.mk (below_drew1 HB.out)
          have p173 : 0 ≤ (x37_2 : Int) := od_
          have q173 : x37_2 < (l0_3.length : Int) := od_
          obtain ⟨ad173, A173_3, c173_3, e173, hx173_0, hx173_1, hx173_2, hx173_3, hl173_3, hi173_3⟩ := at_T31 HR0_3.out x37_2 p173 q173
          have hw173_3 := hx173_3
          have hw173_2 := hx173_2
          have hw173_1 := hx173_1
          have hw173_0 := hx173_0
          cases e173
          replace hx173_0 := mv_ HB hx173_0
          replace hx173_1 := mv_ HB hx173_1
          replace hx173_2 := mv_ HB hx173_2
          replace hx173_3 := mv_ HB hx173_3
          have HR173_3 := Aside0.mk hi173_3
          have HC173_3 := Aside0.mk hl173_3
          clear hi173_3 hl173_3
          replace p173 := eq_true p173
          replace q173 := eq_true q173
          have p174 : 0 ≤ (x37_2 : Int) := od_
          have q174 : x37_2 < (l1_3.length : Int) := od_
          obtain ⟨ad174, A174_3, c174_3, e174, hx174_0, hx174_1, hx174_2, hx174_3, hl174_3, hi174_3⟩ := at_T31 HR1_3.out x37_2 p174 q174
          have hw174_3 := hx174_3
          have hw174_2 := hx174_2
          have hw174_1 := hx174_1
          have hw174_0 := hx174_0
          cases e174
          replace hx174_0 := mv_ HB hx174_0
          replace hx174_1 := mv_ HB hx174_1
          replace hx174_2 := mv_ HB hx174_2
          replace hx174_3 := mv_ HB hx174_3
          have HR174_3 := Aside0.mk hi174_3
          have HC174_3 := Aside0.mk hl174_3
          clear hi174_3 hl174_3
          replace p174 := eq_true p174
          replace q174 := eq_true q174
          refine start_ (n := 12) (S := fun w' => w'.cell? ⟨gb171, 0, none⟩ = some (.int .i64 a0_0) ∧ w'.cell? ⟨gb171, 1, none⟩ = some (.int .i64 a0_1) ∧ w'.cell? ⟨gb171, 2, none⟩ = some (.string a0_2) ∧ w'.cell? ⟨gb171, 3, none⟩ = some (.slice (some ad173) l0_3.length c0_3) ∧ w'.cell? ⟨gb172, 0, none⟩ = some (.int .i64 a1_0) ∧ w'.cell? ⟨gb172, 1, none⟩ = some (.int .i64 a1_1) ∧ w'.cell? ⟨gb172, 2, none⟩ = some (.string a1_2) ∧ w'.cell? ⟨gb172, 3, none⟩ = some (.slice (some ad174) l1_3.length c1_3) ∧ w'.cell? (ad173.add ((x37_2).toNat * 4)) = some (.int .i64 ((rd_T31 l0_3 x37_2).f0)) ∧ w'.cell? ⟨(ad173.add ((x37_2).toNat * 4)).block, (ad173.add ((x37_2).toNat * 4)).off + 1, none⟩ = some (.int .i64 ((rd_T31 l0_3 x37_2).f1)) ∧ w'.cell? ⟨(ad173.add ((x37_2).toNat * 4)).block, (ad173.add ((x37_2).toNat * 4)).off + 2, none⟩ = some (.string ((rd_T31 l0_3 x37_2).f2)) ∧ w'.cell? ⟨(ad173.add ((x37_2).toNat * 4)).block, (ad173.add ((x37_2).toNat * 4)).off + 3, none⟩ = some (.slice A173_3 ((rd_T31 l0_3 x37_2).f3).length c173_3) ∧ w'.cell? (ad174.add ((x37_2).toNat * 4)) = some (.int .i64 ((rd_T31 l1_3 x37_2).f0)) ∧ w'.cell? ⟨(ad174.add ((x37_2).toNat * 4)).block, (ad174.add ((x37_2).toNat * 4)).off + 1, none⟩ = some (.int .i64 ((rd_T31 l1_3 x37_2).f1)) ∧ w'.cell? ⟨(ad174.add ((x37_2).toNat * 4)).block, (ad174.add ((x37_2).toNat * 4)).off + 2, none⟩ = some (.string ((rd_T31 l1_3 x37_2).f2)) ∧ w'.cell? ⟨(ad174.add ((x37_2).toNat * 4)).block, (ad174.add ((x37_2).toNat * 4)).off + 3, none⟩ = some (.slice A174_3 ((rd_T31 l1_3 x37_2).f3).length c174_3)) (ds := []) #[false, false, false, false, false, false, false, false, false, false, false, false] (by kernel_rfl) rfl rfl ⟨(blkc BK171 0), (blkc BK171 1), (blkc BK171 2), (blkc BK171 3), (blkc BK172 0), (blkc BK172 1), (blkc BK172 2), (blkc BK172 3), (mv_ HB hw173_0), (mv_ HB hw173_1), (mv_ HB hw173_2), (mv_ HB hw173_3), (mv_ HB hw174_0), (mv_ HB hw174_1), (mv_ HB hw174_2), (mv_ HB hw174_3)⟩ (fun hHeld => ?_); refine with_tabW impl_sameOf.tab6 impl_sameOf.bits6 (fun HT_ HW_ => ?_)
          generalize wr.drew = w32 at BK171 BK172 HB HR173_3 HR174_3 hx173_0 hx173_1 hx173_2 hx173_3 hx174_0 hx174_1 hx174_2 hx174_3 hHeld ⊢
          refine puA 0 (some 40) ?_
          refine puA 2 (some 42) ?_
          refine puA 5 (some 45) ?_
          refine puA 7 (some 47) ?_
          refine taA 1 (some 41) ?_
          refine puA 3 (some 43) ?_
          refine taA 4 (some 44) ?_
          refine taA 6 (some 46) ?_
          refine puA 8 (some 48) ?_
          refine taA 9 (some 49) ?_
          refine one_ (i := 10) (N := some 50) #[true, true, true, true, true, true, true, true, true, true, true, false] rfl rfl (one_of HT_.out (by kernel_rfl)) (by decide) (fun K hK => ?_)
          refine goes_ Try.func88 (by kernel_rfl) rfl #[.agg #[.int .i64 ((rd_T31 l0_3 x37_2).f0), .int .i64 ((rd_T31 l0_3 x37_2).f1), .string ((rd_T31 l0_3 x37_2).f2), .slice A173_3 ((rd_T31 l0_3 x37_2).f3).length c173_3], .agg #[.int .i64 ((rd_T31 l1_3 x37_2).f0), .int .i64 ((rd_T31 l1_3 x37_2).f1), .string ((rd_T31 l1_3 x37_2).f2), .slice A174_3 ((rd_T31 l1_3 x37_2).f3).length c174_3]] (by rfl) rfl rfl ar_ ?_
          with_reducible refine (ih k2 (by have := HJ2.out; have := HK2.out; omega) ((rd_T31 l0_3 x37_2).f0) ((rd_T31 l0_3 x37_2).f1) ((rd_T31 l0_3 x37_2).f2) _ _ ((rd_T31 l0_3 x37_2).f3) ((rd_T31 l1_3 x37_2).f0) ((rd_T31 l1_3 x37_2).f1) ((rd_T31 l1_3 x37_2).f2) _ _ ((rd_T31 l1_3 x37_2).f3) false _ ?side1 ?side2 ?side3 ?side4 A28.out).mono ?_
          (case side1 => exact rdb_ HR173_3)
          (case side2 => exact HC173_3.out)
          (case side3 => exact rdb_ HR174_3)
          (case side4 => exact HC174_3.out)
          rintro e w33 ⟨rfl, hb⟩
          refine ⟨_, rfl, ?_⟩
          replace BK171 := bb_ BK171 hb
          replace BK172 := bb_ BK172 hb
          replace HB := bs_ hb
          (try clear hb)
          (try clear hb2)
          (try clear hk)
          (try clear hi)
          refine hK.out _ _ ⟨(blkc BK171 0), (blkc BK171 1), (blkc BK171 2), (blkc BK171 3), (blkc BK172 0), (blkc BK172 1), (blkc BK172 2), (blkc BK172 3), (mv_ HB hw173_0), (mv_ HB hw173_1), (mv_ HB hw173_2), (mv_ HB hw173_3), (mv_ HB hw174_0), (mv_ HB hw174_1), (mv_ HB hw174_2), (mv_ HB hw174_3)⟩ (fun hHeld => ?_)
          clear hK K
          refine norm_ (a' := ?_) ?_ ?_
          rotate_left
          · show Act.put _ (some 50) _ = _
            simp only [Act.put, List.setIfInBounds_toArray, List.set_cons_zero, List.set_cons_succ, i64_w, i32_w]
            rfl
          refine puA 11 (some 51) ?_
          refine done_ (done_of HT_.out (by kernel_rfl)) ?_
          try go_wp2
          go_ret
          exact re_

/-! ### impl_isNo: function 89 -/
def impl_isNo.f (a0_0 : Int) (a0_1 : Int) (a0_2 : ByteArray) (l0_3 : List (S31)) : Option (Bool) := if a0_0 = 1 then (some (a0_1 == 0)) else (some false)
set_option maxHeartbeats 8000000 in
set_option maxRecDepth 100000 in
theorem impl_isNo.calls (a0_0 : Int) (a0_1 : Int) (a0_2 : ByteArray) (A0_3 : Option Addr) (c0_3 : Nat) (l0_3 : List (S31)) (r : Bool) (w : World) (hr0_3 : Kd.C k31 w A0_3 l0_3.length l0_3) (hc0_3 : l0_3.length ≤ c0_3) (h : impl_isNo.f a0_0 a0_1 a0_2 l0_3 = some r) :
    Calls Try.prog 89 #[.agg #[.int .i64 a0_0, .int .i64 a0_1, .string a0_2, .slice A0_3 l0_3.length c0_3]] w fun e w' => e = .returned (.bool r) ∧ Below w.heap.size w w' := by
  have hu31 := Try.underlying31
  have HR0_3 := Aside0.mk hr0_3
  have HC0_3 := Aside0.mk hc0_3
  clear hr0_3 hc0_3
  have HB := Aside0.mk (Below.refl w.heap.size w)
  have H : (if a0_0 = 1 then (some (a0_1 == 0)) else (some false)) = some r := h
  clear h
  by_cases c2 : a0_0 = 1
  · rw [if_pos c2] at H
    have c2b0 : (a0_0 == 1) = true := beq_iff_eq.mpr c2
    have c2b1 : (a0_0 != 1) = false := bne_eq_false_iff_eq.mpr c2
    clear c2
    obtain rfl := Option.some.inj H
    go_enter Try.func89, Try.ntmps89
    go_wp2_with (first | ((with_reducible refine gate_dst (N := 1) rfl ?_); refine bx_ 1 #[.int .i64 a0_0, .int .i64 a0_1, .string a0_2, .slice A0_3 l0_3.length c0_3] 31 ?_; intro gb176 hg w3 hbox hb; have BK176 := Aside0.mk (hbox); have GW176 := gw_ hg; have GE176 := gw_ hg; replace HB := bs_ hb; clear hb hbox hg; obtain ⟨hcz4_0, hcz4_1, hcz4_2, hcz4_3, hfz4_0, hfz4_1, hfz4_2, hfz4_3⟩ := blk4 BK176))
    go_ret
    exact re_
  rw [if_neg c2] at H
  have c2b0 : (a0_0 == 1) = false := beq_eq_false_iff_ne.mpr c2
  have c2b1 : (a0_0 != 1) = true := bne_iff_ne.mpr c2
  obtain rfl := Option.some.inj H
  go_enter Try.func89, Try.ntmps89
  go_wp2_with (first | ((with_reducible refine gate_dst (N := 1) rfl ?_); refine bx_ 1 #[.int .i64 a0_0, .int .i64 a0_1, .string a0_2, .slice A0_3 l0_3.length c0_3] 31 ?_; intro gb176 hg w5 hbox hb; have BK176 := Aside0.mk (hbox); have GW176 := gw_ hg; have GE176 := gw_ hg; replace HB := bs_ hb; clear hb hbox hg; obtain ⟨hcz6_0, hcz6_1, hcz6_2, hcz6_3, hfz6_0, hfz6_1, hfz6_2, hfz6_3⟩ := blk4 BK176))
  go_ret
  exact re_

end Go.Proofs.Ytejikddbdhahaaa.G
