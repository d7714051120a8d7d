/- Values that are ok. -/
import Derived.Test.YtehdfbhfbidadaaCname
namespace Go.Proofs.Ytehdfbhfbidadaa.V
open Go
set_option linter.unusedVariables false
set_option linter.unusedSimpArgs false
set_option maxHeartbeats 8000000
def okB (c : UInt8) : Bool := !(decide ((c.toNat : Int) < 32) || decide (126 < (c.toNat : Int)) || decide ((c.toNat : Int) = 39))
def okT (s : Tx) : Bool := s.all okB && decide (s.length ≤ 16)
theorem okT_false {s : Tx} {i : Nat} {c : UInt8} (h : s[i]? = some c) (h1 : okB c = false) : okT s = false := by
  rw [Bool.eq_false_iff]
  intro h2
  simp only [okT, Bool.and_eq_true, List.all_eq_true] at h2
  exact absurd (h2.1 c (List.mem_of_getElem? h)) (by simp [h1])
theorem okT_of {s : Tx} (h : ∀ (j : Nat) (c : UInt8), s[j]? = some c → okB c = true) : okT s = decide (s.length ≤ 16) := by
  have : s.all okB = true := List.all_eq_true.2 fun c hc => by
    obtain ⟨j, hj⟩ := List.mem_iff_getElem?.1 hc
    exact h j c hj
  simp [okT, this]
theorem l1Text_c (s : Tx) (hs : ln s) : Rv Try.prog 148 [.s s] (.b (okT s)) := by
  refine via_spec_l1Text (by simp) ?_
  simp [pc_spec_l1Text]
  refine W_for (fun i => ⟨[(3, .i .i64 i), (0, .s s)], [], 0, 0⟩) s.length (fun i => ∀ j c, j < i → s[j]? = some c → okB c = true) (Wk.less rfl (by simp) (by simp) (by simp)) (by simp) ?_
  intro i hi hv
  rcases Nat.lt_or_ge i s.length with h1 | h1
  · obtain ⟨x, hx⟩ : ∃ x, s[i]? = some x := ⟨_, List.getElem?_eq_getElem h1⟩
    have hw : IntKind.i64.wrap ((i : Int) + 1) = (i : Int) + 1 := wrap1 (by omega)
    by_cases h3 : (x.toNat : Int) < 32
    · simp [-getElem?_pos, hx, h1, h3, hw]
      exact fin_val rfl (by simp [okT_false hx (by simp [okB]; omega)]) (by simp)
    · by_cases h4 : 126 < (x.toNat : Int)
      · simp [-getElem?_pos, hx, h1, h3, h4, hw]
        exact fin_val rfl (by simp [okT_false hx (by simp [okB]; omega)]) (by simp)
      · by_cases h5 : (x.toNat : Int) = 39
        · simp [-getElem?_pos, hx, h1, h3, h4, h5, hw]
          exact fin_val rfl (by simp [okT_false hx (by simp [okB]; omega)]) (by simp)
        · simp [-getElem?_pos, hx, h1, h3, h4, h5, hw]
          refine ⟨fun j c hj hc => ?_, Wk.to rfl (by simp) (by simp) (by simp) (by simp)⟩
          rcases Nat.lt_or_ge j i with h6 | h6
          · exact hv j c h6 hc
          · obtain rfl : j = i := by omega
            rw [hx] at hc; simp at hc; subst hc
            simp [okB]; omega
  · have h2 : ¬ i < s.length := by omega
    simp [h2]
    refine fin_val rfl ?_ (by simp)
    rw [okT_of fun j c hc => hv j c (by have := (List.getElem?_eq_some_iff.1 hc).1; omega) hc]
    simp
    omega
theorem textFits_c (s : Tx) (hs : ln s) : Rv Try.prog 128 [.s s] (.b (okT s)) := by
  refine via_impl_textFits (by simp) ?_
  by_cases h16 : 16 < s.length
  · have h16' : (16 : Int) < s.length := by omega
    simp [pc_impl_textFits, h16, h16']
    exact fin_val rfl (by simp [okT]; omega) (by simp)
  · have h16' : ¬ (16 : Int) < s.length := by omega
    simp [pc_impl_textFits, h16, h16']
    refine W_for (fun i => ⟨[(3, .i .i64 i), (0, .s s)], [], 0, 0⟩) s.length (fun i => ∀ j c, j < i → s[j]? = some c → okB c = true) (Wk.less rfl (by simp) (by simp) (by simp)) (by simp) ?_
    intro i hi hv
    rcases Nat.lt_or_ge i s.length with h1 | h1
    · obtain ⟨x, hx⟩ : ∃ x, s[i]? = some x := ⟨_, List.getElem?_eq_getElem h1⟩
      have hw : IntKind.i64.wrap ((i : Int) + 1) = (i : Int) + 1 := wrap1 (by omega)
      by_cases h3 : (x.toNat : Int) < 32
      · simp [-getElem?_pos, hx, h1, h3, hw]
        exact fin_val rfl (by simp [okT_false hx (by simp [okB]; omega)]) (by simp)
      · by_cases h4 : 126 < (x.toNat : Int)
        · simp [-getElem?_pos, hx, h1, h3, h4, hw]
          exact fin_val rfl (by simp [okT_false hx (by simp [okB]; omega)]) (by simp)
        · by_cases h5 : (x.toNat : Int) = 39
          · simp [-getElem?_pos, hx, h1, h3, h4, h5, hw]
            exact fin_val rfl (by simp [okT_false hx (by simp [okB]; omega)]) (by simp)
          · simp [-getElem?_pos, hx, h1, h3, h4, h5, hw]
            refine ⟨fun j c hj hc => ?_, Wk.to rfl (by simp) (by simp) (by simp) (by simp)⟩
            rcases Nat.lt_or_ge j i with h6 | h6
            · exact hv j c h6 hc
            · obtain rfl : j = i := by omega
              rw [hx] at hc; simp at hc; subst hc
              simp [okB]; omega
    · have h2 : ¬ i < s.length := by omega
      simp [h2]
      refine fin_val rfl ?_ (by simp)
      rw [okT_of fun j c hc => hv j c (by have := (List.getElem?_eq_some_iff.1 hc).1; omega) hc]
      simp
      omega
/-- A value that is ok, and at most so many within each other. -/
def okV : Nat → Vl → Bool
  | 0, _ => false
  | d + 1, .mk k n s l =>
    if k = 0 then decide (n = 0) && decide (s = []) && decide (l.length = 0)
    else if k = 1 then (decide (n = 0) || decide (n = 1)) && decide (s = []) && decide (l.length = 0)
    else if k = 2 then decide (-1000000000 ≤ n) && decide (n ≤ 1000000000) && decide (s = []) && decide (l.length = 0)
    else if k = 3 then decide (n = 0) && okT s && decide (l.length = 0)
    else if k = 5 ∨ k = 6 then decide (0 ≤ n) && decide (n ≤ 1000000000) && decide (s = []) && decide (l.length = 0)
    else if k = 4 then decide (n = 0) && decide (s = []) && decide (l.length ≤ 6) && l.all (okV d)
    else false
theorem valueFits_0 (v : Vl) : Rv Try.prog 65 [.agg (sV.I v), .i .i64 0] (.b false) := by
  refine via_impl_valueFits (by simp) ?_
  obtain ⟨k, n, s, l⟩ := v
  simp [pc_impl_valueFits]
  exact fin_val rfl (by simp) (by simp)
theorem valueFits_c (d : Nat) (hd : d ≤ 3) : ∀ v : Vl, v.fit → Rv Try.prog 65 [.agg (sV.I v), .i .i64 (d : Int)] (.b (okV d v)) := by
  induction d with
  | zero => exact fun v _ => valueFits_0 v
  | succ d ih =>
    intro v hf
    obtain ⟨k, n, s, l⟩ := v
    obtain ⟨_, _, hs, hl, hv⟩ := Vl.fit_mk.1 hf
    refine via_impl_valueFits (by simp) ?_
    have h1 : ¬ ((d + 1 : Nat) : Int) < 1 := by omega
    have h1' : ¬ (d : Int) + 1 < 1 := by omega
    have h1'' : ¬ (d : Int) < 0 := by omega
    by_cases k0 : k = 0
    · subst k0
      by_cases hn : n = 0
      · by_cases hs0 : s = []
        · simp [pc_impl_valueFits, h1, h1', hn, hs0]
          exact fin_val rfl (by simp [okV, hn, hs0]) (by simp)
        · simp [pc_impl_valueFits, h1, h1', hn, hs0]
          exact fin_val rfl (by simp [okV, hn, hs0]) (by simp)
      · simp [pc_impl_valueFits, h1, h1', hn]
        exact fin_val rfl (by simp [okV, hn]) (by simp)
    by_cases k1 : k = 1
    · subst k1
      by_cases hn : n = 0
      · by_cases hs0 : s = []
        · simp [pc_impl_valueFits, h1, h1', hn, hs0]
          exact fin_val rfl (by simp [okV, hn, hs0]) (by simp)
        · simp [pc_impl_valueFits, h1, h1', hn, hs0]
          exact fin_val rfl (by simp [okV, hn, hs0]) (by simp)
      · by_cases hn1 : n = 1
        · by_cases hs0 : s = []
          · simp [pc_impl_valueFits, h1, h1', hn, hn1, hs0]
            exact fin_val rfl (by simp [okV, hn, hn1, hs0]) (by simp)
          · simp [pc_impl_valueFits, h1, h1', hn, hn1, hs0]
            exact fin_val rfl (by simp [okV, hn, hn1, hs0]) (by simp)
        · simp [pc_impl_valueFits, h1, h1', hn, hn1]
          exact fin_val rfl (by simp [okV, hn, hn1]) (by simp)
    by_cases k2 : k = 2
    · subst k2
      by_cases hn : -1000000000 ≤ n
      · by_cases hn2 : n ≤ 1000000000
        · by_cases hs0 : s = []
          · simp [pc_impl_valueFits, h1, h1', hn, hn2, hs0]
            exact fin_val rfl (by simp [okV, hn, hn2, hs0]) (by simp)
          · simp [pc_impl_valueFits, h1, h1', hn, hn2, hs0]
            exact fin_val rfl (by simp [okV, hn, hn2, hs0]) (by simp)
        · simp [pc_impl_valueFits, h1, h1', hn, hn2]
          exact fin_val rfl (by simp [okV, hn, hn2]) (by simp)
      · simp [pc_impl_valueFits, h1, h1', hn]
        exact fin_val rfl (by simp [okV, hn]) (by simp)
    by_cases k3 : k = 3
    · subst k3
      by_cases hn : n = 0
      · simp [pc_impl_valueFits, h1, h1', hn]
        refine callK_val (by simp) (textFits_c s hs) rfl ?_
        by_cases ht : okT s = true
        · simp [ht]
          exact fin_val rfl (by simp [okV, ht]) (by simp)
        · simp [ht]
          exact fin_val rfl (by simp [okV, ht]) (by simp)
      · simp [pc_impl_valueFits, h1, h1', hn]
        exact fin_val rfl (by simp [okV, hn]) (by simp)
    by_cases k5 : k = 5
    · subst k5
      by_cases hn : 0 ≤ n
      · by_cases hn2 : n ≤ 1000000000
        · by_cases hs0 : s = []
          · simp [pc_impl_valueFits, h1, h1', hn, hn2, hs0]
            exact fin_val rfl (by simp [okV, hn, hn2, hs0]) (by simp)
          · simp [pc_impl_valueFits, h1, h1', hn, hn2, hs0]
            exact fin_val rfl (by simp [okV, hn, hn2, hs0]) (by simp)
        · simp [pc_impl_valueFits, h1, h1', hn, hn2]
          exact fin_val rfl (by simp [okV, hn, hn2]) (by simp)
      · simp [pc_impl_valueFits, h1, h1', hn]
        exact fin_val rfl (by simp [okV, hn]) (by simp)
    by_cases k6 : k = 6
    · subst k6
      by_cases hn : 0 ≤ n
      · by_cases hn2 : n ≤ 1000000000
        · by_cases hs0 : s = []
          · simp [pc_impl_valueFits, h1, h1', hn, hn2, hs0]
            exact fin_val rfl (by simp [okV, hn, hn2, hs0]) (by simp)
          · simp [pc_impl_valueFits, h1, h1', hn, hn2, hs0]
            exact fin_val rfl (by simp [okV, hn, hn2, hs0]) (by simp)
        · simp [pc_impl_valueFits, h1, h1', hn, hn2]
          exact fin_val rfl (by simp [okV, hn, hn2]) (by simp)
      · simp [pc_impl_valueFits, h1, h1', hn]
        exact fin_val rfl (by simp [okV, hn]) (by simp)
    by_cases k4 : k = 4
    · subst k4
      by_cases hn : n = 0
      · by_cases hs0 : s = []
        · by_cases hl6 : 6 < l.length
          · have hl6' : (6 : Int) < l.length := by omega
            simp [pc_impl_valueFits, h1, h1', hn, hs0, hl6']
            have hl7 : ¬ l.length ≤ 6 := by omega
            exact fin_val rfl (by simp [okV, hl7]) (by simp)
          · have hl6' : ¬ (6 : Int) < l.length := by omega
            simp [pc_impl_valueFits, h1, h1', hn, hs0, hl6']
            have hwd : IntKind.i64.wrap (d : Int) = d := wrap64 (by omega) (by omega)
            refine W_for (fun i => ⟨[(126, .i .i64 i), (125, .i .i64 l.length), (124, .imm (l.map sV.I)), (1, .i .i64 ((d : Int) + 1))], [], 1, 0⟩) l.length (fun i => ∀ j v, j < i → l[j]? = some v → okV d v = true) (Wk.less rfl (by simp) (by simp) (by simp)) (by simp) ?_
            intro i hi hv2
            rcases Nat.lt_or_ge i l.length with h2 | h2
            · obtain ⟨x, hx⟩ : ∃ x, l[i]? = some x := ⟨_, List.getElem?_eq_getElem h2⟩
              have hw : IntKind.i64.wrap ((i : Int) + 1) = (i : Int) + 1 := wrap1 (by omega)
              simp [-getElem?_pos, hx, hw, h2, hwd]
              refine callK_val (by simp) (ih (by omega) x (hv x (List.mem_of_getElem? hx))) rfl ?_
              by_cases ho : okV d x = true
              · simp [-getElem?_pos, hx, hw, h2, hwd, ho]
                refine ⟨fun j v hj hc => ?_, Wk.to rfl (by simp) (by simp) (by simp) (by simp)⟩
                rcases Nat.lt_or_ge j i with h6 | h6
                · exact hv2 j v h6 hc
                · obtain rfl : j = i := by omega
                  rw [hx] at hc; simp at hc; subst hc; exact ho
              · simp [-getElem?_pos, hx, hw, h2, hwd, ho]
                refine fin_val rfl ?_ (by simp)
                have : l.all (okV d) = false := by
                  rw [Bool.eq_false_iff]; intro h
                  exact ho (List.all_eq_true.1 h x (List.mem_of_getElem? hx))
                simp [okV, this]
            · have h3 : ¬ i < l.length := by omega
              simp [h3]
              have : l.all (okV d) = true := List.all_eq_true.2 fun v hm => by
                obtain ⟨j, hj⟩ := List.mem_iff_getElem?.1 hm
                exact hv2 j v (by have := (List.getElem?_eq_some_iff.1 hj).1; omega) hj
              have hl7 : l.length ≤ 6 := by omega
              exact fin_val rfl (by simp [okV, hn, hs0, this, hl7]) (by simp)
        · simp [pc_impl_valueFits, h1, h1', hn, hs0]
          exact fin_val rfl (by simp [okV, hn, hs0]) (by simp)
      · simp [pc_impl_valueFits, h1, h1', hn]
        exact fin_val rfl (by simp [okV, hn]) (by simp)
    simp [pc_impl_valueFits, h1, h1', k0, k1, k2, k3, k4, k5, k6]
    exact fin_val rfl (by simp [okV, k0, k1, k2, k3, k4, k5, k6]) (by simp)
/-- The lists' case apart. -/
theorem l1Ok_of (d : Nat) (hd : d ≤ 2) (k n : Int) (s : Tx) (l : List Vl) (hs : ln s) (hl : ln l) (h4' : k = 4 → Rv Try.prog 87 [.agg (sV.I (.mk 4 n s l)), .i .i64 ((d : Int) + 1)] (.b (okV (d + 1) (.mk 4 n s l)))) :
    Rv Try.prog 87 [.agg (sV.I (.mk k n s l)), .i .i64 ((d : Int) + 1)] (.b (okV (d + 1) (.mk k n s l))) := by
  by_cases k4 : k = 4
  · subst k4; exact h4' rfl
  refine via_spec_l1Ok (by simp) ?_
  by_cases k0 : k = 0
  · subst k0
    by_cases hs0 : s = []
    · by_cases hl0 : l = []
      · by_cases hn : n = 0
        · simp [pc_spec_l1Ok, hs0, hl0, hn]
          exact fin_val rfl (by simp [okV, hs0, hl0, hn]) (by simp)
        · simp [pc_spec_l1Ok, hs0, hl0, hn]
          exact fin_val rfl (by simp [okV, hs0, hl0, hn]) (by simp)
      · simp [pc_spec_l1Ok, hs0, hl0]
        exact fin_val rfl (by simp [okV, hs0, hl0]) (by simp)
    · simp [pc_spec_l1Ok, hs0]
      exact fin_val rfl (by simp [okV, hs0]) (by simp)
  by_cases k1 : k = 1
  · subst k1
    by_cases hs0 : s = []
    · by_cases hl0 : l = []
      · simp [pc_spec_l1Ok, hs0, hl0]
        refine callK_val (by simp) (l1In_c n 0 1) rfl ?_
        by_cases a : 0 ≤ n
        · by_cases b : n ≤ 1
          · simp [a, b]
            exact fin_val rfl (by simp [okV, a, b, hs0, hl0]; omega) (by simp)
          · simp [a, b]
            exact fin_val rfl (by simp [okV, a, b, hs0, hl0]; omega) (by simp)
        · simp [a]
          exact fin_val rfl (by simp [okV, a, hs0, hl0]; omega) (by simp)
      · simp [pc_spec_l1Ok, hs0, hl0]
        exact fin_val rfl (by simp [okV, hs0, hl0]) (by simp)
    · simp [pc_spec_l1Ok, hs0]
      exact fin_val rfl (by simp [okV, hs0]) (by simp)
  by_cases k2 : k = 2
  · subst k2
    by_cases hs0 : s = []
    · by_cases hl0 : l = []
      · simp [pc_spec_l1Ok, hs0, hl0]
        refine callK_val (by simp) (l1In_c n (-1000000000) 1000000000) rfl ?_
        by_cases a : -1000000000 ≤ n
        · by_cases b : n ≤ 1000000000
          · simp [a, b]
            exact fin_val rfl (by simp [okV, a, b, hs0, hl0]) (by simp)
          · simp [a, b]
            exact fin_val rfl (by simp [okV, a, b, hs0, hl0]) (by simp)
        · simp [a]
          exact fin_val rfl (by simp [okV, a, hs0, hl0]) (by simp)
      · simp [pc_spec_l1Ok, hs0, hl0]
        exact fin_val rfl (by simp [okV, hs0, hl0]) (by simp)
    · simp [pc_spec_l1Ok, hs0]
      exact fin_val rfl (by simp [okV, hs0]) (by simp)
  by_cases k3 : k = 3
  · subst k3
    by_cases hn : n = 0
    · by_cases hl0 : l = []
      · by_cases hs0 : s = []
        · subst hs0
          simp [pc_spec_l1Ok, hn, hl0]
          refine callK_val (by simp) (l1Text_c [] (by simp [ln])) rfl ?_
          simp [okT]
          exact fin_val rfl (by simp [okV, okT]) (by simp)
        · simp [pc_spec_l1Ok, hn, hl0, hs0]
          refine callK_val (by simp) (l1Text_c s hs) rfl ?_
          by_cases ht : okT s = true
          · simp [ht]
            exact fin_val rfl (by simp [okV, ht]) (by simp)
          · simp [ht]
            exact fin_val rfl (by simp [okV, ht]) (by simp)
      · by_cases hs0 : s = []
        all_goals
          simp [pc_spec_l1Ok, hn, hl0, hs0]
          exact fin_val rfl (by simp [okV, hn, hl0]) (by simp)
    · by_cases hs0 : s = []
      all_goals
        by_cases hl0 : l = []
        all_goals
          simp [pc_spec_l1Ok, hn, hs0, hl0]
          exact fin_val rfl (by simp [okV, hn]) (by simp)
  by_cases k5 : k = 5
  · subst k5
    by_cases hs0 : s = []
    · by_cases hl0 : l = []
      · simp [pc_spec_l1Ok, hs0, hl0]
        refine callK_val (by simp) (l1In_c n 0 1000000000) rfl ?_
        by_cases a : 0 ≤ n
        · by_cases b : n ≤ 1000000000
          · simp [a, b]
            exact fin_val rfl (by simp [okV, a, b, hs0, hl0]) (by simp)
          · simp [a, b]
            exact fin_val rfl (by simp [okV, a, b, hs0, hl0]) (by simp)
        · simp [a]
          exact fin_val rfl (by simp [okV, a, hs0, hl0]) (by simp)
      · simp [pc_spec_l1Ok, hs0, hl0]
        exact fin_val rfl (by simp [okV, hs0, hl0]) (by simp)
    · simp [pc_spec_l1Ok, hs0]
      exact fin_val rfl (by simp [okV, hs0]) (by simp)
  by_cases k6 : k = 6
  · subst k6
    by_cases hs0 : s = []
    · by_cases hl0 : l = []
      · simp [pc_spec_l1Ok, hs0, hl0]
        refine callK_val (by simp) (l1In_c n 0 1000000000) rfl ?_
        by_cases a : 0 ≤ n
        · by_cases b : n ≤ 1000000000
          · simp [a, b]
            exact fin_val rfl (by simp [okV, a, b, hs0, hl0]) (by simp)
          · simp [a, b]
            exact fin_val rfl (by simp [okV, a, b, hs0, hl0]) (by simp)
        · simp [a]
          exact fin_val rfl (by simp [okV, a, hs0, hl0]) (by simp)
      · simp [pc_spec_l1Ok, hs0, hl0]
        exact fin_val rfl (by simp [okV, hs0, hl0]) (by simp)
    · simp [pc_spec_l1Ok, hs0]
      exact fin_val rfl (by simp [okV, hs0]) (by simp)
  by_cases hs0 : s = []
  all_goals
    by_cases hl0 : l = []
    all_goals
      simp [pc_spec_l1Ok, hs0, hl0, k0, k1, k2, k3, k4, k5, k6]
      exact fin_val rfl (by simp [okV, k0, k1, k2, k3, k4, k5, k6]) (by simp)
/-- Lists. -/
theorem l1Ok_list (d : Nat) (hd : d ≤ 2) (n : Int) (s : Tx) (l : List Vl) (hl : ln l) (h : ∀ v ∈ l, 1 ≤ d → Rv Try.prog 87 [.agg (sV.I v), .i .i64 (d : Int)] (.b (okV d v))) : Rv Try.prog 87 [.agg (sV.I (.mk 4 n s l)), .i .i64 ((d : Int) + 1)] (.b (okV (d + 1) (.mk 4 n s l))) := by
  refine via_spec_l1Ok (by simp) ?_
  have hwd : IntKind.i64.wrap (d : Int) = d := wrap64 (by omega) (by omega)
  rcases Classical.em (s = []) with hs0 | hs0
  all_goals
    rcases Classical.em (l = []) with hl0 | hl0
    all_goals
      first | have e1 := eq_false hs0 | have e1 := eq_true hs0
      first | have e2 := eq_false hl0 | have e2 := eq_true hl0
      simp [pc_spec_l1Ok, e1, e2]
      refine W_for (fun i => ⟨[(6, .i .i64 i), (2, .ptr 0 0 0), (1, .i .i64 ((d : Int) + 1))], [(0, .arr 4 [sV.I (.mk 4 n s l)])], 1, 0⟩) l.length (fun i => ∀ j v, j < i → l[j]? = some v → okV d v = true) (Wk.less rfl (by simp) (by simp) (by simp)) (by simp) ?_
      intro i hi hv2
      clear e1 e2
      rcases Nat.lt_or_ge i l.length with h2 | h2
      · obtain ⟨x, hx⟩ : ∃ x, l[i]? = some x := ⟨_, List.getElem?_eq_getElem h2⟩
        have hw : IntKind.i64.wrap ((i : Int) + 1) = (i : Int) + 1 := wrap1 (by omega)
        by_cases hd0 : d = 0
        · have hd2 : (d : Int) + 1 < 2 := by omega
          simp [-getElem?_pos, hx, hw, h2, hwd, hd2]
          refine fin_val rfl ?_ (by simp)
          have : l.all (okV d) = false := by
            rw [Bool.eq_false_iff]; intro h
            have := List.all_eq_true.1 h x (List.mem_of_getElem? hx)
            simp [hd0, okV] at this
          simp [okV, this]
        · have hd2 : ¬ (d : Int) + 1 < 2 := by omega
          simp [-getElem?_pos, hx, hw, h2, hwd, hd2]
          refine callK_val (by simp) (h x (List.mem_of_getElem? hx) (by omega)) rfl ?_
          by_cases ho : okV d x = true
          · simp [-getElem?_pos, hx, hw, h2, hwd, ho, hd2]
            refine ⟨fun j v hj hc => ?_, Wk.to1 rfl (by simp) (by simp) (by simp) (by simp) (by omega)⟩
            rcases Nat.lt_or_ge j i with h6 | h6
            · exact hv2 j v h6 hc
            · obtain rfl : j = i := by omega
              rw [hx] at hc; simp at hc; subst hc; exact ho
          · simp [-getElem?_pos, hx, hw, h2, hwd, ho, hd2]
            refine fin_val rfl ?_ (by simp)
            have : l.all (okV d) = false := by
              rw [Bool.eq_false_iff]; intro h
              exact ho (List.all_eq_true.1 h x (List.mem_of_getElem? hx))
            simp [okV, this]
      · have h3 : ¬ i < l.length := by omega
        have hal : l.all (okV d) = true := List.all_eq_true.2 fun v hm => by
          obtain ⟨j, hj⟩ := List.mem_iff_getElem?.1 hm
          exact hv2 j v (by have := (List.getElem?_eq_some_iff.1 hj).1; omega) hj
        by_cases hn : n = 0
        · by_cases hs1 : s = []
          · simp [h3, hn, hs1]
            exact fin_val rfl (by simp [okV, hal]; omega) (by simp)
          · simp [h3, hn, hs1]
            exact fin_val rfl (by simp [okV, hs1]) (by simp)
        · simp [h3, hn]
          exact fin_val rfl (by simp [okV, hn]) (by simp)
theorem l1Ok_c (d : Nat) (hd : d ≤ 2) : ∀ v : Vl, v.fit → Rv Try.prog 87 [.agg (sV.I v), .i .i64 ((d : Int) + 1)] (.b (okV (d + 1) v)) := by
  induction d with
  | zero =>
    intro v hf
    obtain ⟨k, n, s, l⟩ := v
    obtain ⟨_, _, hs, hl, hv⟩ := Vl.fit_mk.1 hf
    exact l1Ok_of 0 (by omega) k n s l hs hl fun _ => l1Ok_list 0 (by omega) n s l hl fun v hm h => by omega
  | succ d ih =>
    intro v hf
    obtain ⟨k, n, s, l⟩ := v
    obtain ⟨_, _, hs, hl, hv⟩ := Vl.fit_mk.1 hf
    exact l1Ok_of (d + 1) hd k n s l hs hl fun _ => l1Ok_list (d + 1) hd n s l hl fun v hm h => ih (by omega) v (hv v hm)
end Go.Proofs.Ytehdfbhfbidadaa.V
