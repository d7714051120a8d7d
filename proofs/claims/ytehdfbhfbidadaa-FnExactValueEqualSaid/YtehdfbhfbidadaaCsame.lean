/- Whether two values are the same. -/
import Derived.Test.YtehdfbhfbidadaaCgok2
namespace Go.Proofs.Ytehdfbhfbidadaa.V
open Go
set_option linter.unusedVariables false
set_option linter.unusedSimpArgs false
set_option maxHeartbeats 4000000
noncomputable def sameB (a b : Vl) : Bool := @decide (a = b) (Classical.propDecidable _)
theorem sameB_iff {a b : Vl} : sameB a b = true ↔ a = b := by simp [sameB]
theorem sameB_false {a b : Vl} : sameB a b = false ↔ a ≠ b := by simp [sameB]
theorem takes_succ {l l' : List Vl} {i : Nat} (h : l.take i = l'.take i) {x : Vl} (hx : l[i]? = some x) (hy : l'[i]? = some x) : l.take (i + 1) = l'.take (i + 1) := by
  rw [List.take_add_one, List.take_add_one, h, hx, hy]
theorem takes_no {l l' : List Vl} {i : Nat} {x y : Vl} (hx : l[i]? = some x) (hy : l'[i]? = some y) (h : x ≠ y) : l ≠ l' := by
  rintro rfl; rw [hx] at hy; exact h (Option.some.inj hy)
theorem asV_c (v : Vl) : v.fit → ∀ w : Vl, w.fit → Rv Try.prog 38 [.agg (sV.I v), .agg (sV.I w)] (.b (sameB v w)) := by
  refine Vl.ind (p := fun v => v.fit → ∀ w : Vl, w.fit → Rv Try.prog 38 [.agg (sV.I v), .agg (sV.I w)] (.b (sameB v w))) ?_ v
  intro k n s l ih hf w hw
  obtain ⟨_, _, hs, hl, hv⟩ := Vl.fit_mk.1 hf
  obtain ⟨k', n', s', l'⟩ := w
  obtain ⟨_, _, hs', hl', hv'⟩ := Vl.fit_mk.1 hw
  refine via_laws_asValue (by simp) ?_
  by_cases c1 : k = k'
  · by_cases c2 : n = n'
    · by_cases c3 : s = s'
      · by_cases c4 : l.length = l'.length
        · have c4' : (l.length : Int) = l'.length := by omega
          subst c1 c2 c3
          simp [pc_laws_asValue, c4, c4']
          refine W_for (fun i => ⟨[(5, .i .i64 i), (2, .ptr 0 0 0), (3, .ptr 1 0 0)], [(0, .arr 4 [sV.I (.mk k n s l)]), (1, .arr 4 [sV.I (.mk k n s l')])], 20, 0⟩) l.length (fun i => l.take i = l'.take i) (Wk.less (by simp [c4]) (by simp [c4]) (by simp [c4]) (by simp)) (by simp) ?_
          intro i hi ht
          rcases Nat.lt_or_ge i l.length with h2 | h2
          · obtain ⟨x, hx⟩ : ∃ x, l[i]? = some x := ⟨_, List.getElem?_eq_getElem h2⟩
            obtain ⟨y, hy⟩ : ∃ y, l'[i]? = some y := ⟨_, List.getElem?_eq_getElem (by omega)⟩
            have h2' : i < l'.length := by omega
            have hw : IntKind.i64.wrap ((i : Int) + 1) = (i : Int) + 1 := wrap1 (by omega)
            have hc := ih x (List.mem_of_getElem? hx) (hv x (List.mem_of_getElem? hx)) y (hv' y (List.mem_of_getElem? hy))
            simp [-getElem?_pos, hx, hy, hw, h2, h2', c4]
            refine callK_val (by simp) hc rfl ?_
            cases e : sameB x y with
            | true =>
              rw [sameB_iff] at e; subst e
              simp [-getElem?_pos, hx, hy, hw, h2, h2', c4]
              exact ⟨takes_succ ht hx hy, Wk.to rfl (by simp [c4]) (by simp [c4]) (by simp [Blk.names]) (by simp)⟩
            | false =>
              rw [sameB_false] at e
              have : sameB (.mk k n s l) (.mk k n s l') = false := by
                rw [sameB_false]; intro h; injection h with _ _ _ h; exact takes_no hx hy e h
              simp [-getElem?_pos, hx, hy, hw, h2, h2', c4]
              exact fin_val rfl (by simp [this]) (by simp)
          · have h3 : ¬ i < l.length := by omega
            have h3' : ¬ i < l'.length := by omega
            have : l = l' := by
              have := ht; rwa [List.take_of_length_le (by omega), List.take_of_length_le (by omega)] at this
            simp [h3, h3', c4]
            exact fin_val rfl (by simp [sameB_iff.2, this]) (by simp)
        · have c4' : ¬ (l.length : Int) = l'.length := by omega
          have : sameB (.mk k n s l) (.mk k' n' s' l') = false := by
            rw [sameB_false]; intro h; injection h with _ _ _ h; exact c4 (by rw [h])
          rw [this]
          simp [pc_laws_asValue, c1, c2, c3, c4, c4']
          exact fin_val rfl (by simp) (by simp)
      · have : sameB (.mk k n s l) (.mk k' n' s' l') = false := by
          rw [sameB_false]; intro h; injection h with _ _ h _; exact c3 h
        rw [this]
        simp [pc_laws_asValue, c1, c2, c3]
        exact fin_val rfl (by simp) (by simp)
    · have : sameB (.mk k n s l) (.mk k' n' s' l') = false := by
        rw [sameB_false]; intro h; injection h with _ h _ _; exact c2 h
      rw [this]
      simp [pc_laws_asValue, c1, c2]
      exact fin_val rfl (by simp) (by simp)
  · have : sameB (.mk k n s l) (.mk k' n' s' l') = false := by
      rw [sameB_false]; intro h; injection h with h _ _ _; exact c1 h
    rw [this]
    simp [pc_laws_asValue, c1]
    exact fin_val rfl (by simp) (by simp)
theorem l1Same_c (v : Vl) : v.fit → ∀ w : Vl, w.fit → Rv Try.prog 119 [.agg (sV.I v), .agg (sV.I w)] (.b (sameB v w)) := by
  refine Vl.ind (p := fun v => v.fit → ∀ w : Vl, w.fit → Rv Try.prog 119 [.agg (sV.I v), .agg (sV.I w)] (.b (sameB v w))) ?_ v
  intro k n s l ih hf w hw
  obtain ⟨_, _, hs, hl, hv⟩ := Vl.fit_mk.1 hf
  obtain ⟨k', n', s', l'⟩ := w
  obtain ⟨_, _, hs', hl', hv'⟩ := Vl.fit_mk.1 hw
  refine via_spec_l1Same (by simp) ?_
  by_cases c1 : k = k'
  · by_cases c2 : n = n'
    · by_cases c3 : s = s'
      · by_cases c4 : l.length = l'.length
        · have c4' : (l.length : Int) = l'.length := by omega
          subst c1 c2 c3
          simp [pc_spec_l1Same, c4, c4']
          refine W_for (fun i => ⟨[(5, .i .i64 i), (2, .ptr 0 0 0), (3, .ptr 1 0 0)], [(0, .arr 4 [sV.I (.mk k n s l)]), (1, .arr 4 [sV.I (.mk k n s l')])], 20, 0⟩) l.length (fun i => l.take i = l'.take i) (Wk.less (by simp [c4]) (by simp [c4]) (by simp [c4]) (by simp)) (by simp) ?_
          intro i hi ht
          rcases Nat.lt_or_ge i l.length with h2 | h2
          · obtain ⟨x, hx⟩ : ∃ x, l[i]? = some x := ⟨_, List.getElem?_eq_getElem h2⟩
            obtain ⟨y, hy⟩ : ∃ y, l'[i]? = some y := ⟨_, List.getElem?_eq_getElem (by omega)⟩
            have h2' : i < l'.length := by omega
            have hw : IntKind.i64.wrap ((i : Int) + 1) = (i : Int) + 1 := wrap1 (by omega)
            have hc := ih x (List.mem_of_getElem? hx) (hv x (List.mem_of_getElem? hx)) y (hv' y (List.mem_of_getElem? hy))
            simp [-getElem?_pos, hx, hy, hw, h2, h2', c4]
            refine callK_val (by simp) hc rfl ?_
            cases e : sameB x y with
            | true =>
              rw [sameB_iff] at e; subst e
              simp [-getElem?_pos, hx, hy, hw, h2, h2', c4]
              exact ⟨takes_succ ht hx hy, Wk.to rfl (by simp [c4]) (by simp [c4]) (by simp [Blk.names]) (by simp)⟩
            | false =>
              rw [sameB_false] at e
              have : sameB (.mk k n s l) (.mk k n s l') = false := by
                rw [sameB_false]; intro h; injection h with _ _ _ h; exact takes_no hx hy e h
              simp [-getElem?_pos, hx, hy, hw, h2, h2', c4]
              exact fin_val rfl (by simp [this]) (by simp)
          · have h3 : ¬ i < l.length := by omega
            have h3' : ¬ i < l'.length := by omega
            have : l = l' := by
              have := ht; rwa [List.take_of_length_le (by omega), List.take_of_length_le (by omega)] at this
            simp [h3, h3', c4]
            exact fin_val rfl (by simp [sameB_iff.2, this]) (by simp)
        · have c4' : ¬ (l.length : Int) = l'.length := by omega
          have : sameB (.mk k n s l) (.mk k' n' s' l') = false := by
            rw [sameB_false]; intro h; injection h with _ _ _ h; exact c4 (by rw [h])
          rw [this]
          simp [pc_spec_l1Same, c1, c2, c3, c4, c4']
          exact fin_val rfl (by simp) (by simp)
      · have : sameB (.mk k n s l) (.mk k' n' s' l') = false := by
          rw [sameB_false]; intro h; injection h with _ _ h _; exact c3 h
        rw [this]
        simp [pc_spec_l1Same, c1, c2, c3]
        exact fin_val rfl (by simp) (by simp)
    · have : sameB (.mk k n s l) (.mk k' n' s' l') = false := by
        rw [sameB_false]; intro h; injection h with _ h _ _; exact c2 h
      rw [this]
      simp [pc_spec_l1Same, c1, c2]
      exact fin_val rfl (by simp) (by simp)
  · have : sameB (.mk k n s l) (.mk k' n' s' l') = false := by
      rw [sameB_false]; intro h; injection h with h _ _ _; exact c1 h
    rw [this]
    simp [pc_spec_l1Same, c1]
    exact fin_val rfl (by simp) (by simp)
theorem sameOf_c (v : Vl) : v.fit → ∀ w : Vl, w.fit → Rv Try.prog 81 [.agg (sV.I v), .agg (sV.I w)] (.b (sameB v w)) := by
  refine Vl.ind (p := fun v => v.fit → ∀ w : Vl, w.fit → Rv Try.prog 81 [.agg (sV.I v), .agg (sV.I w)] (.b (sameB v w))) ?_ v
  intro k n s l ih hf w hw
  obtain ⟨_, _, hs, hl, hv⟩ := Vl.fit_mk.1 hf
  obtain ⟨k', n', s', l'⟩ := w
  obtain ⟨_, _, hs', hl', hv'⟩ := Vl.fit_mk.1 hw
  refine via_impl_sameOf (by simp) ?_
  by_cases c1 : k = k'
  · by_cases c2 : n = n'
    · by_cases c3 : s = s'
      · by_cases c4 : l.length = l'.length
        · have c4' : (l.length : Int) = l'.length := by omega
          subst c1 c2 c3
          simp [pc_impl_sameOf, c4, c4']
          refine W_for (fun i => ⟨[(37, .i .i64 i), (36, .i .i64 l.length), (2, .ptr 0 0 0), (3, .ptr 1 0 0)], [(0, .arr 4 [sV.I (.mk k n s l)]), (1, .arr 4 [sV.I (.mk k n s l')])], 20, 0⟩) l.length (fun i => l.take i = l'.take i) (Wk.less (by simp [c4]) (by simp [c4]) (by simp [c4]) (by simp)) (by simp) ?_
          intro i hi ht
          rcases Nat.lt_or_ge i l.length with h2 | h2
          · obtain ⟨x, hx⟩ : ∃ x, l[i]? = some x := ⟨_, List.getElem?_eq_getElem h2⟩
            obtain ⟨y, hy⟩ : ∃ y, l'[i]? = some y := ⟨_, List.getElem?_eq_getElem (by omega)⟩
            have h2' : i < l'.length := by omega
            have hw : IntKind.i64.wrap ((i : Int) + 1) = (i : Int) + 1 := wrap1 (by omega)
            have hc := ih x (List.mem_of_getElem? hx) (hv x (List.mem_of_getElem? hx)) y (hv' y (List.mem_of_getElem? hy))
            simp [-getElem?_pos, hx, hy, hw, h2, h2', c4]
            refine callK_val (by simp) hc rfl ?_
            cases e : sameB x y with
            | true =>
              rw [sameB_iff] at e; subst e
              simp [-getElem?_pos, hx, hy, hw, h2, h2', c4]
              exact ⟨takes_succ ht hx hy, Wk.to rfl (by simp [c4]) (by simp [c4]) (by simp [Blk.names]) (by simp)⟩
            | false =>
              rw [sameB_false] at e
              have : sameB (.mk k n s l) (.mk k n s l') = false := by
                rw [sameB_false]; intro h; injection h with _ _ _ h; exact takes_no hx hy e h
              simp [-getElem?_pos, hx, hy, hw, h2, h2', c4]
              exact fin_val rfl (by simp [this]) (by simp)
          · have h3 : ¬ i < l.length := by omega
            have h3' : ¬ i < l'.length := by omega
            have : l = l' := by
              have := ht; rwa [List.take_of_length_le (by omega), List.take_of_length_le (by omega)] at this
            simp [h3, h3', c4]
            exact fin_val rfl (by simp [sameB_iff.2, this]) (by simp)
        · have c4' : ¬ (l.length : Int) = l'.length := by omega
          have : sameB (.mk k n s l) (.mk k' n' s' l') = false := by
            rw [sameB_false]; intro h; injection h with _ _ _ h; exact c4 (by rw [h])
          rw [this]
          simp [pc_impl_sameOf, c1, c2, c3, c4, c4']
          exact fin_val rfl (by simp) (by simp)
      · have : sameB (.mk k n s l) (.mk k' n' s' l') = false := by
          rw [sameB_false]; intro h; injection h with _ _ h _; exact c3 h
        rw [this]
        simp [pc_impl_sameOf, c1, c2, c3]
        exact fin_val rfl (by simp) (by simp)
    · have : sameB (.mk k n s l) (.mk k' n' s' l') = false := by
        rw [sameB_false]; intro h; injection h with _ h _ _; exact c2 h
      rw [this]
      simp [pc_impl_sameOf, c1, c2]
      exact fin_val rfl (by simp) (by simp)
  · have : sameB (.mk k n s l) (.mk k' n' s' l') = false := by
      rw [sameB_false]; intro h; injection h with h _ _ _; exact c1 h
    rw [this]
    simp [pc_impl_sameOf, c1]
    exact fin_val rfl (by simp) (by simp)
end Go.Proofs.Ytehdfbhfbidadaa.V
