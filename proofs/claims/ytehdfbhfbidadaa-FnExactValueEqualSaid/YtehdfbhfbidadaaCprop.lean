/- Props and labels that are ok. -/
import Derived.Test.YtehdfbhfbidadaaCval
namespace Go.Proofs.Ytehdfbhfbidadaa.V
open Go
set_option linter.unusedVariables false
set_option linter.unusedSimpArgs false
set_option maxHeartbeats 8000000
def vOk (v : Vl) : Bool := okV 3 v
theorem specValueOk_c (v : Vl) (hf : v.fit) : Rv Try.prog 35 [.agg (sV.I v)] (.b (vOk v)) := by
  obtain ⟨k, n, s, l⟩ := v
  refine via_spec_ValueOk (by simp) ?_
  simp [pc_spec_ValueOk]
  refine callK_val (by simp) (l1Ok_c 2 (by omega) (.mk k n s l) hf) rfl ?_
  simp
  exact fin_val rfl (by simp [vOk]) (by simp)
theorem ValueOk_c (v : Vl) (hf : v.fit) : Rv Try.prog 24 [.agg (sV.I v)] (.b (vOk v)) := by
  obtain ⟨k, n, s, l⟩ := v
  refine via_impl_ValueOk (by simp) ?_
  simp [pc_impl_ValueOk]
  refine callK_val (by simp) (valueFits_c 3 (by omega) (.mk k n s l) hf) rfl ?_
  simp
  exact fin_val rfl (by simp [vOk]) (by simp)
/-! ### kinds within a value -/
mutual
def Vl.has (q : Int) : Vl → Bool
  | .mk k _ _ l => decide (k = q) || Vl.hass q l
def Vl.hass (q : Int) : List Vl → Bool
  | [] => false
  | v :: l => v.has q || Vl.hass q l
end
theorem Vl.hass_eq (q : Int) : ∀ l, Vl.hass q l = l.any (Vl.has q)
  | [] => rfl
  | v :: l => by simp [Vl.hass, Vl.hass_eq q l]
theorem Vl.has_mk (q k n : Int) (s : Tx) (l : List Vl) : (Vl.mk k n s l).has q = (decide (k = q) || l.any (Vl.has q)) := by rw [Vl.has, Vl.hass_eq]
mutual
def Vl.plain : Vl → Bool
  | .mk k _ _ l => Vl.plains l && decide (1 ≤ k) && decide (k ≤ 4)
def Vl.plains : List Vl → Bool
  | [] => true
  | v :: l => v.plain && Vl.plains l
end
theorem Vl.plains_eq : ∀ l, Vl.plains l = l.all Vl.plain
  | [] => rfl
  | v :: l => by simp [Vl.plains, Vl.plains_eq l]
theorem Vl.plain_mk (k n : Int) (s : Tx) (l : List Vl) : (Vl.mk k n s l).plain = (l.all Vl.plain && decide (1 ≤ k) && decide (k ≤ 4)) := by rw [Vl.plain, Vl.plains_eq]
/-- Of an ok value: plain just if nothing, no node and no edge is within it. -/
theorem plain_has : ∀ (d : Nat) (v : Vl), okV d v = true → v.plain = (!v.has 0 && !v.has 5 && !v.has 6) := by
  intro d
  induction d with
  | zero => intro v h; simp [okV] at h
  | succ d ih =>
    rintro ⟨k, n, s, l⟩ h
    have hall : ∀ v ∈ l, okV d v = true := by
      by_cases k4 : k = 4
      · subst k4
        simp [okV] at h
        exact h.2
      · have : l = [] := by
          unfold okV at h
          split at h
          · simp at h; exact h.2
          · split at h
            · simp at h; exact h.2
            · split at h
              · simp at h; exact h.2
              · split at h
                · simp at h; exact h.2
                · split at h
                  · simp at h; exact h.2
                  · simp [k4] at h
        simp [this]
    have hk : 0 ≤ k ∧ k ≤ 6 := by
      unfold okV at h
      split at h
      · omega
      · split at h
        · omega
        · split at h
          · omega
          · split at h
            · omega
            · split at h
              · omega
              · split at h
                · omega
                · simp at h
    have hl : l.all Vl.plain = (!l.any (Vl.has 0) && !l.any (Vl.has 5) && !l.any (Vl.has 6)) := by
      clear h
      induction l with
      | nil => rfl
      | cons v l ihl =>
        simp only [List.all_cons, List.any_cons, ih v (hall v (by simp)), ihl (fun w hw => hall w (by simp [hw]))]
        cases v.has 0 <;> cases v.has 5 <;> cases v.has 6 <;> simp
    rw [Vl.plain_mk, Vl.has_mk, Vl.has_mk, Vl.has_mk, hl]
    by_cases k0 : k = 0
    · simp [k0]
    by_cases k5 : k = 5
    · simp [k5]
    by_cases k6 : k = 6
    · simp [k6]
    · have h1 : 1 ≤ k := by omega
      have h2 : k ≤ 4 := by omega
      simp [k0, k5, k6, h1, h2]
theorem l2Plain_c (v : Vl) : v.fit → Rv Try.prog 147 [.agg (sV.I v)] (.b v.plain) := by
  refine Vl.ind (p := fun v => v.fit → Rv Try.prog 147 [.agg (sV.I v)] (.b v.plain)) ?_ v
  intro k n s l ih hf
  obtain ⟨_, _, hs, hl, hv⟩ := Vl.fit_mk.1 hf
  refine via_spec_l2Plain (by simp) ?_
  simp [pc_spec_l2Plain]
  refine W_for (fun i => ⟨[(3, .i .i64 i), (1, .ptr 0 0 0)], [(0, .arr 4 [sV.I (.mk k n s l)])], 1, 0⟩) l.length (fun i => ∀ j v, j < i → l[j]? = some v → v.plain = true) (Wk.less rfl (by simp) (by simp) (by simp)) (by simp) ?_
  intro i hi hv2
  rcases Nat.lt_or_ge i l.length with h2 | h2
  · obtain ⟨x, hx⟩ : ∃ x, l[i]? = some x := ⟨_, List.getElem?_eq_getElem h2⟩
    have hw : IntKind.i64.wrap ((i : Int) + 1) = (i : Int) + 1 := wrap1 (by omega)
    simp [-getElem?_pos, hx, hw, h2]
    refine callK_val (by simp) (ih x (List.mem_of_getElem? hx) (hv x (List.mem_of_getElem? hx))) rfl ?_
    by_cases ho : x.plain = true
    · simp [-getElem?_pos, hx, hw, h2, ho]
      refine ⟨fun j v hj hc => ?_, Wk.to1 rfl (by simp) (by simp) (by simp) (by simp) (by omega)⟩
      rcases Nat.lt_or_ge j i with h6 | h6
      · exact hv2 j v h6 hc
      · obtain rfl : j = i := by omega
        rw [hx] at hc; simp at hc; subst hc; exact ho
    · simp [-getElem?_pos, hx, hw, h2, ho]
      refine fin_val rfl ?_ (by simp)
      have : l.all Vl.plain = false := by
        rw [Bool.eq_false_iff]; intro h
        exact ho (List.all_eq_true.1 h x (List.mem_of_getElem? hx))
      simp [Vl.plain_mk, this]
  · have h3 : ¬ i < l.length := by omega
    simp [h3]
    refine callK_val (by simp) (l1In_c k 1 4) rfl ?_
    simp
    have : l.all Vl.plain = true := List.all_eq_true.2 fun v hm => by
      obtain ⟨j, hj⟩ := List.mem_iff_getElem?.1 hm
      exact hv2 j v (by have := (List.getElem?_eq_some_iff.1 hj).1; omega) hj
    exact fin_val rfl (by simp [Vl.plain_mk, this]) (by simp)
theorem valueHas_c (q : Int) (v : Vl) : v.fit → Rv Try.prog 169 [.agg (sV.I v), .i .i64 q] (.b (v.has q)) := by
  refine Vl.ind (p := fun v => v.fit → Rv Try.prog 169 [.agg (sV.I v), .i .i64 q] (.b (v.has q))) ?_ v
  intro k n s l ih hf
  obtain ⟨_, _, hs, hl, hv⟩ := Vl.fit_mk.1 hf
  refine via_impl_valueHas (by simp) ?_
  by_cases hk : k = q
  · simp [pc_impl_valueHas, hk]
    exact fin_val rfl (by simp [Vl.has_mk]) (by simp)
  · simp [pc_impl_valueHas, hk]
    refine W_for (fun i => ⟨[(14, .i .i64 i), (13, .i .i64 l.length), (12, .imm (l.map sV.I)), (1, .i .i64 q)], [], 1, 0⟩) l.length (fun i => ∀ j v, j < i → l[j]? = some v → v.has q = false) (Wk.less rfl (by simp) (by simp) (by simp)) (by simp) ?_
    intro i hi hv2
    rcases Nat.lt_or_ge i l.length with h2 | h2
    · obtain ⟨x, hx⟩ : ∃ x, l[i]? = some x := ⟨_, List.getElem?_eq_getElem h2⟩
      have hw : IntKind.i64.wrap ((i : Int) + 1) = (i : Int) + 1 := wrap1 (by omega)
      simp [-getElem?_pos, hx, hw, h2]
      refine callK_val (by simp) (ih x (List.mem_of_getElem? hx) (hv x (List.mem_of_getElem? hx))) rfl ?_
      by_cases ho : x.has q = true
      · simp [-getElem?_pos, hx, hw, h2, ho]
        refine fin_val rfl ?_ (by simp)
        have : l.any (Vl.has q) = true := List.any_eq_true.2 ⟨x, List.mem_of_getElem? hx, ho⟩
        simp [Vl.has_mk, this]
      · simp [-getElem?_pos, hx, hw, h2, ho]
        refine ⟨fun j v hj hc => ?_, Wk.to rfl (by simp) (by simp) (by simp) (by simp)⟩
        rcases Nat.lt_or_ge j i with h6 | h6
        · exact hv2 j v h6 hc
        · obtain rfl : j = i := by omega
          rw [hx] at hc; simp at hc; subst hc; simpa using ho
    · have h3 : ¬ i < l.length := by omega
      simp [h3]
      refine fin_val rfl ?_ (by simp)
      have : l.any (Vl.has q) = false := by
        rw [List.any_eq_false]
        intro v hm
        obtain ⟨j, hj⟩ := List.mem_iff_getElem?.1 hm
        simpa using hv2 j v (by have := (List.getElem?_eq_some_iff.1 hj).1; omega) hj
      simp [Vl.has_mk, this, hk]
/-- What may be stored. -/
def sto (v : Vl) : Bool := vOk v && v.plain
theorem storable_c (v : Vl) (hf : v.fit) : Rv Try.prog 108 [.agg (sV.I v)] (.b (sto v)) := by
  refine via_impl_storable (by simp) ?_
  have hp := plain_has 3 v
  obtain ⟨k, n, s, l⟩ := v
  simp [pc_impl_storable]
  refine callK_val (by simp) (ValueOk_c _ hf) rfl ?_
  by_cases h1 : vOk (.mk k n s l) = true
  · have hp := hp h1
    simp [h1]
    refine callK_val (by simp) (valueHas_c 0 _ hf) rfl ?_
    by_cases h2 : (Vl.mk k n s l).has 0 = true
    · simp [h1, h2]
      exact fin_val rfl (by simp [sto, h1, hp, h2]) (by simp)
    · simp [h1, h2]
      refine callK_val (by simp) (valueHas_c 5 _ hf) rfl ?_
      by_cases h3 : (Vl.mk k n s l).has 5 = true
      · simp [h1, h2, h3]
        exact fin_val rfl (by simp [sto, h1, hp, h2, h3]) (by simp)
      · simp [h1, h2, h3]
        refine callK_val (by simp) (valueHas_c 6 _ hf) rfl ?_
        simp [h1, h2, h3]
        exact fin_val rfl (by simp [sto, h1, hp, h2, h3]) (by simp)
  · simp [h1]
    exact fin_val rfl (by simp [sto, h1]) (by simp)
end Go.Proofs.Ytehdfbhfbidadaa.V
