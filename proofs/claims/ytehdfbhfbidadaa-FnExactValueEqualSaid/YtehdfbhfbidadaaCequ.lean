/- Whether two values are equal: yes, no, or not known. -/
import Derived.Test.YtehdfbhfbidadaaCsame
import Derived.Test.YtehdfbhfbidadaaVpm
namespace Go.Proofs.Ytehdfbhfbidadaa.V
open Go
set_option linter.unusedVariables false
set_option linter.unusedSimpArgs false
set_option maxHeartbeats 4000000
def valO : Option Bool → Vl | none => .mk 0 0 [] [] | some b => .mk 1 (if b = true then 1 else 0) [] []
def valC : Option Bool → List T | none => [.i .i64 0, .i .i64 0, .s [], .nl] | some b => [.i .i64 1, .i .i64 (if b = true then 1 else 0), .s [], .nl]
def knO (o : Nat → Option Bool) : Nat → Bool | 0 => true | n + 1 => knO o n && (o n).isSome
open Classical in
noncomputable def resO (o : Nat → Option Bool) (n : Nat) : Option Bool := if ∃ i, i < n ∧ o i = some false then some false else if knO o n = true then some true else none
theorem valC0 : valC none = [.i .i64 0, .i .i64 0, .s [], .nl] := rfl
theorem valCT : valC (some true) = [.i .i64 1, .i .i64 1, .s [], .nl] := rfl
theorem valCF : valC (some false) = [.i .i64 1, .i .i64 0, .s [], .nl] := rfl
theorem l1Bool_c (b : Bool) : Rv Try.prog 121 [.b b] (.agg (valC (some b))) := by
  refine via_spec_l1Bool (by simp) ?_
  cases b
  · simp [pc_spec_l1Bool]
    exact fin_own (by simp; rfl) (by simp [valC]) (by simp) (by simp [valC])
  · simp [pc_spec_l1Bool]
    exact fin_own (by simp; rfl) (by simp [valC]) (by simp) (by simp [valC])
theorem yesOrNo_c (b : Bool) : Rv Try.prog 122 [.b b] (.agg (valC (some b))) := by
  refine via_impl_yesOrNo (by simp) ?_
  cases b
  · simp [pc_impl_yesOrNo]
    exact fin_own (by simp; rfl) (by simp [valC]) (by simp) (by simp [valC])
  · simp [pc_impl_yesOrNo]
    exact fin_own (by simp; rfl) (by simp [valC]) (by simp) (by simp [valC])
theorem isNo_c (o : Option Bool) : Rv Try.prog 123 [.agg (sV.I (valO o))] (.b (decide (o = some false))) := by
  refine via_impl_isNo (by simp) ?_
  rcases o with _ | _ | _
  · simp [pc_impl_isNo, valO]
    exact fin_val rfl (by simp) (by simp)
  · simp [pc_impl_isNo, valO]
    exact fin_val rfl (by simp) (by simp)
  · simp [pc_impl_isNo, valO]
    exact fin_val rfl (by simp) (by simp)
/-- What both compute. -/
def EqBoth (a b : Vl) (o : Option Bool) : Prop := Rv Try.prog 59 [.agg (sV.I a), .agg (sV.I b)] (.agg (valC o)) ∧ Rv Try.prog 57 [.agg (sV.I a), .agg (sV.I b)] (.agg (valC o))
theorem knO_true {o : Nat → Option Bool} : ∀ {n : Nat}, knO o n = true ↔ ∀ i, i < n → o i ≠ none
  | 0 => by simp [knO]
  | n + 1 => by
    simp only [knO, Bool.and_eq_true, knO_true (n := n)]
    constructor
    · rintro ⟨h1, h2⟩ i hi
      rcases Nat.lt_or_ge i n with h | h
      · exact h1 i h
      · obtain rfl : i = n := by omega
        intro h3; rw [h3] at h2; exact absurd h2 (by simp)
    · intro h
      refine ⟨fun i hi => h i (by omega), ?_⟩
      have := h n (by omega)
      cases ho : o n with
      | none => exact absurd ho this
      | some b => rfl
theorem resO_no {o : Nat → Option Bool} {n i : Nat} (hi : i < n) (h : o i = some false) : resO o n = some false := by
  unfold resO; rw [if_pos ⟨i, hi, h⟩]
theorem resO_all {o : Nat → Option Bool} {n : Nat} (h : ∀ i, i < n → o i ≠ some false) : resO o n = if knO o n = true then some true else none := by
  unfold resO; rw [if_neg (by rintro ⟨i, hi, h2⟩; exact h i hi h2)]
theorem eq0 (a b : Vl) (h : a.k = 0 ∨ b.k = 0) : EqBoth a b none := by
  obtain ⟨k, n, s, l⟩ := a
  obtain ⟨k', n', s', l'⟩ := b
  simp only [Vl.k] at h
  constructor
  · refine via_impl_equalOf (by simp) ?_
    by_cases h1 : k = 0
    · simp [pc_impl_equalOf, h1]
      exact fin_own (by simp; rfl) (by simp [valC]) (by simp) (by simp [valC])
    · have h2 : k' = 0 := by omega
      simp [pc_impl_equalOf, h1, h2]
      exact fin_own (by simp; rfl) (by simp [valC]) (by simp) (by simp [valC])
  · refine via_spec_l1Equal (by simp) ?_
    by_cases h1 : k = 0
    · simp [pc_spec_l1Equal, h1]
      exact fin_own (by simp; rfl) (by simp [valC]) (by simp) (by simp [valC])
    · have h2 : k' = 0 := by omega
      simp [pc_spec_l1Equal, h1, h2]
      exact fin_own (by simp; rfl) (by simp [valC]) (by simp) (by simp [valC])
theorem eq_plain (k n : Int) (s : Tx) (l : List Vl) (k' n' : Int) (s' : Tx) (l' : List Vl) (ha : (Vl.mk k n s l).fit) (hb : (Vl.mk k' n' s' l').fit) (h1 : k ≠ 0) (h2 : k' ≠ 0) (hl : k ≠ 4 ∨ k' ≠ 4) : EqBoth (.mk k n s l) (.mk k' n' s' l') (some (sameB (.mk k n s l) (.mk k' n' s' l'))) := by
  have hc := sameOf_c _ ha _ hb
  have hd := l1Same_c _ ha _ hb
  have hy := yesOrNo_c (sameB (.mk k n s l) (.mk k' n' s' l'))
  have hz := l1Bool_c (sameB (.mk k n s l) (.mk k' n' s' l'))
  generalize sameB (.mk k n s l) (.mk k' n' s' l') = q at *
  have hv : (T.agg (valC (some q))).noImm = true := by cases q <;> simp [T.noImm, valC]
  constructor
  · refine via_impl_equalOf (by simp) ?_
    by_cases h4 : k = 4
    · have h5 : k' ≠ 4 := by omega
      subst h4
      simp [pc_impl_equalOf, h2, h5]
      refine callK_val (by simp) hc rfl ?_
      simp
      refine callK_val (by simp) hy hv ?_
      simp [valC]
      exact fin_own (by simp; rfl) (by simp [valC]) (by simp) (by simp [valC])
    · simp [pc_impl_equalOf, h1, h2, h4]
      refine callK_val (by simp) hc rfl ?_
      simp
      refine callK_val (by simp) hy hv ?_
      simp [valC]
      exact fin_own (by simp; rfl) (by simp [valC]) (by simp) (by simp [valC])
  · refine via_spec_l1Equal (by simp) ?_
    by_cases h4 : k = 4
    · have h5 : k' ≠ 4 := by omega
      subst h4
      simp [pc_spec_l1Equal, h2, h5]
      refine callK_val (by simp) hd rfl ?_
      simp
      refine callK_val (by simp) hz hv ?_
      simp [valC]
      exact fin_own (by simp; rfl) (by simp [valC]) (by simp) (by simp [valC])
    · simp [pc_spec_l1Equal, h1, h2, h4]
      refine callK_val (by simp) hd rfl ?_
      simp
      refine callK_val (by simp) hz hv ?_
      simp [valC]
      exact fin_own (by simp; rfl) (by simp [valC]) (by simp) (by simp [valC])
theorem eq_len (n : Int) (s : Tx) (l : List Vl) (n' : Int) (s' : Tx) (l' : List Vl) (ha : (Vl.mk 4 n s l).fit) (hb : (Vl.mk 4 n' s' l').fit) (hl : l.length ≠ l'.length) : EqBoth (.mk 4 n s l) (.mk 4 n' s' l') (some false) := by
  have hc := sameOf_c _ ha _ hb
  have : sameB (.mk 4 n s l) (.mk 4 n' s' l') = false := by
    rw [sameB_false]; intro h; injection h with _ _ _ h; exact hl (by rw [h])
  rw [this] at hc
  have hy := yesOrNo_c false
  have hz := l1Bool_c false
  have hv : (T.agg (valC (some false))).noImm = true := by simp [T.noImm, valC]
  have hl' : ¬ (l.length : Int) = l'.length := by omega
  constructor
  · refine via_impl_equalOf (by simp) ?_
    simp [pc_impl_equalOf, hl, hl']
    refine callK_val (by simp) hc rfl ?_
    simp
    refine callK_val (by simp) hy hv ?_
    simp [valC]
    exact fin_own (by simp; rfl) (by simp [valC]) (by simp) (by simp [valC])
  · refine via_spec_l1Equal (by simp) ?_
    simp [pc_spec_l1Equal, hl, hl']
    refine callK_val (by simp) hz hv ?_
    simp [valC]
    exact fin_own (by simp; rfl) (by simp [valC]) (by simp) (by simp [valC])
theorem eq_list (n : Int) (s : Tx) (l : List Vl) (n' : Int) (s' : Tx) (l' : List Vl) (ha : (Vl.mk 4 n s l).fit) (hb : (Vl.mk 4 n' s' l').fit) (hl : l.length = l'.length) (o : Nat → Option Bool) (ho : ∀ i x y, l[i]? = some x → l'[i]? = some y → EqBoth x y (o i)) : EqBoth (.mk 4 n s l) (.mk 4 n' s' l') (resO o l.length) := by
  obtain ⟨_, _, hs, hln, hv⟩ := Vl.fit_mk.1 ha
  have hl' : (l.length : Int) = l'.length := by omega
  have hvo : ∀ o, (T.agg (valC o)).noImm = true := fun o => by rcases o with _ | _ | _ <;> simp [T.noImm, valC]
  constructor
  · refine via_impl_equalOf (by simp) ?_
    simp [pc_impl_equalOf, hl, hl']
    refine callK_val (by simp) (yesOrNo_c true) (hvo _) ?_
    simp [valC]
    refine W_for (fun i => ⟨[(42, .i .i64 i), (41, .i .i64 l.length), (5, .ptr 3 0 0), (2, .ptr 0 0 0), (3, .ptr 1 0 0), (4, .ptr 2 0 0)], [(0, .arr 4 [sV.I (.mk 4 n s l)]), (1, .arr 4 [sV.I (.mk 4 n' s' l')]), (2, .arr 4 [[.i .i64 0, .i .i64 0, .s [], .nl]]), (3, .arr 4 [valC (if knO o i = true then some true else none)])], 40, 0⟩) l.length (fun i => ∀ j, j < i → o j ≠ some false) ?_ (by simp) ?_
    · have hv0 : valC (if knO o 0 = true then some true else none) = [.i .i64 1, .i .i64 1, .s [], .nl] := rfl
      exact Wk.less rfl (by simp) (by simp [hl, hv0]) (by simp [hv0])
    intro i hi ht
    rcases Nat.lt_or_ge i l.length with h2 | h2
    · obtain ⟨x, hx⟩ : ∃ x, l[i]? = some x := ⟨_, List.getElem?_eq_getElem h2⟩
      obtain ⟨y, hy⟩ : ∃ y, l'[i]? = some y := ⟨_, List.getElem?_eq_getElem (by omega)⟩
      have h2' : i < l'.length := by omega
      have hw : IntKind.i64.wrap ((i : Int) + 1) = (i : Int) + 1 := wrap1 (by omega)
      have hc := (ho i x y hx hy).1
      have hn := isNo_c (o i)
      have hk : knO o (i + 1) = (knO o i && (o i).isSome) := rfl
      obtain ⟨A, hA⟩ : ∃ A, A = (if knO o i = true then some true else none) := ⟨_, rfl⟩
      have hA1 : (if knO o (i + 1) = true then some true else none) = (if (o i).isSome = true then A else none) := by
        rw [hk, hA]; cases knO o i <;> cases (o i) <;> rfl
      rw [← hA, hA1]
      have hAc : A = none ∨ A = some true := by rw [hA]; split <;> simp
      have hvA : ∃ a b, valC A = [.i .i64 a, .i .i64 b, .s [], .nl] := by rcases hAc with h | h <;> rw [h] <;> exact ⟨_, _, rfl⟩
      obtain ⟨va, vb, hvA⟩ := hvA
      simp [-getElem?_pos, hx, hy, hw, h2, h2', hl]
      refine callK_val (by simp) hc (hvo _) ?_
      rcases e : o i with _ | _ | _
      · have ht2 : ∀ j, j < i + 1 → o j ≠ some false := fun j hj => by
          rcases Nat.lt_or_ge j i with h6 | h6
          · exact ht j h6
          · obtain rfl : j = i := by omega
            rw [e]; simp
        rw [e] at hn
        simp [-getElem?_pos, hx, hy, hw, h2, h2', hl, hvA, valC0, valCT, valCF]
        repeat with_reducible refine need_mk (by decide +kernel) ?_
        refine callK_val (by simp [valO]) hn (by simp [T.noImm]) ?_
        simp [-getElem?_pos, hx, hy, hw, h2, h2', hl, hvA, valC0, valCT, valCF]
        repeat with_reducible refine need_mk (by first | decide +kernel | simp) ?_
        exact ⟨ht2, Wk.to rfl (by simp) (by simp [hl, hvA, valC0]) (by simp [Blk.names, hvA, valC0]) (by simp)⟩
      · have hr := resO_no h2 e
        rw [e] at hn
        rw [hl] at hr
        simp [-getElem?_pos, hx, hy, hw, h2, h2', hl, hvA, valC0, valCT, valCF]
        repeat with_reducible refine need_mk (by decide +kernel) ?_
        refine callK_val (by simp [valO]) hn (by simp [T.noImm]) ?_
        simp [-getElem?_pos, hx, hy, hw, h2, h2', hl, hvA, valC0, valCT, valCF]
        repeat with_reducible refine need_mk (by first | decide +kernel | simp) ?_
        exact fin_own (by simp; rfl) (by simp [valC, hr]) (by simp) (by simp [valC, hr])
      · have ht2 : ∀ j, j < i + 1 → o j ≠ some false := fun j hj => by
          rcases Nat.lt_or_ge j i with h6 | h6
          · exact ht j h6
          · obtain rfl : j = i := by omega
            rw [e]; simp
        rw [e] at hn
        simp [-getElem?_pos, hx, hy, hw, h2, h2', hl, hvA, valC0, valCT, valCF]
        repeat with_reducible refine need_mk (by decide +kernel) ?_
        refine callK_val (by simp [valO]) hn (by simp [T.noImm]) ?_
        simp [-getElem?_pos, hx, hy, hw, h2, h2', hl, hvA, valC0, valCT, valCF]
        repeat with_reducible refine need_mk (by first | decide +kernel | simp) ?_
        exact ⟨ht2, Wk.to rfl (by simp) (by simp [hl, hvA]) (by simp [Blk.names, hvA]) (by simp)⟩
    · obtain rfl : i = l.length := by omega
      have hr := resO_all ht
      rw [hl] at hr
      cases hq : knO o l'.length with
      | true =>
        rw [hq] at hr
        simp [hl, hq, valC]
        exact fin_own (by simp; rfl) (by simp [valC, hr]) (by simp) (by simp [valC, hr])
      | false =>
        rw [hq] at hr
        simp [hl, hq, valC]
        exact fin_own (by simp; rfl) (by simp [valC, hr]) (by simp) (by simp [valC, hr])
  · refine via_spec_l1Equal (by simp) ?_
    simp [pc_spec_l1Equal, hl, hl']
    refine W_for (fun i => ⟨[(6, .i .i64 i), (5, .b (knO o i)), (2, .ptr 0 0 0), (3, .ptr 1 0 0), (4, .ptr 2 0 0)], [(0, .arr 4 [sV.I (.mk 4 n s l)]), (1, .arr 4 [sV.I (.mk 4 n' s' l')]), (2, .arr 4 [[.i .i64 0, .i .i64 0, .s [], .nl]])], 40, 0⟩) l.length (fun i => ∀ j, j < i → o j ≠ some false) (Wk.less rfl (by simp) (by simp [hl]; rfl) (by simp)) (by simp) ?_
    intro i hi ht
    rcases Nat.lt_or_ge i l.length with h2 | h2
    · obtain ⟨x, hx⟩ : ∃ x, l[i]? = some x := ⟨_, List.getElem?_eq_getElem h2⟩
      obtain ⟨y, hy⟩ : ∃ y, l'[i]? = some y := ⟨_, List.getElem?_eq_getElem (by omega)⟩
      have h2' : i < l'.length := by omega
      have hw : IntKind.i64.wrap ((i : Int) + 1) = (i : Int) + 1 := wrap1 (by omega)
      have hc := (ho i x y hx hy).2
      simp [-getElem?_pos, hx, hy, hw, h2, h2', hl]
      refine callK_val (by simp) hc (hvo _) ?_
      have hk : knO o (i + 1) = (knO o i && (o i).isSome) := rfl
      rcases e : o i with _ | _ | _
      · rw [e] at hk
        have ht2 : ∀ j, j < i + 1 → o j ≠ some false := fun j hj => by
          rcases Nat.lt_or_ge j i with h6 | h6
          · exact ht j h6
          · obtain rfl : j = i := by omega
            rw [e]; simp
        cases hkk : knO o i <;> rw [hkk] at hk
        · simp [-getElem?_pos, hx, hy, hw, h2, h2', hl, valC]
          repeat with_reducible refine need_mk (by decide +kernel) ?_
          exact ⟨ht2, Wk.to rfl (by simp [hk]) (by simp [hl, hk]) (by simp [Blk.names]) (by simp)⟩
        · simp [-getElem?_pos, hx, hy, hw, h2, h2', hl, valC]
          repeat with_reducible refine need_mk (by decide +kernel) ?_
          exact ⟨ht2, Wk.to rfl (by simp [hk]) (by simp [hl, hk]) (by simp [Blk.names]) (by simp)⟩
      · have hr := resO_no h2 e
        rw [hl] at hr
        simp [-getElem?_pos, hx, hy, hw, h2, h2', hl, valC]
        repeat with_reducible refine need_mk (by decide +kernel) ?_
        exact fin_own (by simp; rfl) (by simp [valC, hr]) (by simp) (by simp [valC, hr])
      · rw [e] at hk
        have ht2 : ∀ j, j < i + 1 → o j ≠ some false := fun j hj => by
          rcases Nat.lt_or_ge j i with h6 | h6
          · exact ht j h6
          · obtain rfl : j = i := by omega
            rw [e]; simp
        cases hkk : knO o i <;> rw [hkk] at hk
        · simp [-getElem?_pos, hx, hy, hw, h2, h2', hl, valC]
          repeat with_reducible refine need_mk (by decide +kernel) ?_
          exact ⟨ht2, Wk.to rfl (by simp [hk]) (by simp [hl, hk]) (by simp [Blk.names]) (by simp)⟩
        · simp [-getElem?_pos, hx, hy, hw, h2, h2', hl, valC]
          repeat with_reducible refine need_mk (by decide +kernel) ?_
          exact ⟨ht2, Wk.to rfl (by simp [hk]) (by simp [hl, hk]) (by simp [Blk.names]) (by simp)⟩
    · obtain rfl : i = l.length := by omega
      have hr := resO_all ht
      have h3 : ¬ l.length < l'.length := by omega
      simp [h3, hl]
      rw [hl] at hr
      cases hq : knO o l'.length with
      | true =>
        rw [hq] at hr
        simp [hq]
        refine callK_val (by simp) (l1Bool_c true) (hvo _) ?_
        simp [valC]
        exact fin_own (by simp; rfl) (by simp [valC, hr]) (by simp) (by simp [valC, hr])
      | false =>
        rw [hq] at hr
        simp [hq]
        exact fin_own (by simp; rfl) (by simp [valC, hr]) (by simp) (by simp [valC, hr])
theorem eq_both (v : Vl) : v.fit → ∀ w : Vl, w.fit → ∃ o, EqBoth v w o := by
  refine Vl.ind (p := fun v => v.fit → ∀ w : Vl, w.fit → ∃ o, EqBoth v w o) ?_ v
  intro k n s l ih hf w hw
  obtain ⟨k', n', s', l'⟩ := w
  obtain ⟨_, _, _, _, hv⟩ := Vl.fit_mk.1 hf
  obtain ⟨_, _, _, _, hv'⟩ := Vl.fit_mk.1 hw
  by_cases h0 : k = 0 ∨ k' = 0
  · exact ⟨_, eq0 _ _ h0⟩
  by_cases h4 : k ≠ 4 ∨ k' ≠ 4
  · exact ⟨_, eq_plain k n s l k' n' s' l' hf hw (by omega) (by omega) h4⟩
  obtain ⟨rfl, rfl⟩ : k = 4 ∧ k' = 4 := by omega
  by_cases hl : l.length = l'.length
  · have : ∀ i : Nat, ∃ o : Option Bool, ∀ x y : Vl, l[i]? = some x → l'[i]? = some y → EqBoth x y o := by
      intro i
      cases hx : l[i]? with
      | none => exact ⟨none, by simp⟩
      | some x =>
        cases hy : l'[i]? with
        | none => exact ⟨none, by simp⟩
        | some y =>
          obtain ⟨o, ho⟩ := ih x (List.mem_of_getElem? hx) (hv x (List.mem_of_getElem? hx)) y (hv' y (List.mem_of_getElem? hy))
          refine ⟨o, ?_⟩
          rintro _ _ ⟨⟩ ⟨⟩
          exact ho
    obtain ⟨o, ho⟩ := Classical.axiomOfChoice this
    exact ⟨_, eq_list n s l n' s' l' hf hw hl o ho⟩
  · exact ⟨_, eq_len n s l n' s' l' hf hw hl⟩
theorem ValueEqual_both (v w : Vl) (hv : v.fit) (hw : w.fit) : ∃ r : Vl, r.cnt ≤ 0 ∧ Rv Try.prog 17 [.agg (sV.I v), .agg (sV.I w)] (.agg (sV.O r)) ∧ Rv Try.prog 15 [.agg (sV.I v), .agg (sV.I w)] (.agg (sV.O r)) := by
  have h1 := ValueOk_c v hv
  have h2 := ValueOk_c w hw
  have s1 := specValueOk_c v hv
  have s2 := specValueOk_c w hw
  obtain ⟨o, e1, e2⟩ := eq_both v hv w hw
  have hvo : ∀ o, (T.agg (valC o)).noImm = true := fun o => by rcases o with _ | _ | _ <;> simp [T.noImm, valC]
  have cz : (valO none).cnt ≤ 0 := by simp [valO, Vl.cnt_mk, cl, sums]
  have cO : ∀ o, (valO o).cnt ≤ 0 := fun o => by rcases o with _ | _ | _ <;> simp [valO, Vl.cnt_mk, cl, sums]
  obtain ⟨k, n, s, l⟩ := v
  obtain ⟨k', n', s', l'⟩ := w
  by_cases a1 : vOk (.mk k n s l) = true
  · by_cases a2 : vOk (.mk k' n' s' l') = true
    · rw [a1] at h1 s1
      rw [a2] at h2 s2
      refine ⟨valO o, cO o, ?_, ?_⟩
      · refine via_impl_ValueEqual (by simp) ?_
        simp [pc_impl_ValueEqual]
        refine callK_val (by simp) h1 rfl ?_
        simp
        refine callK_val (by simp) h2 rfl ?_
        simp
        refine callK_val (by simp) e1 (hvo _) ?_
        rcases o with _ | _ | _
        all_goals
          simp [valC]
          exact fin_own (by simp; rfl) (by simp [valO]) (by simp) (by simp [valO])
      · refine via_spec_ValueEqual (by simp) ?_
        simp [pc_spec_ValueEqual]
        refine callK_val (by simp) s1 rfl ?_
        simp
        refine callK_val (by simp) s2 rfl ?_
        simp
        refine callK_val (by simp) e2 (hvo _) ?_
        rcases o with _ | _ | _
        all_goals
          simp [valC]
          exact fin_own (by simp; rfl) (by simp [valO]) (by simp) (by simp [valO])
    · have a2' : vOk (.mk k' n' s' l') = false := by simpa using a2
      rw [a1] at h1 s1
      rw [a2'] at h2 s2
      refine ⟨valO none, cz, ?_, ?_⟩
      · refine via_impl_ValueEqual (by simp) ?_
        simp [pc_impl_ValueEqual]
        refine callK_val (by simp) h1 rfl ?_
        simp
        refine callK_val (by simp) h2 rfl ?_
        simp
        exact fin_own (by simp; rfl) (by simp [valO]) (by simp) (by simp [valO])
      · refine via_spec_ValueEqual (by simp) ?_
        simp [pc_spec_ValueEqual]
        refine callK_val (by simp) s1 rfl ?_
        simp
        refine callK_val (by simp) s2 rfl ?_
        simp
        exact fin_own (by simp; rfl) (by simp [valO]) (by simp) (by simp [valO])
  · have a1' : vOk (.mk k n s l) = false := by simpa using a1
    rw [a1'] at h1 s1
    refine ⟨valO none, cz, ?_, ?_⟩
    · refine via_impl_ValueEqual (by simp) ?_
      simp [pc_impl_ValueEqual]
      refine callK_val (by simp) h1 rfl ?_
      simp
      exact fin_own (by simp; rfl) (by simp [valO]) (by simp) (by simp [valO])
    · refine via_spec_ValueEqual (by simp) ?_
      simp [pc_spec_ValueEqual]
      refine callK_val (by simp) s1 rfl ?_
      simp
      exact fin_own (by simp; rfl) (by simp [valO]) (by simp) (by simp [valO])
noncomputable def eqR (v w : Vl) (hv : v.fit) (hw : w.fit) : Vl := Classical.choose (ValueEqual_both v w hv hw)
theorem eqR_cnt (v w : Vl) (hv : v.fit) (hw : w.fit) : (eqR v w hv hw).cnt ≤ 0 := (Classical.choose_spec (ValueEqual_both v w hv hw)).1
theorem eqR_impl (v w : Vl) (hv : v.fit) (hw : w.fit) : Rv Try.prog 17 [.agg (sV.I v), .agg (sV.I w)] (.agg (sV.O (eqR v w hv hw))) := (Classical.choose_spec (ValueEqual_both v w hv hw)).2.1
theorem eqR_spec (v w : Vl) (hv : v.fit) (hw : w.fit) : Rv Try.prog 15 [.agg (sV.I v), .agg (sV.I w)] (.agg (sV.O (eqR v w hv hw))) := (Classical.choose_spec (ValueEqual_both v w hv hw)).2.2
end Go.Proofs.Ytehdfbhfbidadaa.V
