/- Names and texts. -/
import Derived.Test.YtehdfbhfbidadaaCfit
namespace Go.Proofs.Ytehdfbhfbidadaa.V
open Go
set_option linter.unusedVariables false
set_option linter.unusedSimpArgs false
set_option maxHeartbeats 4000000
def isLet (c : UInt8) : Bool := (decide (97 ≤ c.toNat) && decide (c.toNat ≤ 122)) || (decide (65 ≤ c.toNat) && decide (c.toNat ≤ 90))
def isFig (c : UInt8) : Bool := decide (48 ≤ c.toNat) && decide (c.toNat ≤ 57)
def kept : List Tx := [[77, 65, 84, 67, 72], [79, 80, 84, 73, 79, 78, 65, 76], [87, 72, 69, 82, 69], [85, 78, 87, 73, 78, 68], [87, 73, 84, 72], [82, 69, 84, 85, 82, 78], [67, 82, 69, 65, 84, 69], [83, 69, 84], [68, 69, 76, 69, 84, 69], [68, 69, 84, 65, 67, 72], [65, 83], [65, 78, 68], [79, 82], [78, 79, 84], [73, 83], [78, 85, 76, 76], [73, 78], [68, 73, 83, 84, 73, 78, 67, 84], [79, 82, 68, 69, 82], [66, 89], [68, 69, 83, 67], [83, 75, 73, 80], [76, 73, 77, 73, 84], [110, 117, 108, 108], [116, 114, 117, 101], [102, 97, 108, 115, 101], [99, 111, 117, 110, 116], [115, 117, 109], [115, 105, 122, 101]]
/-- From the second letter on. -/
def inName (c : UInt8) : Bool := isLet c || isFig c
def nameOk : Tx → Bool
  | [] => false
  | c :: r => isLet c && r.all inName && decide (r.length ≤ 7) && !kept.contains (c :: r)
theorem l2Letter_c (c : UInt8) : Rv Try.prog 130 [.i .u8 (c.toNat : Int)] (.b (isLet c)) := by
  refine via_spec_l2Letter (by simp) ?_
  by_cases h1 : 97 ≤ (c.toNat : Int) <;> by_cases h2 : (c.toNat : Int) ≤ 122 <;> by_cases h3 : 65 ≤ (c.toNat : Int) <;> by_cases h4 : (c.toNat : Int) ≤ 90 <;>
    (simp [pc_spec_l2Letter, h1, h2, h3, h4]; exact fin_val rfl (by simp [isLet]; omega) (by simp))
theorem isLetter_c (c : UInt8) : Rv Try.prog 134 [.i .u8 (c.toNat : Int)] (.b (isLet c)) := by
  refine via_impl_isLetter (by simp) ?_
  by_cases h1 : 97 ≤ (c.toNat : Int) <;> by_cases h2 : (c.toNat : Int) ≤ 122 <;> by_cases h3 : 65 ≤ (c.toNat : Int) <;> by_cases h4 : (c.toNat : Int) ≤ 90 <;>
    (simp [pc_impl_isLetter, h1, h2, h3, h4]; exact fin_val rfl (by simp [isLet]; omega) (by simp))
theorem isFigure_c (c : UInt8) : Rv Try.prog 135 [.i .u8 (c.toNat : Int)] (.b (isFig c)) := by
  refine via_impl_isFigure (by simp) ?_
  by_cases h1 : 48 ≤ (c.toNat : Int) <;> by_cases h2 : (c.toNat : Int) ≤ 57 <;>
    (simp [pc_impl_isFigure, h1, h2]; exact fin_val rfl (by simp [isFig]; omega) (by simp))
theorem l1In_c (n lo hi : Int) : Rv Try.prog 69 [.i .i64 n, .i .i64 lo, .i .i64 hi] (.b (decide (lo ≤ n) && decide (n ≤ hi))) := by
  refine via_spec_l1In (by simp) ?_
  by_cases h1 : lo ≤ n <;> by_cases h2 : n ≤ hi <;>
    (simp [pc_spec_l1In, h1, h2]; exact fin_val rfl (by simp [h1, h2]) (by simp))
theorem kept_len : kept.length = 29 := rfl
theorem l2Kept_c (s : Tx) : Rv Try.prog 131 [.s s] (.b (kept.contains s)) := by
  refine via_spec_l2Kept (by simp) ?_
  simp [pc_spec_l2Kept]
  refine W_for (fun i => ⟨[(4, .i .i64 i), (3, .ref 0 0 29), (0, .s s)], [(0, .arr 1 (kept.map sS.O))], 1, 0⟩) 29 (fun i => ∀ j, j < i → kept[j]? ≠ some s) (Wk.less rfl (by simp) (by simp) (by simp [kept])) (by simp) ?_
  intro i hi hv
  rcases Nat.lt_or_ge i 29 with h1 | h1
  · obtain ⟨x, hx⟩ : ∃ x, kept[i]? = some x := ⟨_, List.getElem?_eq_getElem (by rw [kept_len]; exact h1)⟩
    have hw : IntKind.i64.wrap ((i : Int) + 1) = (i : Int) + 1 := wrap1 (by omega)
    have h1' : (i : Int) < 29 := by omega
    by_cases e : x = s
    · simp [-getElem?_pos, hx, hw, h1', e]
      exact fin_val rfl (by simp [← e, List.mem_of_getElem? hx]) (by simp)
    · simp [-getElem?_pos, hx, hw, h1', e, h1]
      refine ⟨?_, Wk.to1 rfl (by simp) (by simp) (by simp) (Sh.crO sS _) (by omega)⟩
      intro j hj
      rcases Nat.lt_or_ge j i with h2 | h2
      · exact hv j h2
      · rw [show j = i by omega, hx]; simpa using e
  · have h2 : ¬ (i : Int) < 29 := by omega
    simp [h2]
    have hn : ¬ s ∈ kept := by
      intro h
      obtain ⟨j, hj⟩ := List.mem_iff_getElem?.1 h
      have : j < kept.length := (List.getElem?_eq_some_iff.1 hj).1
      rw [kept_len] at this
      exact hv j (by omega) hj
    exact fin_val rfl (by simp [hn]) (by simp)
/-- What may stand at a place of a name. -/
def okAt (i : Nat) (c : UInt8) : Prop := isLet c = true ∨ (i ≠ 0 ∧ isFig c = true)
theorem nameOk_iff (s : Tx) : nameOk s = true ↔ (∀ i c, s[i]? = some c → okAt i c) ∧ 1 ≤ s.length ∧ s.length ≤ 8 ∧ ¬ s ∈ kept := by
  cases s with
  | nil => simp [nameOk]
  | cons c r =>
    simp only [nameOk, Bool.and_eq_true, List.all_eq_true, decide_eq_true_eq, Bool.not_eq_true', List.length_cons]
    constructor
    · rintro ⟨⟨⟨h1, h2⟩, h3⟩, h4⟩
      refine ⟨fun i d hd => ?_, by omega, by omega, fun h => by simp [h] at h4⟩
      cases i with
      | zero => simp at hd; subst hd; exact .inl h1
      | succ i =>
        simp at hd
        have := h2 d (List.mem_of_getElem? hd)
        simp only [inName, Bool.or_eq_true] at this
        exact this.imp id fun h => ⟨by omega, h⟩
    · rintro ⟨h1, h2, h3, h4⟩
      refine ⟨⟨⟨?_, fun d hd => ?_⟩, by omega⟩, by simp [h4]⟩
      · have := h1 0 c rfl
        rcases this with h | h
        · exact h
        · exact absurd rfl h.1
      · obtain ⟨i, hi⟩ := List.mem_iff_getElem?.1 hd
        have := h1 (i + 1) d (by simpa using hi)
        simp only [inName, Bool.or_eq_true]
        exact this.imp id And.right
theorem nameOk_false {s : Tx} (h : ¬ ((∀ i c, s[i]? = some c → okAt i c) ∧ 1 ≤ s.length ∧ s.length ≤ 8 ∧ ¬ s ∈ kept)) : nameOk s = false := by
  rw [Bool.eq_false_iff]; intro h2; exact h ((nameOk_iff s).1 h2)
theorem l2Name_c (s : Tx) (hs : ln s) : Rv Try.prog 67 [.s s] (.b (nameOk s)) := by
  refine via_spec_l2Name (by simp) ?_
  simp [pc_spec_l2Name]
  refine W_for (fun i => ⟨[(3, .i .i64 i), (0, .s s)], [], 0, 0⟩) s.length (fun i => ∀ j c, j < i → s[j]? = some c → okAt j c) (Wk.less rfl (by simp) (by simp) (by simp)) (by simp) ?_
  intro i hi hv
  rcases Nat.lt_or_ge i s.length with h1 | h1
  · obtain ⟨x, hx⟩ : ∃ x, s[i]? = some x := ⟨_, List.getElem?_eq_getElem h1⟩
    have hw : IntKind.i64.wrap ((i : Int) + 1) = (i : Int) + 1 := wrap1 (by omega)
    simp [-getElem?_pos, hx, h1]
    refine callK_val (by simp) (l2Letter_c x) rfl ?_
    by_cases hl : isLet x = true
    · simp [-getElem?_pos, hx, h1, hl, hw]
      refine ⟨fun j c hj hc => ?_, Wk.to rfl (by simp) (by simp) (by simp) (by simp)⟩
      rcases Nat.lt_or_ge j i with h2 | h2
      · exact hv j c h2 hc
      · rw [show j = i by omega, hx] at hc
        simp at hc; subst hc; exact .inl hl
    · by_cases h0 : i = 0
      · simp [-getElem?_pos, hx, h1, hl, hw, h0]
        refine fin_val rfl ?_ (by simp)
        rw [nameOk_false fun h => ?_]
        · simp
        · have := h.1 i x hx
          simp [okAt, hl, h0] at this
      · by_cases h2 : (x.toNat : Int) < 48
        · simp [-getElem?_pos, hx, h1, hl, hw, h0, h2]
          refine fin_val rfl ?_ (by simp)
          rw [nameOk_false fun h => ?_]
          · simp
          · have := h.1 i x hx
            simp [okAt, hl, isFig] at this
            omega
        · by_cases h3 : 57 < (x.toNat : Int)
          · simp [-getElem?_pos, hx, h1, hl, hw, h0, h2, h3]
            refine fin_val rfl ?_ (by simp)
            rw [nameOk_false fun h => ?_]
            · simp
            · have := h.1 i x hx
              simp [okAt, hl, isFig] at this
              omega
          · simp [-getElem?_pos, hx, h1, hl, hw, h0, h2, h3]
            refine ⟨fun j c hj hc => ?_, Wk.to rfl (by simp) (by simp) (by simp) (by simp)⟩
            rcases Nat.lt_or_ge j i with h4 | h4
            · exact hv j c h4 hc
            · rw [show j = i by omega, hx] at hc
              simp at hc; subst hc; exact .inr ⟨by omega, by simp [isFig]; omega⟩
  · have h2 : ¬ i < s.length := by omega
    have hall : ∀ j c, s[j]? = some c → okAt j c := fun j c hc => hv j c (by have := (List.getElem?_eq_some_iff.1 hc).1; omega) hc
    simp [h2]
    refine callK_val (by simp) (l1In_c s.length 1 8) rfl ?_
    by_cases h3 : 1 ≤ s.length
    · by_cases h4 : s.length ≤ 8
      · have h3' : (1 : Int) ≤ s.length := by omega
        have h4' : (s.length : Int) ≤ 8 := by omega
        simp [h3', h4', h3, h4]
        refine callK_val (by simp) (l2Kept_c s) rfl ?_
        by_cases h5 : s ∈ kept
        · simp [h3', h4', h5, h3, h4]
          refine fin_val rfl ?_ (by simp)
          rw [nameOk_false fun h => h.2.2.2 h5]; simp
        · simp [h3', h4', h5, h3, h4]
          refine fin_val rfl ?_ (by simp)
          rw [(nameOk_iff s).2 ⟨hall, h3, h4, h5⟩]; simp
      · have h4' : ¬ (s.length : Int) ≤ 8 := by omega
        simp [h4', h4]
        refine fin_val rfl ?_ (by simp)
        rw [nameOk_false fun h => h4 h.2.2.1]; simp
    · have h3' : ¬ (1 : Int) ≤ s.length := by omega
      simp [h3', h3]
      refine fin_val rfl ?_ (by simp)
      rw [nameOk_false fun h => h3 h.2.1]; simp
set_option maxRecDepth 20000 in
theorem NameOk_c (s : Tx) (hs : ln s) : Rv Try.prog 71 [.s s] (.b (nameOk s)) := by
  refine via_impl_NameOk (by simp) ?_
  cases hs0 : s with
  | nil =>
    simp [pc_impl_NameOk]
    exact fin_val rfl (by simp [nameOk]) (by simp)
  | cons c r =>
    rw [← hs0]
    have hne : ¬ s = [] := by simp [hs0]
    have hc0 : s[0]? = some c := by simp [hs0]
    have hlen : s.length = r.length + 1 := by simp [hs0]
    by_cases h8 : 8 < s.length
    · have h8' : (8 : Int) < s.length := by omega
      simp [pc_impl_NameOk, hne, h8, h8']
      refine fin_val rfl ?_ (by simp)
      rw [nameOk_false fun h => by omega]; simp
    · have h8' : ¬ (8 : Int) < s.length := by omega
      simp [-getElem?_pos, pc_impl_NameOk, hne, h8, h8', hc0]
      refine callK_val (by simp) (isLetter_c c) rfl ?_
      by_cases hl : isLet c = true
      · simp [-getElem?_pos, hne, h8, h8', hc0, hl]
        refine W_wk (s' := ⟨[(3, .i .i64 1), (0, .s s)], [], 0, 0⟩) (Wk.less rfl (by simp) (by simp) (by simp)) ?_
        refine W_while (m := s.length - 1) (fun m st => ∃ i : Nat, 1 ≤ i ∧ i + m = s.length ∧ (∀ j d, j < i → s[j]? = some d → okAt j d) ∧ st = ⟨[(3, .i .i64 i), (0, .s s)], [], 0, 0⟩) ⟨1, by omega, by omega, fun j d hj hd => by
          rw [show j = 0 by omega, hc0] at hd; simp at hd; subst hd; exact .inl hl, rfl⟩ ?_
        rintro m st ⟨i, hi1, him, hv, rfl⟩
        rcases Nat.lt_or_ge i s.length with h1 | h1
        · obtain ⟨x, hx⟩ : ∃ x, s[i]? = some x := ⟨_, List.getElem?_eq_getElem h1⟩
          have hw : IntKind.i64.wrap ((i : Int) + 1) = (i : Int) + 1 := wrap1 (by omega)
          have h1' : (i : Int) < s.length := by omega
          have done : okAt i x → ∀ j d, j < i + 1 → s[j]? = some d → okAt j d := by
            intro ho j d hj hd
            rcases Nat.lt_or_ge j i with h4 | h4
            · exact hv j d h4 hd
            · obtain rfl : j = i := by omega
              rw [hx] at hd
              simp at hd; subst hd; exact ho
          simp [-getElem?_pos, hx, h1, h1']
          refine callK_val (by simp) (isLetter_c x) rfl ?_
          by_cases hlx : isLet x = true
          · simp [-getElem?_pos, hx, h1, h1', hlx, hw]
            exact ⟨_, Wk.to (s' := ⟨[(3, .i .i64 ((i + 1 : Nat) : Int)), (0, .s s)], [], 0, 0⟩) rfl (by simp) (by simp) (by simp) (by simp), s.length - (i + 1), by omega, i + 1, by omega, by omega, done (.inl hlx), rfl⟩
          · simp [-getElem?_pos, hx, h1, h1', hlx, hw]
            refine callK_val (by simp) (isFigure_c x) rfl ?_
            by_cases hfx : isFig x = true
            · simp [-getElem?_pos, hx, h1, h1', hlx, hw, hfx]
              exact ⟨_, Wk.to (s' := ⟨[(3, .i .i64 ((i + 1 : Nat) : Int)), (0, .s s)], [], 0, 0⟩) rfl (by simp) (by simp) (by simp) (by simp), s.length - (i + 1), by omega, i + 1, by omega, by omega, done (.inr ⟨by omega, hfx⟩), rfl⟩
            · simp [-getElem?_pos, hx, h1, h1', hlx, hw, hfx]
              refine fin_val rfl ?_ (by simp)
              rw [nameOk_false fun h => ?_]
              · simp
              · have := h.1 i x hx
                simp [okAt, hlx, hfx] at this
        · have h2 : ¬ i < s.length := by omega
          have h2' : ¬ (i : Int) < s.length := by omega
          have hall : ∀ j d, s[j]? = some d → okAt j d := fun j d hd => hv j d (by have := (List.getElem?_eq_some_iff.1 hd).1; omega) hd
          simp [h2, h2']
          by_cases hk : s ∈ kept
          · have hf : nameOk s = false := nameOk_false fun h => h.2.2.2 hk
            rw [hf]
            clear hf hall hv
            simp only [kept, List.mem_cons, List.not_mem_nil, or_false] at hk
            repeat' rcases hk with hk | hk
            all_goals (simp; exact fin_val rfl (by simp) (by simp))
          · have hf : nameOk s = true := (nameOk_iff s).2 ⟨hall, by omega, by omega, hk⟩
            rw [hf]
            simp only [kept, List.mem_cons, List.not_mem_nil, or_false, not_or] at hk
            simp [hk]
            exact fin_val rfl (by simp) (by simp)
      · simp [-getElem?_pos, hne, h8, h8', hc0, hl]
        refine fin_val rfl ?_ (by simp)
        rw [nameOk_false fun h => ?_]
        · simp
        · have := h.1 0 c hc0
          simp [okAt, hl] at this
end Go.Proofs.Ytehdfbhfbidadaa.V
