/- Rules that are ok. -/
import Derived.Test.YtcchmhmbjhgfdaaCrl
import Derived.Test.YtcchmhmbjhgfdaaCname
import Derived.Test.YtcchmhmbjhgfdaaClab
import Derived.Test.YtcchmhmbjhgfdaaVD
namespace Go.Proofs.Ytcchmhmbjhgfdaa.V
open Go
set_option linter.unusedVariables false
set_option linter.unusedSimpArgs false
set_option maxHeartbeats 16000000
theorem eqR {n : Nat} {x y : Operand} (a b : Rl) : HookOk Try.prog (.binOp .eql 160 x y 160) [.agg [.s a.label, .s a.name], .agg [.s b.label, .s b.name]] [] n (.b (decide (a = b))) [] := by
  have h := hook_eq2 (P := Try.prog) (n := n) (t := 160) (st := 9) (t' := 160) (x := x) (y := y) (a1 := a.label) (a2 := a.name) (b1 := b.label) (b2 := b.name) (f0 := (Try.prog.fieldsOf 160).toList.getD 0 default) (f1 := (Try.prog.fieldsOf 160).toList.getD 1 default) (by kernel_rfl) (by kernel_rfl) (by kernel_rfl) (by kernel_rfl) ⟨by kernel_rfl, by kernel_rfl, by decide +kernel⟩ ⟨by kernel_rfl, by kernel_rfl, by decide +kernel⟩ (by kernel_rfl)
  have e : (decide (a.label = b.label) && decide (a.name = b.name)) = decide (a = b) := by
    obtain ⟨p, q⟩ := a
    obtain ⟨p', q'⟩ := b
    by_cases h1 : p = p' <;> by_cases h2 : q = q' <;> simp [h1, h2]
  rw [e] at h
  exact h
/-- Where a rule stands. -/
theorem first_of {α : Type} (r : α) (l : List α) : (∃ i : Nat, l[i]? = some r ∧ ∀ (j : Nat) (y : α), j < i → l[j]? = some y → y ≠ r) ∨ r ∉ l := by
  induction l with
  | nil => exact .inr (by simp)
  | cons a l ih =>
    by_cases h : a = r
    · exact .inl ⟨0, by simp [h], fun j y hj => by omega⟩
    · rcases ih with ⟨i, h1, h2⟩ | h1
      · refine .inl ⟨i + 1, by simpa using h1, fun j y hj hy => ?_⟩
        cases j with
        | zero => simp at hy; exact hy ▸ h
        | succ j => exact h2 j y (by omega) (by simpa using hy)
      · exact .inr (by simp only [List.mem_cons, not_or]; exact ⟨fun e => h e.symm, h1⟩)
theorem IndexR_c (l : List Rl) (hl : l.length ≤ 2 ^ 20) (r : Rl) : ∃ k : Int, (0 ≤ k ↔ r ∈ l) ∧ Rv Try.prog 189 [.imm (l.map sR.I), .agg (sR.I r)] (.i .i64 k) := by
  rcases first_of r l with ⟨k, h1, h2⟩ | h1
  · refine ⟨k, ⟨fun _ => List.mem_of_getElem? h1, fun _ => by omega⟩, ?_⟩
    have hkl : k < l.length := (List.getElem?_eq_some_iff.1 h1).1
    obtain ⟨ra, rb⟩ := r
    refine via_slices_Index_impl_Rule_impl_Rule (by simp) ?_
    simp [pc_slices_Index_impl_Rule_impl_Rule]
    refine W_for (fun i => ⟨[(8, .i .i64 i), (7, .i .i64 l.length), (0, .imm (l.map sR.I)), (3, .ptr 0 0 0)], [(0, .arr 2 [[.s ra, .s rb]])], 20, 0⟩) l.length (fun i => i ≤ k) (Wk.less rfl (by simp) (by simp) (by simp)) (by omega) ?_
    intro i hi hik
    obtain ⟨x, hx⟩ : ∃ x, l[i]? = some x := ⟨_, List.getElem?_eq_getElem (by omega)⟩
    have h3 : i < l.length := by omega
    have hw : IntKind.i64.wrap ((i : Int) + 1) = (i : Int) + 1 := wrap1 (by omega)
    by_cases hxk : i = k
    · subst hxk
      rw [hx] at h1
      obtain rfl := Option.some.inj h1
      simp [-getElem?_pos, hx, h3]
      refine hookH_of [] (eqR ⟨ra, rb⟩ ⟨ra, rb⟩) (by simp) ?_
      simp
      exact fin_val rfl (by simp) (by simp)
    · have hne := h2 i x (by omega) hx
      obtain ⟨xa, xb⟩ := x
      have hd : decide ((⟨ra, rb⟩ : Rl) = ⟨xa, xb⟩) = false := decide_eq_false (fun e => hne e.symm)
      simp [-getElem?_pos, hx, h3]
      refine hookH_of [] (eqR ⟨ra, rb⟩ ⟨xa, xb⟩) (by simp) ?_
      rw [hd]
      simp [hw, h3]
      exact ⟨by omega, Wk.to rfl (by simp) (by simp) (by simp [Blk.names]) (by simp)⟩
  · refine ⟨-1, ⟨fun h => by omega, fun h => absurd h h1⟩, ?_⟩
    obtain ⟨ra, rb⟩ := r
    refine via_slices_Index_impl_Rule_impl_Rule (by simp) ?_
    simp [pc_slices_Index_impl_Rule_impl_Rule]
    refine W_for (fun i => ⟨[(8, .i .i64 i), (7, .i .i64 l.length), (0, .imm (l.map sR.I)), (3, .ptr 0 0 0)], [(0, .arr 2 [[.s ra, .s rb]])], 20, 0⟩) l.length (fun i => True) (Wk.less rfl (by simp) (by simp) (by simp)) trivial ?_
    intro i hi _
    rcases Nat.lt_or_ge i l.length with h3 | h3
    · obtain ⟨x, hx⟩ : ∃ x, l[i]? = some x := ⟨_, List.getElem?_eq_getElem h3⟩
      have hw : IntKind.i64.wrap ((i : Int) + 1) = (i : Int) + 1 := wrap1 (by omega)
      have hne : x ≠ ⟨ra, rb⟩ := fun e => h1 (e ▸ List.mem_of_getElem? hx)
      obtain ⟨xa, xb⟩ := x
      have hd : decide ((⟨ra, rb⟩ : Rl) = ⟨xa, xb⟩) = false := decide_eq_false (fun e => hne e.symm)
      simp [-getElem?_pos, hx, h3]
      refine hookH_of [] (eqR ⟨ra, rb⟩ ⟨xa, xb⟩) (by simp) ?_
      rw [hd]
      simp [hw, h3]
      exact Wk.to rfl (by simp) (by simp) (by simp [Blk.names]) (by simp)
    · have h4 : ¬ i < l.length := by omega
      simp [h4]
      exact fin_val rfl (by simp) (by simp)
theorem ContainsR_c (l : List Rl) (hl : l.length ≤ 2 ^ 20) (r : Rl) : Rv Try.prog 178 [.imm (l.map sR.I), .agg (sR.I r)] (.b (decide (r ∈ l))) := by
  obtain ⟨k, hk, h⟩ := IndexR_c l hl r
  obtain ⟨ra, rb⟩ := r
  refine via_slices_Contains_impl_Rule_impl_Rule (by simp) ?_
  simp [pc_slices_Contains_impl_Rule_impl_Rule]
  refine callK_val (by simp) h rfl ?_
  simp
  exact fin_val rfl (by simp [hk]) (by simp)
def RTo (l : List Rl) (n : Nat) : Prop := ∀ (i : Nat) (x : Rl), i < n → l[i]? = some x → nameOk x.label = true ∧ nameOk x.name = true ∧ x ∉ l.take i
def rlOk (l : List Rl) : Prop := RTo l l.length ∧ l.length ≤ 3
theorem RTo.succ {l : List Rl} {n : Nat} {x : Rl} (h : RTo l n) (hx : l[n]? = some x) (h1 : nameOk x.label = true) (h2 : nameOk x.name = true) (h3 : x ∉ l.take n) : RTo l (n + 1) := by
  intro i y hi hy
  rcases Nat.lt_or_ge i n with h4 | h4
  · exact h i y h4 hy
  · obtain rfl : i = n := by omega
    rw [hx] at hy
    obtain rfl := Option.some.inj hy
    exact ⟨h1, h2, h3⟩
open Classical in
theorem RulesOk_c (l : List Rl) (hl : ln l) (hf : ∀ r ∈ l, r.fit) : Rv Try.prog 137 [.imm (l.map sR.I)] (.b (decide (rlOk l))) := by
  refine via_impl_RulesOk (by simp) ?_
  by_cases c0 : 3 < (l.length : Int)
  · have hno : ¬ rlOk l := fun h => by have := h.2; omega
    simp [pc_impl_RulesOk, c0]
    exact fin_val rfl (by simp [hno]) (by simp)
  simp [pc_impl_RulesOk, c0]
  refine W_forS (fun i => ⟨[(10, .i .i64 i), (9, .i .i64 l.length), (8, .imm (l.map sR.I)), (0, .imm (l.map sR.I))], [], 20, 0⟩) l.length (fun i => RTo l i) (Wk.less rfl (by simp) (by simp) (by simp)) (fun i x h => by omega) ?_
  intro i hi hv
  rcases Nat.lt_or_ge i l.length with h1 | h1
  · obtain ⟨x, hx⟩ : ∃ x, l[i]? = some x := ⟨_, List.getElem?_eq_getElem h1⟩
    have hw : IntKind.i64.wrap ((i : Int) + 1) = (i : Int) + 1 := wrap1 (by omega)
    obtain ⟨f1, f2⟩ := hf x (List.mem_of_getElem? hx)
    have n1 := NameOk_c x.label f1
    have n2 := NameOk_c x.name f2
    have hct := ContainsR_c (l.take i) (by simp; omega) x
    have hxi := hx
    have hmin : min i l.length = i := by omega
    obtain ⟨xa, xb⟩ := x
    simp only at n1 n2 hct f1 f2
    rw [List.map_take] at hct
    refine WW_of_W ?_
    by_cases c1 : nameOk xa = true
    · by_cases c2 : nameOk xb = true
      · by_cases c3 : (⟨xa, xb⟩ : Rl) ∈ l.take i
        · have hno : ¬ rlOk l := fun h => (h.1 i _ h1 hx).2.2 c3
          simp [-getElem?_pos, hx, h1]
          refine callK_val (by simp) n1 rfl ?_
          simp [c1]
          refine callK_val (by simp) n2 rfl ?_
          simp [c1, c2, h1]
          repeat refine need_mk (by decide +kernel) ?_
          refine ⟨hi, ?_⟩
          refine callK_val (by simp) hct rfl ?_
          simp [c1, c2, c3]
          repeat refine need_mk (by decide +kernel) ?_
          exact fin_val rfl (by simp [hno]) (by simp)
        · simp [-getElem?_pos, hx, h1]
          refine callK_val (by simp) n1 rfl ?_
          simp [c1]
          refine callK_val (by simp) n2 rfl ?_
          simp [c1, c2, h1]
          repeat refine need_mk (by decide +kernel) ?_
          refine ⟨hi, ?_⟩
          refine callK_val (by simp) hct rfl ?_
          simp [c1, c2, c3, hw, h1]
          repeat refine need_mk (by decide +kernel) ?_
          exact ⟨hv.succ hx c1 c2 c3, Wk.to rfl (by simp) (by simp) (by simp) (by simp)⟩
      · have hno : ¬ rlOk l := fun h => c2 (h.1 i _ h1 hx).2.1
        simp [-getElem?_pos, hx, h1]
        refine callK_val (by simp) n1 rfl ?_
        simp [c1]
        refine callK_val (by simp) n2 rfl ?_
        simp [c1, c2]
        repeat refine need_mk (by decide +kernel) ?_
        exact fin_val rfl (by simp [hno]) (by simp)
    · have hno : ¬ rlOk l := fun h => c1 (h.1 i _ h1 hx).1
      simp [-getElem?_pos, hx, h1]
      refine callK_val (by simp) n1 rfl ?_
      simp [c1]
      repeat refine need_mk (by decide +kernel) ?_
      exact fin_val rfl (by simp [hno]) (by simp)
  · have h4 : ¬ i < l.length := by omega
    obtain rfl : i = l.length := by omega
    have hyes : rlOk l := ⟨hv, by omega⟩
    refine WW_of_W ?_
    simp
    exact fin_val rfl (by simp [hyes]) (by simp)
open Classical in
theorem specRulesOk_c (l : List Rl) (hl : l.length ≤ 2 ^ 20) (hf : ∀ r ∈ l, r.fit) : Rv Try.prog 135 [.imm (l.map sR.I)] (.b (decide (rlOk l))) := by
  refine via_spec_RulesOk (by simp) ?_
  simp [pc_spec_RulesOk]
  refine W_forS (fun i => ⟨[(3, .i .i64 i), (0, .imm (l.map sR.I))], [], 20, 0⟩) l.length (fun i => RTo l i) (Wk.less rfl (by simp) (by simp) (by simp)) (fun i x h => by omega) ?_
  intro i hi hv
  rcases Nat.lt_or_ge i l.length with h1 | h1
  · obtain ⟨x, hx⟩ : ∃ x, l[i]? = some x := ⟨_, List.getElem?_eq_getElem h1⟩
    have hw : IntKind.i64.wrap ((i : Int) + 1) = (i : Int) + 1 := wrap1 (by omega)
    obtain ⟨f1, f2⟩ := hf x (List.mem_of_getElem? hx)
    have n1 := l2Name_c x.label f1
    have n2 := l2Name_c x.name f2
    obtain ⟨xa, xb⟩ := x
    simp only at n1 n2 f1 f2
    refine WW_of_W ?_
    by_cases c1 : nameOk xa = true
    · by_cases c2 : nameOk xb = true
      · simp [-getElem?_pos, hx, h1]
        refine callK_val (by simp) n1 rfl ?_
        simp [-getElem?_pos, c1, hx, h1]
        refine callK_val (by simp) n2 rfl ?_
        simp [c1, c2]
        repeat refine need_mk (by decide +kernel) ?_
        refine W_for (fun k => ⟨[(4, .i .i64 k), (3, .i .i64 i), (0, .imm (l.map sR.I))], [], 20, 0⟩) i (fun k => (⟨xa, xb⟩ : Rl) ∉ l.take k) (Wk.to rfl (by simp) (by simp) (by simp) (by simp)) (by simp) ?_
        intro k hk hnk
        rcases Nat.lt_or_ge k i with h3 | h3
        · obtain ⟨y, hy⟩ : ∃ y, l[k]? = some y := ⟨_, List.getElem?_eq_getElem (by omega)⟩
          have hwk : IntKind.i64.wrap ((k : Int) + 1) = (k : Int) + 1 := wrap1 (by omega)
          have htk : l.take (k + 1) = l.take k ++ [y] := by rw [List.take_add_one, hy]; simp
          have hnext : y ≠ ⟨xa, xb⟩ → (⟨xa, xb⟩ : Rl) ∉ l.take (k + 1) := fun h => by
            rw [htk]; simp only [List.mem_append, List.mem_singleton, not_or]; exact ⟨hnk, fun e => h e.symm⟩
          have hbad : y = ⟨xa, xb⟩ → ¬ rlOk l := fun h hok => by
            refine (hok.1 i _ h1 hx).2.2 ?_
            subst h
            exact List.mem_of_getElem? (i := k) (by rw [List.getElem?_take, if_pos h3]; exact hy)
          obtain ⟨ya, yb⟩ := y
          simp [-getElem?_pos, hx, hy, h1, h3]
          refine hookH_of [] (eqR ⟨ya, yb⟩ ⟨xa, xb⟩) (by simp) ?_
          by_cases he : (⟨ya, yb⟩ : Rl) = ⟨xa, xb⟩
          · rw [decide_eq_true he]
            simp
            repeat refine need_mk (by decide +kernel) ?_
            exact fin_val rfl (by simp [hbad he]) (by simp)
          · rw [decide_eq_false he]
            simp [hwk, h3]
            repeat refine need_mk (by decide +kernel) ?_
            exact ⟨hnext he, Wk.to rfl (by simp) (by simp) (by simp) (by simp)⟩
        · obtain rfl : k = i := by omega
          simp [hw, h1]
          exact ⟨hv.succ hx c1 c2 hnk, Wk.to rfl (by simp) (by simp) (by simp) (by simp)⟩
      · have hno : ¬ rlOk l := fun h => c2 (h.1 i _ h1 hx).2.1
        simp [-getElem?_pos, hx, h1]
        refine callK_val (by simp) n1 rfl ?_
        simp [-getElem?_pos, c1, hx, h1]
        refine callK_val (by simp) n2 rfl ?_
        simp [c1, c2]
        exact fin_val rfl (by simp [hno]) (by simp)
    · have hno : ¬ rlOk l := fun h => c1 (h.1 i _ h1 hx).1
      simp [-getElem?_pos, hx, h1]
      refine callK_val (by simp) n1 rfl ?_
      simp [c1]
      exact fin_val rfl (by simp [hno]) (by simp)
  · have h4 : ¬ i < l.length := by omega
    obtain rfl : i = l.length := by omega
    refine WW_of_W ?_
    by_cases c0 : (l.length : Int) ≤ 3
    · have hyes : rlOk l := ⟨hv, by omega⟩
      simp [c0]
      exact fin_val rfl (by simp [hyes]) (by simp)
    · have hno : ¬ rlOk l := fun h => c0 (by have := h.2; omega)
      simp [c0]
      exact fin_val rfl (by simp [hno]) (by simp)
end Go.Proofs.Ytcchmhmbjhgfdaa.V
