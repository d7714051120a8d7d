/- Graphs that are ok. -/
import Derived.Test.YtehdfbhfbidadaaClab
namespace Go.Proofs.Ytehdfbhfbidadaa.V
open Go
set_option linter.unusedVariables false
set_option linter.unusedSimpArgs false
set_option maxHeartbeats 8000000
/-! ### places by number -/
section
variable {α : Type} (f : α → Int)
def posOf (id : Int) (l : List α) : Int := match l.findIdx? (fun x => decide (f x = id)) with | some i => (i : Int) | none => -1
variable {f}
theorem posOf_at {id : Int} {l : List α} {i : Nat} {x : α} (hx : l[i]? = some x) (h : f x = id) (hn : ∀ j y, j < i → l[j]? = some y → f y ≠ id) : posOf f id l = i := by
  unfold posOf
  have : l.findIdx? (fun x => decide (f x = id)) = some i := by
    rw [List.findIdx?_eq_some_iff_getElem]
    obtain ⟨hi, rfl⟩ := List.getElem?_eq_some_iff.1 hx
    exact ⟨hi, by simpa using h, fun j hj => by simpa using hn j _ hj (List.getElem?_eq_getElem (by omega))⟩
  rw [this]
theorem posOf_none {id : Int} {l : List α} (h : ∀ (j : Nat) (y : α), l[j]? = some y → f y ≠ id) : posOf f id l = -1 := by
  unfold posOf
  have : l.findIdx? (fun x => decide (f x = id)) = none := by
    rw [List.findIdx?_eq_none_iff]
    intro x hx
    obtain ⟨j, hj⟩ := List.mem_iff_getElem?.1 hx
    simpa using h j x hj
  rw [this]
theorem posOf_cases (f : α → Int) (id : Int) (l : List α) : (∃ (i : Nat) (x : α), posOf f id l = i ∧ l[i]? = some x ∧ f x = id ∧ ∀ j y, j < i → l[j]? = some y → f y ≠ id) ∨ (posOf f id l = -1 ∧ ∀ x ∈ l, f x ≠ id) := by
  cases h : l.findIdx? (fun x => decide (f x = id)) with
  | none =>
    right
    refine ⟨by unfold posOf; rw [h], fun x hx => ?_⟩
    rw [List.findIdx?_eq_none_iff] at h
    simpa using h x hx
  | some i =>
    left
    rw [List.findIdx?_eq_some_iff_getElem] at h
    obtain ⟨hi, h1, h2⟩ := h
    refine ⟨i, l[i], ?_, List.getElem?_eq_getElem hi, by simpa using h1, fun j y hj hy => ?_⟩
    · exact posOf_at (List.getElem?_eq_getElem hi) (by simpa using h1) (fun j y hj hy => by
        obtain ⟨hj', rfl⟩ := List.getElem?_eq_some_iff.1 hy
        simpa using h2 j hj)
    · obtain ⟨hj', rfl⟩ := List.getElem?_eq_some_iff.1 hy
      simpa using h2 j hj
end
theorem l2Node_c (g : Gr) (hl : ln g.nodes) (id : Int) : Rv Try.prog 86 [.agg (sG.I g), .i .i64 id] (.i .i64 (posOf Nd.id id g.nodes)) := by
  obtain ⟨l, es, nn, ne⟩ := g
  simp only at hl ⊢
  refine via_spec_l2Node (by simp) ?_
  simp [pc_spec_l2Node]
  refine W_for (fun i => ⟨[(5, .i .i64 i), (2, .ptr 0 0 0), (1, .i .i64 id)], [(0, .arr 4 [sG.I ⟨l, es, nn, ne⟩])], 1, 0⟩) l.length (fun i => ∀ j y, j < i → l[j]? = some y → y.id ≠ id) (Wk.less rfl (by simp) (by simp) (by simp)) (by simp) ?_
  intro i hi hv
  rcases Nat.lt_or_ge i l.length with h1 | h1
  · obtain ⟨⟨a, b, c⟩, hx⟩ : ∃ x, l[i]? = some x := ⟨_, List.getElem?_eq_getElem h1⟩
    have hw : IntKind.i64.wrap ((i : Int) + 1) = (i : Int) + 1 := wrap1 (by omega)
    by_cases h : a = id
    · simp [-getElem?_pos, hx, hw, h1, h]
      exact fin_val rfl (by simp [posOf_at (f := Nd.id) hx h hv]) (by simp)
    · simp [-getElem?_pos, hx, hw, h1, h]
      refine ⟨fun j y hj hy => ?_, Wk.to1 rfl (by simp) (by simp) (by simp) (by simp) (by omega)⟩
      rcases Nat.lt_or_ge j i with h6 | h6
      · exact hv j y h6 hy
      · obtain rfl : j = i := by omega
        rw [hx] at hy; simp at hy; subst hy; exact h
  · have h2 : ¬ i < l.length := by omega
    simp [h2]
    refine fin_val rfl ?_ (by simp)
    rw [posOf_none fun j y hy => hv j y (by have := (List.getElem?_eq_some_iff.1 hy).1; omega) hy]
    simp
theorem nodesOf1_c (n : Nd) : Rv Try.prog 158 [.agg (sN.I n)] (.i .i64 n.id) := by
  obtain ⟨a, b, c⟩ := n
  refine via_impl_nodesOf_1 (by simp) ?_
  simp [pc_impl_nodesOf_1]
  exact fin_val rfl (by simp) (by simp)
theorem edgesIn1_c (n : Eg) : Rv Try.prog 175 [.agg (sE.I n)] (.i .i64 n.id) := by
  obtain ⟨a, b, c, d, e⟩ := n
  refine via_impl_edgesIn_1 (by simp) ?_
  simp [pc_impl_edgesIn_1]
  exact fin_val rfl (by simp) (by simp)
theorem nodesOf_v (a b : T) (ha : a.cell = true) (hb : b.cell = true) (nn ne : Int) : Vw Try.prog 97 [.agg [a, b, .i .i64 nn, .i .i64 ne]] [] (.agg [a, .fn 158 []]) := by
  obtain ⟨N, hN⟩ : ∃ N, ∀ x ∈ a.names ++ b.names, x < N := by
    have : ∀ l : List Nat, ∃ N, ∀ x ∈ l, x < N := by
      intro l
      induction l with
      | nil => exact ⟨0, by simp⟩
      | cons y l ih =>
        obtain ⟨N, hN⟩ := ih
        refine ⟨max N (y + 1), fun x hx => ?_⟩
        rcases List.mem_cons.1 hx with rfl | hx
        · omega
        · have := hN x hx; omega
    exact this _
  refine see_impl_nodesOf N (by simp) (by simpa using hN) (by simp; intro x hx; exact .inl hx) (by simp) (by simp) ?_
  have m1 : ∀ n, mat a n = (a, []) := fun n => by cases a <;> simp [T.cell] at ha <;> simp
  have c1 : a.cells = [a] := by cases a <;> simp [T.cell] at ha <;> rfl
  simp [pc_impl_nodesOf, ha, hb, m1, c1]
  exact fin_view (by simp [ha]; rfl) (by simp) (by simp)
theorem edgesIn_v (a b : T) (ha : a.cell = true) (hb : b.cell = true) (nn ne : Int) : Vw Try.prog 116 [.agg [a, b, .i .i64 nn, .i .i64 ne]] [] (.agg [b, .fn 175 []]) := by
  obtain ⟨N, hN⟩ : ∃ N, ∀ x ∈ a.names ++ b.names, x < N := by
    have : ∀ l : List Nat, ∃ N, ∀ x ∈ l, x < N := by
      intro l
      induction l with
      | nil => exact ⟨0, by simp⟩
      | cons y l ih =>
        obtain ⟨N, hN⟩ := ih
        refine ⟨max N (y + 1), fun x hx => ?_⟩
        rcases List.mem_cons.1 hx with rfl | hx
        · omega
        · have := hN x hx; omega
    exact this _
  refine see_impl_edgesIn N (by simp) (by simpa using hN) (by simp; intro x hx; exact .inr hx) (by simp) (by simp) ?_
  have m1 : ∀ n, mat b n = (b, []) := fun n => by cases b <;> simp [T.cell] at hb <;> simp
  have c1 : b.cells = [b] := by cases b <;> simp [T.cell] at hb <;> rfl
  simp [pc_impl_edgesIn, ha, hb, m1, c1]
  exact fin_view (by simp [hb]; rfl) (by simp) (by simp)
/-! ### numbers ascending -/
def AscTo {α : Type} (f : α → Int) (e : Int) (l : List α) (n : Nat) : Prop := ∀ (i : Nat) (x : α), i < n → l[i]? = some x → 0 ≤ f x ∧ f x < e ∧ ∀ y, 0 < i → l[i - 1]? = some y → f y < f x
def Asc {α : Type} (f : α → Int) (e : Int) (l : List α) : Prop := ∀ (i : Nat) (x : α), l[i]? = some x → 0 ≤ f x ∧ f x < e ∧ ∀ y, 0 < i → l[i - 1]? = some y → f y < f x
/-- The number ahead of a place; less than nothing at the first. -/
def ahd {α : Type} (f : α → Int) (l : List α) (i : Nat) : Int := if i = 0 then -1 else match l[i - 1]? with | some y => f y | none => -1
theorem AscTo.all {α : Type} {f : α → Int} {e : Int} {l : List α} {n : Nat} (h : AscTo f e l n) (hn : l.length ≤ n) : Asc f e l :=
  fun i x hx => h i x (by have := (List.getElem?_eq_some_iff.1 hx).1; omega) hx
theorem AscTo.succ {α : Type} {f : α → Int} {e : Int} {l : List α} {n : Nat} {x : α} (h : AscTo f e l n) (hx : l[n]? = some x) (h1 : ahd f l n < f x) (h2 : f x < e) : AscTo f e l (n + 1) := by
  intro i z hi hz
  rcases Nat.lt_or_ge i n with h3 | h3
  · exact h i z h3 hz
  · obtain rfl : i = n := by omega
    rw [hx] at hz; simp at hz; subst hz
    unfold ahd at h1
    by_cases h0 : i = 0
    · rw [if_pos h0] at h1
      exact ⟨by omega, h2, fun y hy => by omega⟩
    · rw [if_neg h0] at h1
      have hi := (List.getElem?_eq_some_iff.1 hx).1
      have hy : l[i - 1]? = some (l[i - 1]'(by omega)) := List.getElem?_eq_getElem (by omega)
      have := (h (i - 1) _ (by omega) hy).1
      rw [hy] at h1
      simp only at h1
      refine ⟨by omega, h2, fun y _ hy' => ?_⟩
      rw [hy] at hy'; simp at hy'; subst hy'; exact h1
theorem Asc.fails {α : Type} {f : α → Int} {e : Int} {l : List α} {n : Nat} {x : α} (hx : l[n]? = some x) (h : f x ≤ ahd f l n ∨ e ≤ f x) : ¬ Asc f e l := by
  intro ha
  obtain ⟨h1, h2, h3⟩ := ha n x hx
  rcases h with h | h
  · unfold ahd at h
    by_cases h0 : n = 0
    · rw [if_pos h0] at h; omega
    · rw [if_neg h0] at h
      have hi := (List.getElem?_eq_some_iff.1 hx).1
      have hy : l[n - 1]? = some (l[n - 1]'(by omega)) := List.getElem?_eq_getElem (by omega)
      rw [hy] at h
      have := h3 _ (by omega) hy
      simp only at h
      omega
  · omega
theorem ahd_succ {α : Type} {f : α → Int} {l : List α} {n : Nat} {x : α} (hx : l[n]? = some x) : ahd f l (n + 1) = f x := by
  unfold ahd; simp [hx]
open Classical in
theorem ascendN_c (l : List Nd) (hl : l.length ≤ 9223372036854775806) (e : Int) : Rv Try.prog 115 [.agg [.imm (l.map sN.I), .fn 158 []], .i .i64 e] (.b (decide (Asc Nd.id e l))) := by
  have hok : okCall Try.prog 158 = true := by kernel_rfl
  refine via_impl_numbered_impl_Node_ascend (by simp) ?_
  simp [pc_impl_numbered_impl_Node_ascend]
  refine W_for (fun i => ⟨[(12, .i .i64 i), (11, .i .i64 l.length), (10, .imm (l.map sN.I)), (5, .i .i64 (ahd Nd.id l i)), (2, .ptr 0 0 0), (1, .i .i64 e)], [(0, .arr 2 [[.imm (l.map sN.I), .fn 158 []]])], 1, 0⟩) l.length (AscTo Nd.id e l) (Wk.less rfl (by simp) (by simp [ahd]) (by simp)) (fun i x h => by omega) ?_
  intro i hi hv
  rcases Nat.lt_or_ge i l.length with h1 | h1
  · obtain ⟨⟨a, b, c⟩, hx⟩ : ∃ x, l[i]? = some x := ⟨_, List.getElem?_eq_getElem h1⟩
    have hw : IntKind.i64.wrap ((i : Int) + 1) = (i : Int) + 1 := wrap1 (by omega)
    have ha := ahd_succ (f := Nd.id) hx
    simp [-getElem?_pos, hx, hw, h1, hok]
    refine callK_val (by simp) (nodesOf1_c ⟨a, b, c⟩) rfl ?_
    by_cases h2 : a ≤ ahd Nd.id l i
    · simp [-getElem?_pos, hx, hw, h1, h2]
      exact fin_val rfl (by simp [Asc.fails (f := Nd.id) hx (.inl h2)]) (by simp)
    · by_cases h3 : e ≤ a
      · simp [-getElem?_pos, hx, hw, h1, h2, h3]
        exact fin_val rfl (by simp [Asc.fails (f := Nd.id) hx (.inr h3)]) (by simp)
      · simp [-getElem?_pos, hx, hw, h1, h2, h3]
        exact ⟨hv.succ hx (by simp only; omega) (by simp only; omega), Wk.to rfl (by simp) (by simp [ha]) (by simp [Blk.names]) (by simp)⟩
  · have h2 : ¬ i < l.length := by omega
    simp [h2]
    exact fin_val rfl (by simp [hv.all h1]) (by simp)
theorem placeN_c (l : List Nd) (hl : l.length ≤ 9223372036854775806) (id : Int) : Rv Try.prog 98 [.agg [.imm (l.map sN.I), .fn 158 []], .i .i64 id] (.i .i64 (posOf Nd.id id l)) := by
  have hok : okCall Try.prog 158 = true := by kernel_rfl
  refine via_impl_numbered_impl_Node_place (by simp) ?_
  simp [pc_impl_numbered_impl_Node_place]
  refine W_for (fun i => ⟨[(10, .i .i64 i), (9, .i .i64 l.length), (8, .imm (l.map sN.I)), (2, .ptr 0 0 0), (1, .i .i64 id)], [(0, .arr 2 [[.imm (l.map sN.I), .fn 158 []]])], 1, 0⟩) l.length (fun i => ∀ j y, j < i → l[j]? = some y → y.id ≠ id) (Wk.less rfl (by simp) (by simp) (by simp)) (by simp) ?_
  intro i hi hv
  rcases Nat.lt_or_ge i l.length with h1 | h1
  · obtain ⟨⟨a, b, c⟩, hx⟩ : ∃ x, l[i]? = some x := ⟨_, List.getElem?_eq_getElem h1⟩
    have hw : IntKind.i64.wrap ((i : Int) + 1) = (i : Int) + 1 := wrap1 (by omega)
    simp [-getElem?_pos, hx, hw, h1, hok]
    refine callK_val (by simp) (nodesOf1_c ⟨a, b, c⟩) rfl ?_
    by_cases h : a = id
    · simp [-getElem?_pos, hx, hw, h1, h]
      exact fin_val rfl (by simp [posOf_at (f := Nd.id) hx h hv]) (by simp)
    · simp [-getElem?_pos, hx, hw, h1, h]
      refine ⟨fun j y hj hy => ?_, Wk.to rfl (by simp) (by simp) (by simp [Blk.names]) (by simp)⟩
      rcases Nat.lt_or_ge j i with h6 | h6
      · exact hv j y h6 hy
      · obtain rfl : j = i := by omega
        rw [hx] at hy; simp at hy; subst hy; exact h
  · have h2 : ¬ i < l.length := by omega
    simp [h2]
    refine fin_val rfl ?_ (by simp)
    rw [posOf_none fun j y hy => hv j y (by have := (List.getElem?_eq_some_iff.1 hy).1; omega) hy]
    simp
open Classical in
theorem ascendE_c (l : List Eg) (hl : l.length ≤ 9223372036854775806) (e : Int) : Rv Try.prog 117 [.agg [.imm (l.map sE.I), .fn 175 []], .i .i64 e] (.b (decide (Asc Eg.id e l))) := by
  have hok : okCall Try.prog 175 = true := by kernel_rfl
  refine via_impl_numbered_impl_Edge_ascend (by simp) ?_
  simp [pc_impl_numbered_impl_Edge_ascend]
  refine W_for (fun i => ⟨[(12, .i .i64 i), (11, .i .i64 l.length), (10, .imm (l.map sE.I)), (5, .i .i64 (ahd Eg.id l i)), (2, .ptr 0 0 0), (1, .i .i64 e)], [(0, .arr 2 [[.imm (l.map sE.I), .fn 175 []]])], 1, 0⟩) l.length (AscTo Eg.id e l) (Wk.less rfl (by simp) (by simp [ahd]) (by simp)) (fun i x h => by omega) ?_
  intro i hi hv
  rcases Nat.lt_or_ge i l.length with h1 | h1
  · obtain ⟨⟨a, b, c, d, p⟩, hx⟩ : ∃ x, l[i]? = some x := ⟨_, List.getElem?_eq_getElem h1⟩
    have hw : IntKind.i64.wrap ((i : Int) + 1) = (i : Int) + 1 := wrap1 (by omega)
    have ha := ahd_succ (f := Eg.id) hx
    simp [-getElem?_pos, hx, hw, h1, hok]
    refine callK_val (by simp) (edgesIn1_c ⟨a, b, c, d, p⟩) rfl ?_
    by_cases h2 : a ≤ ahd Eg.id l i
    · simp [-getElem?_pos, hx, hw, h1, h2]
      exact fin_val rfl (by simp [Asc.fails (f := Eg.id) hx (.inl h2)]) (by simp)
    · by_cases h3 : e ≤ a
      · simp [-getElem?_pos, hx, hw, h1, h2, h3]
        exact fin_val rfl (by simp [Asc.fails (f := Eg.id) hx (.inr h3)]) (by simp)
      · simp [-getElem?_pos, hx, hw, h1, h2, h3]
        exact ⟨hv.succ hx (by simp only; omega) (by simp only; omega), Wk.to rfl (by simp) (by simp [ha]) (by simp [Blk.names]) (by simp)⟩
  · have h2 : ¬ i < l.length := by omega
    simp [h2]
    exact fin_val rfl (by simp [hv.all h1]) (by simp)
theorem placeE_c (l : List Eg) (hl : l.length ≤ 9223372036854775806) (id : Int) : Rv Try.prog 170 [.agg [.imm (l.map sE.I), .fn 175 []], .i .i64 id] (.i .i64 (posOf Eg.id id l)) := by
  have hok : okCall Try.prog 175 = true := by kernel_rfl
  refine via_impl_numbered_impl_Edge_place (by simp) ?_
  simp [pc_impl_numbered_impl_Edge_place]
  refine W_for (fun i => ⟨[(10, .i .i64 i), (9, .i .i64 l.length), (8, .imm (l.map sE.I)), (2, .ptr 0 0 0), (1, .i .i64 id)], [(0, .arr 2 [[.imm (l.map sE.I), .fn 175 []]])], 1, 0⟩) l.length (fun i => ∀ j y, j < i → l[j]? = some y → y.id ≠ id) (Wk.less rfl (by simp) (by simp) (by simp)) (by simp) ?_
  intro i hi hv
  rcases Nat.lt_or_ge i l.length with h1 | h1
  · obtain ⟨⟨a, b, c, d, p⟩, hx⟩ : ∃ x, l[i]? = some x := ⟨_, List.getElem?_eq_getElem h1⟩
    have hw : IntKind.i64.wrap ((i : Int) + 1) = (i : Int) + 1 := wrap1 (by omega)
    simp [-getElem?_pos, hx, hw, h1, hok]
    refine callK_val (by simp) (edgesIn1_c ⟨a, b, c, d, p⟩) rfl ?_
    by_cases h : a = id
    · simp [-getElem?_pos, hx, hw, h1, h]
      exact fin_val rfl (by simp [posOf_at (f := Eg.id) hx h hv]) (by simp)
    · simp [-getElem?_pos, hx, hw, h1, h]
      refine ⟨fun j y hj hy => ?_, Wk.to rfl (by simp) (by simp) (by simp [Blk.names]) (by simp)⟩
      rcases Nat.lt_or_ge j i with h6 | h6
      · exact hv j y h6 hy
      · obtain rfl : j = i := by omega
        rw [hx] at hy; simp at hy; subst hy; exact h
  · have h2 : ¬ i < l.length := by omega
    simp [h2]
    refine fin_val rfl ?_ (by simp)
    rw [posOf_none fun j y hy => hv j y (by have := (List.getElem?_eq_some_iff.1 hy).1; omega) hy]
    simp
end Go.Proofs.Ytehdfbhfbidadaa.V
