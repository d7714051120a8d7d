/- Labels and lists of props that are ok. -/
import Derived.Test.YtehdfbhfbidadaaCprop
namespace Go.Proofs.Ytehdfbhfbidadaa.V
open Go
set_option linter.unusedVariables false
set_option linter.unusedSimpArgs false
set_option maxHeartbeats 8000000
/-- Whether each of a list fits its place, and it comes behind the one ahead of it. -/
def Each {α : Type} (ok : α → Bool) (nm : α → Tx) (l : List α) : Prop :=
  ∀ (i : Nat) (x : α), l[i]? = some x → ok x = true ∧ ∀ y, 0 < i → l[i - 1]? = some y → Op.bytesLess (nm y) (nm x) = true
theorem Each.nil {α : Type} {ok : α → Bool} {nm : α → Tx} : Each ok nm ([] : List α) := by intro i x h; simp at h
def EachTo {α : Type} (ok : α → Bool) (nm : α → Tx) (l : List α) (n : Nat) : Prop :=
  ∀ (i : Nat) (x : α), i < n → l[i]? = some x → ok x = true ∧ ∀ y, 0 < i → l[i - 1]? = some y → Op.bytesLess (nm y) (nm x) = true
theorem EachTo.zero {α : Type} {ok : α → Bool} {nm : α → Tx} {l : List α} : EachTo ok nm l 0 := by intro i x h; omega
theorem EachTo.all {α : Type} {ok : α → Bool} {nm : α → Tx} {l : List α} {n : Nat} (h : EachTo ok nm l n) (hn : l.length ≤ n) : Each ok nm l :=
  fun i x hx => h i x (by have := (List.getElem?_eq_some_iff.1 hx).1; omega) hx
theorem EachTo.succ {α : Type} {ok : α → Bool} {nm : α → Tx} {l : List α} {n : Nat} {x : α} (h : EachTo ok nm l n) (hx : l[n]? = some x) (h1 : ok x = true) (h2 : ∀ y, 0 < n → l[n - 1]? = some y → Op.bytesLess (nm y) (nm x) = true) : EachTo ok nm l (n + 1) := by
  intro i z hi hz
  rcases Nat.lt_or_ge i n with h3 | h3
  · exact h i z h3 hz
  · obtain rfl : i = n := by omega
    rw [hx] at hz; simp at hz; subst hz
    exact ⟨h1, h2⟩
def LabelsOk (l : List Tx) : Prop := Each nameOk id l ∧ l.length ≤ 3
def prOk (p : Pr) : Bool := nameOk p.name && sto p.val
def PropsOk (l : List Pr) : Prop := Each prOk Pr.name l ∧ l.length ≤ 4
theorem wback {i : Nat} (h : 0 < i) (h2 : (i : Int) < 9223372036854775808) : IntKind.i64.wrap ((i : Int) - 1) = ((i - 1 : Nat) : Int) := by
  rw [wrap64 (by omega) (by omega)]; omega
open Classical in
theorem l2Labels_c (l : List Tx) (hl : ln l) (hf : ∀ x ∈ l, ln x) : Rv Try.prog 84 [.imm (l.map sS.I)] (.b (decide (LabelsOk l))) := by
  refine via_spec_l2Labels (by simp) ?_
  simp [pc_spec_l2Labels]
  refine W_for (fun i => ⟨[(3, .i .i64 i), (0, .imm (l.map sS.I))], [], 0, 0⟩) l.length (EachTo nameOk id l) (Wk.less rfl (by simp) (by simp) (by simp)) .zero ?_
  intro i hi hv
  rcases Nat.lt_or_ge i l.length with h1 | h1
  · obtain ⟨x, hx⟩ : ∃ x, l[i]? = some x := ⟨_, List.getElem?_eq_getElem h1⟩
    have hw : IntKind.i64.wrap ((i : Int) + 1) = (i : Int) + 1 := wrap1 (by omega)
    simp [-getElem?_pos, hx, hw, h1]
    refine callK_val (by simp) (l2Name_c x (hf x (List.mem_of_getElem? hx))) rfl ?_
    by_cases ho : nameOk x = true
    · by_cases h0 : 0 < i
      · obtain ⟨y, hy⟩ : ∃ y, l[i - 1]? = some y := ⟨_, List.getElem?_eq_getElem (by omega)⟩
        have hb := wback h0 (by omega)
        by_cases hlt : Op.bytesLess y x = true
        · simp [-getElem?_pos, hx, hw, h1, ho, h0, hb, hy, hlt]
          refine ⟨hv.succ hx ho fun z _ hz => ?_, Wk.to rfl (by simp) (by simp) (by simp) (by simp)⟩
          rw [hy] at hz; simp at hz; subst hz; exact hlt
        · simp [-getElem?_pos, hx, hw, h1, ho, h0, hb, hy, hlt]
          have : ¬ LabelsOk l := fun h => hlt ((h.1 i x hx).2 y h0 hy)
          exact fin_val rfl (by simp [this]) (by simp)
      · obtain rfl : i = 0 := by omega
        simp [-getElem?_pos, hx, hw, h1, ho]
        exact ⟨hv.succ hx ho fun z h _ => by omega, Wk.to rfl (by simp) (by simp) (by simp) (by simp)⟩
    · simp [-getElem?_pos, hx, hw, h1, ho]
      have : ¬ LabelsOk l := fun h => ho (h.1 i x hx).1
      exact fin_val rfl (by simp [this]) (by simp)
  · have h2 : ¬ i < l.length := by omega
    have := hv.all h1
    by_cases h3 : l.length ≤ 3
    · have h3' : (l.length : Int) ≤ 3 := by omega
      simp [h2, h3']
      exact fin_val rfl (by simp [LabelsOk, this, h3]) (by simp)
    · have h3' : ¬ (l.length : Int) ≤ 3 := by omega
      simp [h2, h3']
      exact fin_val rfl (by simp [LabelsOk, this, h3]) (by simp)
open Classical in
theorem labelsOk_c (l : List Tx) (hl : ln l) (hf : ∀ x ∈ l, ln x) : Rv Try.prog 100 [.imm (l.map sS.I)] (.b (decide (LabelsOk l))) := by
  refine via_impl_labelsOk (by simp) ?_
  by_cases h3 : 3 < l.length
  · have h3' : (3 : Int) < l.length := by omega
    simp [pc_impl_labelsOk, h3']
    have : ¬ LabelsOk l := fun h => by have := h.2; omega
    exact fin_val rfl (by simp [this]) (by simp)
  · have h3' : ¬ (3 : Int) < l.length := by omega
    simp [pc_impl_labelsOk, h3']
    refine W_for (fun i => ⟨[(10, .i .i64 i), (9, .i .i64 l.length), (8, .imm (l.map sS.I)), (0, .imm (l.map sS.I))], [], 0, 0⟩) l.length (EachTo nameOk id l) (Wk.less rfl (by simp) (by simp) (by simp)) .zero ?_
    intro i hi hv
    rcases Nat.lt_or_ge i l.length with h1 | h1
    · obtain ⟨x, hx⟩ : ∃ x, l[i]? = some x := ⟨_, List.getElem?_eq_getElem h1⟩
      have hw : IntKind.i64.wrap ((i : Int) + 1) = (i : Int) + 1 := wrap1 (by omega)
      simp [-getElem?_pos, hx, hw, h1]
      refine callK_val (by simp) (NameOk_c x (hf x (List.mem_of_getElem? hx))) rfl ?_
      by_cases ho : nameOk x = true
      · by_cases h0 : 0 < i
        · obtain ⟨y, hy⟩ : ∃ y, l[i - 1]? = some y := ⟨_, List.getElem?_eq_getElem (by omega)⟩
          have hb := wback h0 (by omega)
          by_cases hlt : Op.bytesLess y x = true
          · simp [-getElem?_pos, hx, hw, h1, ho, h0, hb, hy, hlt]
            refine ⟨hv.succ hx ho fun z _ hz => ?_, Wk.to rfl (by simp) (by simp) (by simp) (by simp)⟩
            rw [hy] at hz; simp at hz; subst hz; exact hlt
          · simp [-getElem?_pos, hx, hw, h1, ho, h0, hb, hy, hlt]
            have : ¬ LabelsOk l := fun h => hlt ((h.1 i x hx).2 y h0 hy)
            exact fin_val rfl (by simp [this]) (by simp)
        · obtain rfl : i = 0 := by omega
          simp [-getElem?_pos, hx, hw, h1, ho]
          exact ⟨hv.succ hx ho fun z h _ => by omega, Wk.to rfl (by simp) (by simp) (by simp) (by simp)⟩
      · simp [-getElem?_pos, hx, hw, h1, ho]
        have : ¬ LabelsOk l := fun h => ho (h.1 i x hx).1
        exact fin_val rfl (by simp [this]) (by simp)
    · have h2 : ¬ i < l.length := by omega
      have := hv.all h1
      simp [h2]
      exact fin_val rfl (by simp [LabelsOk, this]; omega) (by simp)
open Classical in
theorem l2Props_c (l : List Pr) (hl : ln l) (hf : ∀ x ∈ l, x.fit) : Rv Try.prog 85 [.imm (l.map sP.I)] (.b (decide (PropsOk l))) := by
  refine via_spec_l2Props (by simp) ?_
  simp [pc_spec_l2Props]
  refine W_for (fun i => ⟨[(3, .i .i64 i), (0, .imm (l.map sP.I))], [], 0, 0⟩) l.length (EachTo prOk Pr.name l) (Wk.less rfl (by simp) (by simp) (by simp)) .zero ?_
  intro i hi hv
  rcases Nat.lt_or_ge i l.length with h1 | h1
  · obtain ⟨⟨nm, v⟩, hx⟩ : ∃ x, l[i]? = some x := ⟨_, List.getElem?_eq_getElem h1⟩
    have hw : IntKind.i64.wrap ((i : Int) + 1) = (i : Int) + 1 := wrap1 (by omega)
    have hfx := hf _ (List.mem_of_getElem? hx)
    obtain ⟨hf1, hf2⟩ := hfx
    simp only at hf1 hf2
    simp [-getElem?_pos, hx, hw, h1]
    refine callK_val (by simp) (l2Name_c nm hf1) rfl ?_
    by_cases ho : nameOk nm = true
    · simp [-getElem?_pos, hx, hw, h1, ho]
      refine callK_val (by simp) (specValueOk_c v hf2) rfl ?_
      by_cases hvo : vOk v = true
      · simp [-getElem?_pos, hx, hw, h1, ho, hvo]
        refine callK_val (by simp) (l2Plain_c v hf2) rfl ?_
        by_cases hpl : v.plain = true
        · have hok : prOk ⟨nm, v⟩ = true := by simp [prOk, sto, ho, hvo, hpl]
          by_cases h0 : 0 < i
          · obtain ⟨⟨nm', v'⟩, hy⟩ : ∃ y, l[i - 1]? = some y := ⟨_, List.getElem?_eq_getElem (by omega)⟩
            have hb := wback h0 (by omega)
            by_cases hlt : Op.bytesLess nm' nm = true
            · simp [-getElem?_pos, hx, hw, h1, ho, h0, hb, hy, hlt, hvo, hpl]
              refine ⟨hv.succ hx hok fun z _ hz => ?_, Wk.to rfl (by simp) (by simp) (by simp) (by simp)⟩
              rw [hy] at hz; simp at hz; subst hz; exact hlt
            · simp [-getElem?_pos, hx, hw, h1, ho, h0, hb, hy, hlt, hvo, hpl]
              have : ¬ PropsOk l := fun h => hlt ((h.1 i _ hx).2 _ h0 hy)
              exact fin_val rfl (by simp [this]) (by simp)
          · obtain rfl : i = 0 := by omega
            simp [-getElem?_pos, hx, hw, h1, ho, hvo, hpl]
            exact ⟨hv.succ hx hok fun z h _ => by omega, Wk.to rfl (by simp) (by simp) (by simp) (by simp)⟩
        · simp [-getElem?_pos, hx, hw, h1, ho, hvo, hpl]
          have : ¬ PropsOk l := fun h => by have := (h.1 i _ hx).1; simp [prOk, sto, hpl] at this
          exact fin_val rfl (by simp [this]) (by simp)
      · simp [-getElem?_pos, hx, hw, h1, ho, hvo]
        have : ¬ PropsOk l := fun h => by have := (h.1 i _ hx).1; simp [prOk, sto, hvo] at this
        exact fin_val rfl (by simp [this]) (by simp)
    · simp [-getElem?_pos, hx, hw, h1, ho]
      have : ¬ PropsOk l := fun h => by have := (h.1 i _ hx).1; simp [prOk, ho] at this
      exact fin_val rfl (by simp [this]) (by simp)
  · have h2 : ¬ i < l.length := by omega
    have := hv.all h1
    by_cases h3 : l.length ≤ 4
    · have h3' : (l.length : Int) ≤ 4 := by omega
      simp [h2, h3']
      exact fin_val rfl (by simp [PropsOk, this, h3]) (by simp)
    · have h3' : ¬ (l.length : Int) ≤ 4 := by omega
      simp [h2, h3']
      exact fin_val rfl (by simp [PropsOk, this, h3]) (by simp)
open Classical in
theorem propsOk_c (l : List Pr) (hl : ln l) (hf : ∀ x ∈ l, x.fit) : Rv Try.prog 112 [.imm (l.map sP.I)] (.b (decide (PropsOk l))) := by
  refine via_impl_propsOk (by simp) ?_
  by_cases h4 : 4 < l.length
  · have h4' : (4 : Int) < l.length := by omega
    simp [pc_impl_propsOk, h4']
    have : ¬ PropsOk l := fun h => by have := h.2; omega
    exact fin_val rfl (by simp [this]) (by simp)
  · have h4' : ¬ (4 : Int) < l.length := by omega
    simp [pc_impl_propsOk, h4']
    refine W_for (fun i => ⟨[(10, .i .i64 i), (9, .i .i64 l.length), (8, .imm (l.map sP.I)), (0, .imm (l.map sP.I))], [], 0, 0⟩) l.length (EachTo prOk Pr.name l) (Wk.less rfl (by simp) (by simp) (by simp)) .zero ?_
    intro i hi hv
    rcases Nat.lt_or_ge i l.length with h1 | h1
    · obtain ⟨⟨nm, v⟩, hx⟩ : ∃ x, l[i]? = some x := ⟨_, List.getElem?_eq_getElem h1⟩
      have hw : IntKind.i64.wrap ((i : Int) + 1) = (i : Int) + 1 := wrap1 (by omega)
      have hfx := hf _ (List.mem_of_getElem? hx)
      obtain ⟨hf1, hf2⟩ := hfx
      simp only at hf1 hf2
      obtain ⟨k, n, s, l'⟩ := v
      simp [-getElem?_pos, hx, hw, h1]
      refine callK_val (by simp) (NameOk_c nm hf1) rfl ?_
      by_cases ho : nameOk nm = true
      · simp [-getElem?_pos, hx, hw, h1, ho]
        refine callK_val (by simp) (storable_c (.mk k n s l') hf2) rfl ?_
        by_cases hvo : sto (.mk k n s l') = true
        · have hok : prOk ⟨nm, .mk k n s l'⟩ = true := by simp [prOk, ho, hvo]
          by_cases h0 : 0 < i
          · obtain ⟨⟨nm', v'⟩, hy⟩ : ∃ y, l[i - 1]? = some y := ⟨_, List.getElem?_eq_getElem (by omega)⟩
            have hb := wback h0 (by omega)
            by_cases hlt : Op.bytesLess nm' nm = true
            · simp [-getElem?_pos, hx, hw, h1, ho, h0, hb, hy, hlt, hvo]
              refine ⟨hv.succ hx hok fun z _ hz => ?_, Wk.to rfl (by simp) (by simp) (by simp) (by simp)⟩
              rw [hy] at hz; simp at hz; subst hz; exact hlt
            · simp [-getElem?_pos, hx, hw, h1, ho, h0, hb, hy, hlt, hvo]
              have : ¬ PropsOk l := fun h => hlt ((h.1 i _ hx).2 _ h0 hy)
              exact fin_val rfl (by simp [this]) (by simp)
          · obtain rfl : i = 0 := by omega
            simp [-getElem?_pos, hx, hw, h1, ho, hvo]
            exact ⟨hv.succ hx hok fun z h _ => by omega, Wk.to rfl (by simp) (by simp) (by simp) (by simp)⟩
        · simp [-getElem?_pos, hx, hw, h1, ho, hvo]
          have : ¬ PropsOk l := fun h => by have := (h.1 i _ hx).1; simp [prOk, hvo] at this
          exact fin_val rfl (by simp [this]) (by simp)
      · simp [-getElem?_pos, hx, hw, h1, ho]
        have : ¬ PropsOk l := fun h => by have := (h.1 i _ hx).1; simp [prOk, ho] at this
        exact fin_val rfl (by simp [this]) (by simp)
    · have h2 : ¬ i < l.length := by omega
      have := hv.all h1
      simp [h2]
      exact fin_val rfl (by simp [PropsOk, this]; omega) (by simp)
end Go.Proofs.Ytehdfbhfbidadaa.V
