/- Plain words for the pure side: what holds from some number of rounds on; loops over lists. -/
import Derived.Test.YtcchmhmbjhgfdaaWMini
namespace Go.Proofs.Ytcchmhmbjhgfdaa.Pur
open Go.RowKit Go.Proofs.YtcchmhmbjhgfdaaW.PrintWords
set_option linter.unusedVariables false

theorem Ev.ite {α : Type} {c : Prop} [Decidable c] {f g : Nat → Option α} {r : α} (h1 : c → Ev f r) (h2 : ¬ c → Ev g r) : Ev (fun k => if c then f k else g k) r := by
  by_cases h : c
  · simpa only [if_pos h] using h1 h
  · simpa only [if_neg h] using h2 h
theorem Ev.pos {α : Type} {c : Prop} [Decidable c] {f g : Nat → Option α} {r : α} (h : c) (e : Ev f r) : Ev (fun k => if c then f k else g k) r := by simpa only [if_pos h] using e
theorem Ev.neg {α : Type} {c : Prop} [Decidable c] {f g : Nat → Option α} {r : α} (h : ¬ c) (e : Ev g r) : Ev (fun k => if c then f k else g k) r := by simpa only [if_neg h] using e
theorem Ev.some {α : Type} (r : α) : Ev (fun _ => Option.some r) r := Ev.now r
theorem Ev.eq {α : Type} {f : Nat → Option α} {r r' : α} (h : Ev f r) (e : r = r') : Ev f r' := e ▸ h
theorem Ev.succ {α : Type} {g : Nat → Option α} {r : α} (h : Ev (fun k => g (k + 1)) r) : Ev g r := Ev.step (fun k => rfl) h
theorem Ev.of_eq {α : Type} {g : Nat → Option α} {r : α} (h : ∀ k, g k = Option.some r) : Ev g r := ⟨0, fun k _ => h k⟩

theorem wrap64_id {x : Int} (h0 : -9223372036854775808 ≤ x) (h1 : x ≤ 9223372036854775807) : wrap64 x = x := by unfold wrap64; omega
theorem wrap64_succ {i : Nat} {n : Nat} (h : i < n) (hn : n ≤ 9223372036854775807) : wrap64 ((i : Int) + 1) = ((i + 1 : Nat) : Int) := by
  rw [wrap64_id (by omega) (by omega)]; omega
theorem toList_nil (s : ByteArray) : s.toList = [] ↔ s.size = 0 := by
  rw [← List.length_eq_zero_iff]
  have : s.toList.length = s.size := by rw [ByteArray.toList_eq]; simp
  rw [this]
theorem toList_inj {a b : ByteArray} : a.toList = b.toList ↔ a = b := by
  constructor
  · intro h
    rw [ByteArray.toList_eq, ByteArray.toList_eq] at h
    cases a; cases b
    simp at h
    rw [h]
  · intro h; rw [h]

section
variable {α β : Type}
/-- A loop that counts down what is left, over a list. -/
theorem szLoop (l : List α) (L : Nat → Int → Int → Option Int) (step : Nat → α → Int → Option Int) (P : α → Prop)
    (hend : ∀ k left (i : Nat), ¬ i < l.length → L (k + 1) left i = some left)
    (hstep : ∀ k left (i : Nat) (h : i < l.length), L (k + 1) left i = (step k l[i] left).bind fun t => if t < 0 then some (-1) else L k t ((i + 1 : Nat) : Int))
    (hs : ∀ x ∈ l, ∀ left : Int, 0 ≤ left → left ≤ 1048576 → ∃ r, Ev (fun k => step k x left) r ∧ r ≤ left ∧ (0 ≤ r → P x)) :
    ∀ (d i : Nat) (left : Int), l.length = i + d → 0 ≤ left → left ≤ 1048576 → ∃ r, Ev (fun k => L k left i) r ∧ r ≤ left ∧ (0 ≤ r → ∀ j (h : j < l.length), i ≤ j → P l[j]) := by
  intro d
  induction d with
  | zero =>
    intro i left hi h0 h1
    refine ⟨left, Ev.succ (Ev.of_eq fun k => hend k left i (by omega)), Int.le_refl _, fun _ j hj hij => by omega⟩
  | succ d ih =>
    intro i left hi h0 h1
    have hlt : i < l.length := by omega
    obtain ⟨r, hr, hle, hp⟩ := hs l[i] (List.getElem_mem hlt) left h0 h1
    by_cases hn : r < 0
    · refine ⟨-1, Ev.succ ?_, by omega, fun h => by omega⟩
      simp only [hstep _ _ _ hlt]
      refine Ev.bind hr ?_
      simp only [if_pos hn]
      exact Ev.some _
    · obtain ⟨q, hq, hle', hp'⟩ := ih (i + 1) r (by omega) (by omega) (by omega)
      refine ⟨q, Ev.succ ?_, by omega, fun h j hj hij => ?_⟩
      · simp only [hstep _ _ _ hlt]
        refine Ev.bind hr ?_
        simp only [if_neg hn]
        exact hq
      · by_cases e : i = j
        · subst e; exact hp (by omega)
        · exact hp' h j hj (by omega)
/-- A loop that writes into a list that was made, element by element. -/
theorem toLoop (l : List α) (L : Nat → List β → Int → Option (List β)) (step : Nat → α → Option β) (c : α → β)
    (hend : ∀ k out (i : Nat), ¬ i < l.length → L (k + 1) out i = some out)
    (hstep : ∀ k out (i : Nat) (h : i < l.length), i < out.length → L (k + 1) out i = (step k l[i]).bind fun t => L k (out.set i t) ((i + 1 : Nat) : Int))
    (hs : ∀ x ∈ l, Ev (fun k => step k x) (c x)) :
    ∀ (d i : Nat) (out : List β), l.length = i + d → out.length = l.length → Ev (fun k => L k out i) (out.take i ++ (l.drop i).map c) := by
  intro d
  induction d with
  | zero =>
    intro i out hi ho
    refine Ev.eq (Ev.succ (Ev.of_eq fun k => hend k out i (by omega))) ?_
    rw [List.drop_of_length_le (by omega), List.take_of_length_le (by omega)]
    simp
  | succ d ih =>
    intro i out hi ho
    have hlt : i < l.length := by omega
    refine Ev.succ ?_
    simp only [hstep _ _ _ hlt (by omega : i < out.length)]
    refine Ev.bind (hs l[i] (List.getElem_mem hlt)) ?_
    refine Ev.eq (ih (i + 1) _ (by omega) (by simpa using ho)) ?_
    rw [List.drop_eq_getElem_cons hlt, List.map_cons]
    have : (out.set i (c l[i])).take (i + 1) = out.take i ++ [c l[i]] := by
      rw [List.take_succ_eq_append_getElem (by rw [List.length_set]; omega)]
      rw [List.take_set_of_le (Nat.le_refl _)]
      simp
    rw [this, List.append_assoc]
    rfl
/-- A loop that asks each of a list, and stops at the first no. -/
theorem allLoop (l : List α) (L : Nat → Int → Option Bool) (step : Nat → α → Option Bool) (c : α → Bool) (e : Bool)
    (hend : ∀ (i : Nat), l.length ≤ i → Ev (fun k => L k i) e)
    (hstep : ∀ (i : Nat) (h : i < l.length) (r : Bool), Ev (fun k => (step k l[i]).bind fun t => if t = true then L k ((i + 1 : Nat) : Int) else some false) r → Ev (fun k => L k i) r)
    (hs : ∀ x ∈ l, Ev (fun k => step k x) (c x)) :
    ∀ (d i : Nat), l.length = i + d → Ev (fun k => L k i) ((l.drop i).all c && e) := by
  intro d
  induction d with
  | zero =>
    intro i hi
    rw [List.drop_of_length_le (by omega)]
    exact Ev.eq (hend i (by omega)) (by simp)
  | succ d ih =>
    intro i hi
    have hlt : i < l.length := by omega
    refine hstep i hlt _ ?_
    refine Ev.bind (hs l[i] (List.getElem_mem hlt)) ?_
    rw [List.drop_eq_getElem_cons hlt, List.all_cons]
    by_cases h : c l[i] = true
    · simp only [if_pos h]
      exact Ev.eq (ih (i + 1) (by omega)) (by simp [h])
    · simp only [if_neg h]
      exact Ev.eq (Ev.some _) (by simp [h])
/-- Two lists that are the same, compared element by element. -/
theorem eqLoop (l : List α) (L : Nat → Int → Option Bool) (step : Nat → α → α → Option Bool)
    (hend : ∀ k (i : Nat), ¬ i < l.length → L (k + 1) i = some true)
    (hstep : ∀ k (i : Nat) (h : i < l.length), L (k + 1) i = (step k l[i] l[i]).bind fun t => if t = true then L k ((i + 1 : Nat) : Int) else some false)
    (hs : ∀ x ∈ l, Ev (fun k => step k x x) true) :
    ∀ (d i : Nat), l.length = i + d → Ev (fun k => L k i) true := by
  intro d
  induction d with
  | zero => intro i hi; exact Ev.succ (Ev.of_eq fun k => hend k i (by omega))
  | succ d ih =>
    intro i hi
    have hlt : i < l.length := by omega
    refine Ev.succ ?_
    simp only [hstep _ _ hlt]
    refine Ev.bind (hs l[i] (List.getElem_mem hlt)) ?_
    simp only [if_true]
    exact ih (i + 1) (by omega)
end
/-- From place i on, d places: all of them. -/
def allB (c : Nat → Bool) : Nat → Nat → Bool
  | 0, _ => true
  | d + 1, i => c i && allB c d (i + 1)
theorem allB_iff (c : Nat → Bool) : ∀ (d i : Nat), allB c d i = true ↔ ∀ j, i ≤ j → j < i + d → c j = true
  | 0, i => by simp [allB]; omega
  | d + 1, i => by
    rw [allB, Bool.and_eq_true, allB_iff c d (i + 1)]
    constructor
    · intro ⟨h, h'⟩ j hj hj'
      by_cases e : i = j
      · exact e ▸ h
      · exact h' j (by omega) (by omega)
    · intro h
      exact ⟨h i (by omega) (by omega), fun j hj hj' => h j (by omega) (by omega)⟩
theorem allB_congr {c c' : Nat → Bool} : ∀ (d i : Nat), (∀ j, i ≤ j → j < i + d → c j = c' j) → allB c d i = allB c' d i
  | 0, _, _ => rfl
  | d + 1, i, h => by rw [allB, allB, h i (by omega) (by omega), allB_congr d (i + 1) (fun j h1 h2 => h j (by omega) (by omega))]
/-- A loop that stops at the first no. -/
theorem loopB (n : Nat) (L : Nat → Int → Option Bool) (c : Nat → Bool) (e : Bool) (hend : Ev (fun k => L k (n : Int)) e)
    (hno : ∀ i : Nat, i < n → c i = false → Ev (fun k => L k (i : Int)) false)
    (hyes : ∀ i : Nat, i < n → c i = true → ∀ r, Ev (fun k => L k ((i + 1 : Nat) : Int)) r → Ev (fun k => L k (i : Int)) r) :
    ∀ (d i : Nat), n = i + d → Ev (fun k => L k (i : Int)) (allB c d i && e) := by
  intro d
  induction d with
  | zero => intro i hi; obtain rfl : n = i := by omega
            exact Ev.eq hend (by simp [allB])
  | succ d ih =>
    intro i hi
    cases hc : c i with
    | false => exact Ev.eq (hno i (by omega) hc) (by simp [allB, hc])
    | true => exact Ev.eq (hyes i (by omega) hc _ (ih (i + 1) (by omega))) (by simp [allB, hc])
theorem getD_nat {α : Type} {l : List α} {d : α} {i : Nat} (h : i < l.length) : l.getD ((i : Int)).toNat d = l[i] := by
  simp [List.getD_eq_getElem?_getD, h]
end Go.Proofs.Ytcchmhmbjhgfdaa.Pur
