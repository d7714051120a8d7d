/- Plain words: what a Bool answer says; what is left of a size. -/
import Derived.Test.YtcchmhmbjhgfdaaPBase
namespace Go.Proofs.Ytcchmhmbjhgfdaa.Pur
open Go.RowKit Go.Proofs.YtcchmhmbjhgfdaaW.PrintWords
set_option linter.unusedVariables false

/-- An answer that says whether P holds. -/
def Dec (f : Nat → Option Bool) (P : Prop) : Prop := ∃ r, Ev f r ∧ (r = true ↔ P)
theorem Dec.some {b : Bool} {P : Prop} (h : b = true ↔ P) : Dec (fun _ => Option.some b) P := ⟨b, Ev.some b, h⟩
theorem Dec.no {P : Prop} (h : ¬ P) : Dec (fun _ => Option.some false) P := ⟨false, Ev.some _, by simp [h]⟩
theorem Dec.yes {P : Prop} (h : P) : Dec (fun _ => Option.some true) P := ⟨true, Ev.some _, by simp [h]⟩
theorem Dec.iff {f : Nat → Option Bool} {P Q : Prop} (d : Dec f P) (h : P ↔ Q) : Dec f Q := by
  obtain ⟨r, hr, hp⟩ := d
  exact ⟨r, hr, hp.trans h⟩
theorem Dec.of {f : Nat → Option Bool} {b : Bool} {P : Prop} (h : Ev f b) (e : b = true ↔ P) : Dec f P := ⟨b, h, e⟩
theorem Dec.bind {f : Nat → Option Bool} {g : Nat → Bool → Option Bool} {P Q : Prop} (d : Dec f P) (h1 : P → Dec (fun k => g k true) Q) (h2 : ¬ P → Dec (fun k => g k false) Q) : Dec (fun k => (f k).bind fun t => g k t) Q := by
  obtain ⟨r, hr, hp⟩ := d
  cases r with
  | true => obtain ⟨q, hq, e⟩ := h1 (hp.1 rfl)
            exact ⟨q, Ev.bind hr hq, e⟩
  | false => obtain ⟨q, hq, e⟩ := h2 (fun h => by have := hp.2 h; cases this)
             exact ⟨q, Ev.bind hr hq, e⟩
theorem Dec.ev {α : Type} {f : Nat → Option α} {g : Nat → α → Option Bool} {v : α} {Q : Prop} (h : Ev f v) (d : Dec (fun k => g k v) Q) : Dec (fun k => (f k).bind fun t => g k t) Q := by
  obtain ⟨q, hq, e⟩ := d
  exact ⟨q, Ev.bind h hq, e⟩
/-- A test, and what follows if it holds. -/
theorem Dec.then {f : Nat → Option Bool} {g : Nat → Option Bool} {P Q : Prop} (d : Dec f P) (h : P → Dec g Q) : Dec (fun k => (f k).bind fun t => if t = true then g k else Option.some false) (P ∧ Q) := by
  refine Dec.bind d (fun p => ?_) (fun p => ?_)
  · simp only [if_true]
    exact (h p).iff (by simp [p])
  · simp only [Bool.false_eq_true, if_false]
    exact Dec.no (fun h => p h.1)
theorem Dec.ite {c : Prop} [Decidable c] {f g : Nat → Option Bool} {Q : Prop} (h1 : c → Dec f Q) (h2 : ¬ c → Dec g Q) : Dec (fun k => if c then f k else g k) Q := by
  by_cases h : c
  · simpa only [if_pos h] using h1 h
  · simpa only [if_neg h] using h2 h
theorem Dec.pos {c : Prop} [Decidable c] {f g : Nat → Option Bool} {Q : Prop} (h : c) (d : Dec f Q) : Dec (fun k => if c then f k else g k) Q := by simpa only [if_pos h] using d
theorem Dec.neg {c : Prop} [Decidable c] {f g : Nat → Option Bool} {Q : Prop} (h : ¬ c) (d : Dec g Q) : Dec (fun k => if c then f k else g k) Q := by simpa only [if_neg h] using d
theorem Dec.succ {g : Nat → Option Bool} {P : Prop} (d : Dec (fun k => g (k + 1)) P) : Dec g P := by
  obtain ⟨r, hr, h⟩ := d
  exact ⟨r, Ev.succ hr, h⟩
/-- A loop that asks at each place, and at the end. -/
theorem Dec.loop (n : Nat) (L : Nat → Int → Option Bool) (C : Nat → Prop) (E : Prop) (hend : Dec (fun k => L k (n : Int)) E)
    (hstep : ∀ i : Nat, i < n → ∀ R : Prop, Dec (fun k => L k ((i + 1 : Nat) : Int)) R → Dec (fun k => L k (i : Int)) (C i ∧ R)) :
    Dec (fun k => L k 0) ((∀ i, i < n → C i) ∧ E) := by
  have h : ∀ (d i : Nat), n = i + d → Dec (fun k => L k (i : Int)) ((∀ j, i ≤ j → j < n → C j) ∧ E) := by
    intro d
    induction d with
    | zero =>
      intro i hi
      obtain rfl : n = i := by omega
      exact hend.iff ⟨fun e => ⟨fun j h1 h2 => by omega, e⟩, fun e => e.2⟩
    | succ d ih =>
      intro i hi
      refine (hstep i (by omega) _ (ih (i + 1) (by omega))).iff ⟨fun ⟨c, h, e⟩ => ⟨fun j h1 h2 => ?_, e⟩, fun ⟨h, e⟩ => ⟨h i (Nat.le_refl _) (by omega), fun j h1 h2 => h j (by omega) h2, e⟩⟩
      by_cases e : i = j
      · exact e ▸ c
      · exact h j (by omega) h2
  exact (h n 0 (by omega)).iff ⟨fun ⟨h, e⟩ => ⟨fun j hj => h j (Nat.zero_le _) hj, e⟩, fun ⟨h, e⟩ => ⟨fun j _ hj => h j hj, e⟩⟩
/-- Two answers to one question are one answer. -/
theorem Dec.same {f g : Nat → Option Bool} {P : Prop} (d : Dec f P) (e : Dec g P) : ∃ r, Ev f r ∧ Ev g r := by
  obtain ⟨r, hr, h⟩ := d
  obtain ⟨q, hq, h'⟩ := e
  have : r = q := by rw [Bool.eq_iff_iff, h, h']
  exact ⟨r, hr, this ▸ hq⟩

/-- What is left of a size, if P; less than nothing, if too little is left. -/
def Sz (f : Nat → Option Int) (left : Int) (P : Prop) : Prop := ∃ r, Ev f r ∧ r ≤ left ∧ (0 ≤ r → P)
theorem Sz.imp {f : Nat → Option Int} {left : Int} {P Q : Prop} (h : Sz f left P) (e : P → Q) : Sz f left Q := by
  obtain ⟨r, hr, hl, hp⟩ := h
  exact ⟨r, hr, hl, fun h => e (hp h)⟩
theorem Sz.bind {f : Nat → Option Int} {g : Nat → Int → Option Int} {left : Int} {P Q : Prop} (h0 : 0 ≤ left) (h : Sz f left P) (hg : ∀ r, 0 ≤ r → r ≤ left → Sz (fun k => g k r) r Q) : Sz (fun k => (f k).bind fun t => if t < 0 then some (-1) else g k t) left (P ∧ Q) := by
  obtain ⟨r, hr, hl, hp⟩ := h
  by_cases c : r < 0
  · refine ⟨-1, Ev.bind hr ?_, by omega, fun h => by omega⟩
    simp only [if_pos c]
    exact Ev.some _
  · obtain ⟨q, hq, hql, hqp⟩ := hg r (by omega) hl
    refine ⟨q, Ev.bind hr ?_, by omega, fun h => ⟨hp (by omega), hqp h⟩⟩
    simp only [if_neg c]
    exact hq
theorem Sz.last {f : Nat → Option Int} {left : Int} {P : Prop} (h0 : 0 ≤ left) (h : Sz f left P) : Sz (fun k => (f k).bind fun t => if t < 0 then some (-1) else some t) left P :=
  (Sz.bind (g := fun _ t => some t) h0 h (fun r h1 h2 => ⟨r, Ev.some _, Int.le_refl _, fun _ => trivial⟩)).imp (fun h => h.1)
theorem Sz.less {g : Nat → Int → Option Int} {left : Int} {n : Nat} {Q : Prop} (h0 : 0 ≤ left) (h1 : left ≤ 1048576) (hn : n ≤ maxLen) (hg : 0 ≤ left - n → Sz (fun k => g k (left - n)) (left - n) Q) : Sz (fun k => if wrap64 (left - (n : Int)) < 0 then some (-1) else g k (wrap64 (left - (n : Int)))) left (n ≤ 1048576 ∧ Q) := by
  unfold maxLen at hn
  rw [wrap64_id (by omega) (by omega)]
  by_cases c : left - (n : Int) < 0
  · refine ⟨-1, ?_, by omega, fun h => by omega⟩
    simp only [if_pos c]
    exact Ev.some _
  · obtain ⟨q, hq, hql, hqp⟩ := hg (by omega)
    refine ⟨q, ?_, by omega, fun h => ⟨by omega, hqp h⟩⟩
    simp only [if_neg c]
    exact hq
theorem Sz.list {α : Type} {l : List α} {L : Nat → Int → Int → Option Int} {step : Nat → α → Int → Option Int} {P : α → Prop} {left : Int} (h0 : 0 ≤ left) (h1 : left ≤ 1048576) (hl : l.length ≤ maxLen)
    (hend : ∀ k left (i : Nat), ¬ i < l.length → L (k + 1) left i = some left)
    (hstep : ∀ k left (i : Nat) (h : i < l.length), l.length ≤ 9223372036854775807 → L (k + 1) left i = (step k l[i] left).bind fun t => if t < 0 then some (-1) else L k t ((i + 1 : Nat) : Int))
    (hs : ∀ x ∈ l, ∀ left : Int, 0 ≤ left → left ≤ 1048576 → Sz (fun k => step k x left) left (P x)) :
    Sz (fun k => if wrap64 (left - (l.length : Int)) < 0 then some (-1) else L k (wrap64 (left - (l.length : Int))) 0) left (l.length ≤ 1048576 ∧ ∀ x ∈ l, P x) := by
  refine Sz.less (g := fun k t => L k t 0) h0 h1 hl (fun h => ?_)
  unfold maxLen at hl
  obtain ⟨r, hr, hle, hp⟩ := szLoop l L step P hend (fun k left i h => hstep k left i h (by omega)) hs l.length 0 (left - l.length) (by omega) h (by omega)
  exact ⟨r, hr, hle, fun h x hx => by
    obtain ⟨j, hj, rfl⟩ := List.getElem_of_mem hx
    exact hp h j hj (Nat.zero_le _)⟩
end Go.Proofs.Ytcchmhmbjhgfdaa.Pur
