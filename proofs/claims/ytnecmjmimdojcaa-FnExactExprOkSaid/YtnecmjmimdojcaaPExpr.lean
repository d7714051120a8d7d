/- ExprOk, in the program and in the reference. -/
import Derived.Test.YtnecmjmimdojcaaPEBase
import Derived.Test.YtnecmjmimdojcaaPValOk
import Derived.Test.YtnecmjmimdojcaaGx8
import Derived.Test.YtnecmjmimdojcaaGx7
import Derived.Test.YtnecmjmimdojcaaGx4
import Derived.Test.YtnecmjmimdojcaaGx6
import Derived.Test.YtnecmjmimdojcaaGx5
import Derived.Test.YtnecmjmimdojcaaGx11
import Derived.Test.YtnecmjmimdojcaaGx12
import Derived.Test.YtnecmjmimdojcaaGx13
namespace Go.Proofs.Ytnecmjmimdojcaa.Pur
open Go.RowKit Go.Proofs.Ytnecmjmimdojcaa.G Go.Proofs.YtnecmjmimdojcaaW.PrintWords Go.Proofs.YtnecmjmimdojcaaW.PrintLast
set_option linter.unusedVariables false
set_option linter.unusedSimpArgs false

/-- How many parts a kind has. -/
def arI (a : Int) : Int :=
  if a = 1 ∨ a = 2 ∨ a = 3 ∨ a = 4 ∨ a = 14 then 0 else if a = 9 ∨ a = 11 ∨ a = 13 ∨ a = 15 then 1
  else if a = 5 ∨ a = 6 ∨ a = 7 ∨ a = 8 ∨ a = 10 ∨ a = 12 then 2 else -1
theorem kinds (a : Int) : a = 1 ∨ a = 2 ∨ a = 3 ∨ a = 4 ∨ a = 5 ∨ a = 6 ∨ a = 7 ∨ a = 8 ∨ a = 9 ∨ a = 10 ∨ a = 11 ∨ a = 12 ∨ a = 13 ∨ a = 14 ∨ a = 15 ∨ (a < 1 ∨ 15 < a) := by omega
theorem partsOf_ev (a : Int) : Ev (fun k => impl_partsOf.f k a) (arI a) := by
  refine ⟨2, fun k hk => ?_⟩
  obtain ⟨k, rfl⟩ : ∃ k', k = k' + 2 := ⟨k - 2, by omega⟩
  rcases kinds a with rfl | rfl | rfl | rfl | rfl | rfl | rfl | rfl | rfl | rfl | rfl | rfl | rfl | rfl | rfl | h
  all_goals first
    | rfl
    | (have e : ∀ n : Int, 1 ≤ n → n ≤ 15 → ¬ a = n := fun n _ _ => by omega
       have b : ∀ n : Int, 1 ≤ n → n ≤ 15 → (a == n) = false := fun n _ _ => by simp; omega
       simp only [impl_partsOf.f, impl_partsOf.j0, impl_partsOf.j1, arI, if_neg (e 1 (by omega) (by omega)), if_neg (e 2 (by omega) (by omega)), if_neg (e 3 (by omega) (by omega)), if_neg (e 4 (by omega) (by omega)), if_neg (e 5 (by omega) (by omega)), if_neg (e 6 (by omega) (by omega)), if_neg (e 7 (by omega) (by omega)), if_neg (e 8 (by omega) (by omega)), if_neg (e 9 (by omega) (by omega)), if_neg (e 10 (by omega) (by omega)), if_neg (e 11 (by omega) (by omega)), if_neg (e 12 (by omega) (by omega)), if_neg (e 13 (by omega) (by omega)), if_neg (e 14 (by omega) (by omega)), b 15 (by omega) (by omega), b 14 (by omega) (by omega), Bool.false_eq_true, if_false]
       rw [if_neg (by omega), if_neg (by omega), if_neg (by omega)])
theorem l4Arity_ev (a : Int) : Ev (fun k => spec_l4Arity.f k a) (arI a) := by
  refine ⟨2, fun k hk => ?_⟩
  obtain ⟨k, rfl⟩ : ∃ k', k = k' + 2 := ⟨k - 2, by omega⟩
  rcases kinds a with rfl | rfl | rfl | rfl | rfl | rfl | rfl | rfl | rfl | rfl | rfl | rfl | rfl | rfl | rfl | h
  all_goals first
    | rfl
    | (have e : ∀ n : Int, 1 ≤ n → n ≤ 15 → ¬ a = n := fun n _ _ => by omega
       have b : ∀ n : Int, 1 ≤ n → n ≤ 15 → (a == n) = false := fun n _ _ => by simp; omega
       have c1 : (decide (1 ≤ a) && decide (a ≤ 4)) = false := by simp; omega
       have c2 : (decide (5 ≤ a) && decide (a ≤ 8)) = false := by simp; omega
       simp only [spec_l4Arity.f, spec_l4Arity.j0, spec_l4Arity.j1, l1In_eq, Option.bind_some, c1, c2, arI, if_neg (e 9 (by omega) (by omega)), if_neg (e 10 (by omega) (by omega)), if_neg (e 11 (by omega) (by omega)), if_neg (e 12 (by omega) (by omega)), if_neg (e 13 (by omega) (by omega)), b 15 (by omega) (by omega), b 14 (by omega) (by omega), Bool.false_eq_true, if_false]
       rw [if_neg (by omega), if_neg (by omega), if_neg (by omega)])
/-- The zero value. -/
def emptyB (v : IV) : Bool := decide (v.f0 = 0) && decide (v.f1 = 0) && decide (v.f2.size = 0) && decide (v.f3.length = 0)
theorem valueEmpty_eq (v : IV) : impl_valueEmpty.f v.f0 v.f1 v.f2 v.f3 = some (emptyB v) := by
  have len0 : ((v.f3.length : Int) == 0) = decide (v.f3.length = 0) := by rw [Bool.eq_iff_iff]; simp
  unfold impl_valueEmpty.f emptyB
  simp only [size_nil, len0]
  by_cases c0 : v.f0 = 0 <;> by_cases c1 : v.f1 = 0 <;> by_cases c2 : v.f2.size = 0 <;> simp [c0, c1, c2]
theorem l1Same_zero (v : IV) : Ev (fun k => spec_l1Same.f k v.f0 v.f1 v.f2 v.f3 0 0 (⟨#[]⟩ : ByteArray) ([] : List IV)) (emptyB v) := by
  have e : (⟨#[]⟩ : ByteArray).toList = ([] : List UInt8) := by rw [toList_nil]; rfl
  have len0 : ((v.f3.length : Int) != ((([] : List IV).length : Nat) : Int)) = !decide (v.f3.length = 0) := by rw [Bool.eq_iff_iff]; simp
  have j : ∀ b : Bool, (b = false → v.f3.length = 0) → Ev (fun k => spec_l1Same.j0 k b v.f0 v.f1 v.f2 v.f3 0 0 (⟨#[]⟩ : ByteArray) ([] : List IV)) (!b) := by
    intro b hb
    refine Ev.succ ?_
    simp only [spec_l1Same.j0]
    refine Ev.ite (fun h => Ev.eq (Ev.some _) (by simp [h])) (fun h => ?_)
    have h' : b = false := by simpa using h
    refine Ev.succ ?_
    simp only [spec_l1Same.l0]
    refine Ev.neg (by have := hb h'; omega) (Ev.eq (Ev.some _) (by simp [h']))
  refine Ev.succ ?_
  simp only [spec_l1Same.f, e, size_nil, len0]
  refine Ev.ite (fun c0 => ?_) (fun c0 => Ev.eq (j true (fun h => by cases h)) (by simp [emptyB, c0]))
  refine Ev.ite (fun c1 => ?_) (fun c1 => Ev.eq (j true (fun h => by cases h)) (by simp [emptyB, c1]))
  refine Ev.ite (fun c2 => ?_) (fun c2 => Ev.eq (j true (fun h => by cases h)) (by simp [emptyB, c2]))
  exact Ev.eq (j _ (fun h => by simpa using h)) (by simp [emptyB, c0, c1, c2])
/-- Somewhere within, a kind; nowhere within, a kind above four. -/
inductive Has (a : Int) : IV → Prop
  | here {x : IV} (h : x.f0 = a) : Has a x
  | sub {x y : IV} (hy : y ∈ x.f3) (h : Has a y) : Has a x
inductive Four : IV → Prop
  | mk {x : IV} (h : x.f0 ≤ 4) (hs : ∀ y ∈ x.f3, Four y) : Four x
theorem valueHas_ev (a : Int) {v : IV} (sm : Sm v) : ∃ r, Ev (fun k => impl_valueHas.f k v.f0 v.f1 v.f2 v.f3 a) r ∧ (r = true ↔ Has a v) := by
  induction sm with
  | @mk x h2 h3 h4 ih =>
    by_cases c : x.f0 = a
    · refine ⟨true, Ev.succ ?_, by simp [Has.here c]⟩
      simp only [impl_valueHas.f, if_pos c]
      exact Ev.some _
    have loop : ∀ (d i : Nat), x.f3.length = i + d → ∃ r, Ev (fun k => impl_valueHas.l0 k a x.f3 (x.f3.length : Int) (i : Int)) r ∧ (r = true ↔ ∃ j, ∃ h : j < x.f3.length, i ≤ j ∧ Has a x.f3[j]) := by
      intro d
      induction d with
      | zero =>
        intro i hi
        refine ⟨false, Ev.succ ?_, ⟨(fun h => by cases h), (fun ⟨j, hj, hij, _⟩ => by omega)⟩⟩
        simp only [impl_valueHas.l0]
        exact Ev.neg (by omega) (Ev.some _)
      | succ d ihd =>
        intro i hi
        have hlt : i < x.f3.length := by omega
        obtain ⟨r, hr, hp⟩ := ih x.f3[i] (List.getElem_mem hlt)
        obtain ⟨q, hq, hp'⟩ := ihd (i + 1) (by omega)
        by_cases hn : r = true
        · refine ⟨true, Ev.succ ?_, ⟨fun _ => ⟨i, hlt, Nat.le_refl _, hp.1 hn⟩, fun _ => rfl⟩⟩
          simp only [impl_valueHas.l0, if_pos (show (i : Int) < (x.f3.length : Int) by omega), if_pos (show 0 ≤ (i : Int) by omega), rd_iv hlt]
          refine Ev.bind hr ?_
          simp only [if_pos hn]
          exact Ev.some _
        · refine ⟨q, Ev.succ ?_, ?_⟩
          · simp only [impl_valueHas.l0, if_pos (show (i : Int) < (x.f3.length : Int) by omega), if_pos (show 0 ≤ (i : Int) by omega), rd_iv hlt]
            refine Ev.bind hr ?_
            simp only [if_neg hn, wrap64_succ hlt (show x.f3.length ≤ 9223372036854775807 by omega)]
            exact hq
          · rw [hp']
            constructor
            · intro ⟨j, hj, hij, h⟩; exact ⟨j, hj, by omega, h⟩
            · intro ⟨j, hj, hij, h⟩
              refine ⟨j, hj, ?_, h⟩
              by_cases e : i = j
              · subst e; exact absurd (hp.2 h) hn
              · omega
    obtain ⟨r, hr, hp⟩ := loop x.f3.length 0 (by omega)
    refine ⟨r, Ev.succ ?_, ?_⟩
    · simp only [impl_valueHas.f, if_neg c]
      exact hr
    · rw [hp]
      constructor
      · intro ⟨j, hj, _, h⟩; exact Has.sub (List.getElem_mem hj) h
      · intro h
        cases h with
        | here h => exact absurd h c
        | sub hy h =>
          obtain ⟨j, hj, rfl⟩ := List.getElem_of_mem hy
          exact ⟨j, hj, Nat.zero_le _, h⟩
theorem l4Lit_ev {v : IV} (sm : Sm v) : ∃ r, Ev (fun k => spec_l4Lit.f k v.f0 v.f1 v.f2 v.f3) r ∧ (r = true ↔ Four v) := by
  induction sm with
  | @mk x h2 h3 h4 ih =>
    have loop : ∀ (d i : Nat), x.f3.length = i + d → ∃ r, Ev (fun k => spec_l4Lit.l0 k (i : Int) x.f0 x.f1 x.f2 x.f3) r ∧ (r = true ↔ x.f0 ≤ 4 ∧ ∀ j, ∀ h : j < x.f3.length, i ≤ j → Four x.f3[j]) := by
      intro d
      induction d with
      | zero =>
        intro i hi
        refine ⟨decide (x.f0 ≤ 4), Ev.succ ?_, ?_⟩
        · simp only [spec_l4Lit.l0]
          exact Ev.neg (by omega) (Ev.some _)
        · simp only [decide_eq_true_eq]
          exact ⟨fun h => ⟨h, fun j hj hij => by omega⟩, fun h => h.1⟩
      | succ d ihd =>
        intro i hi
        have hlt : i < x.f3.length := by omega
        obtain ⟨r, hr, hp⟩ := ih x.f3[i] (List.getElem_mem hlt)
        obtain ⟨q, hq, hp'⟩ := ihd (i + 1) (by omega)
        by_cases hn : r = true
        · refine ⟨q, Ev.succ ?_, ?_⟩
          · simp only [spec_l4Lit.l0, if_pos (show (i : Int) < (x.f3.length : Int) by omega), if_pos (show 0 ≤ (i : Int) by omega), rd_iv hlt]
            refine Ev.bind hr ?_
            simp only [if_pos hn, wrap64_succ hlt (show x.f3.length ≤ 9223372036854775807 by omega)]
            exact hq
          · rw [hp']
            constructor
            · intro ⟨h0, h⟩
              refine ⟨h0, fun j hj hij => ?_⟩
              by_cases e : i = j
              · subst e; exact hp.1 hn
              · exact h j hj (by omega)
            · intro ⟨h0, h⟩; exact ⟨h0, fun j hj hij => h j hj (by omega)⟩
        · refine ⟨false, Ev.succ ?_, ⟨fun h => (by cases h), fun h => absurd (hp.2 (h.2 i hlt (Nat.le_refl _))) hn⟩⟩
          simp only [spec_l4Lit.l0, if_pos (show (i : Int) < (x.f3.length : Int) by omega), if_pos (show 0 ≤ (i : Int) by omega), rd_iv hlt]
          refine Ev.bind hr ?_
          simp only [if_neg hn]
          exact Ev.some _
    obtain ⟨r, hr, hp⟩ := loop x.f3.length 0 (by omega)
    refine ⟨r, Ev.succ ?_, ?_⟩
    · simp only [spec_l4Lit.f]
      exact hr
    · rw [hp]
      constructor
      · intro ⟨h0, h⟩
        refine .mk h0 (fun y hy => ?_)
        obtain ⟨j, hj, rfl⟩ := List.getElem_of_mem hy
        exact h j hj (Nat.zero_le _)
      · intro h
        cases h with
        | mk h0 hs => exact ⟨h0, fun j hj _ => hs _ (List.getElem_mem hj)⟩
theorem four_has : ∀ (n : Nat) (v : IV), vok n v = true → (Four v ↔ ¬ Has 5 v ∧ ¬ Has 6 v) := by
  intro n
  induction n with
  | zero => intro v h; simp [vok] at h
  | succ n ih =>
    intro v h
    have sub : ∀ y ∈ v.f3, Four y ↔ ¬ Has 5 y ∧ ¬ Has 6 y := by
      intro y hy
      have hne : ¬ v.f3.length = 0 := fun e => by rw [List.length_eq_zero_iff] at e; rw [e] at hy; cases hy
      have h' := h
      simp only [vok, decide_eq_false hne, Bool.and_false] at h'
      have : v.f3.all (vok n) = true := by
        by_cases k4 : v.f0 = 4
        · simp only [k4, if_true, if_neg (show ¬ ((4 : Int) = 0) by decide), if_neg (show ¬ ((4 : Int) = 1) by decide), if_neg (show ¬ ((4 : Int) = 2) by decide), if_neg (show ¬ ((4 : Int) = 3) by decide), Bool.and_eq_true] at h'
          exact h'.2
        · rw [if_neg k4] at h'
          simp at h'
      exact ih y (List.all_eq_true.1 this y hy)
    have k6 : v.f0 ≤ 6 := by
      by_cases c : v.f0 ≤ 6
      · exact c
      · rw [vok, if_neg (by omega), if_neg (by omega), if_neg (by omega), if_neg (by omega), if_neg (by omega), if_neg (by omega)] at h
        cases h
    constructor
    · intro hf
      cases hf with
      | mk h0 hs =>
        refine ⟨fun hh => ?_, fun hh => ?_⟩
        · cases hh with
          | here e => omega
          | sub hy e => exact ((sub _ hy).1 (hs _ hy)).1 e
        · cases hh with
          | here e => omega
          | sub hy e => exact ((sub _ hy).1 (hs _ hy)).2 e
    · intro ⟨h5, h6⟩
      refine .mk ?_ (fun y hy => (sub y hy).2 ⟨fun e => h5 (.sub hy e), fun e => h6 (.sub hy e)⟩)
      have e5 : ¬ v.f0 = 5 := fun e => h5 (.here e)
      have e6 : ¬ v.f0 = 6 := fun e => h6 (.here e)
      omega
open Classical in
/-- A value that may stand in an expression. -/
noncomputable def litB (v : IV) : Bool := vok 3 v && decide (Four v)
noncomputable def eok : Nat → IE → Bool
  | 0, _ => false
  | n + 1, e => (if e.f0 = 1 then litB e.f1 else emptyB e.f1) && (if e.f0 = 2 ∨ e.f0 = 3 ∨ e.f0 = 4 then nameB e.f2 else decide (e.f2.size = 0))
    && (if e.f0 = 3 then nameB e.f3 else decide (e.f3.size = 0)) && decide ((e.f4.length : Int) = arI e.f0) && e.f4.all (eok n)
theorem size_nilB {s : ByteArray} : (s.toList == ([] : List UInt8)) = decide (s.size = 0) := by rw [Bool.eq_iff_iff]; simp [size_nil]
theorem size_nilN {s : ByteArray} : (s.toList != ([] : List UInt8)) = !decide (s.size = 0) := by rw [bne, size_nilB]
theorem all_dropE (l : List IE) (c : IE → Bool) : l.all c = allB (fun i => c (rd_T46 l i)) l.length 0 := by
  rw [Bool.eq_iff_iff, allB_iff, List.all_eq_true]
  constructor
  · intro h j _ hj
    rw [rd_ie (by omega)]
    exact h _ (List.getElem_mem _)
  · intro h x hx
    obtain ⟨j, hj, rfl⟩ := List.getElem_of_mem hx
    have := h j (by omega) (by omega)
    rwa [rd_ie hj] at this
theorem nameB_nil {s : ByteArray} (h : s.size = 0) : nameB s = false := by unfold nameB; simp [h]

theorem l4Ok_body (n : Nat) (e : IE) (sm : SmE e) (hn : n ≤ 1000) (r : Bool) (hr : 1 ≤ n → Ev (fun k => spec_l4Ok.l0 k (n : Int) 0 e.f0 e.f1.f0 e.f1.f1 e.f1.f2 e.f1.f3 e.f2 e.f3 e.f4) r) :
    Ev (fun k => spec_l4Ok.f k e.f0 e.f1.f0 e.f1.f1 e.f1.f2 e.f1.f3 e.f2 e.f3 e.f4 (n : Int)) (decide (1 ≤ n) && ((if e.f0 = 1 then litB e.f1 else emptyB e.f1) && (if e.f0 = 2 ∨ e.f0 = 3 ∨ e.f0 = 4 then nameB e.f2 else decide (e.f2.size = 0))
    && (if e.f0 = 3 then nameB e.f3 else decide (e.f3.size = 0)) && decide ((e.f4.length : Int) = arI e.f0) && r)) := by
  obtain ⟨h1, h2, h3, h4, h5⟩ := sm.all
  have m2 : e.f2.size ≤ maxLen := by unfold maxLen; omega
  have m3 : e.f3.size ≤ maxLen := by unfold maxLen; omega
  have j4 : ∀ b : Bool, (b = false → 1 ≤ n) → Ev (fun k => spec_l4Ok.j4 k (n : Int) b e.f0 e.f1.f0 e.f1.f1 e.f1.f2 e.f1.f3 e.f2 e.f3 e.f4) (!b && r) := by
    intro b hb
    refine Ev.succ ?_
    simp only [spec_l4Ok.j4]
    refine Ev.ite (fun h => Ev.eq (Ev.some _) (by simp [h])) (fun h => Ev.eq (hr (hb (by simpa using h))) (by simp [h]))
  have j4t := j4 true (fun h => by cases h)
  have j3 : ∀ a b c : Bool, Ev (fun k => spec_l4Ok.j3 k (n : Int) a b c e.f0 e.f1.f0 e.f1.f1 e.f1.f2 e.f1.f3 e.f2 e.f3 e.f4) (decide (1 ≤ n) && (a && b && c && decide ((e.f4.length : Int) = arI e.f0) && r)) := by
    intro a b c
    refine Ev.succ ?_
    simp only [spec_l4Ok.j3]
    refine Ev.ite (fun h => Ev.eq j4t (by have : ¬ 1 ≤ n := by omega
                                          simp [this])) (fun h => ?_)
    have h' : 1 ≤ n := by omega
    refine Ev.ite (fun ha => ?_) (fun ha => Ev.eq j4t (by simp [ha]))
    refine Ev.ite (fun hb => ?_) (fun hb => Ev.eq j4t (by simp [hb]))
    refine Ev.ite (fun hc => ?_) (fun hc => Ev.eq j4t (by simp [hc]))
    refine Ev.bind (l4Arity_ev e.f0) (Ev.eq (j4 _ (fun _ => h')) ?_)
    have : (!((e.f4.length : Int) != arI e.f0)) = decide ((e.f4.length : Int) = arI e.f0) := by rw [Bool.eq_iff_iff]; simp
    rw [this]
    simp [h', ha, hb, hc]
  have j2 : ∀ a b : Bool, Ev (fun k => spec_l4Ok.j2 k (n : Int) a b e.f0 e.f1.f0 e.f1.f1 e.f1.f2 e.f1.f3 e.f2 e.f3 e.f4) (decide (1 ≤ n) && (a && b && (if e.f0 = 3 then nameB e.f3 else decide (e.f3.size = 0)) && decide ((e.f4.length : Int) = arI e.f0) && r)) := by
    intro a b
    refine Ev.succ ?_
    simp only [spec_l4Ok.j2]
    refine Ev.ite (fun h => ?_) (fun h => Ev.eq (j3 a b _) (by rw [if_neg h, size_nilB]))
    rw [if_pos h]
    refine Ev.bind (l2Name_ev _ m3) (Ev.ite (fun c => Ev.eq (j3 a b true) (by rw [c])) (fun c => Ev.eq (j3 a b false) (by rw [Bool.not_eq_true] at c; rw [c])))
  have j1 : ∀ a b : Bool, (b = true ↔ e.f0 = 2 ∨ e.f0 = 3 ∨ e.f0 = 4) → Ev (fun k => spec_l4Ok.j1 k (n : Int) a b e.f0 e.f1.f0 e.f1.f1 e.f1.f2 e.f1.f3 e.f2 e.f3 e.f4) (decide (1 ≤ n) && (a && (if e.f0 = 2 ∨ e.f0 = 3 ∨ e.f0 = 4 then nameB e.f2 else decide (e.f2.size = 0)) && (if e.f0 = 3 then nameB e.f3 else decide (e.f3.size = 0)) && decide ((e.f4.length : Int) = arI e.f0) && r)) := by
    intro a b hb
    refine Ev.succ ?_
    simp only [spec_l4Ok.j1]
    refine Ev.ite (fun h => ?_) (fun h => Ev.eq (j2 a _) (by rw [if_neg (fun c => h (hb.2 c)), size_nilB]))
    rw [if_pos (hb.1 h)]
    refine Ev.bind (l2Name_ev _ m2) (Ev.ite (fun c => Ev.eq (j2 a true) (by rw [c])) (fun c => Ev.eq (j2 a false) (by rw [Bool.not_eq_true] at c; rw [c])))
  have j0 : ∀ a : Bool, Ev (fun k => spec_l4Ok.j0 k (n : Int) a e.f0 e.f1.f0 e.f1.f1 e.f1.f2 e.f1.f3 e.f2 e.f3 e.f4) (decide (1 ≤ n) && (a && (if e.f0 = 2 ∨ e.f0 = 3 ∨ e.f0 = 4 then nameB e.f2 else decide (e.f2.size = 0)) && (if e.f0 = 3 then nameB e.f3 else decide (e.f3.size = 0)) && decide ((e.f4.length : Int) = arI e.f0) && r)) := by
    intro a
    refine Ev.succ ?_
    simp only [spec_l4Ok.j0]
    refine Ev.ite (fun h => j1 a true (by simp [h])) (fun h => Ev.ite (fun h' => j1 a true (by simp [h'])) (fun h' => j1 a _ (by simp [h, h'])))
  refine Ev.succ ?_
  simp only [spec_l4Ok.f]
  refine Ev.ite (fun h => ?_) (fun h => ?_)
  · rw [if_pos h]
    refine Ev.bind (specValueOk_ev _ h1) (Ev.ite (fun c => ?_) (fun c => Ev.eq (j0 false) (by rw [Bool.not_eq_true] at c; simp [litB, c])))
    obtain ⟨q, hq, hp⟩ := l4Lit_ev h1
    refine Ev.bind hq (Ev.ite (fun c' => Ev.eq (j0 true) (by simp [litB, c, hp.1 c'])) (fun c' => Ev.eq (j0 false) ?_))
    have : ¬ Four e.f1 := fun f => c' (hp.2 f)
    simp [litB, this]
  · rw [if_neg h]
    exact Ev.bind (l1Same_zero _) (j0 _)
theorem l4Ok_ev : ∀ (n : Nat) (e : IE), SmE e → n ≤ 1000 → Ev (fun k => spec_l4Ok.f k e.f0 e.f1.f0 e.f1.f1 e.f1.f2 e.f1.f3 e.f2 e.f3 e.f4 (n : Int)) (eok n e) := by
  intro n
  induction n with
  | zero =>
    intro e sm hn
    exact Ev.eq (l4Ok_body 0 e sm hn true (fun h => by omega)) (by simp [eok])
  | succ n ih =>
    intro e sm hn
    obtain ⟨h1, h2, h3, h4, h5⟩ := sm.all
    refine Ev.eq (l4Ok_body (n + 1) e sm hn (e.f4.all (eok n)) (fun _ => ?_)) (by simp [eok])
    rw [all_dropE]
    have := loopB e.f4.length (fun k i => spec_l4Ok.l0 k ((n + 1 : Nat) : Int) i e.f0 e.f1.f0 e.f1.f1 e.f1.f2 e.f1.f3 e.f2 e.f3 e.f4) (fun i => eok n (rd_T46 e.f4 i)) true ?_ ?_ ?_ e.f4.length 0 (by omega)
    · exact Ev.eq this (by simp)
    · refine Ev.succ ?_
      simp only [spec_l4Ok.l0]
      exact Ev.neg (by omega) (Ev.some _)
    · intro i hi hc
      refine Ev.succ ?_
      simp only [spec_l4Ok.l0, if_pos (show ((i : Int) < (e.f4.length : Int)) by omega), if_pos (show 0 ≤ (i : Int) by omega)]
      rw [show wrap64 (((n + 1 : Nat) : Int) - 1) = (n : Int) by rw [wrap64_id (by omega) (by omega)]; omega]
      refine Ev.bind (ih _ (by rw [rd_ie hi]; exact h5 _ (List.getElem_mem hi)) (by omega)) ?_
      simp only [hc, Bool.false_eq_true, if_false]
      exact Ev.some _
    · intro i hi hc r hr
      refine Ev.succ ?_
      simp only [spec_l4Ok.l0, if_pos (show ((i : Int) < (e.f4.length : Int)) by omega), if_pos (show 0 ≤ (i : Int) by omega)]
      rw [show wrap64 (((n + 1 : Nat) : Int) - 1) = (n : Int) by rw [wrap64_id (by omega) (by omega)]; omega]
      refine Ev.bind (ih _ (by rw [rd_ie hi]; exact h5 _ (List.getElem_mem hi)) (by omega)) ?_
      simp only [hc, if_true, wrap64_succ hi (by omega)]
      exact hr
theorem specExprOk_ev (e : IE) (sm : SmE e) : Ev (fun k => spec_ExprOk.f k e.f0 e.f1.f0 e.f1.f1 e.f1.f2 e.f1.f3 e.f2 e.f3 e.f4) (eok 4 e) := by
  unfold spec_ExprOk.f
  exact Ev.bind (l4Ok_ev 4 e sm (by omega)) (Ev.some _)

theorem exprFits_body (n : Nat) (e : IE) (sm : SmE e) (hn : n ≤ 1000) (r : Bool) (h0 : e.f4.length = 0 → r = true) (hr : 1 ≤ n → Ev (fun k => impl_exprFits.l0 k (n : Int) e.f4 (e.f4.length : Int) 0) r) :
    Ev (fun k => impl_exprFits.f k e.f0 e.f1.f0 e.f1.f1 e.f1.f2 e.f1.f3 e.f2 e.f3 e.f4 (n : Int)) (decide (1 ≤ n) && ((if e.f0 = 1 then litB e.f1 else emptyB e.f1) && (if e.f0 = 2 ∨ e.f0 = 3 ∨ e.f0 = 4 then nameB e.f2 else decide (e.f2.size = 0))
    && (if e.f0 = 3 then nameB e.f3 else decide (e.f3.size = 0)) && decide ((e.f4.length : Int) = arI e.f0) && r)) := by
  obtain ⟨h1, h2, h3, h4, h5⟩ := sm.all
  have m2 : e.f2.size ≤ maxLen := by unfold maxLen; omega
  have m3 : e.f3.size ≤ maxLen := by unfold maxLen; omega
  have j2 : ∀ b : Bool, (b = false → 1 ≤ n ∧ (e.f4.length : Int) = arI e.f0) → Ev (fun k => impl_exprFits.j2 k (n : Int) b e.f0 e.f1.f0 e.f1.f1 e.f1.f2 e.f1.f3 e.f2 e.f3 e.f4) (!b && ((if e.f0 = 1 then litB e.f1 else emptyB e.f1) && r)) := by
    intro b hb
    refine Ev.succ ?_
    simp only [impl_exprFits.j2, valueEmpty_eq, Option.bind_some]
    refine Ev.ite (fun h => Ev.eq (Ev.some _) (by simp [h])) (fun h => ?_)
    have hf : b = false := by simpa using h
    obtain ⟨hn1, hl⟩ := hb hf
    subst hf
    refine Ev.ite (fun c => ?_) (fun c => ?_)
    · have hr1 : r = true := h0 (by rw [c, show arI 1 = 0 from rfl] at hl; omega)
      subst hr1
      rw [if_pos c]
      refine Ev.bind (implValueOk_ev _ h1) (Ev.ite (fun v => ?_) (fun v => Ev.eq (Ev.some _) (by simp [litB, v])))
      obtain ⟨q5, hq5, hp5⟩ := valueHas_ev 5 h1
      obtain ⟨q6, hq6, hp6⟩ := valueHas_ev 6 h1
      have ff := four_has 3 _ v
      refine Ev.bind hq5 (Ev.ite (fun c5 => Ev.eq (Ev.some _) ?_) (fun c5 => Ev.bind hq6 (Ev.eq (Ev.some _) ?_)))
      · have : ¬ Four e.f1 := fun f => (ff.1 f).1 (hp5.1 c5)
        simp [litB, this]
      · have n5 : ¬ Has 5 e.f1 := fun h => c5 (hp5.2 h)
        by_cases c6 : q6 = true
        · have : ¬ Four e.f1 := fun f => (ff.1 f).2 (hp6.1 c6)
          simp [litB, this, c6]
        · have n6 : ¬ Has 6 e.f1 := fun h => c6 (hp6.2 h)
          simp [litB, v, ff.2 ⟨n5, n6⟩, c6]
    · rw [if_neg c]
      exact Ev.ite (fun v => Ev.eq (hr hn1) (by simp [v])) (fun v => Ev.eq (Ev.some _) (by simp [v]))
  have j2t := j2 true (fun h => by cases h)
  have j1 : ∀ a b : Bool, (a = true ↔ e.f0 = 2 ∨ e.f0 = 3 ∨ e.f0 = 4) → (b = true ↔ e.f0 = 3) → 1 ≤ n → (e.f4.length : Int) = arI e.f0 → Ev (fun k => impl_exprFits.j1 k (n : Int) a b e.f0 e.f1.f0 e.f1.f1 e.f1.f2 e.f1.f3 e.f2 e.f3 e.f4) ((if e.f0 = 2 ∨ e.f0 = 3 ∨ e.f0 = 4 then nameB e.f2 else decide (e.f2.size = 0)) && ((if e.f0 = 3 then nameB e.f3 else decide (e.f3.size = 0)) && ((if e.f0 = 1 then litB e.f1 else emptyB e.f1) && r))) := by
    intro a b ha hb hn1 hl
    have key : ∀ X : Bool, X = true → Ev (fun k => (impl_NameOk.f k e.f3).bind fun t211 => (if (b != t211) = true then (impl_exprFits.j2 k (n : Int) true e.f0 e.f1.f0 e.f1.f1 e.f1.f2 e.f1.f3 e.f2 e.f3 e.f4) else (if b = true then (impl_exprFits.j2 k (n : Int) false e.f0 e.f1.f0 e.f1.f1 e.f1.f2 e.f1.f3 e.f2 e.f3 e.f4) else (impl_exprFits.j2 k (n : Int) (e.f3.toList != ([] : List UInt8)) e.f0 e.f1.f0 e.f1.f1 e.f1.f2 e.f1.f3 e.f2 e.f3 e.f4)))) (X && ((if e.f0 = 3 then nameB e.f3 else decide (e.f3.size = 0)) && ((if e.f0 = 1 then litB e.f1 else emptyB e.f1) && r))) := by
      intro X hX
      refine Ev.bind (nameOk_ev _ m3) ?_
      subst hX
      by_cases c : b = true
      · rw [if_pos (hb.1 c)]
        subst c
        refine Ev.ite (fun h => Ev.eq j2t ?_) (fun h => ?_)
        · have : nameB e.f3 = false := by simpa using h
          simp [this]
        · have : nameB e.f3 = true := by simpa using h
          simp only [if_true]
          exact Ev.eq (j2 false (fun _ => ⟨hn1, hl⟩)) (by simp [this])
      · rw [if_neg (fun h => c (hb.2 h))]
        have c' : b = false := by simpa using c
        subst c'
        refine Ev.ite (fun h => Ev.eq j2t ?_) (fun h => ?_)
        · have : nameB e.f3 = true := by simpa using h
          have : ¬ e.f3.size = 0 := fun e0 => by rw [nameB_nil e0] at this; cases this
          simp [this]
        · simp only [Bool.false_eq_true, if_false]
          exact Ev.eq (j2 _ (fun _ => ⟨hn1, hl⟩)) (by rw [size_nilN]; simp)
    refine Ev.succ ?_
    simp only [impl_exprFits.j1, size_nil]
    refine Ev.bind (nameOk_ev _ m2) ?_
    by_cases c : a = true
    · rw [if_pos (ha.1 c)]
      subst c
      refine Ev.ite (fun h => Ev.eq j2t ?_) (fun h => ?_)
      · have : nameB e.f2 = false := by simpa using h
        simp [this]
      · have : nameB e.f2 = true := by simpa using h
        simp only [if_true]
        have k' := key _ this
        simpa only [size_nil] using k'
    · rw [if_neg (fun h => c (ha.2 h))]
      have c' : a = false := by simpa using c
      subst c'
      refine Ev.ite (fun h => Ev.eq j2t ?_) (fun h => ?_)
      · have : nameB e.f2 = true := by simpa using h
        have : ¬ e.f2.size = 0 := fun e0 => by rw [nameB_nil e0] at this; cases this
        simp [this]
      · simp only [Bool.false_eq_true, if_false]
        refine Ev.ite (fun z => ?_) (fun z => Ev.eq j2t (by simp [z]))
        have k' := key (decide (e.f2.size = 0)) (by simp [z])
        simpa only [size_nil] using k'
  have j0 : ∀ b : Bool, (b = false → 1 ≤ n) → (1 ≤ n → b = !decide ((e.f4.length : Int) = arI e.f0)) → Ev (fun k => impl_exprFits.j0 k (n : Int) b e.f0 e.f1.f0 e.f1.f1 e.f1.f2 e.f1.f3 e.f2 e.f3 e.f4) (decide (1 ≤ n) && ((if e.f0 = 1 then litB e.f1 else emptyB e.f1) && (if e.f0 = 2 ∨ e.f0 = 3 ∨ e.f0 = 4 then nameB e.f2 else decide (e.f2.size = 0))
    && (if e.f0 = 3 then nameB e.f3 else decide (e.f3.size = 0)) && decide ((e.f4.length : Int) = arI e.f0) && r)) := by
    intro b hb hb'
    refine Ev.succ ?_
    simp only [impl_exprFits.j0]
    refine Ev.ite (fun h => Ev.eq (Ev.some _) ?_) (fun h => ?_)
    · by_cases hn1 : 1 ≤ n
      · have := hb' hn1
        rw [h] at this
        have : decide ((e.f4.length : Int) = arI e.f0) = false := by simpa using this.symm
        simp [this]
      · simp [hn1]
    have hf : b = false := by simpa using h
    have hn1 := hb hf
    have hl : (e.f4.length : Int) = arI e.f0 := by have := hb' hn1; rw [hf] at this; simpa using this.symm
    have fin : ∀ {f : Nat → Option Bool}, Ev f ((if e.f0 = 2 ∨ e.f0 = 3 ∨ e.f0 = 4 then nameB e.f2 else decide (e.f2.size = 0)) && ((if e.f0 = 3 then nameB e.f3 else decide (e.f3.size = 0)) && ((if e.f0 = 1 then litB e.f1 else emptyB e.f1) && r))) → Ev f (decide (1 ≤ n) && ((if e.f0 = 1 then litB e.f1 else emptyB e.f1) && (if e.f0 = 2 ∨ e.f0 = 3 ∨ e.f0 = 4 then nameB e.f2 else decide (e.f2.size = 0))
      && (if e.f0 = 3 then nameB e.f3 else decide (e.f3.size = 0)) && decide ((e.f4.length : Int) = arI e.f0) && r)) := by
      intro f hf
      refine Ev.eq hf ?_
      rw [decide_eq_true hn1, decide_eq_true hl]
      generalize (if e.f0 = 2 ∨ e.f0 = 3 ∨ e.f0 = 4 then nameB e.f2 else decide (e.f2.size = 0)) = A
      generalize (if e.f0 = 3 then nameB e.f3 else decide (e.f3.size = 0)) = B
      generalize (if e.f0 = 1 then litB e.f1 else emptyB e.f1) = C
      cases A <;> cases B <;> cases C <;> rfl
    refine Ev.ite (fun c => fin (j1 _ _ (by simp [c]) (by simp) hn1 hl)) (fun c => Ev.ite (fun c' => fin (j1 _ _ (by simp [c']) (by simp) hn1 hl)) (fun c' => fin (j1 _ _ (by simp [c, c']) (by simp) hn1 hl)))
  refine Ev.succ ?_
  simp only [impl_exprFits.f]
  refine Ev.ite (fun h => j0 true (fun h => by cases h) (fun _ => by omega)) (fun h => ?_)
  refine Ev.bind (partsOf_ev e.f0) (j0 _ (fun _ => by omega) (fun _ => ?_))
  rw [Bool.eq_iff_iff]; simp
theorem exprFits_ev : ∀ (n : Nat) (e : IE), SmE e → n ≤ 1000 → Ev (fun k => impl_exprFits.f k e.f0 e.f1.f0 e.f1.f1 e.f1.f2 e.f1.f3 e.f2 e.f3 e.f4 (n : Int)) (eok n e) := by
  intro n
  induction n with
  | zero =>
    intro e sm hn
    exact Ev.eq (exprFits_body 0 e sm hn true (fun _ => rfl) (fun h => by omega)) (by simp [eok])
  | succ n ih =>
    intro e sm hn
    obtain ⟨h1, h2, h3, h4, h5⟩ := sm.all
    refine Ev.eq (exprFits_body (n + 1) e sm hn (e.f4.all (eok n)) (fun h => ?_) (fun _ => ?_)) (by simp [eok])
    · rw [List.length_eq_zero_iff] at h
      rw [h]; rfl
    rw [all_dropE]
    have := loopB e.f4.length (fun k i => impl_exprFits.l0 k ((n + 1 : Nat) : Int) e.f4 (e.f4.length : Int) i) (fun i => eok n (rd_T46 e.f4 i)) true ?_ ?_ ?_ e.f4.length 0 (by omega)
    · exact Ev.eq this (by simp)
    · refine Ev.succ ?_
      simp only [impl_exprFits.l0]
      exact Ev.neg (by omega) (Ev.some _)
    · intro i hi hc
      refine Ev.succ ?_
      simp only [impl_exprFits.l0, if_pos (show ((i : Int) < (e.f4.length : Int)) by omega), if_pos (show 0 ≤ (i : Int) by omega)]
      rw [show wrap64 (((n + 1 : Nat) : Int) - 1) = (n : Int) by rw [wrap64_id (by omega) (by omega)]; omega]
      refine Ev.bind (ih _ (by rw [rd_ie hi]; exact h5 _ (List.getElem_mem hi)) (by omega)) ?_
      simp only [hc, Bool.false_eq_true, if_false]
      exact Ev.some _
    · intro i hi hc r hr
      refine Ev.succ ?_
      simp only [impl_exprFits.l0, if_pos (show ((i : Int) < (e.f4.length : Int)) by omega), if_pos (show 0 ≤ (i : Int) by omega)]
      rw [show wrap64 (((n + 1 : Nat) : Int) - 1) = (n : Int) by rw [wrap64_id (by omega) (by omega)]; omega]
      refine Ev.bind (ih _ (by rw [rd_ie hi]; exact h5 _ (List.getElem_mem hi)) (by omega)) ?_
      simp only [hc, if_true, wrap64_succ hi (by omega)]
      exact hr
theorem implExprOk_ev (e : IE) (sm : SmE e) : Ev (fun k => impl_ExprOk.f k e.f0 e.f1.f0 e.f1.f1 e.f1.f2 e.f1.f3 e.f2 e.f3 e.f4) (eok 4 e) := by
  unfold impl_ExprOk.f
  exact Ev.bind (exprFits_ev 4 e sm (by omega)) (Ev.some _)
end Go.Proofs.Ytnecmjmimdojcaa.Pur
