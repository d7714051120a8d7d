/- ValueOk, in the program and in the reference. -/
import Derived.Test.YtcchmhmbjhgfdaaPVBase
import Derived.Test.YtcchmhmbjhgfdaaPIn
import Derived.Test.YtcchmhmbjhgfdaaGx13
import Derived.Test.YtcchmhmbjhgfdaaGx12
import Derived.Test.YtcchmhmbjhgfdaaGx18
import Derived.Test.YtcchmhmbjhgfdaaGx17
namespace Go.Proofs.Ytcchmhmbjhgfdaa.Pur
open Go.RowKit Go.Proofs.Ytcchmhmbjhgfdaa.G Go.Proofs.YtcchmhmbjhgfdaaW.PrintWords Go.Proofs.YtcchmhmbjhgfdaaW.PrintLast
set_option linter.unusedVariables false
set_option linter.unusedSimpArgs false

def charB (c : Int) : Bool := decide (32 ≤ c) && decide (c ≤ 126) && decide (c ≠ 39)
def textB (s : ByteArray) : Bool := allB (fun i => charB (bt s (i : Int))) s.size 0 && decide (s.size ≤ 16)
/-- Ok, at most so many within each other. -/
def vok : Nat → IV → Bool
  | 0, _ => false
  | n + 1, v =>
    if v.f0 = 0 then decide (v.f1 = 0) && decide (v.f2.size = 0) && decide (v.f3.length = 0)
    else if v.f0 = 1 then decide (0 ≤ v.f1) && decide (v.f1 ≤ 1) && decide (v.f2.size = 0) && decide (v.f3.length = 0)
    else if v.f0 = 2 then decide (-1000000000 ≤ v.f1) && decide (v.f1 ≤ 1000000000) && decide (v.f2.size = 0) && decide (v.f3.length = 0)
    else if v.f0 = 3 then decide (v.f1 = 0) && textB v.f2 && decide (v.f3.length = 0)
    else if v.f0 = 4 then decide (v.f1 = 0) && decide (v.f2.size = 0) && decide (v.f3.length ≤ 6) && v.f3.all (vok n)
    else if v.f0 = 5 ∨ v.f0 = 6 then decide (0 ≤ v.f1) && decide (v.f1 ≤ 1000000000) && decide (v.f2.size = 0) && decide (v.f3.length = 0)
    else false
theorem text_loop (s : ByteArray) (hs : s.size ≤ maxLen) (e : Bool) (L : Nat → Int → Option Bool)
    (hend : Ev (fun k => L k (s.size : Int)) e)
    (hL : ∀ k (i : Nat), i < s.size → L (k + 1) i = if bt s (i : Int) < 32 then some false else if bt s (i : Int) > 126 then some false else if bt s (i : Int) = 39 then some false else L k ((i + 1 : Nat) : Int)) :
    Ev (fun k => L k 0) (allB (fun i => charB (bt s (i : Int))) s.size 0 && e) := by
  refine loopB s.size L _ e hend ?_ ?_ s.size 0 (by omega)
  · intro i hi hc
    refine Ev.succ ?_
    simp only [hL _ i hi]
    refine Ev.ite (fun _ => Ev.some _) (fun h1 => Ev.ite (fun _ => Ev.some _) (fun h2 => Ev.ite (fun _ => Ev.some _) (fun h3 => ?_)))
    exfalso
    unfold charB at hc
    simp at hc
    omega
  · intro i hi hc r hr
    refine Ev.succ ?_
    simp only [hL _ i hi]
    unfold charB at hc
    simp at hc
    exact Ev.neg (by omega) (Ev.neg (by omega) (Ev.neg (by omega) hr))
theorem l1Text_ev (s : ByteArray) (hs : s.size ≤ maxLen) : Ev (fun k => spec_l1Text.f k s) (textB s) := by
  have hs' := hs
  unfold maxLen at hs'
  refine text_loop s hs _ (fun k i => spec_l1Text.l0 k s i) ?_ (fun k i h => ?_)
  · refine Ev.succ ?_
    simp only [spec_l1Text.l0]
    refine Ev.neg (by omega) ?_
    exact Ev.eq (Ev.some _) (by rw [Bool.eq_iff_iff]; simp; omega)
  · simp only [spec_l1Text.l0]
    rw [if_pos (by omega), if_pos (by omega), wrap64_succ h (by omega)]
theorem textFits_ev (s : ByteArray) (hs : s.size ≤ maxLen) : Ev (fun k => impl_textFits.f k s) (textB s) := by
  have hs' := hs
  unfold maxLen at hs'
  unfold impl_textFits.f textB
  refine Ev.ite (fun h => Ev.eq (Ev.some _) (by have : ¬ s.size ≤ 16 := by omega
                                                simp [this])) (fun h => ?_)
  have : decide (s.size ≤ 16) = true := decide_eq_true (by omega)
  rw [this]
  refine text_loop s hs _ (fun k i => impl_textFits.l0 k s i) ?_ (fun k i h => ?_)
  · refine Ev.succ ?_
    simp only [impl_textFits.l0]
    refine Ev.neg (by omega) ?_
    exact Ev.some _
  · simp only [impl_textFits.l0]
    rw [if_pos (by omega), if_pos (by omega), wrap64_succ h (by omega)]
theorem all_drop (l : List IV) (c : IV → Bool) : l.all c = allB (fun i => c (rd_T49 l i)) l.length 0 := by
  rw [Bool.eq_iff_iff, allB_iff, List.all_eq_true]
  constructor
  · intro h j _ hj
    rw [rd_iv (by omega)]
    exact h _ (List.getElem_mem _)
  · intro h x hx
    obtain ⟨j, hj, rfl⟩ := List.getElem_of_mem hx
    have := h j (by omega) (by omega)
    rwa [rd_iv hj] at this
theorem size_nil {s : ByteArray} : (s.toList = ([] : List UInt8)) = (s.size = 0) := propext (toList_nil s)

theorem valueFits_ev : ∀ (n : Nat) (v : IV), Sm v → n ≤ 1000 → Ev (fun k => impl_valueFits.f k v.f0 v.f1 v.f2 v.f3 (n : Int)) (vok n v) := by
  intro n
  induction n with
  | zero =>
    intro v _ _
    refine Ev.succ ?_
    simp only [impl_valueFits.f]
    exact Ev.some _
  | succ n ih =>
    intro v sm hn
    obtain ⟨h2, h3, h4⟩ := sm.all
    have loop : Ev (fun k => impl_valueFits.l0 k ((n + 1 : Nat) : Int) v.f3 (v.f3.length : Int) 0) (v.f3.all (vok n)) := by
      rw [all_drop]
      have := loopB v.f3.length (fun k i => impl_valueFits.l0 k ((n + 1 : Nat) : Int) v.f3 (v.f3.length : Int) i) (fun i => vok n (rd_T49 v.f3 i)) true ?_ ?_ ?_ v.f3.length 0 (by omega)
      · exact Ev.eq this (by simp)
      · refine Ev.succ ?_
        simp only [impl_valueFits.l0]
        refine Ev.neg (by omega) ?_
        exact Ev.some _
      · intro i hi hc
        refine Ev.succ ?_
        simp only [impl_valueFits.l0, if_pos (show ((i : Int) < (v.f3.length : Int)) by omega), if_pos (show 0 ≤ (i : Int) by omega)]
        rw [show wrap64 (((n + 1 : Nat) : Int) - 1) = (n : Int) by rw [wrap64_id (by omega) (by omega)]; omega]
        refine Ev.bind (ih _ (by rw [rd_iv hi]; exact h4 _ (List.getElem_mem hi)) (by omega)) ?_
        simp only [hc, Bool.false_eq_true, if_false]
        exact Ev.some _
      · intro i hi hc r hr
        refine Ev.succ ?_
        simp only [impl_valueFits.l0, if_pos (show ((i : Int) < (v.f3.length : Int)) by omega), if_pos (show 0 ≤ (i : Int) by omega)]
        rw [show wrap64 (((n + 1 : Nat) : Int) - 1) = (n : Int) by rw [wrap64_id (by omega) (by omega)]; omega]
        refine Ev.bind (ih _ (by rw [rd_iv hi]; exact h4 _ (List.getElem_mem hi)) (by omega)) ?_
        simp only [hc, if_true, wrap64_succ hi (by omega)]
        exact hr
    have hm : v.f2.size ≤ maxLen := by unfold maxLen; omega
    have len0 : ((v.f3.length : Int) == 0) = decide (v.f3.length = 0) := by rw [Bool.eq_iff_iff]; simp
    refine Ev.succ ?_
    simp only [impl_valueFits.f, size_nil, len0, vok, if_neg (show ¬ (((n + 1 : Nat) : Int) < 1) by omega)]
    by_cases k0 : v.f0 = 0
    · simp only [if_pos k0]
      by_cases c1 : v.f1 = 0 <;> by_cases c2 : v.f2.size = 0 <;> simp only [c1, c2, if_true, if_false, decide_true, decide_false, Bool.true_and, Bool.false_and, Bool.and_true, Bool.and_false] <;> exact Ev.some _
    simp only [if_neg k0]
    by_cases k1 : v.f0 = 1
    · simp only [if_pos k1]
      by_cases c1 : v.f1 = 0
      · by_cases c2 : v.f2.size = 0 <;> simp only [c1, c2, if_true, if_false, decide_true, decide_false, Bool.true_and, Bool.false_and, Bool.and_true, Bool.and_false] <;> exact Ev.eq (Ev.some _) (by simp)
      · by_cases c1' : v.f1 = 1
        · by_cases c2 : v.f2.size = 0 <;> simp only [c1', c2, if_true, if_false, decide_true, decide_false, Bool.true_and, Bool.false_and, Bool.and_true, Bool.and_false, if_neg (show ¬ ((1 : Int) = 0) by decide)] <;> exact Ev.eq (Ev.some _) (by simp)
        · simp only [if_neg c1, if_neg c1']
          refine Ev.eq (Ev.some _) ?_
          have : ¬ (0 ≤ v.f1 ∧ v.f1 ≤ 1) := by omega
          simp
          omega
    simp only [if_neg k1]
    by_cases k2 : v.f0 = 2
    · simp only [if_pos k2]
      refine Ev.ite (fun c1 => ?_) (fun c1 => Ev.eq (Ev.some _) (by simp; omega))
      refine Ev.ite (fun c2 => ?_) (fun c2 => Ev.eq (Ev.some _) (by simp; omega))
      refine Ev.ite (fun c3 => ?_) (fun c3 => Ev.eq (Ev.some _) (by simp [c3]))
      exact Ev.eq (Ev.some _) (by have e1 : decide (-1000000000 ≤ v.f1) = true := decide_eq_true (by omega)
                                  have e2 : decide (v.f1 ≤ 1000000000) = true := decide_eq_true (by omega)
                                  simp [e1, e2, c3])
    simp only [if_neg k2]
    by_cases k3 : v.f0 = 3
    · simp only [if_pos k3]
      refine Ev.ite (fun c1 => ?_) (fun c1 => Ev.eq (Ev.some _) (by simp [c1]))
      refine Ev.bind (textFits_ev _ hm) (Ev.ite (fun c2 => Ev.eq (Ev.some _) (by simp [c1, c2])) (fun c2 => Ev.eq (Ev.some _) (by simp [c2])))
    simp only [if_neg k3]
    have tail : ∀ b, (b = true ↔ v.f0 = 5 ∨ v.f0 = 6) → Ev (fun k => impl_valueFits.j0 k ((n + 1 : Nat) : Int) v.f0 b v.f0 v.f1 v.f2 v.f3) (if v.f0 = 4 then decide (v.f1 = 0) && decide (v.f2.size = 0) && decide (v.f3.length ≤ 6) && v.f3.all (vok n) else if v.f0 = 5 ∨ v.f0 = 6 then decide (0 ≤ v.f1) && decide (v.f1 ≤ 1000000000) && decide (v.f2.size = 0) && decide (v.f3.length = 0) else false) := by
      intro b hb
      refine Ev.succ ?_
      simp only [impl_valueFits.j0, size_nil, len0]
      refine Ev.ite (fun cb => ?_) (fun cb => ?_)
      · have h56 := hb.1 cb
        have h4' : ¬ v.f0 = 4 := by omega
        rw [if_neg h4', if_pos h56]
        refine Ev.ite (fun c1 => ?_) (fun c1 => Ev.eq (Ev.some _) (by simp; omega))
        refine Ev.ite (fun c2 => ?_) (fun c2 => Ev.eq (Ev.some _) (by simp; omega))
        refine Ev.ite (fun c3 => ?_) (fun c3 => Ev.eq (Ev.some _) (by simp [c3]))
        exact Ev.eq (Ev.some _) (by have e1 : decide (0 ≤ v.f1) = true := decide_eq_true (by omega)
                                    have e2 : decide (v.f1 ≤ 1000000000) = true := decide_eq_true (by omega)
                                    simp [e1, e2, c3])
      · have h56 : ¬ (v.f0 = 5 ∨ v.f0 = 6) := fun h => cb (hb.2 h)
        refine Ev.ite (fun c4 => ?_) (fun c4 => Ev.eq (Ev.some _) (by rw [if_neg c4, if_neg h56]))
        rw [if_pos c4]
        have j1 : ∀ b, Ev (fun k => impl_valueFits.j1 k ((n + 1 : Nat) : Int) b v.f0 v.f1 v.f2 v.f3) (!b && v.f3.all (vok n)) := by
          intro b
          refine Ev.succ ?_
          simp only [impl_valueFits.j1]
          refine Ev.ite (fun h => Ev.eq (Ev.some _) (by simp [h])) (fun h => Ev.eq loop (by simp [h]))
        refine Ev.ite (fun c1 => ?_) (fun c1 => Ev.eq (j1 true) (by simp [c1]))
        refine Ev.ite (fun c2 => ?_) (fun c2 => Ev.eq (j1 true) (by simp [c2]))
        refine Ev.eq (j1 _) ?_
        have e : (!decide ((v.f3.length : Int) > 6)) = decide (v.f3.length ≤ 6) := by rw [Bool.eq_iff_iff]; simp; omega
        rw [e]
        simp [c1, c2]
    refine Ev.ite (fun k5 => ?_) (fun k5 => ?_)
    · exact tail _ (by simp [k5])
    · exact tail _ (by simp [k5])
theorem implValueOk_ev (v : IV) (sm : Sm v) : Ev (fun k => impl_ValueOk.f k v.f0 v.f1 v.f2 v.f3) (vok 3 v) := by
  unfold impl_ValueOk.f
  exact Ev.bind (valueFits_ev 3 v sm (by omega)) (Ev.some _)

/-- One value, given what one round of its list does. -/
theorem l1Ok_body (n : Nat) (v : IV) (sm : Sm v) (hn : n ≤ 1000)
    (round : ∀ i : Nat, i < v.f3.length → ∀ r, ((vok n (rd_T49 v.f3 i) = false → r = false) ∧ (vok n (rd_T49 v.f3 i) = true → Ev (fun k => spec_l1Ok.l0 k ((n + 1 : Nat) : Int) ((i + 1 : Nat) : Int) v.f0 v.f1 v.f2 v.f3) r)) → Ev (fun k => spec_l1Ok.l0 k ((n + 1 : Nat) : Int) (i : Int) v.f0 v.f1 v.f2 v.f3) r) :
    Ev (fun k => spec_l1Ok.f k v.f0 v.f1 v.f2 v.f3 ((n + 1 : Nat) : Int)) (vok (n + 1) v) := by
  obtain ⟨h2, h3, h4⟩ := sm.all
  have hm : v.f2.size ≤ maxLen := by unfold maxLen; omega
  have len0 : ((v.f3.length : Int) == 0) = decide (v.f3.length = 0) := by rw [Bool.eq_iff_iff]; simp
  have len0' : ((v.f3.length : Int) = 0) = (v.f3.length = 0) := by apply propext; omega
  have num0 : (v.f1 == 0) = decide (v.f1 = 0) := by rw [Bool.eq_iff_iff]; simp
  have loop : Ev (fun k => spec_l1Ok.l0 k ((n + 1 : Nat) : Int) 0 v.f0 v.f1 v.f2 v.f3) (v.f3.all (vok n) && (decide (v.f1 = 0) && (decide (v.f2.size = 0) && decide (v.f3.length ≤ 6)))) := by
    rw [all_drop]
    refine loopB v.f3.length (fun k i => spec_l1Ok.l0 k ((n + 1 : Nat) : Int) i v.f0 v.f1 v.f2 v.f3) (fun i => vok n (rd_T49 v.f3 i)) _ ?_ ?_ ?_ v.f3.length 0 (by omega)
    · refine Ev.succ ?_
      simp only [spec_l1Ok.l0, size_nil]
      refine Ev.neg (by omega) ?_
      refine Ev.ite (fun c1 => Ev.ite (fun c2 => Ev.eq (Ev.some _) ?_) (fun c2 => Ev.eq (Ev.some _) (by simp [c2]))) (fun c1 => Ev.eq (Ev.some _) (by simp [c1]))
      rw [Bool.eq_iff_iff]; simp [c1, c2]; omega
    · intro i hi hc
      exact round i hi false ⟨fun _ => rfl, (fun h => by rw [hc] at h; cases h)⟩
    · intro i hi hc r hr
      exact round i hi r ⟨(fun h => by rw [hc] at h; cases h), fun _ => hr⟩
  have top : ∀ num : Bool, num = (decide (v.f2.size = 0) && decide (v.f3.length = 0)) → Ev (fun k => spec_l1Ok.j0 k ((n + 1 : Nat) : Int) num v.f0 v.f1 v.f2 v.f3) (vok (n + 1) v) := by
    intro num hnum
    refine Ev.succ ?_
    simp only [spec_l1Ok.j0, l1In_eq, Option.bind_some, vok, len0', num0]
    by_cases k0 : v.f0 = 0
    · simp only [if_pos k0]
      exact Ev.ite (fun h => Ev.eq (Ev.some _) (by rw [hnum] at h; simp at h; simp [h])) (fun h => Ev.eq (Ev.some _) (by rw [hnum] at h; simp at h; simp; intro _ h'; exact h h'))
    simp only [if_neg k0]
    by_cases k1 : v.f0 = 1
    · simp only [if_pos k1]
      exact Ev.ite (fun h => Ev.eq (Ev.some _) (by rw [hnum] at h; simp at h; simp [h])) (fun h => Ev.eq (Ev.some _) (by rw [hnum] at h; simp at h; simp; intro _ _ h'; exact h h'))
    simp only [if_neg k1]
    by_cases k2 : v.f0 = 2
    · simp only [if_pos k2]
      exact Ev.ite (fun h => Ev.eq (Ev.some _) (by rw [hnum] at h; simp at h; simp [h])) (fun h => Ev.eq (Ev.some _) (by rw [hnum] at h; simp at h; simp; intro _ _ h'; exact h h'))
    simp only [if_neg k2]
    by_cases k3 : v.f0 = 3
    · simp only [if_pos k3]
      refine Ev.ite (fun c1 => Ev.ite (fun c2 => ?_) (fun c2 => Ev.eq (Ev.some _) (by simp [c2]))) (fun c1 => Ev.eq (Ev.some _) (by simp [c1]))
      exact Ev.bind (l1Text_ev _ hm) (Ev.eq (Ev.some _) (by simp [c1, c2]))
    simp only [if_neg k3]
    have tail : ∀ b, (b = true ↔ v.f0 = 5 ∨ v.f0 = 6) → Ev (fun k => spec_l1Ok.j1 k ((n + 1 : Nat) : Int) num v.f0 b v.f0 v.f1 v.f2 v.f3) (if v.f0 = 4 then decide (v.f1 = 0) && decide (v.f2.size = 0) && decide (v.f3.length ≤ 6) && v.f3.all (vok n) else if v.f0 = 5 ∨ v.f0 = 6 then decide (0 ≤ v.f1) && decide (v.f1 ≤ 1000000000) && decide (v.f2.size = 0) && decide (v.f3.length = 0) else false) := by
      intro b hb
      refine Ev.succ ?_
      simp only [spec_l1Ok.j1, l1In_eq, Option.bind_some]
      refine Ev.ite (fun cb => ?_) (fun cb => ?_)
      · have h56 := hb.1 cb
        have h4' : ¬ v.f0 = 4 := by omega
        rw [if_neg h4', if_pos h56]
        exact Ev.ite (fun h => Ev.eq (Ev.some _) (by rw [hnum] at h; simp at h; simp [h])) (fun h => Ev.eq (Ev.some _) (by rw [hnum] at h; simp at h; simp; intro _ _ h'; exact h h'))
      · have h56 : ¬ (v.f0 = 5 ∨ v.f0 = 6) := fun h => cb (hb.2 h)
        refine Ev.ite (fun c4 => ?_) (fun c4 => Ev.eq (Ev.some _) (by rw [if_neg c4, if_neg h56]))
        rw [if_pos c4]
        refine Ev.eq loop ?_
        rw [Bool.eq_iff_iff]
        simp only [Bool.and_eq_true]
        constructor
        · intro ⟨a, b, c, d⟩; exact ⟨⟨⟨b, c⟩, d⟩, a⟩
        · intro ⟨⟨⟨b, c⟩, d⟩, a⟩; exact ⟨a, b, c, d⟩
    refine Ev.ite (fun k5 => ?_) (fun k5 => ?_)
    · exact tail _ (by simp [k5])
    · exact tail _ (by simp [k5])
  refine Ev.succ ?_
  simp only [spec_l1Ok.f, size_nil, len0]
  refine Ev.ite (fun c2 => top _ (by simp [c2])) (fun c2 => top _ (by simp [c2]))
theorem l1Ok_ev : ∀ (n : Nat) (v : IV), Sm v → n ≤ 1000 → Ev (fun k => spec_l1Ok.f k v.f0 v.f1 v.f2 v.f3 ((n + 1 : Nat) : Int)) (vok (n + 1) v) := by
  intro n
  induction n with
  | zero =>
    intro v sm hn
    exact l1Ok_body 0 v sm hn (fun i hi => by
      intro r hr
      refine Ev.succ ?_
      simp only [spec_l1Ok.l0, if_pos (show ((i : Int) < (v.f3.length : Int)) by omega)]
      refine Ev.pos (by omega) ?_
      have : r = false := hr.1 rfl
      subst this
      exact Ev.some _)
  | succ n ih =>
    intro v sm hn
    obtain ⟨h2, h3, h4⟩ := sm.all
    exact l1Ok_body (n + 1) v sm hn (fun i hi => by
      intro r hr
      refine Ev.succ ?_
      simp only [spec_l1Ok.l0, if_pos (show ((i : Int) < (v.f3.length : Int)) by omega), if_pos (show 0 ≤ (i : Int) by omega)]
      refine Ev.neg (by omega) ?_
      rw [show wrap64 (((n + 1 + 1 : Nat) : Int) - 1) = ((n + 1 : Nat) : Int) by rw [wrap64_id (by omega) (by omega)]; omega]
      refine Ev.bind (ih _ (by rw [rd_iv hi]; exact h4 _ (List.getElem_mem hi)) (by omega)) ?_
      refine Ev.ite (fun h => ?_) (fun h => ?_)
      · rw [wrap64_succ hi (by omega)]
        exact hr.2 h
      · have : r = false := hr.1 (by simpa using h)
        subst this
        exact Ev.some _)
theorem specValueOk_ev (v : IV) (sm : Sm v) : Ev (fun k => spec_ValueOk.f k v.f0 v.f1 v.f2 v.f3) (vok 3 v) := by
  unfold spec_ValueOk.f
  exact Ev.bind (l1Ok_ev 2 v sm (by omega)) (Ev.some _)
end Go.Proofs.Ytcchmhmbjhgfdaa.Pur
