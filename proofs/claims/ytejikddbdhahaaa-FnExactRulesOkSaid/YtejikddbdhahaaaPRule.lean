/- Rules: what RulesOk says, in the program and in the reference. -/
import Derived.Test.YtejikddbdhahaaaPName
import Derived.Test.YtejikddbdhahaaaGx8
import Derived.Test.YtejikddbdhahaaaGx9
import Derived.Test.YtejikddbdhahaaaGx11
import Derived.Test.YtejikddbdhahaaaGx10
import Derived.Test.YtejikddbdhahaaaGx2
namespace Go.Proofs.Ytejikddbdhahaaa.Pur
open Go.RowKit Go.Proofs.Ytejikddbdhahaaa.G Go.Proofs.YtejikddbdhahaaaW.PrintWords Go.Proofs.YtejikddbdhahaaaW.PrintLast
set_option linter.unusedVariables false
set_option linter.unusedSimpArgs false

abbrev LRule := S73
abbrev IRule := S74
def cRule (x : LRule) : IRule := ⟨x.f0, x.f1⟩
/-- Small: what a rule holds takes at most 2^20 bytes. -/
def SmRule (x : LRule) : Prop := x.f0.size ≤ 1048576 ∧ x.f1.size ≤ 1048576
def SmIRule (x : IRule) : Prop := x.f0.size ≤ 1048576 ∧ x.f1.size ≤ 1048576
theorem rd_lrule {l : List LRule} {i : Nat} (h : i < l.length) : rd_T73 l (i : Int) = l[i] := getD_nat h
theorem rd_irule {l : List IRule} {i : Nat} (h : i < l.length) : rd_T74 l (i : Int) = l[i] := getD_nat h

theorem szRule_eq (x : LRule) (h : x.f0.size ≤ maxLen) (h' : x.f1.size ≤ maxLen) (left : Int) (h0 : 0 ≤ left) (h1 : left ≤ 1048576) :
    ∃ r, laws_szRule.f x.f0 x.f1 left = some r ∧ r ≤ left ∧ (0 ≤ r → SmRule x) := by
  unfold maxLen at h h'
  unfold laws_szRule.f
  rw [wrap64_id (by omega) (by omega)]
  by_cases c : left - (x.f0.size : Int) < 0
  · rw [if_pos c]; exact ⟨-1, rfl, by omega, fun h => by omega⟩
  · rw [if_neg c, wrap64_id (by omega) (by omega)]
    by_cases c' : left - (x.f0.size : Int) - (x.f1.size : Int) < 0
    · rw [if_pos c']; exact ⟨-1, rfl, by omega, fun h => by omega⟩
    · rw [if_neg c']; exact ⟨_, rfl, by omega, fun _ => ⟨by omega, by omega⟩⟩
theorem szRuleS_ev (l : List LRule) (hl : l.length ≤ maxLen) (ok : ∀ y ∈ l, Ok73 y) (left : Int) (h0 : 0 ≤ left) (h1 : left ≤ 1048576) :
    ∃ r, Ev (fun k => laws_szRuleS.f k l left) r ∧ r ≤ left ∧ (0 ≤ r → l.length ≤ 1048576 ∧ ∀ x ∈ l, SmRule x) := by
  unfold maxLen at hl
  unfold laws_szRuleS.f
  rw [wrap64_id (by omega) (by omega)]
  by_cases c : left - (l.length : Int) < 0
  · simp only [if_pos c]; exact ⟨-1, Ev.some _, by omega, fun h => by omega⟩
  · simp only [if_neg c]
    obtain ⟨r, hr, hle, hp⟩ := szLoop l (fun k left i => laws_szRuleS.l0 k l left i) (fun k x left => laws_szRule.f x.f0 x.f1 left) SmRule
      (fun k left i h => by simp only [laws_szRuleS.l0]; rw [if_neg (by omega)])
      (fun k left i h => by simp only [laws_szRuleS.l0]; rw [if_pos (by omega), if_pos (by omega), rd_lrule h, wrap64_succ h (by omega)])
      (fun x hx left h0 h1 => by
        obtain ⟨r, hr, hle, hp⟩ := szRule_eq x (ok x hx).all.1 (ok x hx).all.2 left h0 h1
        exact ⟨r, Ev.of_eq fun _ => hr, hle, hp⟩) l.length 0 (left - l.length) (by omega) (by omega) (by omega)
    refine ⟨r, hr, by omega, fun h => ⟨by omega, fun x hx => ?_⟩⟩
    obtain ⟨j, hj, rfl⟩ := List.getElem_of_mem hx
    exact hp h j hj (Nat.zero_le _)
theorem toRuleS_ev (l : List LRule) (hl : l.length ≤ 1048576) : Ev (fun k => laws_toRuleS.f k l) (l.map cRule) := by
  unfold laws_toRuleS.f
  simp only [if_pos (show 0 ≤ (l.length : Int) by omega), if_pos (show ((l.length : Int) : Int).toNat ≤ 8796093022208 by omega)]
  have h := toLoop l (fun k out i => laws_toRuleS.l0 k l out i) (fun k x => some (cRule x)) cRule
    (fun k out i h => by simp only [laws_toRuleS.l0]; rw [if_neg (by omega)])
    (fun k out i h ho => by simp only [laws_toRuleS.l0]; rw [if_pos (by omega), if_pos (by omega), rd_lrule h, wrap64_succ h (by omega)]; simp only [laws_toRule.f, Option.bind_some]; rw [if_pos (by omega)]; rfl)
    (fun x _ => Ev.some _) l.length 0 (List.replicate l.length z74) (by omega) (by simp)
  simpa using h
theorem eqRule_refl (x : IRule) : laws_eqRule.f x.f0 x.f1 x.f0 x.f1 = some true := by unfold laws_eqRule.f; simp
theorem eqRuleS_refl (l : List IRule) (hl : l.length ≤ 1048576) : Ev (fun k => laws_eqRuleS.f k l l) true := by
  unfold laws_eqRuleS.f
  simp only [if_true]
  exact eqLoop l (fun k i => laws_eqRuleS.l0 k l l i) (fun k x y => laws_eqRule.f x.f0 x.f1 y.f0 y.f1)
    (fun k i h => by simp only [laws_eqRuleS.l0]; rw [if_neg (by omega)])
    (fun k i h => by simp only [laws_eqRuleS.l0]; rw [if_pos (by omega), if_pos (by omega), if_pos (by omega), rd_irule h, wrap64_succ h (by omega)])
    (fun x _ => Ev.of_eq fun _ => eqRule_refl x) l.length 0 (by omega)

def sameRule (a b : IRule) : Bool := a.f0.toList == b.f0.toList && a.f1.toList == b.f1.toList
theorem sameRule_comm (a b : IRule) : sameRule a b = sameRule b a := by unfold sameRule; rw [Bool.eq_iff_iff]; simp; constructor <;> (intro ⟨h, h'⟩; exact ⟨h.symm, h'.symm⟩)
/-- What is asked of the rule at a place. -/
def ruleB (l : List IRule) (i : Nat) : Bool := nameB (rd_T74 l i).f0 && nameB (rd_T74 l i).f1 && allB (fun j => !(sameRule (rd_T74 l j) (rd_T74 l i))) i 0
def rulesB (l : List IRule) : Bool := allB (ruleB l) l.length 0 && decide (l.length ≤ 3)
theorem rules_inner (l : List IRule) (hl : l.length ≤ 1048576) (i : Nat) (hi : i < l.length) (r : Bool) (hr : Ev (fun k => spec_RulesOk.l0 k l ((i + 1 : Nat) : Int)) r) :
    ∀ d j : Nat, i = j + d → Ev (fun k => spec_RulesOk.l1 k l (i : Int) (j : Int)) (allB (fun j => !(sameRule (rd_T74 l j) (rd_T74 l i))) d j && r) := by
  refine loopB i (fun k j => spec_RulesOk.l1 k l (i : Int) j) _ r ?_ ?_ ?_
  · refine Ev.succ ?_
    simp only [spec_RulesOk.l1, if_neg (show ¬ ((i : Int) < (i : Int)) by omega), wrap64_succ hi (by omega)]
    exact hr
  · intro j hj hc
    refine Ev.succ ?_
    have hs : (sameRule (rd_T74 l j) (rd_T74 l i)) = true := by simpa using hc
    unfold sameRule at hs
    simp only [spec_RulesOk.l1, if_pos (show ((j : Int) < (i : Int)) by omega), if_pos (show 0 ≤ (j : Int) by omega), if_pos (show ((j : Int) < (l.length : Int)) by omega), if_pos (show 0 ≤ (i : Int) by omega), if_pos (show ((i : Int) < (l.length : Int)) by omega), if_pos hs]
    exact Ev.some _
  · intro j hj hc q hq
    refine Ev.succ ?_
    have hs : ¬ (sameRule (rd_T74 l j) (rd_T74 l i)) = true := by simpa using hc
    unfold sameRule at hs
    simp only [spec_RulesOk.l1, if_pos (show ((j : Int) < (i : Int)) by omega), if_pos (show 0 ≤ (j : Int) by omega), if_pos (show ((j : Int) < (l.length : Int)) by omega), if_pos (show 0 ≤ (i : Int) by omega), if_pos (show ((i : Int) < (l.length : Int)) by omega), if_neg hs, wrap64_succ hj (by omega)]
    exact hq
theorem specRulesOk_ev (l : List IRule) (hl : l.length ≤ 1048576) (sm : ∀ x ∈ l, SmIRule x) : Ev (fun k => spec_RulesOk.f k l) (rulesB l) := by
  unfold spec_RulesOk.f rulesB
  have name0 : ∀ i : Nat, i < l.length → (rd_T74 l i).f0.size ≤ maxLen ∧ (rd_T74 l i).f1.size ≤ maxLen := by
    intro i hi
    rw [rd_irule hi]
    have := sm _ (List.getElem_mem hi)
    unfold SmIRule at this
    unfold maxLen
    omega
  refine loopB l.length (fun k i => spec_RulesOk.l0 k l i) (ruleB l) _ ?_ ?_ ?_ l.length 0 (by omega)
  · refine Ev.succ ?_
    simp only [spec_RulesOk.l0, if_neg (show ¬ ((l.length : Int) < (l.length : Int)) by omega)]
    refine Ev.eq (Ev.some _) ?_
    rw [Bool.eq_iff_iff]; simp; omega
  · intro i hi hc
    refine Ev.succ ?_
    simp only [spec_RulesOk.l0, if_pos (show ((i : Int) < (l.length : Int)) by omega), if_pos (show 0 ≤ (i : Int) by omega)]
    refine Ev.bind (l2Name_ev _ (name0 i hi).1) ?_
    refine Ev.ite (fun h1 => ?_) (fun h1 => ?_)
    · refine Ev.bind (l2Name_ev _ (name0 i hi).2) ?_
      refine Ev.succ ?_
      simp only [spec_RulesOk.j1]
      refine Ev.ite (fun h2 => Ev.some _) (fun h2 => ?_)
      unfold ruleB at hc
      have h2' : nameB (rd_T74 l i).f1 = true := by simpa using h2
      rw [h1, h2', Bool.true_and, Bool.true_and] at hc
      by_cases hn : i + 1 ≤ l.length
      · have hx : ∃ r, Ev (fun k => spec_RulesOk.l1 k l (i : Int) 0) r ∧ r = false := by
          -- the first that is the same ends it, whatever stands behind
          have key : ∀ d j : Nat, i = j + d → allB (fun j => !(sameRule (rd_T74 l j) (rd_T74 l i))) d j = false → Ev (fun k => spec_RulesOk.l1 k l (i : Int) (j : Int)) false := by
            intro d
            induction d with
            | zero => intro j hj h; simp [allB] at h
            | succ d ih =>
              intro j hj h
              refine Ev.succ ?_
              simp only [spec_RulesOk.l1, if_pos (show ((j : Int) < (i : Int)) by omega), if_pos (show 0 ≤ (j : Int) by omega), if_pos (show ((j : Int) < (l.length : Int)) by omega), if_pos (show 0 ≤ (i : Int) by omega), if_pos (show ((i : Int) < (l.length : Int)) by omega)]
              by_cases hs : sameRule (rd_T74 l j) (rd_T74 l i) = true
              · have hs' := hs
                unfold sameRule at hs'
                simp only [if_pos hs']
                exact Ev.some _
              · have hs' := hs
                unfold sameRule at hs'
                simp only [if_neg hs', wrap64_succ (show j < i by omega) (by omega)]
                exact ih (j + 1) (by omega) (by simpa [allB, hs] using h)
          exact ⟨false, key i 0 (by omega) hc, rfl⟩
        obtain ⟨r, hr, rfl⟩ := hx
        exact hr
      · omega
    · refine Ev.succ ?_
      simp only [spec_RulesOk.j1, if_true]
      exact Ev.some _
  · intro i hi hc r hr
    refine Ev.succ ?_
    simp only [spec_RulesOk.l0, if_pos (show ((i : Int) < (l.length : Int)) by omega), if_pos (show 0 ≤ (i : Int) by omega)]
    unfold ruleB at hc
    simp only [Bool.and_eq_true] at hc
    refine Ev.bind (l2Name_ev _ (name0 i hi).1) ?_
    simp only [hc.1.1, if_true]
    refine Ev.bind (l2Name_ev _ (name0 i hi).2) ?_
    refine Ev.succ ?_
    simp only [spec_RulesOk.j1, hc.1.2, Bool.not_true, Bool.false_eq_true, if_false]
    exact Ev.eq (rules_inner l hl i hi r hr i 0 (by omega)) (by rw [hc.2, Bool.true_and])
theorem index_ev (l : List IRule) (hl : l.length ≤ 1048576) (x : IRule) : Ev (fun k => impl_Rule_59.f k l x.f0 x.f1) (!(allB (fun j => !(sameRule (rd_T74 l j) x)) l.length 0)) := by
  unfold impl_Rule_59.f impl_Rule_79.f
  have key : ∀ d i : Nat, l.length = i + d → ∃ r, Ev (fun k => impl_Rule_79.l0 k l (l.length : Int) (i : Int) x.f0 x.f1) r ∧ decide (r ≥ 0) = !(allB (fun j => !(sameRule (rd_T74 l j) x)) d i) := by
    intro d
    induction d with
    | zero =>
      intro i hi
      refine ⟨-1, Ev.succ ?_, by simp [allB]⟩
      simp only [impl_Rule_79.l0, if_neg (show ¬ ((i : Int) < (l.length : Int)) by omega)]
      exact Ev.some _
    | succ d ih =>
      intro i hi
      have hlt : i < l.length := by omega
      by_cases hs : sameRule (rd_T74 l i) x = true
      · refine ⟨i, Ev.succ ?_, by simp [allB, hs]⟩
        have hs' : (x.f0.toList == (rd_T74 l i).f0.toList && x.f1.toList == (rd_T74 l i).f1.toList) = true := by rw [sameRule_comm] at hs; exact hs
        simp only [impl_Rule_79.l0, if_pos (show ((i : Int) < (l.length : Int)) by omega), if_pos (show 0 ≤ (i : Int) by omega), if_pos hs']
        exact Ev.some _
      · obtain ⟨r, hr, hp⟩ := ih (i + 1) (by omega)
        refine ⟨r, Ev.succ ?_, by rw [hp]; simp [allB, hs]⟩
        have hs' : ¬ (x.f0.toList == (rd_T74 l i).f0.toList && x.f1.toList == (rd_T74 l i).f1.toList) = true := by rw [sameRule_comm] at hs; exact hs
        simp only [impl_Rule_79.l0, if_pos (show ((i : Int) < (l.length : Int)) by omega), if_pos (show 0 ≤ (i : Int) by omega), if_neg hs', wrap64_succ hlt (by omega)]
        exact hr
  obtain ⟨r, hr, hp⟩ := key l.length 0 (by omega)
  exact Ev.bind hr (Ev.eq (Ev.some _) hp)
theorem implRulesOk_ev (l : List IRule) (hl : l.length ≤ 1048576) (sm : ∀ x ∈ l, SmIRule x) : Ev (fun k => impl_RulesOk.f k l) (rulesB l) := by
  unfold impl_RulesOk.f rulesB
  refine Ev.ite (fun h => Ev.eq (Ev.some _) (by have : ¬ l.length ≤ 3 := by omega
                                                simp [this])) (fun h => ?_)
  have h3 : decide (l.length ≤ 3) = true := decide_eq_true (by omega)
  rw [h3]
  have name0 : ∀ i : Nat, i < l.length → (rd_T74 l i).f0.size ≤ maxLen ∧ (rd_T74 l i).f1.size ≤ maxLen := by
    intro i hi
    rw [rd_irule hi]
    have := sm _ (List.getElem_mem hi)
    unfold SmIRule at this
    unfold maxLen
    omega
  have inner : ∀ i : Nat, i < l.length → Ev (fun k => impl_Rule_59.f k (l.take ((i : Int)).toNat) (rd_T74 l i).f0 (rd_T74 l i).f1) (!(allB (fun j => !(sameRule (rd_T74 l j) (rd_T74 l i))) i 0)) := by
    intro i hi
    have hlen : (l.take ((i : Int)).toNat).length = i := by rw [List.length_take, Int.toNat_natCast]; omega
    refine Ev.eq (index_ev (l.take ((i : Int)).toNat) (by omega) (rd_T74 l i)) ?_
    rw [hlen]
    congr 1
    refine allB_congr i 0 (fun j _ hj => ?_)
    rw [rd_irule (l := l.take ((i : Int)).toNat) (i := j) (by omega), rd_irule (l := l) (i := j) (by omega), List.getElem_take]
  refine loopB l.length (fun k i => impl_RulesOk.l0 k l l (l.length : Int) i) (ruleB l) true ?_ ?_ ?_ l.length 0 (by omega)
  · refine Ev.succ ?_
    simp only [impl_RulesOk.l0, if_neg (show ¬ ((l.length : Int) < (l.length : Int)) by omega)]
    exact Ev.some _
  · intro i hi hc
    refine Ev.succ ?_
    simp only [impl_RulesOk.l0, if_pos (show ((i : Int) < (l.length : Int)) by omega), if_pos (show 0 ≤ (i : Int) by omega)]
    refine Ev.bind (nameOk_ev _ (name0 i hi).1) (Ev.ite (fun h1 => ?_) (fun h1 => Ev.some _))
    refine Ev.bind (nameOk_ev _ (name0 i hi).2) (Ev.ite (fun h2 => ?_) (fun h2 => Ev.some _))
    simp only [if_pos (show ((i : Int) ≤ (l.length : Int)) by omega)]
    refine Ev.bind (inner i hi) ?_
    unfold ruleB at hc
    rw [h1, h2, Bool.true_and, Bool.true_and] at hc
    simp only [hc, Bool.not_false, if_true]
    exact Ev.some _
  · intro i hi hc r hr
    refine Ev.succ ?_
    simp only [impl_RulesOk.l0, if_pos (show ((i : Int) < (l.length : Int)) by omega), if_pos (show 0 ≤ (i : Int) by omega)]
    unfold ruleB at hc
    simp only [Bool.and_eq_true] at hc
    refine Ev.bind (nameOk_ev _ (name0 i hi).1) ?_
    simp only [hc.1.1, if_true]
    refine Ev.bind (nameOk_ev _ (name0 i hi).2) ?_
    simp only [hc.1.2, if_true, if_pos (show ((i : Int) ≤ (l.length : Int)) by omega)]
    refine Ev.bind (inner i hi) ?_
    simp only [hc.2, Bool.not_true, Bool.false_eq_true, if_false, wrap64_succ hi (by omega)]
    exact hr
end Go.Proofs.Ytejikddbdhahaaa.Pur
