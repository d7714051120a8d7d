/- Expressions: sizes, copies, equality. -/
import Derived.Test.YtnecmjmimdojcaaPVBase
import Derived.Test.YtnecmjmimdojcaaGx2
import Derived.Test.YtnecmjmimdojcaaGx8
import Derived.Test.YtnecmjmimdojcaaGx14
import Derived.Test.YtnecmjmimdojcaaGx1
namespace Go.Proofs.Ytnecmjmimdojcaa.Pur
open Go.RowKit Go.Proofs.Ytnecmjmimdojcaa.G Go.Proofs.YtnecmjmimdojcaaW.PrintWords Go.Proofs.YtnecmjmimdojcaaW.PrintLast
set_option linter.unusedVariables false
set_option linter.unusedSimpArgs false

abbrev LE := S38
abbrev IE := S46
theorem rd_le {l : List LE} {i : Nat} (h : i < l.length) : rd_T38 l (i : Int) = l[i] := getD_nat h
theorem rd_ie {l : List IE} {i : Nat} (h : i < l.length) : rd_T46 l (i : Int) = l[i] := getD_nat h
inductive SmLE : LE → Prop
  | mk {x : LE} (h1 : SmL x.f1) (h2 : x.f2.size ≤ 1048576) (h3 : x.f3.size ≤ 1048576) (h4 : x.f4.length ≤ 1048576) (h5 : ∀ y ∈ x.f4, SmLE y) : SmLE x
inductive SmE : IE → Prop
  | mk {x : IE} (h1 : Sm x.f1) (h2 : x.f2.size ≤ 1048576) (h3 : x.f3.size ≤ 1048576) (h4 : x.f4.length ≤ 1048576) (h5 : ∀ y ∈ x.f4, SmE y) : SmE x
theorem SmLE.all {x : LE} (h : SmLE x) : SmL x.f1 ∧ x.f2.size ≤ 1048576 ∧ x.f3.size ≤ 1048576 ∧ x.f4.length ≤ 1048576 ∧ ∀ y ∈ x.f4, SmLE y := by
  cases h with
  | mk h1 h2 h3 h4 h5 => exact ⟨h1, h2, h3, h4, h5⟩
theorem SmE.all {x : IE} (h : SmE x) : Sm x.f1 ∧ x.f2.size ≤ 1048576 ∧ x.f3.size ≤ 1048576 ∧ x.f4.length ≤ 1048576 ∧ ∀ y ∈ x.f4, SmE y := by
  cases h with
  | mk h1 h2 h3 h4 h5 => exact ⟨h1, h2, h3, h4, h5⟩
def SmLEs (l : List LE) : Prop := l.length ≤ 1048576 ∧ ∀ x ∈ l, SmLE x
def cE : LE → IE
  | ⟨a, b, c, d, l⟩ => ⟨a, cV b, c, d, l.attach.map fun x => cE x.1⟩
termination_by x => SizeOf.sizeOf x
decreasing_by
  have := List.sizeOf_lt_of_mem x.2
  simp
  omega
theorem cE_eq (x : LE) : cE x = ⟨x.f0, cV x.f1, x.f2, x.f3, x.f4.map cE⟩ := by
  obtain ⟨a, b, c, d, l⟩ := x
  rw [cE]
  simp
theorem ie_eta (x : IE) : x = ⟨x.f0, x.f1, x.f2, x.f3, x.f4⟩ := by cases x; rfl
theorem SmE.of {x : LE} (h : SmLE x) : SmE (cE x) := by
  induction h with
  | @mk x h1 h2 h3 h4 h5 ih =>
    rw [cE_eq]
    refine .mk (Sm.of h1) h2 h3 (by simpa using h4) (fun y hy => ?_)
    obtain ⟨z, hz, rfl⟩ := List.mem_map.1 hy
    exact ih z hz
theorem szExprS_of (l : List LE) (hl : l.length ≤ maxLen) (hs : ∀ x ∈ l, ∀ left : Int, 0 ≤ left → left ≤ 1048576 → ∃ r, Ev (fun k => laws_szExpr.f k x.f0 x.f1.f0 x.f1.f1 x.f1.f2 x.f1.f3 x.f2 x.f3 x.f4 left) r ∧ r ≤ left ∧ (0 ≤ r → SmLE x)) (left : Int) (h0 : 0 ≤ left) (h1 : left ≤ 1048576) :
    ∃ r, Ev (fun k => laws_szExprS.f k l left) r ∧ r ≤ left ∧ (0 ≤ r → SmLEs l) := by
  unfold maxLen at hl
  by_cases c : left - (l.length : Int) < 0
  · refine ⟨-1, Ev.succ ?_, by omega, fun h => by omega⟩
    simp only [laws_szExprS.f]
    rw [wrap64_id (by omega) (by omega)]
    simp only [if_pos c]; exact Ev.some _
  · obtain ⟨r, hr, hle, hp⟩ := szLoop l (fun k left i => laws_szExprS.l0 k l left i) (fun k x left => laws_szExpr.f k x.f0 x.f1.f0 x.f1.f1 x.f1.f2 x.f1.f3 x.f2 x.f3 x.f4 left) SmLE
      (fun k left i h => by simp only [laws_szExprS.l0]; rw [if_neg (by omega)])
      (fun k left i h => by simp only [laws_szExprS.l0]; rw [if_pos (by omega), if_pos (by omega), rd_le h, wrap64_succ h (by omega)])
      hs l.length 0 (left - l.length) (by omega) (by omega) (by omega)
    refine ⟨r, Ev.succ ?_, by omega, fun h => ⟨by omega, fun x hx => ?_⟩⟩
    · simp only [laws_szExprS.f]
      rw [wrap64_id (by omega) (by omega)]
      simp only [if_neg c]
      exact hr
    · obtain ⟨j, hj, rfl⟩ := List.getElem_of_mem hx
      exact hp h j hj (Nat.zero_le _)
theorem szExpr_ev {x : LE} (ok : Ok38 x) : ∀ left : Int, 0 ≤ left → left ≤ 1048576 → ∃ r, Ev (fun k => laws_szExpr.f k x.f0 x.f1.f0 x.f1.f1 x.f1.f2 x.f1.f3 x.f2 x.f3 x.f4 left) r ∧ r ≤ left ∧ (0 ≤ r → SmLE x) := by
  induction ok with
  | @mk x h0 h1 h2 h3 h4 h5 ih =>
    intro left l0 l1
    unfold maxLen at h2 h3
    obtain ⟨q, hq, hql, hqp⟩ := szValue_ev h1 left l0 l1
    have no : ∀ f : Nat → Option Int, Ev f (-1) → ∃ r, Ev f r ∧ r ≤ left ∧ (0 ≤ r → SmLE x) := fun f hf => ⟨-1, hf, by omega, fun h => by omega⟩
    by_cases c0 : q < 0
    · refine no _ (Ev.succ ?_)
      simp only [laws_szExpr.f]
      refine Ev.bind hq ?_
      simp only [if_pos c0]; exact Ev.some _
    by_cases c1 : q - (x.f2.size : Int) < 0
    · refine no _ (Ev.succ ?_)
      simp only [laws_szExpr.f]
      refine Ev.bind hq ?_
      simp only [if_neg c0]
      rw [wrap64_id (by omega) (by omega)]
      simp only [if_pos c1]; exact Ev.some _
    by_cases c2 : q - (x.f2.size : Int) - (x.f3.size : Int) < 0
    · refine no _ (Ev.succ ?_)
      simp only [laws_szExpr.f]
      refine Ev.bind hq ?_
      simp only [if_neg c0]
      rw [wrap64_id (x := q - (x.f2.size : Int)) (by omega) (by omega), wrap64_id (by omega) (by omega)]
      simp only [if_neg c1, if_pos c2]; exact Ev.some _
    obtain ⟨r, hr, hle, hp⟩ := szExprS_of x.f4 h4 ih (q - (x.f2.size : Int) - (x.f3.size : Int)) (by omega) (by omega)
    by_cases hn : r < 0
    · refine no _ (Ev.succ ?_)
      simp only [laws_szExpr.f]
      refine Ev.bind hq ?_
      simp only [if_neg c0]
      rw [wrap64_id (x := q - (x.f2.size : Int)) (by omega) (by omega), wrap64_id (by omega) (by omega)]
      simp only [if_neg c1, if_neg c2]
      refine Ev.bind hr ?_
      simp only [if_pos hn]; exact Ev.some _
    · refine ⟨r, Ev.succ ?_, by omega, fun h => ?_⟩
      · simp only [laws_szExpr.f]
        refine Ev.bind hq ?_
        simp only [if_neg c0]
        rw [wrap64_id (x := q - (x.f2.size : Int)) (by omega) (by omega), wrap64_id (by omega) (by omega)]
        simp only [if_neg c1, if_neg c2]
        refine Ev.bind hr ?_
        simp only [if_neg hn]; exact Ev.some _
      · obtain ⟨h6, h7⟩ := hp h
        exact .mk (hqp (by omega)) (by omega) (by omega) h6 h7
theorem toExprS_of (l : List LE) (hl : l.length ≤ 1048576) (hs : ∀ x ∈ l, Ev (fun k => laws_toExpr.f k x.f0 x.f1.f0 x.f1.f1 x.f1.f2 x.f1.f3 x.f2 x.f3 x.f4) ((cE x).f0, (cE x).f1.f0, (cE x).f1.f1, (cE x).f1.f2, (cE x).f1.f3, (cE x).f2, (cE x).f3, (cE x).f4)) : Ev (fun k => laws_toExprS.f k l) (l.map cE) := by
  refine Ev.succ ?_
  simp only [laws_toExprS.f, if_pos (show 0 ≤ (l.length : Int) by omega), Int.toNat_natCast, if_pos (show l.length ≤ 2345624805922 by omega)]
  have h := toLoop l (fun k out i => laws_toExprS.l0 k l out i) (fun k x => (laws_toExpr.f k x.f0 x.f1.f0 x.f1.f1 x.f1.f2 x.f1.f3 x.f2 x.f3 x.f4).bind fun b => some (⟨b.1, ⟨b.2.1, b.2.2.1, b.2.2.2.1, b.2.2.2.2.1⟩, b.2.2.2.2.2.1, b.2.2.2.2.2.2.1, b.2.2.2.2.2.2.2⟩ : IE)) cE
    (fun k out i h => by simp only [laws_toExprS.l0]; rw [if_neg (by omega)])
    (fun k out i h ho => by
      simp only [laws_toExprS.l0]
      rw [if_pos (by omega), if_pos (by omega), rd_le h, wrap64_succ h (by omega)]
      cases laws_toExpr.f k l[i].f0 l[i].f1.f0 l[i].f1.f1 l[i].f1.f2 l[i].f1.f3 l[i].f2 l[i].f3 l[i].f4 with
      | none => rfl
      | some b => simp only [Option.bind_some]; rw [if_pos (by omega)]; rfl)
    (fun x hx => Ev.bind (hs x hx) (Ev.eq (Ev.some _) (by generalize cE x = y; obtain ⟨a, ⟨b, c, d, e⟩, f, g, m⟩ := y; rfl))) l.length 0 (List.replicate l.length z46) (by omega) (by simp)
  simpa using h
theorem toExpr_ev {x : LE} (sm : SmLE x) : Ev (fun k => laws_toExpr.f k x.f0 x.f1.f0 x.f1.f1 x.f1.f2 x.f1.f3 x.f2 x.f3 x.f4) ((cE x).f0, (cE x).f1.f0, (cE x).f1.f1, (cE x).f1.f2, (cE x).f1.f3, (cE x).f2, (cE x).f3, (cE x).f4) := by
  induction sm with
  | @mk x h1 h2 h3 h4 h5 ih =>
    refine Ev.succ ?_
    simp only [laws_toExpr.f]
    refine Ev.bind (toValue_ev h1) (Ev.bind (toExprS_of x.f4 h4 ih) (Ev.eq (Ev.some _) ?_))
    rw [cE_eq]
theorem eqExprS_of (l : List IE) (hl : l.length ≤ 1048576) (hs : ∀ x ∈ l, Ev (fun k => laws_eqExpr.f k x.f0 x.f1.f0 x.f1.f1 x.f1.f2 x.f1.f3 x.f2 x.f3 x.f4 x.f0 x.f1.f0 x.f1.f1 x.f1.f2 x.f1.f3 x.f2 x.f3 x.f4) true) : Ev (fun k => laws_eqExprS.f k l l) true := by
  refine Ev.succ ?_
  simp only [laws_eqExprS.f, if_true]
  exact eqLoop l (fun k i => laws_eqExprS.l0 k l l i) (fun k x y => laws_eqExpr.f k x.f0 x.f1.f0 x.f1.f1 x.f1.f2 x.f1.f3 x.f2 x.f3 x.f4 y.f0 y.f1.f0 y.f1.f1 y.f1.f2 y.f1.f3 y.f2 y.f3 y.f4)
    (fun k i h => by simp only [laws_eqExprS.l0]; rw [if_neg (by omega)])
    (fun k i h => by simp only [laws_eqExprS.l0]; rw [if_pos (by omega), if_pos (by omega), if_pos (by omega), rd_ie h, wrap64_succ h (by omega)])
    hs l.length 0 (by omega)
theorem eqExpr_refl {x : IE} (sm : SmE x) : Ev (fun k => laws_eqExpr.f k x.f0 x.f1.f0 x.f1.f1 x.f1.f2 x.f1.f3 x.f2 x.f3 x.f4 x.f0 x.f1.f0 x.f1.f1 x.f1.f2 x.f1.f3 x.f2 x.f3 x.f4) true := by
  induction sm with
  | @mk x h1 h2 h3 h4 h5 ih =>
    refine Ev.succ ?_
    simp only [laws_eqExpr.f, if_true]
    refine Ev.bind (eqValue_refl h1) ?_
    simp only [if_true]
    refine Ev.bind (eqExprS_of x.f4 h4 ih) ?_
    simp only [if_true]
    exact Ev.some _
end Go.Proofs.Ytnecmjmimdojcaa.Pur
