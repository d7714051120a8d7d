/- Values: sizes, copies, equality, and what ValueOk says, in the program and in the reference. -/
import Derived.Test.YtcchmhmbjhgfdaaPBase
import Derived.Test.YtcchmhmbjhgfdaaGx6
import Derived.Test.YtcchmhmbjhgfdaaGx7
import Derived.Test.YtcchmhmbjhgfdaaGx1
import Derived.Test.YtcchmhmbjhgfdaaGx9
import Derived.Test.YtcchmhmbjhgfdaaGx13
namespace Go.Proofs.Ytcchmhmbjhgfdaa.Pur
open Go.RowKit Go.Proofs.Ytcchmhmbjhgfdaa.G Go.Proofs.YtcchmhmbjhgfdaaW.PrintWords Go.Proofs.YtcchmhmbjhgfdaaW.PrintLast
set_option linter.unusedVariables false
set_option linter.unusedSimpArgs false

abbrev LV := S45
abbrev IV := S49
theorem rd_lv {l : List LV} {i : Nat} (h : i < l.length) : rd_T45 l (i : Int) = l[i] := getD_nat h
theorem rd_iv {l : List IV} {i : Nat} (h : i < l.length) : rd_T49 l (i : Int) = l[i] := getD_nat h
/-- Small: texts and lists of at most 2^20, all the way down. -/
inductive SmL : LV → Prop
  | mk {x : LV} (h2 : x.f2.size ≤ 1048576) (h3 : x.f3.length ≤ 1048576) (h4 : ∀ y ∈ x.f3, SmL y) : SmL x
inductive Sm : IV → Prop
  | mk {x : IV} (h2 : x.f2.size ≤ 1048576) (h3 : x.f3.length ≤ 1048576) (h4 : ∀ y ∈ x.f3, Sm y) : Sm x
theorem SmL.all {x : LV} (h : SmL x) : x.f2.size ≤ 1048576 ∧ x.f3.length ≤ 1048576 ∧ ∀ y ∈ x.f3, SmL y := by
  cases h with
  | mk h2 h3 h4 => exact ⟨h2, h3, h4⟩
theorem Sm.all {x : IV} (h : Sm x) : x.f2.size ≤ 1048576 ∧ x.f3.length ≤ 1048576 ∧ ∀ y ∈ x.f3, Sm y := by
  cases h with
  | mk h2 h3 h4 => exact ⟨h2, h3, h4⟩
def SmLs (l : List LV) : Prop := l.length ≤ 1048576 ∧ ∀ x ∈ l, SmL x
def Sms (l : List IV) : Prop := l.length ≤ 1048576 ∧ ∀ x ∈ l, Sm x
theorem iv_eta (x : IV) : x = ⟨x.f0, x.f1, x.f2, x.f3⟩ := by cases x; rfl
/-- The program's value of a law's value. -/
def cV : LV → IV
  | ⟨a, b, c, l⟩ => ⟨a, b, c, l.attach.map fun x => cV x.1⟩
termination_by x => SizeOf.sizeOf x
decreasing_by
  have := List.sizeOf_lt_of_mem x.2
  simp
  omega
theorem cV_eq (x : LV) : cV x = ⟨x.f0, x.f1, x.f2, x.f3.map cV⟩ := by
  obtain ⟨a, b, c, l⟩ := x
  rw [cV]
  simp
theorem Sm.of {x : LV} (h : SmL x) : Sm (cV x) := by
  induction h with
  | @mk x h2 h3 h4 ih =>
    rw [cV_eq]
    refine .mk h2 (by simpa using h3) (fun y hy => ?_)
    obtain ⟨z, hz, rfl⟩ := List.mem_map.1 hy
    exact ih z hz
theorem Sms.of {l : List LV} (h : SmLs l) : Sms (l.map cV) := ⟨by simpa using h.1, fun y hy => by
  obtain ⟨z, hz, rfl⟩ := List.mem_map.1 hy
  exact Sm.of (h.2 z hz)⟩

theorem szValueS_of (l : List LV) (hl : l.length ≤ maxLen) (hs : ∀ x ∈ l, ∀ left : Int, 0 ≤ left → left ≤ 1048576 → ∃ r, Ev (fun k => laws_szValue.f k x.f0 x.f1 x.f2 x.f3 left) r ∧ r ≤ left ∧ (0 ≤ r → SmL x)) (left : Int) (h0 : 0 ≤ left) (h1 : left ≤ 1048576) :
    ∃ r, Ev (fun k => laws_szValueS.f k l left) r ∧ r ≤ left ∧ (0 ≤ r → SmLs l) := by
  unfold maxLen at hl
  by_cases c : left - (l.length : Int) < 0
  · refine ⟨-1, Ev.succ ?_, by omega, fun h => by omega⟩
    simp only [laws_szValueS.f]
    rw [wrap64_id (by omega) (by omega)]
    simp only [if_pos c]; exact Ev.some _
  · obtain ⟨r, hr, hle, hp⟩ := szLoop l (fun k left i => laws_szValueS.l0 k l left i) (fun k x left => laws_szValue.f k x.f0 x.f1 x.f2 x.f3 left) SmL
      (fun k left i h => by simp only [laws_szValueS.l0]; rw [if_neg (by omega)])
      (fun k left i h => by simp only [laws_szValueS.l0]; rw [if_pos (by omega), if_pos (by omega), rd_lv h, wrap64_succ h (by omega)])
      hs l.length 0 (left - l.length) (by omega) (by omega) (by omega)
    refine ⟨r, Ev.succ ?_, by omega, fun h => ⟨by omega, fun x hx => ?_⟩⟩
    · simp only [laws_szValueS.f]
      rw [wrap64_id (by omega) (by omega)]
      simp only [if_neg c]
      exact hr
    · obtain ⟨j, hj, rfl⟩ := List.getElem_of_mem hx
      exact hp h j hj (Nat.zero_le _)
theorem szValue_ev {x : LV} (ok : Ok45 x) : ∀ left : Int, 0 ≤ left → left ≤ 1048576 → ∃ r, Ev (fun k => laws_szValue.f k x.f0 x.f1 x.f2 x.f3 left) r ∧ r ≤ left ∧ (0 ≤ r → SmL x) := by
  induction ok with
  | @mk x h0 h1 h2 h3 h4 ih =>
    intro left l0 l1
    have h2' := h2
    unfold maxLen at h2'
    by_cases c : left - (x.f2.size : Int) < 0
    · refine ⟨-1, Ev.succ ?_, by omega, fun h => by omega⟩
      simp only [laws_szValue.f]
      rw [wrap64_id (by omega) (by omega)]
      simp only [if_pos c]; exact Ev.some _
    · obtain ⟨r, hr, hle, hp⟩ := szValueS_of x.f3 h3 ih (left - (x.f2.size : Int)) (by omega) (by omega)
      by_cases hn : r < 0
      · refine ⟨-1, Ev.succ ?_, by omega, fun h => by omega⟩
        simp only [laws_szValue.f]
        rw [wrap64_id (by omega) (by omega)]
        simp only [if_neg c]
        refine Ev.bind hr ?_
        simp only [if_pos hn]; exact Ev.some _
      · refine ⟨r, Ev.succ ?_, by omega, fun h => ?_⟩
        · simp only [laws_szValue.f]
          rw [wrap64_id (by omega) (by omega)]
          simp only [if_neg c]
          refine Ev.bind hr ?_
          simp only [if_neg hn]; exact Ev.some _
        · obtain ⟨h5, h6⟩ := hp h
          exact .mk (by omega) h5 h6
theorem szValueS_ev (l : List LV) (hl : l.length ≤ maxLen) (ok : ∀ x ∈ l, Ok45 x) (left : Int) (h0 : 0 ≤ left) (h1 : left ≤ 1048576) :
    ∃ r, Ev (fun k => laws_szValueS.f k l left) r ∧ r ≤ left ∧ (0 ≤ r → SmLs l) := szValueS_of l hl (fun x hx => szValue_ev (ok x hx)) left h0 h1

theorem toValueS_of (l : List LV) (hl : l.length ≤ 1048576) (hs : ∀ x ∈ l, Ev (fun k => laws_toValue.f k x.f0 x.f1 x.f2 x.f3) ((cV x).f0, (cV x).f1, (cV x).f2, (cV x).f3)) : Ev (fun k => laws_toValueS.f k l) (l.map cV) := by
  refine Ev.succ ?_
  simp only [laws_toValueS.f, if_pos (show 0 ≤ (l.length : Int) by omega), Int.toNat_natCast, if_pos (show l.length ≤ 5026338869833 by omega)]
  have h := toLoop l (fun k out i => laws_toValueS.l0 k l out i) (fun k x => (laws_toValue.f k x.f0 x.f1 x.f2 x.f3).bind fun b => some (⟨b.1, b.2.1, b.2.2.1, b.2.2.2⟩ : IV)) cV
    (fun k out i h => by simp only [laws_toValueS.l0]; rw [if_neg (by omega)])
    (fun k out i h ho => by
      simp only [laws_toValueS.l0]
      rw [if_pos (by omega), if_pos (by omega), rd_lv h, wrap64_succ h (by omega)]
      cases laws_toValue.f k l[i].f0 l[i].f1 l[i].f2 l[i].f3 with
      | none => rfl
      | some b => simp only [Option.bind_some]; rw [if_pos (by omega)]; rfl)
    (fun x hx => Ev.bind (hs x hx) (Ev.eq (Ev.some _) (iv_eta _).symm)) l.length 0 (List.replicate l.length z49) (by omega) (by simp)
  simpa using h
theorem toValue_ev {x : LV} (sm : SmL x) : Ev (fun k => laws_toValue.f k x.f0 x.f1 x.f2 x.f3) ((cV x).f0, (cV x).f1, (cV x).f2, (cV x).f3) := by
  induction sm with
  | @mk x h2 h3 h4 ih =>
    refine Ev.succ ?_
    simp only [laws_toValue.f]
    refine Ev.bind (toValueS_of x.f3 h3 ih) (Ev.eq (Ev.some _) ?_)
    rw [cV_eq]
theorem toValueS_ev {l : List LV} (sm : SmLs l) : Ev (fun k => laws_toValueS.f k l) (l.map cV) := toValueS_of l sm.1 (fun x hx => toValue_ev (sm.2 x hx))

theorem eqValueS_of (l : List IV) (hl : l.length ≤ 1048576) (hs : ∀ x ∈ l, Ev (fun k => laws_eqValue.f k x.f0 x.f1 x.f2 x.f3 x.f0 x.f1 x.f2 x.f3) true) : Ev (fun k => laws_eqValueS.f k l l) true := by
  refine Ev.succ ?_
  simp only [laws_eqValueS.f, if_true]
  exact eqLoop l (fun k i => laws_eqValueS.l0 k l l i) (fun k x y => laws_eqValue.f k x.f0 x.f1 x.f2 x.f3 y.f0 y.f1 y.f2 y.f3)
    (fun k i h => by simp only [laws_eqValueS.l0]; rw [if_neg (by omega)])
    (fun k i h => by simp only [laws_eqValueS.l0]; rw [if_pos (by omega), if_pos (by omega), if_pos (by omega), rd_iv h, wrap64_succ h (by omega)])
    hs l.length 0 (by omega)
theorem eqValue_refl {x : IV} (sm : Sm x) : Ev (fun k => laws_eqValue.f k x.f0 x.f1 x.f2 x.f3 x.f0 x.f1 x.f2 x.f3) true := by
  induction sm with
  | @mk x h2 h3 h4 ih =>
    refine Ev.succ ?_
    simp only [laws_eqValue.f, if_true]
    refine Ev.bind (eqValueS_of x.f3 h3 ih) ?_
    simp only [if_true]
    exact Ev.some _
theorem eqValueS_refl {l : List IV} (sm : Sms l) : Ev (fun k => laws_eqValueS.f k l l) true := eqValueS_of l sm.1 (fun x hx => eqValue_refl (sm.2 x hx))
end Go.Proofs.Ytcchmhmbjhgfdaa.Pur
