/- How many marks a graph takes: no more than four times its size. -/
import Derived.Test.YtcchmhmbjhgfdaaPGBase
import Derived.Test.YtcchmhmbjhgfdaaMkT
namespace Go.Proofs.Ytcchmhmbjhgfdaa.Pur
open Go.RowKit Go.Proofs.Ytcchmhmbjhgfdaa.G Go.Proofs.Ytcchmhmbjhgfdaa.Mk Go.Proofs.YtcchmhmbjhgfdaaW.PrintWords Go.Proofs.YtcchmhmbjhgfdaaW.PrintLast
set_option linter.unusedVariables false
set_option linter.unusedSimpArgs false

/-- What is left of a size: four times what was taken covers c. -/
def Sc (f : Nat → Option Int) (left : Int) (c : Nat) : Prop := ∃ r, Ev f r ∧ r ≤ left ∧ (0 ≤ r → (c : Int) ≤ 4 * (left - r))
theorem Sc.le {f : Nat → Option Int} {left : Int} {c c' : Nat} (h : Sc f left c) (e : c' ≤ c) : Sc f left c' := by
  obtain ⟨r, hr, hl, hp⟩ := h
  exact ⟨r, hr, hl, fun h => by have := hp h; omega⟩
theorem Sc.bind {f : Nat → Option Int} {g : Nat → Int → Option Int} {left : Int} {c c' : Nat} (h0 : 0 ≤ left) (h : Sc f left c) (hg : ∀ r, 0 ≤ r → r ≤ left → Sc (fun k => g k r) r c') : Sc (fun k => (f k).bind fun t => if t < 0 then some (-1) else g k t) left (c + c') := by
  obtain ⟨r, hr, hl, hp⟩ := h
  by_cases n : r < 0
  · refine ⟨-1, Ev.bind hr ?_, by omega, fun h => by omega⟩
    simp only [if_pos n]
    exact Ev.some _
  · obtain ⟨q, hq, hql, hqp⟩ := hg r (by omega) hl
    refine ⟨q, Ev.bind hr ?_, by omega, fun h => by have := hp (by omega); have := hqp h; omega⟩
    simp only [if_neg n]
    exact hq
theorem Sc.last {f : Nat → Option Int} {left : Int} {c : Nat} (h0 : 0 ≤ left) (h : Sc f left c) : Sc (fun k => (f k).bind fun t => if t < 0 then some (-1) else some t) left c :=
  (Sc.bind (g := fun _ t => some t) (c' := 0) h0 h (fun r h1 h2 => ⟨r, Ev.some _, Int.le_refl _, fun _ => by omega⟩)).le (by omega)
theorem Sc.less {g : Nat → Int → Option Int} {left : Int} {n : Nat} {c : Nat} (h0 : 0 ≤ left) (h1 : left ≤ 1048576) (hn : n ≤ maxLen) (hg : 0 ≤ left - n → Sc (fun k => g k (left - n)) (left - n) c) : Sc (fun k => if wrap64 (left - (n : Int)) < 0 then some (-1) else g k (wrap64 (left - (n : Int)))) left (4 * n + c) := by
  unfold maxLen at hn
  rw [wrap64_id (by omega) (by omega)]
  by_cases m : left - (n : Int) < 0
  · refine ⟨-1, ?_, by omega, fun h => by omega⟩
    simp only [if_pos m]
    exact Ev.some _
  · obtain ⟨q, hq, hql, hqp⟩ := hg (by omega)
    refine ⟨q, ?_, by omega, fun h => by have := hqp h; omega⟩
    simp only [if_neg m]
    exact hq
theorem scLoop {α : Type} (l : List α) (L : Nat → Int → Int → Option Int) (step : Nat → α → Int → Option Int) (c : α → Nat)
    (hend : ∀ k left (i : Nat), ¬ i < l.length → L (k + 1) left i = some left)
    (hstep : ∀ k left (i : Nat) (h : i < l.length), L (k + 1) left i = (step k l[i] left).bind fun t => if t < 0 then some (-1) else L k t ((i + 1 : Nat) : Int))
    (hs : ∀ x ∈ l, ∀ left : Int, 0 ≤ left → left ≤ 1048576 → Sc (fun k => step k x left) left (c x)) :
    ∀ (d i : Nat) (left : Int), l.length = i + d → 0 ≤ left → left ≤ 1048576 → Sc (fun k => L k left i) left (cnts c (l.drop i)) := by
  intro d
  induction d with
  | zero =>
    intro i left hi h0 h1
    refine ⟨left, Ev.succ (Ev.of_eq fun k => hend k left i (by omega)), Int.le_refl _, fun _ => ?_⟩
    rw [List.drop_of_length_le (by omega)]
    simp [cnts]
  | succ d ih =>
    intro i left hi h0 h1
    have hlt : i < l.length := by omega
    obtain ⟨r, hr, hle, hp⟩ := hs l[i] (List.getElem_mem hlt) left h0 h1
    by_cases hn : r < 0
    · refine ⟨-1, Ev.succ ?_, by omega, fun h => by omega⟩
      simp only [hstep _ _ _ hlt]
      refine Ev.bind hr ?_
      simp only [if_pos hn]
      exact Ev.some _
    · obtain ⟨q, hq, hle', hp'⟩ := ih (i + 1) r (by omega) (by omega) (by omega)
      refine ⟨q, Ev.succ ?_, by omega, fun h => ?_⟩
      · simp only [hstep _ _ _ hlt]
        refine Ev.bind hr ?_
        simp only [if_neg hn]
        exact hq
      · have h1 := hp (by omega)
        have h2 := hp' h
        have e : cnts c (l.drop i) = c l[i] + cnts c (l.drop (i + 1)) := by
          unfold cnts
          rw [List.drop_eq_getElem_cons hlt, List.map_cons, List.sum_cons]
        rw [e]; omega
theorem Sc.list {α : Type} {l : List α} {L : Nat → Int → Int → Option Int} {step : Nat → α → Int → Option Int} {c : α → Nat} {left : Int} (h0 : 0 ≤ left) (h1 : left ≤ 1048576) (hl : l.length ≤ maxLen)
    (hend : ∀ k left (i : Nat), ¬ i < l.length → L (k + 1) left i = some left)
    (hstep : ∀ k left (i : Nat) (h : i < l.length), l.length ≤ 9223372036854775807 → L (k + 1) left i = (step k l[i] left).bind fun t => if t < 0 then some (-1) else L k t ((i + 1 : Nat) : Int))
    (hs : ∀ x ∈ l, ∀ left : Int, 0 ≤ left → left ≤ 1048576 → Sc (fun k => step k x left) left (c x)) :
    Sc (fun k => if wrap64 (left - (l.length : Int)) < 0 then some (-1) else L k (wrap64 (left - (l.length : Int))) 0) left (4 * l.length + cnts c l) := by
  refine Sc.less (g := fun k t => L k t 0) h0 h1 hl (fun h => ?_)
  unfold maxLen at hl
  exact scLoop l L step c hend (fun k left i h => hstep k left i h (by omega)) hs l.length 0 (left - l.length) (by omega) h (by omega)
theorem Sc.succ {g : Nat → Option Int} {left : Int} {c : Nat} (h : Sc (fun k => g (k + 1)) left c) : Sc g left c := by
  obtain ⟨r, hr, hl, hp⟩ := h
  exact ⟨r, Ev.succ hr, hl, hp⟩
theorem cnts_add {α : Type} (f : α → Nat) (n : Nat) (l : List α) : cnts (fun x => n + f x) l = n * l.length + cnts f l := by
  induction l with
  | nil => simp [cnts]
  | cons x l ih =>
    simp only [cnts, List.map_cons, List.sum_cons, List.length_cons, Nat.mul_add] at ih ⊢
    omega
theorem cnts_map {α β : Type} (f : β → Nat) (g : α → β) (l : List α) : cnts f (l.map g) = cnts (fun x => f (g x)) l := by simp [cnts, Function.comp_def]
/-- A law's value, by the marks of what lies within. -/
def inV (x : LV) : Nat := cntVs (x.f3.map cV)
theorem inV_eq (x : LV) : cntV (cV x) = 3 + inV x := by rw [cntV_eq, cV_eq]; rfl
theorem cntVs_in (l : List LV) : cntVs (l.map cV) = 3 * l.length + cnts inV l := by
  have : cntVs (l.map cV) = cnts (fun x => 3 + inV x) l := by
    show cnts cntV (l.map cV) = _
    rw [cnts_map]
    simp only [inV_eq]
  rw [this, cnts_add]
theorem szValue_sc {x : LV} (ok : Ok45 x) : ∀ left : Int, 0 ≤ left → left ≤ 1048576 → Sc (fun k => laws_szValue.f k x.f0 x.f1 x.f2 x.f3 left) left (inV x) := by
  induction ok with
  | @mk x h0 h1 h2 h3 h4 ih =>
    intro left l0 l1
    refine Sc.succ ?_
    simp only [laws_szValue.f]
    refine (Sc.less (g := fun k t => (laws_szValueS.f k x.f3 t).bind fun t => if t < 0 then some (-1) else some t) (c := inV x) l0 l1 h2 (fun h => Sc.last h ?_)).le (by omega)
    refine Sc.succ ?_
    simp only [laws_szValueS.f]
    refine (Sc.list (L := fun k left i => laws_szValueS.l0 k x.f3 left i) (step := fun k x left => laws_szValue.f k x.f0 x.f1 x.f2 x.f3 left) (c := inV) h (by omega) h3
      (fun k left i h => by simp only [laws_szValueS.l0]; rw [if_neg (by omega)])
      (fun k left i h hb => by simp only [laws_szValueS.l0]; rw [if_pos (by omega), if_pos (by omega), rd_lv h, wrap64_succ h hb]) ih).le ?_
    show cntVs (x.f3.map cV) ≤ _
    rw [cntVs_in]
    omega
theorem szStringS_sc {l : List ByteArray} (hl : l.length ≤ maxLen) (hs : ∀ x ∈ l, x.size ≤ maxLen) {left : Int} (h0 : 0 ≤ left) (h1 : left ≤ 1048576) : Sc (fun k => laws_szStringS.f k l left) left (cnts one_ l) := by
  unfold laws_szStringS.f
  refine (Sc.list (L := fun k left i => laws_szStringS.l0 k l left i) (step := fun _ x left => some (wrap64 (left - (x.size : Int)))) (c := fun _ => 0) h0 h1 hl
    (fun k left i h => by simp only [laws_szStringS.l0]; rw [if_neg (by omega)])
    (fun k left i h hb => by simp only [laws_szStringS.l0]; rw [if_pos (by omega), if_pos (by omega), rd_st h, wrap64_succ h hb]; rfl)
    (fun x hx left h0 h1 => ?_)).le ?_
  · have := hs x hx
    unfold maxLen at this
    exact ⟨_, Ev.some _, by rw [wrap64_id (by omega) (by omega)]; omega, fun h => by rw [wrap64_id (by omega) (by omega)] at h ⊢; omega⟩
  · have : cnts one_ l = l.length := by
      have := cnts_add (fun _ : ByteArray => 0) 1 l
      have e : ∀ l : List ByteArray, cnts (fun _ : ByteArray => 0) l = 0 := by
        intro l
        induction l with
        | nil => rfl
        | cons x l ih => simpa [cnts] using ih
      rw [e l] at this
      show cnts (fun _ => 1) l = _
      simpa using this
    omega
def inP (x : LP) : Nat := inV x.f1
theorem szProp_sc {x : LP} (ok : Ok136 x) {left : Int} (h0 : 0 ≤ left) (h1 : left ≤ 1048576) : Sc (fun k => laws_szProp.f k x.f0 x.f1.f0 x.f1.f1 x.f1.f2 x.f1.f3 left) left (inP x) := by
  obtain ⟨k0, k1⟩ := ok.all
  unfold laws_szProp.f
  exact (Sc.less (g := fun k t => (laws_szValue.f k x.f1.f0 x.f1.f1 x.f1.f2 x.f1.f3 t).bind fun t107 => if t107 < 0 then some (-1) else some t107) (c := inV x.f1) h0 h1 k0 (fun h => Sc.last h (szValue_sc k1 _ h (by omega)))).le (by unfold inP; omega)
theorem cntP_eq (x : LP) : cntP (cP x) = 4 + inP x := by unfold cntP inP inV cP; rw [cV_eq]
theorem cntPs (l : List LP) : cnts cntP (l.map cP) = 4 * l.length + cnts inP l := by
  rw [cnts_map]; simp only [cntP_eq]; exact cnts_add _ _ _
theorem szPropS_sc {l : List LP} (hl : l.length ≤ maxLen) (ok : ∀ x ∈ l, Ok136 x) {left : Int} (h0 : 0 ≤ left) (h1 : left ≤ 1048576) : Sc (fun k => laws_szPropS.f k l left) left (cnts cntP (l.map cP)) := by
  unfold laws_szPropS.f
  rw [cntPs]
  exact Sc.list (L := fun k left i => laws_szPropS.l0 k l left i) (step := fun k x left => laws_szProp.f k x.f0 x.f1.f0 x.f1.f1 x.f1.f2 x.f1.f3 left) (c := inP) h0 h1 hl
    (fun k left i h => by simp only [laws_szPropS.l0]; rw [if_neg (by omega)])
    (fun k left i h hb => by simp only [laws_szPropS.l0]; rw [if_pos (by omega), if_pos (by omega), rd_lp h, wrap64_succ h hb])
    (by intro x hx left h0 h1; exact szProp_sc (ok x hx) h0 h1)
def inN (x : LN) : Nat := cnts one_ x.f1 + cnts cntP (x.f2.map cP)
theorem szNode_sc {x : LN} (ok : Ok170 x) {left : Int} (h0 : 0 ≤ left) (h1 : left ≤ 1048576) : Sc (fun k => laws_szNode.f k x.f0 x.f1 x.f2 left) left (inN x) := by
  obtain ⟨k0, k1, k2, k3, k4⟩ := ok.all
  unfold laws_szNode.f
  exact Sc.bind (g := fun k t => (laws_szPropS.f k x.f2 t).bind fun t112 => if t112 < 0 then some (-1) else some t112) h0 (szStringS_sc k1 k2 h0 h1) (fun r h h' => Sc.last h (szPropS_sc k3 k4 h (by omega)))
theorem szNodeS_sc {l : List LN} (hl : l.length ≤ maxLen) (ok : ∀ x ∈ l, Ok170 x) {left : Int} (h0 : 0 ≤ left) (h1 : left ≤ 1048576) : Sc (fun k => laws_szNodeS.f k l left) left (cnts cntN (l.map cN)) := by
  unfold laws_szNodeS.f
  refine (Sc.list (L := fun k left i => laws_szNodeS.l0 k l left i) (step := fun k x left => laws_szNode.f k x.f0 x.f1 x.f2 left) (c := inN) h0 h1 hl
    (fun k left i h => by simp only [laws_szNodeS.l0]; rw [if_neg (by omega)])
    (fun k left i h hb => by simp only [laws_szNodeS.l0]; rw [if_pos (by omega), if_pos (by omega), rd_ln h, wrap64_succ h hb])
    (by intro x hx left h0 h1; exact szNode_sc (ok x hx) h0 h1)).le ?_
  have : cnts cntN (l.map cN) = 1 * l.length + cnts inN l := by
    rw [cnts_map]
    have e : (fun x => cntN (cN x)) = fun x => 1 + inN x := by funext x; unfold cntN inN cN; simp only [Nat.add_assoc]
    rw [e]; exact cnts_add _ _ _
  omega
def inG (x : LG) : Nat := cnts cntP (x.f4.map cP)
theorem szEdge_sc {x : LG} (ok : Ok173 x) {left : Int} (h0 : 0 ≤ left) (h1 : left ≤ 1048576) : Sc (fun k => laws_szEdge.f k x.f0 x.f1 x.f2 x.f3 x.f4 left) left (inG x) := by
  obtain ⟨k0, k1, k2, k3, k4, k5⟩ := ok.all
  unfold laws_szEdge.f
  exact (Sc.less (g := fun k t => (laws_szPropS.f k x.f4 t).bind fun t116 => if t116 < 0 then some (-1) else some t116) (c := inG x) h0 h1 k1 (fun h => Sc.last h (szPropS_sc k4 k5 h (by omega)))).le (by omega)
theorem szEdgeS_sc {l : List LG} (hl : l.length ≤ maxLen) (ok : ∀ x ∈ l, Ok173 x) {left : Int} (h0 : 0 ≤ left) (h1 : left ≤ 1048576) : Sc (fun k => laws_szEdgeS.f k l left) left (cnts cntG (l.map cG)) := by
  unfold laws_szEdgeS.f
  refine (Sc.list (L := fun k left i => laws_szEdgeS.l0 k l left i) (step := fun k x left => laws_szEdge.f k x.f0 x.f1 x.f2 x.f3 x.f4 left) (c := inG) h0 h1 hl
    (fun k left i h => by simp only [laws_szEdgeS.l0]; rw [if_neg (by omega)])
    (fun k left i h hb => by simp only [laws_szEdgeS.l0]; rw [if_pos (by omega), if_pos (by omega), rd_lg h, wrap64_succ h hb])
    (by intro x hx left h0 h1; exact szEdge_sc (ok x hx) h0 h1)).le ?_
  have : cnts cntG (l.map cG) = 4 * l.length + cnts inG l := by
    rw [cnts_map]
    have e : (fun x => cntG (cG x)) = fun x => 4 + inG x := by funext x; rfl
    rw [e]; exact cnts_add _ _ _
  omega
theorem szGraph_sc {x : S25} (ok : Ok25 x) {left : Int} (h0 : 0 ≤ left) (h1 : left ≤ 1048576) : Sc (fun k => laws_szGraph.f k x.f0 x.f1 x.f2 x.f3 left) left (cntGr (x.f0.map cN) (x.f1.map cG)) := by
  obtain ⟨k0, k1, k2, k3, k4, k5⟩ := ok.all
  unfold laws_szGraph.f
  exact Sc.bind (g := fun k t => (laws_szEdgeS.f k x.f1 t).bind fun t121 => if t121 < 0 then some (-1) else some t121) h0 (szNodeS_sc k0 k1 h0 h1) (fun r h h' => Sc.last h (szEdgeS_sc k2 k3 h (by omega)))
theorem ev_unique {α : Type} {f : Nat → Option α} {r r' : α} (h : Ev f r) (h' : Ev f r') : r = r' := by
  obtain ⟨a, ha⟩ := h
  obtain ⟨b, hb⟩ := h'
  have h1 := ha (a + b) (by omega)
  have h2 := hb (a + b) (by omega)
  rw [h1] at h2
  exact Option.some.inj h2
/-- Of a graph that the law asks at all: its marks. -/
theorem marks_fit {x : S25} (ok : Ok25 x) {r : Int} (hr : Ev (fun k => laws_szGraph.f k x.f0 x.f1 x.f2 x.f3 1048576) r) (h : 0 ≤ r) : cntGr (x.f0.map cN) (x.f1.map cG) ≤ 4194304 := by
  obtain ⟨q, hq, hl, hp⟩ := szGraph_sc ok (left := 1048576) (by omega) (by omega)
  obtain rfl := ev_unique hr hq
  have := hp h
  omega
end Go.Proofs.Ytcchmhmbjhgfdaa.Pur
