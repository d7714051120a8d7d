/- Edges of a node. -/
import Derived.Test.YtcchmhmbjhgfdaaCm1
namespace Go.Proofs.Ytcchmhmbjhgfdaa.V
open Go
set_option linter.unusedVariables false
set_option linter.unusedSimpArgs false
set_option maxHeartbeats 16000000
theorem gGet_cons (k : Int) (p : Int × List Int) (m : Grp) : gGet k (p :: m) = if p.1 = k then p.2 else gGet k m := by
  unfold gGet gFind
  rw [List.findIdx?_cons]
  by_cases h : p.1 = k
  · simp [h]
  · simp only [h, decide_false, Bool.false_eq_true, if_false]
    cases hf : List.findIdx? (fun p => decide (p.1 = k)) m with
    | none => simp
    | some j => simp
theorem gAdd_cons (k i : Int) (p : Int × List Int) (m : Grp) : gAdd (p :: m) k i = if p.1 = k then (k, p.2 ++ [i]) :: m else p :: gAdd m k i := by
  have hg := gGet_cons k p m
  unfold gAdd
  unfold gFind
  rw [List.findIdx?_cons]
  by_cases h : p.1 = k
  · rw [if_pos h] at hg
    simp [h, hg]
  · rw [if_neg h] at hg
    simp only [h, decide_false, Bool.false_eq_true, if_false]
    cases hf : List.findIdx? (fun p => decide (p.1 = k)) m with
    | none => simp
    | some j => simp [hg]
theorem gGet_add (k k' i : Int) : ∀ m : Grp, gGet k (gAdd m k' i) = if k' = k then gGet k m ++ [i] else gGet k m
  | [] => by
    have h1 : gAdd [] k' i = [(k', [i])] := rfl
    have h2 : gGet k [] = [] := rfl
    rw [h1, gGet_cons, h2]; simp
  | p :: m => by
    rw [gAdd_cons]
    by_cases h : p.1 = k'
    · rw [if_pos h, gGet_cons, gGet_cons, h]
      by_cases h2 : k' = k <;> simp [h2]
    · rw [if_neg h, gGet_cons, gGet_cons, gGet_add k k' i m]
      by_cases h2 : k' = k
      · subst h2; simp [h]
      · simp [h2]
def atN (id : Int) (e : Eg) : Bool := decide (e.frm = id) || decide (e.to = id)
def plAt (id : Int) (es : List Eg) : List (Eg × Nat) := es.zipIdx.filter (fun p => atN id p.1)
theorem gGet_step (k : Int) (m : Grp) (p : Eg × Nat) : gGet k (gStep m p) = gGet k m ++ (if atN k p.1 = true then [(p.2 : Int)] else []) := by
  unfold gStep
  by_cases h : p.1.to = p.1.frm
  · simp only [h, ne_eq, not_true_eq_false, if_false, gGet_add, atN]
    by_cases h2 : p.1.frm = k <;> simp [h2]
  · simp only [ne_eq, h, not_false_eq_true, if_true, gGet_add, atN]
    by_cases h2 : p.1.frm = k
    · have h3 : ¬ p.1.to = k := fun h3 => h (h3.trans h2.symm)
      simp [h2, h3]
    · by_cases h3 : p.1.to = k <;> simp [h2, h3]
theorem gGet_fold (k : Int) : ∀ (l : List (Eg × Nat)) (m : Grp), gGet k (l.foldl gStep m) = gGet k m ++ (l.filter (fun p => atN k p.1)).map (fun p => (p.2 : Int))
  | [], m => by simp
  | p :: l, m => by
    rw [List.foldl_cons, gGet_fold k l, gGet_step, List.filter_cons]
    by_cases h : atN k p.1 = true <;> simp [h]
theorem gGet_bsd (k : Int) (es : List Eg) : gGet k (bsd es) = (plAt k es).map (fun p => (p.2 : Int)) := by
  unfold bsd plAt
  rw [gGet_fold]
  have : gGet k [] = [] := rfl
  rw [this, List.nil_append]
theorem plAt_mem {id : Int} {es : List Eg} {p : Eg × Nat} (h : p ∈ plAt id es) : es[p.2]? = some p.1 := by
  have h1 := (List.mem_filter.1 h).1
  exact List.mem_zipIdx_iff_getElem?.1 h1
def goes (id way : Int) (kd : Tx) (e : Eg) : Bool := (decide (kd = []) || decide (e.kind = kd)) && ((decide (0 ≤ way) && decide (e.frm = id)) || (decide (way ≤ 0) && decide (e.to = id)))
def idsOf (id way : Int) (kd : Tx) (es : List Eg) : List Int := (es.filter (goes id way kd)).map Eg.id
theorem goes_at {id way : Int} {kd : Tx} {e : Eg} (h : goes id way kd e = true) : atN id e = true := by
  simp only [goes, atN, Bool.and_eq_true, Bool.or_eq_true, decide_eq_true_eq] at h ⊢
  rcases h.2 with h | h
  · exact .inl h.2
  · exact .inr h.2
theorem idsOf_pl (id way : Int) (kd : Tx) (es : List Eg) : ((plAt id es).filter (fun p => goes id way kd p.1)).map (fun p => p.1.id) = idsOf id way kd es := by
  unfold plAt idsOf
  rw [List.filter_filter]
  have h1 : ∀ p : Eg × Nat, (goes id way kd p.1 && atN id p.1) = goes id way kd p.1 := fun p => by
    cases h : goes id way kd p.1 with
    | false => rfl
    | true => simp [goes_at h]
  simp only [h1]
  have h2 : ∀ (l : List Eg) (n : Nat), ((l.zipIdx n).filter (fun p => goes id way kd p.1)).map (fun p => p.1.id) = (l.filter (goes id way kd)).map Eg.id := by
    intro l
    induction l with
    | nil => simp
    | cons e l ih =>
      intro n
      rw [List.zipIdx_cons, List.filter_cons, List.filter_cons]
      by_cases h : goes id way kd e = true <;> simp [h, ih]
  exact h2 es 0
theorem idsOf_none {g : Gr} (hg : GOk g) {id way : Int} {kd : Tx} (h : posOf Nd.id id g.nodes < 0) : idsOf id way kd g.edges = [] := by
  unfold idsOf
  rw [List.map_eq_nil_iff, List.filter_eq_nil_iff]
  intro e he hgo
  have h1 := hg.eok e he
  have h2 := goes_at hgo
  simp only [atN, Bool.or_eq_true, decide_eq_true_eq] at h2
  rcases h2 with rfl | rfl
  · have := h1.2.2.1; omega
  · have := h1.2.2.2; omega
open Classical in
noncomputable def edgesOf (g : Gr) (id way : Int) (kd : Tx) : List Int := if GOk g ∧ -1 ≤ way ∧ way ≤ 1 then idsOf id way kd g.edges else []
theorem goesFrom_c (e : Eg) (id way : Int) (kd : Tx) : Rv Try.prog 88 [.agg (sE.I e), .i .i64 id, .i .i64 way, .s kd] (.b (goes id way kd e)) := by
  obtain ⟨a, b, c, d, ps⟩ := e
  refine via_impl_goesFrom (by simp) ?_
  by_cases h1 : kd = [] <;> by_cases h2 : b = kd <;> by_cases h3 : 0 ≤ way <;> by_cases h4 : c = id <;> by_cases h5 : way ≤ 0 <;> by_cases h6 : d = id <;>
    (simp [pc_impl_goesFrom, h1, h2, h3, h4, h5, h6]; try exact fin_val rfl (by simp [goes, h1, h2, h3, h4, h5, h6]) (by simp))
end Go.Proofs.Ytcchmhmbjhgfdaa.V
