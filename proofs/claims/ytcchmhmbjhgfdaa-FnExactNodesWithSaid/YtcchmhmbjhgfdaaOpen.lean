/- What reads as a datum at a type is told by the print's kinds: an argument that came in, opened. -/
import Derived.Test.YtcchmhmbjhgfdaaWMini
import Derived.ChangeArms
import Derived.Deep.Slices
import Derived.Lib.SmallJoins
namespace Go.Proofs.Ytcchmhmbjhgfdaa.Opn
open Go.RowKit Go.ChangeShapes Go.WideShapes Go.Proofs.YtcchmhmbjhgfdaaW.PrintWords Go.Proofs.YtcchmhmbjhgfdaaW.PrintLast Go.Proofs.YtcchmhmbjhgfdaaW.PrintMore
set_option linter.unusedVariables false

/-- Whatever reads at type t with fuel n is told by the kind d, and fits. -/
def OpensAt (P : Program) (n : Nat) (t : TypeId) {α : Type} (d : Kd α) (q : α → Prop) : Prop :=
  ∀ (H : Type) (enc : TypeId × Value → H) (w : World) (cs : List Value) (x : DataW H × List MemPlace), DataW.trod enc P w 0 (fun _ => true) true n t cs = some x → ∃ y, d.K w y cs ∧ q y

section
variable {P : Program} {n : Nat} {t : TypeId}
theorem op_int {k : IntKind} (ht : P.underlying t = some (.int k)) : OpensAt P n t (Kd.int k) (fun y => (Lit.int k y).wf = true) := by
  intro H enc w cs x h
  obtain ⟨y, rfl, _, hw⟩ := DataW.trod_int ht h
  exact ⟨y, rfl, hw⟩
theorem op_bool (ht : P.underlying t = some .bool) : OpensAt P n t Kd.bool (fun _ => True) := by
  intro H enc w cs x h
  obtain ⟨y, rfl, _⟩ := DataW.trod_bool ht h
  exact ⟨y, rfl, trivial⟩
theorem op_string (ht : P.underlying t = some .string) : OpensAt P n t Kd.string (fun y => y.size ≤ maxLen) := by
  intro H enc w cs x h
  obtain ⟨y, rfl, _, hw⟩ := DataW.trod_string ht h
  exact ⟨y, rfl, hw⟩
theorem addr_add_block (a : Addr) (i : Nat) : (a.add i).block = a.block := by unfold Addr.add; split <;> rfl
theorem cells_cell {w : World} {a : Addr} {m : Nat} {cs : List Value} (h : w.cells? 0 a m = some cs) : cs.length = m ∧ ∀ i u, cs[i]? = some u → w.cell? (a.add i) = some u := by
  unfold World.cells? at h
  have hl := mapM_some_length h
  refine ⟨by simpa using hl, fun i u hi => ?_⟩
  have hi' : i < m := by
    have := (List.getElem?_eq_some_iff.1 hi).1
    simp at hl; omega
  have hg := mapM_some_get h i i (by simp [hi'])
  rw [hi] at hg
  simpa using hg
theorem op_slice {α : Type} {d : Kd α} {q : α → Prop} {e : TypeId} (ht : P.underlying t = some (.slice e)) (hc : P.cellsOf e = d.sz) (he : ∀ m, m < n → OpensAt P m e d q) :
    OpensAt P n t (Kd.slice e d) (fun l => l.length ≤ maxLen ∧ ∀ y ∈ l, q y) := by
  intro H enc w cs x h
  rcases DataW.trod_slice ht h with ⟨rfl, _⟩ | ⟨a, len, cap, elems, rest, m, rfl, rfl, rfl, hb, hl, hm, hlen, hel, hs1, hs2⟩
  · exact ⟨[], ⟨none, 0, rfl, Nat.le_refl _, rfl, by simp, fun h => absurd h (by simp)⟩, by simp, by simp⟩
  · have key : ∀ i, i < len → ∃ y cs', w.cells? 0 (a.add (i * P.cellsOf e)) (P.cellsOf e) = some cs' ∧ d.K w y cs' ∧ q y := by
      intro i hi
      have h1 := hel i hi
      rw [List.getElem?_eq_getElem (by omega)] at h1
      obtain ⟨cs', h2, h3⟩ := Option.bind_eq_some_iff.1 h1
      obtain ⟨y, hk, hq⟩ := he m (Nat.lt_succ_self m) H enc w cs' _ h3
      exact ⟨y, cs', h2, hk, hq⟩
    obtain ⟨ys, hys⟩ : ∃ ys : List α, ys.length = len ∧ ∀ i y, ys[i]? = some y → ∃ cs', w.cells? 0 (a.add (i * P.cellsOf e)) (P.cellsOf e) = some cs' ∧ d.K w y cs' ∧ q y := by
      clear hel hlen hl hm h hs1 hs2
      induction len with
      | zero => exact ⟨[], rfl, fun i y hi => by simp at hi⟩
      | succ k ih =>
        obtain ⟨ys, h1, h2⟩ := ih (fun i hi => key i (Nat.lt_succ_of_lt hi))
        obtain ⟨y, cs', h3, h4, h5⟩ := key k (Nat.lt_succ_self k)
        refine ⟨ys ++ [y], by simp [h1], fun i z hi => ?_⟩
        by_cases hk : i < k
        · rw [List.getElem?_append_left (by omega)] at hi
          exact h2 i z hi
        · rw [List.getElem?_append_right (by omega)] at hi
          have : i = k := by
            have := (List.getElem?_eq_some_iff.1 hi).1
            simp at this; omega
          subst this
          simp [h1] at hi
          subst hi
          exact ⟨cs', h3, h4, h5⟩
    obtain ⟨hyl, hy⟩ := hys
    subst hyl
    refine ⟨ys, ⟨some a, cap, rfl, hl, rfl, by unfold maxLen at hm; omega, fun _ => ⟨a, rfl, fun j p hp => ?_⟩⟩, Nat.le_trans hl hm, fun y hy' => ?_⟩
    · obtain ⟨cs', h2, hk, _⟩ := hy j p hp
      obtain ⟨h3, h4⟩ := cells_cell h2
      refine ⟨cs', by rw [h3, hc], hk, fun i u hi => ?_⟩
      have := h4 i u hi
      rw [Go.Deep.add_add, hc] at this
      exact this
    · obtain ⟨i, hi, rfl⟩ := List.getElem_of_mem hy'
      obtain ⟨_, _, _, hq⟩ := hy i _ (List.getElem?_eq_getElem hi)
      exact hq
theorem op_le {α : Type} {d : Kd α} {q : α → Prop} {m : Nat} (h : OpensAt P n t d q) (hm : m ≤ n) : OpensAt P m t d q := fun H enc w cs x hx => h H enc w cs x (DataW.trod_le hm hx)
theorem len_cons {l : List Value} {k : Nat} (h : l.length = k + 1) : ∃ c r, l = c :: r ∧ r.length = k := by
  cases l with
  | nil => simp at h
  | cons c r => exact ⟨c, r, rfl, by simpa using h⟩
/-- A struct's fields, each read with less fuel. -/
theorem fields_of {fs : Array Field} {H : Type} {enc : TypeId × Value → H} {w : World} {cs : List Value} {x : DataW H × List MemPlace} (ht : P.underlying t = some (.struct fs)) (h : DataW.trod enc P w 0 (fun _ => true) true n t cs = some x) :
    ∃ m, n = m + 1 ∧ cs.length = P.cellsOf t ∧ ∀ (i : Nat) (f : Field), fs[i]? = some f → ∃ y, DataW.trod enc P w 0 (fun _ => true) true m f.type ((cs.drop f.offset).take (P.cellsOf f.type)) = some y := by
  obtain ⟨xs, m, rfl, _, hl, hn, hf⟩ := DataW.trod_struct ht h
  refine ⟨m, rfl, hl, fun i f hi => ?_⟩
  have h1 := hf i f hi
  have : i < xs.length := by
    rw [hn]
    exact (Array.getElem?_eq_some_iff.1 hi).1
  rw [List.getElem?_eq_getElem this] at h1
  exact ⟨_, h1⟩
end
end Go.Proofs.Ytcchmhmbjhgfdaa.Opn
