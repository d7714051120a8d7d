/- What reads as a datum at a type is told by trees: an argument that came in, opened. -/
import Derived.Test.YtcchmhmbjhgfdaaVc
import Derived.ChangeArms
import Derived.Deep.Slices
import Derived.Lib.SmallJoins
import Derived.OpenShut
namespace Go.Proofs.Ytcchmhmbjhgfdaa.V
open Go Go.RowKit Go.ChangeShapes Go.WideShapes
set_option linter.unusedVariables false
/-- Whatever reads at type t with fuel n is told by trees, and these are such. -/
def OpensT (P : Program) (n : Nat) (t : TypeId) (q : List T → Prop) : Prop :=
  ∀ (H : Type) (enc : TypeId × Value → H) (w : World) (cs : List Value) (x : DataW H × List MemPlace), DataW.trod enc P w 0 (fun _ => true) true n t cs = some x → ∃ ts, CIs w (· < w.heap.size) ts cs ∧ q ts
section
variable {P : Program} {n : Nat} {t : TypeId}
theorem CIs_one {w : World} {O : Nat → Prop} {t : T} {v : Value} (h : CI w O t v) : CIs w O [t] [v] := by
  simp only [CIs]; exact ⟨v, [], rfl, h, rfl⟩
theorem ot_int {k : IntKind} (ht : P.underlying t = some (.int k)) : OpensT P n t (fun ts => ∃ y, ts = [.i k y] ∧ (Lit.int k y).wf = true) := by
  intro H enc w cs x h
  obtain ⟨y, rfl, _, hw⟩ := DataW.trod_int ht h
  exact ⟨_, CIs_one (by simp only [CI]), y, rfl, hw⟩
theorem ot_bool (ht : P.underlying t = some .bool) : OpensT P n t (fun ts => ∃ y, ts = [.b y]) := by
  intro H enc w cs x h
  obtain ⟨y, rfl, _⟩ := DataW.trod_bool ht h
  exact ⟨_, CIs_one (by simp only [CI]), y, rfl⟩
theorem ot_string (ht : P.underlying t = some .string) : OpensT P n t (fun ts => ∃ y, ts = [.s y] ∧ y.length ≤ maxLen) := by
  intro H enc w cs x h
  obtain ⟨y, rfl, _, hw⟩ := DataW.trod_string ht h
  refine ⟨_, CIs_one (t := .s y.data.toList) ?_, _, rfl, ?_⟩
  · simp only [CI]
  · have : y.data.toList.length = y.size := by rw [Array.length_toList]; rfl
    rw [this]; exact hw
theorem spotless {w : World} {a : Addr} {u : Value} (h : w.cell? a = some u) : w.cell? ⟨a.block, a.off, none⟩ = some u ∧ a = ⟨a.block, a.off, none⟩ ∧ a.block < w.heap.size := by
  obtain ⟨b, o, sp⟩ := a
  cases sp with
  | none =>
    refine ⟨h, rfl, ?_⟩
    simp only [World.cell?] at h
    split at h
    · rename_i c e f hb; exact lt_of_heap hb
    · exact absurd h (by simp)
  | some k =>
    simp only [World.cell?, Option.isSome_some, if_true] at h
    split at h <;> exact absurd h (by simp)
theorem cells_cellT {w : World} {a : Addr} {m : Nat} {cs : List Value} (h : w.cells? 0 a m = some cs) : cs.length = m ∧ ∀ i u, cs[i]? = some u → w.cell? (a.add i) = some u := by
  unfold World.cells? at h
  have hl := mapM_some_length h
  refine ⟨by simpa using hl, fun i u hi => ?_⟩
  have hi' : i < m := by
    have := (List.getElem?_eq_some_iff.1 hi).1
    simp at hl; omega
  have hg := mapM_some_get h i i (by simp [hi'])
  rw [hi] at hg
  simpa using hg
theorem ot_slice {q : List T → Prop} {e : TypeId} {sz : Nat} (ht : P.underlying t = some (.slice e)) (hc : P.cellsOf e = sz) (h0 : 0 < sz) (he : ∀ m, m < n → OpensT P m e q) :
    OpensT P n t (fun ts => ∃ rows, ts = [.imm rows] ∧ rows.length ≤ maxLen ∧ ∀ r ∈ rows, q r ∧ r.length = sz) := by
  intro H enc w cs x h
  rcases DataW.trod_slice ht h with ⟨rfl, _⟩ | ⟨a, len, cap, elems, rest, m, rfl, rfl, rfl, hb, hl, hm, hlen, hel, hs1, hs2⟩
  · exact ⟨_, CIs_one (t := .imm []) (by simp only [CI]; exact ⟨none, 0, rfl, Nat.le_refl _, .inl trivial⟩), [], rfl, by simp, by simp⟩
  · have key : ∀ i, i < len → ∃ ts cs', w.cells? 0 (a.add (i * sz)) sz = some cs' ∧ CIs w (· < w.heap.size) ts cs' ∧ q ts := by
      intro i hi
      have h1 := hel i hi
      rw [List.getElem?_eq_getElem (by omega)] at h1
      obtain ⟨cs', h2, h3⟩ := Option.bind_eq_some_iff.1 h1
      obtain ⟨ts, hk, hq⟩ := he m (Nat.lt_succ_self m) H enc w cs' _ h3
      rw [hc] at h2
      exact ⟨ts, cs', h2, hk, hq⟩
    have build : ∀ k, k ≤ len → ∃ rows us, rows.length = k ∧ (∀ r ∈ rows, q r ∧ r.length = sz) ∧ CIr w (· < w.heap.size) rows us ∧ us.length = k * sz ∧ ∀ j u, us[j]? = some u → w.cell? (a.add j) = some u := by
      intro k
      induction k with
      | zero => exact fun _ => ⟨[], [], rfl, by simp, by simp only [CIr], by simp, by simp⟩
      | succ k ih =>
        intro hk
        obtain ⟨rows, us, h1, h2, h3, h4, h5⟩ := ih (by omega)
        obtain ⟨ts, cs', h6, h7, h8⟩ := key k (by omega)
        obtain ⟨h9, h10⟩ := cells_cellT h6
        refine ⟨rows ++ [ts], us ++ cs', by simp [h1], ?_, ?_, by simp [h4, h9, Nat.succ_mul], ?_⟩
        · intro r hr
          rcases List.mem_append.1 hr with hr | hr
          · exact h2 r hr
          · obtain rfl : r = ts := by simpa using hr
            exact ⟨h8, by rw [← h7.len, h9]⟩
        · refine CIr_append.2 ⟨us, cs', rfl, h3, ?_⟩
          simp only [CIr]
          exact ⟨cs', [], by simp, h7, rfl⟩
        · intro j u hj
          rcases Nat.lt_or_ge j us.length with hlt | hge
          · rw [List.getElem?_append_left hlt] at hj
            exact h5 j u hj
          · rw [List.getElem?_append_right hge] at hj
            have := h10 _ u hj
            rw [Go.Deep.add_add] at this
            rw [← this]; congr 2; omega
    obtain ⟨rows, us, h1, h2, h3, h4, h5⟩ := build len (Nat.le_refl _)
    have hml : len ≤ maxLen := Nat.le_trans hl hm
    refine ⟨_, CIs_one (t := .imm rows) ?_, rows, rfl, by omega, h2⟩
    simp only [CI]
    subst h1
    refine ⟨some a, cap, rfl, hl, ?_⟩
    by_cases hr : rows = []
    · exact .inl hr
    · right
      have hpos : 0 < us.length := by
        rw [h4]; exact Nat.mul_pos (List.length_pos_iff.2 hr) h0
      obtain ⟨u, hu⟩ : ∃ u, us[0]? = some u := ⟨_, List.getElem?_eq_getElem hpos⟩
      have hu0 := h5 0 u hu
      have e0 : a.add 0 = a := by simp [Addr.add]
      rw [e0] at hu0
      obtain ⟨_, ea, hlt⟩ := spotless hu0
      refine ⟨a.block, a.off, sz, us, by rw [ea], hlt, fun r hr => (h2 r hr).2, h3, ?_⟩
      intro j u hj
      have := h5 j u hj
      unfold Addr.add at this
      by_cases hj0 : j = 0
      · subst hj0
        simp only [if_true] at this
        exact (spotless this).1
      · rw [if_neg hj0] at this
        rw [ea] at this
        exact this
theorem ot_le {q : List T → Prop} {m : Nat} (h : OpensT P n t q) (hm : m ≤ n) : OpensT P m t q := fun H enc w cs x hx => h H enc w cs x (DataW.trod_le hm hx)
theorem ot_mono {q q' : List T → Prop} (h : OpensT P n t q) (hq : ∀ ts, q ts → q' ts) : OpensT P n t q' := fun H enc w cs x hx => by
  obtain ⟨ts, h1, h2⟩ := h H enc w cs x hx
  exact ⟨ts, h1, hq _ h2⟩
/-- The trees of fields, one behind the other. -/
def Row (P : Program) : List (TypeId × (List T → Prop)) → List T → Prop
  | [], ts => ts = []
  | (t, q) :: r, ts => ∃ a b, ts = a ++ b ∧ q a ∧ a.length = P.cellsOf t ∧ Row P r b
/-- Fields lie one behind the other. -/
def dense (P : Program) : Nat → List Field → Option Nat
  | o, [] => some o
  | o, f :: r => if f.offset = o then dense P (o + P.cellsOf f.type) r else none
theorem ot_row {w : World} {m : Nat} {H : Type} {enc : TypeId × Value → H} {cs : List Value} {k : Nat} : ∀ (fs : List Field) (qs : List (TypeId × (List T → Prop))) (o : Nat), fs.map (·.type) = qs.map (·.1) → dense P o fs = some k → cs.length = k → (∀ p ∈ qs, OpensT P m p.1 p.2) →
    (∀ f ∈ fs, ∃ y, DataW.trod enc P w 0 (fun _ => true) true m f.type ((cs.drop f.offset).take (P.cellsOf f.type)) = some y) → ∃ ts, CIs w (· < w.heap.size) ts (cs.drop o) ∧ Row P qs ts
  | [], [], o, _, hd, hl, _, _ => by
    simp only [dense, Option.some.injEq] at hd
    subst hd
    exact ⟨[], by rw [List.drop_of_length_le (by omega)]; simp only [CIs], by simp only [Row]⟩
  | f :: fs, (t, q) :: qs, o, he, hd, hl, hq, hf => by
    simp only [List.map_cons, List.cons.injEq] at he
    obtain ⟨rfl, he⟩ := he
    simp only [dense] at hd
    split at hd
    case isFalse => exact absurd hd (by simp)
    rename_i ho
    obtain ⟨b, h1, h2⟩ := ot_row fs qs _ he hd hl (fun p hp => hq p (by simp [hp])) (fun f' hf' => hf f' (by simp [hf']))
    obtain ⟨y, hy⟩ := hf f (by simp)
    obtain ⟨a, h3, h4⟩ := hq (f.type, q) (by simp) H enc w _ _ hy
    have hle : ∀ (fs : List Field) (o k : Nat), dense P o fs = some k → o ≤ k := by
      intro fs
      induction fs with
      | nil => intro o k h; simp only [dense, Option.some.injEq] at h; omega
      | cons f fs ih =>
        intro o k h
        simp only [dense] at h
        split at h
        · have := ih _ _ h; omega
        · exact absurd h (by simp)
    have hk := hle _ _ _ hd
    rw [ho] at h3
    refine ⟨a ++ b, ?_, a, b, rfl, h4, ?_, h2⟩
    · refine CIs_append.2 ⟨_, _, ?_, h3, h1⟩
      rw [← List.drop_drop]
      exact (List.take_append_drop _ _).symm
    · rw [← h3.len]; simp only [List.length_take, List.length_drop]; omega
  | [], _ :: _, _, he, _, _, _, _ => by simp at he
  | _ :: _, [], _, he, _, _, _, _ => by simp at he
theorem ot_struct {fs : Array Field} {qs : List (TypeId × (List T → Prop))} (ht : P.underlying t = some (.struct fs)) (h1 : fs.toList.map (·.type) = qs.map (·.1)) (h2 : dense P 0 fs.toList = some (P.cellsOf t)) (hq : ∀ m, m < n → ∀ p ∈ qs, OpensT P m p.1 p.2) : OpensT P n t (Row P qs) := by
  intro H enc w cs x h
  obtain ⟨xs, m, rfl, _, hl, hn, hf⟩ := DataW.trod_struct ht h
  have key := ot_row (P := P) (w := w) (m := m) (enc := enc) (cs := cs) (k := P.cellsOf t) fs.toList qs 0 h1 h2 hl (hq m (Nat.lt_succ_self m)) (fun f hf' => by
    obtain ⟨i, hi, rfl⟩ := List.getElem_of_mem hf'
    have h3 := hf i (fs.toList[i]) (by
      have : i < fs.size := by simpa using hi
      simp [Array.getElem?_eq_getElem this])
    have : i < xs.length := by
      rw [hn]; simpa using hi
    rw [List.getElem?_eq_getElem this] at h3
    exact ⟨_, h3⟩)
  simpa using key
end
end Go.Proofs.Ytcchmhmbjhgfdaa.V
