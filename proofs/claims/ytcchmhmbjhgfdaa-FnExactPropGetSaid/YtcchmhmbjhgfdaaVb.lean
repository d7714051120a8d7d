/- States of the machine of trees, and what a state says of a frame and a world. -/
import Derived.Test.YtcchmhmbjhgfdaaVa
namespace Go.Proofs.Ytcchmhmbjhgfdaa.V
open Go
set_option linter.unusedVariables false

/-! ### lists by number -/
def tget : List (Nat × T) → Nat → T
  | [], _ => .dead
  | (j, v) :: l, k => if j = k then v else tget l k
def hget : List (Nat × Blk) → Nat → Option Blk
  | [], _ => none
  | (j, v) :: l, k => if j = k then some v else hget l k
def hdel : List (Nat × Blk) → Nat → List (Nat × Blk)
  | [], _ => []
  | (j, v) :: l, k => if j = k then hdel l k else (j, v) :: hdel l k
def hset : List (Nat × Blk) → Nat → Blk → List (Nat × Blk)
  | [], k, x => [(k, x)]
  | (j, v) :: l, k, x => if j = k then (j, x) :: hdel l k else (j, v) :: hset l k x
theorem hget_hdel : ∀ (l : List (Nat × Blk)) (k j : Nat), hget (hdel l k) j = if k = j then none else hget l j
  | [], k, j => by simp [hdel, hget]
  | (i, v) :: l, k, j => by
    have ih := hget_hdel l k j
    simp only [hdel]
    split
    · rename_i h; subst h
      rw [ih]; simp only [hget]
      split <;> rfl
    · simp only [hget, ih]
      by_cases h1 : i = j
      · subst h1
        rw [if_pos rfl, if_neg (fun h => by omega), if_pos rfl]
      · rw [if_neg h1]; simp only [if_neg h1]
theorem hget_hset : ∀ (l : List (Nat × Blk)) (k : Nat) (x : Blk) (j : Nat), hget (hset l k x) j = if k = j then some x else hget l j
  | [], k, x, j => by simp [hset, hget]
  | (i, v) :: l, k, x, j => by
    have ih := hget_hset l k x j
    simp only [hset]
    split
    · rename_i h; subst h
      simp only [hget, hget_hdel]
      split <;> rfl
    · simp only [hget, ih]
      by_cases h1 : i = j
      · subst h1
        rw [if_pos rfl, if_neg (fun h => by omega), if_pos rfl]
      · rw [if_neg h1]; simp only [if_neg h1]

/-- A state: slots, blocks, the next block's name, the first name that is this frame's. -/
structure St where
  tm : List (Nat × T)
  hp : List (Nat × Blk)
  nx : Nat
  fb : Nat

/-- What a change does to the blocks. -/
def hap : List (Nat × Blk) → List (Nat × Option Blk) → List (Nat × Blk)
  | h, [] => h
  | h, (t, some x) :: d => hap (hset h t x) d
  | h, (t, none) :: d => hap (hdel h t) d
def tput (l : List (Nat × T)) (d : Option Nat) (v : T) : List (Nat × T) := match d with | some d => (d, v) :: l | none => l
def St.app (s : St) (d : Option Nat) (v : T) (δ : List (Nat × Option Blk)) : St := { s with tm := tput s.tm d v, hp := hap s.hp δ }

/-- What is fixed while a frame runs. -/
structure Env where
  w0 : World
  mine : List Nat
  O0 : Nat → Prop
  ρ0 : Nat → Option RB
  n : Nat
  fb : Nat

/-- What is as it was. -/
structure Keep (w0 : World) (mine : List Nat) (w : World) : Prop where
  os : w.os = w0.os
  tape : w.tape = w0.tape
  output : w.output = w0.output
  size : w0.heap.size ≤ w.heap.size
  block : ∀ k, k < w0.heap.size → k ∉ mine → w.heap[k]? = w0.heap[k]?
  cells : ∀ (k : Nat) (c : Array Value) (e : TypeId) (f : Nat × Nat), w0.heap[k]? = some (.cells c e f) → ∃ c' e' f', w.heap[k]? = some (.cells c' e' f') ∧ c'.size = c.size
theorem Keep.refl (w : World) (m : List Nat) : Keep w m w := ⟨rfl, rfl, rfl, Nat.le_refl _, fun _ _ _ => rfl, fun k c e f h => ⟨c, e, f, h, rfl⟩⟩
theorem Keep.trans {w0 w1 w2 : World} {m m' : List Nat} (h : Keep w0 m w1) (h' : Keep w1 m' w2) (hm : ∀ b ∈ m', b < w0.heap.size → b ∈ m) : Keep w0 m w2 :=
  ⟨h'.os.trans h.os, h'.tape.trans h.tape, h'.output.trans h.output, Nat.le_trans h.size h'.size, fun k hk hn => (h'.block k (Nat.lt_of_lt_of_le hk h.size) (fun hin => hn (hm k hin hk))).trans (h.block k hk hn),
    fun k c e f hc => by
      obtain ⟨c1, e1, f1, h1, h2⟩ := h.cells k c e f hc
      obtain ⟨c2, e2, f2, h3, h4⟩ := h'.cells k c1 e1 f1 h1
      exact ⟨c2, e2, f2, h3, h4.trans h2⟩⟩
theorem lt_of_heap {w : World} {k : Nat} {x : Obj} (h : w.heap[k]? = some x) : k < w.heap.size := (Array.getElem?_eq_some_iff.1 h).1
/-- Nothing that was has turned. -/
theorem Keep.grown {w w' : World} (h1 : w'.os = w.os) (h2 : w'.tape = w.tape) (h3 : w'.output = w.output) (h4 : w.heap.size ≤ w'.heap.size) (h : ∀ k, k < w.heap.size → w'.heap[k]? = w.heap[k]?) : Keep w [] w' :=
  ⟨h1, h2, h3, h4, fun k hk _ => h k hk, fun k c e f hc => ⟨c, e, f, by rw [h k (lt_of_heap hc)]; exact hc, rfl⟩⟩
/-- One row was written. -/
theorem Keep.row {w : World} {b : Nat} {c c' : Array Value} {e : TypeId} (hb : w.heap[b]? = some (.cells c e (0, 0))) (hs : c'.size = c.size) : Keep w [b] (w.setRow b c') := by
  have hoth : ∀ k, k ≠ b → (w.setRow b c').heap[k]? = w.heap[k]? := by
    intro k hk
    simp only [World.setRow, Array.getElem?_modify]
    rw [if_neg (fun h => hk h.symm)]
  refine ⟨rfl, rfl, rfl, by simp [World.setRow], fun k _ hk => hoth k (by simpa using hk), fun k c1 e1 f1 h => ?_⟩
  by_cases hk : k = b
  · subst hk
    rw [hb] at h
    simp only [Option.some.injEq, Obj.cells.injEq] at h
    obtain ⟨rfl, rfl, rfl⟩ := h
    exact ⟨c', e, _, setRow_heap w k c c' e _ hb, hs⟩
  · exact ⟨c1, e1, f1, by rw [hoth k hk]; exact h, rfl⟩

structure R (E : Env) (A : Nat → Prop) (ρ : Nat → Option RB) (O : Nat → Prop) (F : Nat → List Nat) (s : St) (a : Act) (w : World) : Prop where
  size : a.tmps.size = E.n
  defers : a.defers = []
  fb : s.fb = E.fb
  ρ0 : ∀ t, t < E.fb → ρ t = E.ρ0 t
  O0 : ∀ b, E.O0 b → O b
  Olt : ∀ b, O b → b < w.heap.size
  Onew : ∀ b, O b → E.O0 b ∨ E.w0.heap.size ≤ b ∨ b ∈ E.mine
  tm : ∀ j, CV w O ρ A (tget s.tm j) (a.tmps.getD j undef)
  hp : ∀ t k, hget s.hp t = some k → A t ∧ BR w O ρ A t k (F t)
  nodup : ∀ t k, hget s.hp t = some k → (F t).Nodup
  apart : ∀ t k t' k', hget s.hp t = some k → hget s.hp t' = some k' → t ≠ t' → ∀ b ∈ F t, b ∉ F t'
  mine : ∀ t k, hget s.hp t = some k → ∀ b ∈ F t, ¬ O b ∧ b < w.heap.size ∧ (E.w0.heap.size ≤ b ∨ b ∈ E.mine)
  keep : Keep E.w0 E.mine w

def Rel (E : Env) (A : Nat → Prop) (s : St) (a : Act) (w : World) : Prop := ∃ ρ O F, R E A ρ O F s a w

theorem CV.dead {w : World} {O : Nat → Prop} {ρ : Nat → Option RB} {A : Nat → Prop} (v : Value) : CV w O ρ A .dead v := by simp only [CV, CI]

theorem put_size (a : Act) (d : Option Nat) (v : Value) : (a.put d v).tmps.size = a.tmps.size := by cases d <;> simp [Act.put]
theorem put_defers (a : Act) (d : Option Nat) (v : Value) : (a.put d v).defers = a.defers := by cases d <;> simp [Act.put]
theorem put_getD (a : Act) (d : Nat) (v : Value) (j : Nat) (h : d < a.tmps.size) : (a.put (some d) v).tmps.getD j undef = if d = j then v else a.tmps.getD j undef := by
  simp only [Act.put, Array.getD_eq_getD_getElem?, Array.getElem?_setIfInBounds]
  by_cases e : d = j
  · subst e; simp [h]
  · simp [e]

section
variable {E : Env} {A A' : Nat → Prop} {ρ ρ' : Nat → Option RB} {O O' : Nat → Prop} {F F' : Nat → List Nat} {s : St} {a : Act} {w w' : World}
/-- A slot is written, nothing else. -/
theorem R.put (h : R E A ρ O F s a w) {d : Option Nat} (hd : ∀ k, d = some k → k < E.n) {v : T} {u : Value} (hv : CV w O ρ A v u) : R E A ρ O F (s.app d v []) (a.put d u) w := by
  refine ⟨by rw [put_size, h.size], by rw [put_defers, h.defers], h.fb, h.ρ0, h.O0, h.Olt, h.Onew, ?_, h.hp, h.nodup, h.apart, h.mine, h.keep⟩
  intro j
  cases d with
  | none => exact h.tm j
  | some k =>
    have hk : k < a.tmps.size := by rw [h.size]; exact hd k rfl
    rw [put_getD _ _ _ _ hk]
    simp only [St.app, tput, tget]
    split
    · exact hv
    · exact h.tm j
/-- The world goes on: nothing that is spoken of has turned. -/
theorem R.world (h : R E A ρ O F s a w) {M : List Nat} (hA : ∀ t, A t → A' t) (hO : ∀ b, O b → O' b) (hρ : ∀ t, A t → ρ' t = ρ t) (hfb : ∀ t, t < E.fb → ρ' t = E.ρ0 t)
    (hw : ∀ b, O b → w'.heap[b]? = w.heap[b]?) (hF : ∀ t k, hget s.hp t = some k → ∀ b ∈ F t, w'.heap[b]? = w.heap[b]?) (hlt : ∀ b, O' b → b < w'.heap.size) (hnew : ∀ b, O' b → O b ∨ ((E.w0.heap.size ≤ b ∨ b ∈ E.mine) ∧ ∀ t k, hget s.hp t = some k → b ∉ F t))
    (hk : Keep w M w') (hM : ∀ b ∈ M, E.w0.heap.size ≤ b ∨ b ∈ E.mine) : R E A' ρ' O' F s a w' := by
  refine ⟨h.size, h.defers, h.fb, hfb, fun b hb => hO b (h.O0 b hb), hlt, ?_, fun j => (h.tm j).cong hO hw hA hρ, ?_, h.nodup, h.apart, ?_, h.keep.trans hk (fun b hb hlt => (hM b hb).elim (fun h => by omega) id)⟩
  · intro b hb
    rcases hnew b hb with h1 | h1
    · exact h.Onew b h1
    · exact .inr h1.1
  · intro t k hk'
    exact ⟨hA _ (h.hp t k hk').1, (h.hp t k hk').2.cong hO hw hA hρ (h.hp t k hk').1 (hF t k hk')⟩
  · intro t k hk' b hb
    obtain ⟨h1, h2, h3⟩ := h.mine t k hk' b hb
    refine ⟨fun ho => ?_, Nat.lt_of_lt_of_le h2 hk.size, h3⟩
    rcases hnew b ho with h4 | h4
    · exact h1 h4
    · exact h4.2 t k hk' hb
end
end Go.Proofs.Ytcchmhmbjhgfdaa.V
