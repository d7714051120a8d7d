/- Marks, first part: a world in which numbers and texts have turned, within some blocks, and nothing else. -/
import Derived.Test.YtcchmhmbjhgfdaaWMini
namespace Go.Proofs.Ytcchmhmbjhgfdaa.Mk
open Go.RowKit Go.Proofs.YtcchmhmbjhgfdaaW.PrintWords
set_option linter.unusedVariables false

/-- A number is some number, a text some text. -/
def er : Value → Value
  | .int k _ => .int k 0
  | .string _ => .string ⟨#[]⟩
  | v => v
theorem er_int {u : Value} {k : IntKind} {a : Int} (h : er u = er (.int k a)) : ∃ b, u = .int k b := by
  cases u <;> simp only [er] at h <;> cases h
  exact ⟨_, rfl⟩
theorem er_string {u : Value} {s : ByteArray} (h : er u = er (.string s)) : ∃ b, u = .string b := by
  cases u <;> simp only [er] at h <;> cases h
  exact ⟨_, rfl⟩
theorem er_slice {u : Value} {A : Option Addr} {n c : Nat} (h : er u = er (.slice A n c)) : u = .slice A n c := by
  cases u <;> simp only [er] at h <;> cases h
  rfl

/-- w' is w, but for numbers and texts in the blocks of P, and new blocks. -/
structure Shaped (P : Nat → Prop) (w w' : World) : Prop where
  os : w'.os = w.os
  tape : w'.tape = w.tape
  output : w'.output = w.output
  size : w.heap.size ≤ w'.heap.size
  block : ∀ k : Nat, k < w.heap.size → ¬ P k → w'.heap[k]? = w.heap[k]?
  cells : ∀ (k : Nat) (cs : Array Value) (e : TypeId) (fr : Nat × Nat), w.heap[k]? = some (Obj.cells cs e fr) → ∃ cs' : Array Value, w'.heap[k]? = some (Obj.cells cs' e fr) ∧ cs'.map er = cs.map er

section
variable {P : Nat → Prop} {w w1 w2 : World}
theorem Shaped.refl (P : Nat → Prop) (w : World) : Shaped P w w := ⟨rfl, rfl, rfl, Nat.le_refl _, fun _ _ _ => rfl, fun _ cs _ _ h => ⟨cs, h, rfl⟩⟩
theorem Shaped.below (h : Shaped P w w1) (hb : Below w1.heap.size w1 w2) : Shaped P w w2 := by
  refine ⟨hb.os.trans h.os, hb.tape.trans h.tape, hb.output.trans h.output, Nat.le_trans h.size hb.size, fun k hk hp => ?_, fun k cs e fr hc => ?_⟩
  · rw [hb.block k (Nat.lt_of_lt_of_le hk h.size)]; exact h.block k hk hp
  · obtain ⟨cs', h1, h2⟩ := h.cells k cs e fr hc
    have hlt : k < w1.heap.size := (Array.getElem?_eq_some_iff.1 h1).1
    exact ⟨cs', by rw [hb.block k hlt]; exact h1, h2⟩
theorem Shaped.set {g o : Nat} {u u0 : Value} (h : Shaped P w w1) (hg : P g) (hc : w1.cell? ⟨g, o, none⟩ = some u0) (he : er u = er u0) : Shaped P w (w1.setCell ⟨g, o, none⟩ u) := by
  refine ⟨h.os, h.tape, h.output, by simpa [World.setCell] using h.size, fun k hk hp => ?_, fun k cs e fr hk => ?_⟩
  · have hne : k ≠ g := fun e => hp (e ▸ hg)
    rw [Below.heap_setCell _ _ _ _ hne]
    exact h.block k hk hp
  · obtain ⟨cs', h1, h2⟩ := h.cells k cs e fr hk
    by_cases hkg : k = g
    · subst hkg
      have h3 : cs'[o]? = some u0 := by
        simp only [World.cell?, h1] at hc
        simpa using hc
      refine ⟨cs'.setIfInBounds o u, ?_, ?_⟩
      · simp only [World.setCell, Array.getElem?_modify, h1]
        simp
      · rw [← h2, Array.map_setIfInBounds]
        apply Array.ext_getElem?
        intro j
        rw [Array.getElem?_setIfInBounds]
        split
        · subst_vars
          split
          · simp [h3, he]
          · simp only [Array.getElem?_map]
            rw [h3]
            rename_i hh
            exfalso
            apply hh
            have := (Array.getElem?_eq_some_iff.1 h3).1
            simpa using this
        · rfl
    · rw [Below.heap_setCell _ _ _ _ hkg]
      exact ⟨cs', h1, h2⟩
theorem Shaped.trans (h : Shaped P w w1) (k : Shaped P w1 w2) : Shaped P w w2 := by
  refine ⟨k.os.trans h.os, k.tape.trans h.tape, k.output.trans h.output, Nat.le_trans h.size k.size, fun i hi hp => ?_, fun i cs e fr hc => ?_⟩
  · rw [k.block i (Nat.lt_of_lt_of_le hi h.size) hp]; exact h.block i hi hp
  · obtain ⟨c1, h1, h2⟩ := h.cells i cs e fr hc
    obtain ⟨c2, h3, h4⟩ := k.cells i c1 e fr h1
    exact ⟨c2, h3, h4.trans h2⟩
theorem Shaped.mono {Q : Nat → Prop} (h : Shaped P w w1) (hq : ∀ k, P k → Q k) : Shaped Q w w1 := ⟨h.os, h.tape, h.output, h.size, fun k hk hn => h.block k hk (fun hp => hn (hq k hp)), h.cells⟩
theorem Shaped.cell {g o : Nat} {u : Value} (h : Shaped P w w1) (hc : w.cell? ⟨g, o, none⟩ = some u) : ∃ u', w1.cell? ⟨g, o, none⟩ = some u' ∧ er u' = er u := by
  unfold World.cell? at hc
  split at hc
  · rename_i cs e fr hk
    obtain ⟨cs', h1, h2⟩ := h.cells _ cs e fr hk
    have hc' : cs[o]? = some u := by simpa using hc
    have h3 : (cs'.map er)[o]? = some (er u) := by rw [h2, Array.getElem?_map, hc']; rfl
    rw [Array.getElem?_map, Option.map_eq_some_iff] at h3
    obtain ⟨u', h4, h5⟩ := h3
    refine ⟨u', ?_, h5⟩
    unfold World.cell?
    have h1' : w1.heap[g]? = some (.cells cs' e fr) := h1
    simp only [h1']
    simpa using h4
  · cases hc
theorem Shaped.frozen {g o : Nat} (h : Shaped P w w1) {cs : Array Value} {e : TypeId} (hk : w.heap[g]? = some (.cells cs e (0, 0))) : w1.frozen? ⟨g, o, none⟩ = false := by
  obtain ⟨cs', h1, _⟩ := h.cells g cs e _ hk
  unfold World.frozen?
  simp only [h1]
  simp
/-- What lies elsewhere stays. -/
theorem Shaped.R {α : Type} {d : Kd α} {e : Nat} {base : Nat} {ok : Nat → Prop} {v : Value} {xs : List α} (h : Shaped P w w1) (hr : d.R e w base ok v xs) (hn : ∀ k, ok k → ¬ P k) : d.R e w1 base ok v xs :=
  Kd.R_step hr (fun k hk hlt => h.block k hlt (hn k hk))
theorem Shaped.to_below {w0 : World} (h : Shaped P w w1) (hb : Below w0.heap.size w0 w) (hn : ∀ k, P k → w0.heap.size ≤ k) : Below w0.heap.size w0 w1 :=
  hb.trans ⟨h.os, h.tape, h.output, h.size, fun k hk => h.block k (Nat.lt_of_lt_of_le hk hb.size) (fun hp => by have := hn k hp; omega)⟩
end

/-- An element of a row: where it lies, and how it reads in whatever world is shaped as the first. -/
theorem row_at {α : Type} {d : Kd α} {e : Nat} {W : World} {base : Nat} {P : Nat → Prop} {v : Value} {xs : List α} (hR : d.R e W base P v xs) (z : α) (i : Int) (h0 : 0 ≤ i) (h1 : i < xs.length) :
    ∃ g cap c, v = .slice (some ⟨g, 0, none⟩) xs.length cap ∧ P g ∧ c.length = d.sz ∧ d.M W base P (xs.getD i.toNat z) c ∧
      ∀ w, Shaped P W w → (∀ j u, c[j]? = some u → ∃ u', w.cell? ⟨g, i.toNat * d.sz + j, none⟩ = some u' ∧ er u' = er u) ∧ ∀ j, w.frozen? ⟨g, i.toNat * d.sz + j, none⟩ = false := by
  obtain ⟨g, cap, rfl, hb, hlt, cells, hc⟩ := Kd.R_form hR (by omega)
  obtain ⟨c, hcl, hM, hcc, hfr⟩ := Kd.R_elem hR z i h0 h1
  refine ⟨g, cap, c, rfl, hR.1 g rfl, hcl, d.M_mono (fun k hk => hk.1) hM, fun w hS => ⟨fun j u hj => hS.cell (hcc j u hj), fun j => hS.frozen hc⟩⟩

/-- What marks leave: within blocks of w that were made since w0 and are of the types Es. -/
def Over (Es : List Nat) (w0 w w' : World) : Prop := Shaped (fun k => w0.heap.size ≤ k ∧ ∃ q, q ∈ Es ∧ ∃ cells, w.heap[k]? = some (.cells cells q (0, 0))) w w'
namespace Over
section
variable {α : Type} {d : Kd α} {Es : List Nat} {w0 w w' : World} {base e : Nat} {ok : Nat → Prop} {v : Value} {xs : List α}
theorem not_in {t k : Nat} {cs : Array Value} (ht : t ∉ Es) (hb : w.heap[k]? = some (.cells cs t (0, 0))) : ¬ (w0.heap.size ≤ k ∧ ∃ q, q ∈ Es ∧ ∃ cells, w.heap[k]? = some (.cells cells q (0, 0))) := by
  rintro ⟨_, q, hq, cells, hc⟩
  rw [hc] at hb
  injection hb with hb
  injection hb with _ hb
  exact ht (hb ▸ hq)
theorem R (hm : Over Es w0 w w') (ht : ∀ q, q ∈ e :: d.E → q ∉ Es) (h : d.R e w base ok v xs) : d.R e w' base ok v xs :=
  Kd.R_mono (Kd.R_move (Kd.R_bound h) (fun k hk => hm.block k hk.2.2.1 (by obtain ⟨_, _, _, q, hq, cells, hc⟩ := hk; exact not_in (ht q hq) hc))) (fun _ hk => hk.1)
theorem S (hm : Over Es w0 w w') (ht : ∀ q, q ∈ e :: d.E → q ∉ Es) (h : Kd.S d e w base ok v xs) : Kd.S d e w' base ok v xs :=
  Kd.S_mono (Kd.S_move (Kd.S_bound h) (fun k hk => hm.block k hk.2.2.1 (by obtain ⟨_, _, _, q, hq, cells, hc⟩ := hk; exact not_in (ht q hq) hc))) (fun _ hk => hk.1)
theorem blk {g t : Nat} {cs : Array Value} (hm : Over Es w0 w w') (ht : t ∉ Es) (hb : w.heap[g]? = some (.cells cs t (0, 0))) : w'.heap[g]? = some (.cells cs t (0, 0)) :=
  (hm.block g (Array.getElem?_eq_some_iff.1 hb).1 (not_in ht hb)).trans hb
theorem below (hm : Over Es w0 w w') (hb : Below w0.heap.size w0 w) : Below w0.heap.size w0 w' := hm.to_below hb (fun _ hk => hk.1)
/-- A row's blocks are of the types that are told. -/
theorem fits (ht : ∀ q, q ∈ e :: d.E → q ∈ Es) (h : d.R e w w0.heap.size ok v xs) : d.R e w w0.heap.size (fun k => w0.heap.size ≤ k ∧ ∃ q, q ∈ Es ∧ ∃ cells, w.heap[k]? = some (.cells cells q (0, 0))) v xs :=
  Kd.R_mono (Kd.R_bound h) (fun k hk => ⟨hk.2.1, by obtain ⟨_, _, _, q, hq, hc⟩ := hk; exact ⟨q, ht q hq, hc⟩⟩)
end
end Over
end Go.Proofs.Ytcchmhmbjhgfdaa.Mk
