/- A machine of trees: values, cells and blocks as trees; what a tree says of the machine's memory. -/
import Derived.WalkKit
import Derived.Calls
import Derived.Laws.Cells
import Derived.Laws.CopyRow
import Derived.Laws.Entries
import Derived.Below
namespace Go.Proofs.Ytcchmhmbjhgfdaa.V
open Go
set_option linter.unusedVariables false

/-- A value, a cell, a tree. -/
inductive T where
  | un | dead
  | b (x : Bool) | i (k : IntKind) (n : Int) | s (l : List UInt8)
  | nl | imm (rows : List (List T)) | own (sz : Nat) (rows : List (List T)) | bx (cs : List T)
  | ref (t o n : Nat)
  | np | ptr (t r o : Nat) | pim (cs : List T)
  | fn (f : Nat) (caps : List T)
  | nfn | nif | ifc (t : Nat) (x : T)
  | agg (cs : List T) | tup (xs : List T)
  | nmp | mp (t : Nat)
  deriving Inhabited

/-- Where a block lies: its number, its first cell, how many rows it bears, how many cells a row has. -/
structure RB where
  b : Nat
  o : Nat
  cap : Nat
  sz : Nat

section
variable (w : World) (O : Nat → Prop)
/-- What the cells from a place on hold. -/
def Lies (b o : Nat) (us : List Value) : Prop := ∀ j u, us[j]? = some u → w.cell? ⟨b, o + j, none⟩ = some u

mutual
/-- What is never written again. -/
def CI : T → Value → Prop
  | .dead, _ => True
  | .un, v => v = undef
  | .b x, v => v = .bool x
  | .i k n, v => v = .int k n
  | .s l, v => v = .string ⟨l.toArray⟩
  | .nl, v => v = .slice none 0 0
  | .imm rows, v => ∃ a cap, v = .slice a rows.length cap ∧ rows.length ≤ cap ∧ (rows = [] ∨ ∃ b o sz cs, a = some ⟨b, o, none⟩ ∧ O b ∧ (∀ r ∈ rows, r.length = sz) ∧ CIr rows cs ∧ Lies w b o cs)
  | .np, v => v = .pointer none
  | .pim cs, v => ∃ b o us, v = .pointer (some ⟨b, o, none⟩) ∧ O b ∧ CIs cs us ∧ Lies w b o us
  | .fn f caps, v => ∃ us : List Value, v = .func (.func f) #[] us.toArray ∧ CIs caps us
  | .nif, v => v = .nilIface
  | .nfn, v => v = .nilFunc
  | .ifc t x, v => ∃ u, v = .iface t u ∧ CI x u
  | .agg cs, v => ∃ us : List Value, v = .agg us.toArray ∧ CIs cs us
  | .tup cs, v => ∃ us : List Value, v = .tuple us.toArray ∧ CIs cs us
  | .nmp, v => v = .map none
  | _, _ => False
def CIs : List T → List Value → Prop
  | [], vs => vs = []
  | t :: ts, vs => ∃ v r, vs = v :: r ∧ CI t v ∧ CIs ts r
def CIr : List (List T) → List Value → Prop
  | [], vs => vs = []
  | r :: rs, vs => ∃ v1 v2, vs = v1 ++ v2 ∧ CIs r v1 ∧ CIr rs v2
end

mutual
/-- What is owned: with the blocks that it has alone. -/
def K : T → Value → List Nat → Prop
  | .own sz rows, v, F => (rows = [] ∧ (∃ q, v = .slice q 0 0) ∧ F = []) ∨ ∃ b o cap c e cs F', v = .slice (some ⟨b, o, none⟩) rows.length cap ∧ w.heap[b]? = some (.cells c e (0, 0)) ∧ rows.length ≤ cap ∧ o + cap * sz ≤ c.size ∧ (∀ r ∈ rows, r.length = sz) ∧ F = b :: F' ∧ Kr rows cs F' ∧ ∀ j u, cs[j]? = some u → c[o + j]? = some u
  | .bx cs, v, F => ∃ b o c e us F', v = .pointer (some ⟨b, o, none⟩) ∧ w.heap[b]? = some (.cells c e (0, 0)) ∧ o + cs.length ≤ c.size ∧ F = b :: F' ∧ Ks cs us F' ∧ ∀ j u, us[j]? = some u → c[o + j]? = some u
  | .agg cs, v, F => ∃ us : List Value, v = .agg us.toArray ∧ Ks cs us F
  | .tup cs, v, F => ∃ us : List Value, v = .tuple us.toArray ∧ Ks cs us F
  | t, v, F => CI w O t v ∧ F = []
def Ks : List T → List Value → List Nat → Prop
  | [], vs, F => vs = [] ∧ F = []
  | t :: ts, vs, F => ∃ v r F1 F2, vs = v :: r ∧ F = F1 ++ F2 ∧ K t v F1 ∧ Ks ts r F2
def Kr : List (List T) → List Value → List Nat → Prop
  | [], vs, F => vs = [] ∧ F = []
  | r :: rs, vs, F => ∃ v1 v2 F1 F2, vs = v1 ++ v2 ∧ F = F1 ++ F2 ∧ Ks r v1 F1 ∧ Kr rs v2 F2
end
variable (ρ : Nat → Option RB) (A : Nat → Prop)
mutual
/-- What stands in a slot. -/
def CV : T → Value → Prop
  | .ref t o n, v => A t ∧ ((ρ t = none ∧ o = 0 ∧ n = 0 ∧ ∃ q, v = .slice q 0 0) ∨ ∃ B, ρ t = some B ∧ ∃ b' o' c, v = .slice (some ⟨b', o', none⟩) n c ∧ o + c = B.cap ∧ n ≤ c ∧ (c = 0 ∨ (b' = B.b ∧ o' = B.o + o * B.sz)))
  | .ptr t r o, v => A t ∧ ∃ B, ρ t = some B ∧ v = .pointer (some ⟨B.b, B.o + r * B.sz + o, none⟩)
  | .mp t, v => A t ∧ ∃ B, ρ t = some B ∧ v = .map (some B.b)
  | .agg cs, v => ∃ us : List Value, v = .agg us.toArray ∧ CVs cs us
  | .tup cs, v => ∃ us : List Value, v = .tuple us.toArray ∧ CVs cs us
  | .fn f caps, v => ∃ us : List Value, v = .func (.func f) #[] us.toArray ∧ CVs caps us
  | .ifc t x, v => ∃ u, v = .iface t u ∧ CV x u
  | t, v => CI w O t v
def CVs : List T → List Value → Prop
  | [], vs => vs = []
  | t :: ts, vs => ∃ v r, vs = v :: r ∧ CV t v ∧ CVs ts r
end
/-- What stands in a cell of a block of one's own. -/
def D (t : T) (v : Value) (F : List Nat) : Prop := K w O t v F ∨ (CV w O ρ A t v ∧ F = [])
def Ds : List T → List Value → List Nat → Prop
  | [], vs, F => vs = [] ∧ F = []
  | t :: ts, vs, F => ∃ v r F1 F2, vs = v :: r ∧ F = F1 ++ F2 ∧ D w O ρ A t v F1 ∧ Ds ts r F2
def Dr : List (List T) → List Value → List Nat → Prop
  | [], vs, F => vs = [] ∧ F = []
  | r :: rs, vs, F => ∃ v1 v2 F1 F2, vs = v1 ++ v2 ∧ F = F1 ++ F2 ∧ Ds w O ρ A r v1 F1 ∧ Dr rs v2 F2
end

/-- A block: rows of cells (a variable is one row), or a map. -/
inductive Blk where
  | arr (sz : Nat) (rows : List (List T))
  | mb (es : List (T × T))
  deriving Inhabited

def BR (w : World) (O : Nat → Prop) (ρ : Nat → Option RB) (A : Nat → Prop) (t : Nat) : Blk → List Nat → Prop
  | .arr sz rows, F => (rows = [] ∧ F = [] ∧ (ρ t = none ∨ ∃ B, ρ t = some B ∧ B.cap = 0 ∧ sz = B.sz)) ∨ ∃ B, ρ t = some B ∧ sz = B.sz ∧ (∀ r ∈ rows, r.length = sz) ∧ rows.length ≤ B.cap ∧ ∃ c e cs F', w.heap[B.b]? = some (.cells c e (0, 0)) ∧ B.o + B.cap * B.sz ≤ c.size ∧ Dr w O ρ A rows cs F' ∧ (∀ j u, cs[j]? = some u → c[B.o + j]? = some u) ∧ F = B.b :: F'
  | .mb es, F => False

/-! ### lists -/
section
variable {w w' : World} {O O' : Nat → Prop} {ρ ρ' : Nat → Option RB} {A A' : Nat → Prop}
theorem Lies.cong {b o : Nat} {us : List Value} (h : Lies w b o us) (e : w'.heap[b]? = w.heap[b]?) : Lies w' b o us := by
  intro j u hj
  have := h j u hj
  simp only [World.cell?] at this ⊢
  rw [e]; exact this

theorem CIs.len : ∀ {ts : List T} {vs : List Value}, CIs w O ts vs → vs.length = ts.length
  | [], vs, h => by simp only [CIs] at h; simp [h]
  | t :: ts, vs, h => by
    simp only [CIs] at h
    obtain ⟨v, r, rfl, _, h2⟩ := h
    simp [CIs.len h2]
theorem CVs.len : ∀ {ts : List T} {vs : List Value}, CVs w O ρ A ts vs → vs.length = ts.length
  | [], vs, h => by simp only [CVs] at h; simp [h]
  | t :: ts, vs, h => by
    simp only [CVs] at h
    obtain ⟨v, r, rfl, _, h2⟩ := h
    simp [CVs.len h2]
theorem Ks.len : ∀ {ts : List T} {vs : List Value} {F : List Nat}, Ks w O ts vs F → vs.length = ts.length
  | [], vs, F, h => by simp only [Ks] at h; simp [h.1]
  | t :: ts, vs, F, h => by
    simp only [Ks] at h
    obtain ⟨v, r, F1, F2, rfl, _, _, h2⟩ := h
    simp [Ks.len h2]
theorem Ds.len : ∀ {ts : List T} {vs : List Value} {F : List Nat}, Ds w O ρ A ts vs F → vs.length = ts.length
  | [], vs, F, h => by simp only [Ds] at h; simp [h.1]
  | t :: ts, vs, F, h => by
    simp only [Ds] at h
    obtain ⟨v, r, F1, F2, rfl, _, _, h2⟩ := h
    simp [Ds.len h2]

/-! ### another world -/
mutual
theorem CI.cong (hO : ∀ b, O b → O' b) (hw : ∀ b, O b → w'.heap[b]? = w.heap[b]?) : ∀ {t : T} {v : Value}, CI w O t v → CI w' O' t v
  | .dead, v, h => by simp only [CI]
  | .un, v, h => by simpa only [CI] using h
  | .b x, v, h => by simpa only [CI] using h
  | .i k n, v, h => by simpa only [CI] using h
  | .s l, v, h => by simpa only [CI] using h
  | .nl, v, h => by simpa only [CI] using h
  | .imm rows, v, h => by
    simp only [CI] at h ⊢
    obtain ⟨a, cap, e, hl, h⟩ := h
    refine ⟨a, cap, e, hl, h.imp id ?_⟩
    rintro ⟨b, o, sz, cs, ea, hb, hs, hr, hm⟩
    exact ⟨b, o, sz, cs, ea, hO _ hb, hs, CIr.cong hO hw hr, hm.cong (hw _ hb)⟩
  | .own sz rows, v, h => by simp only [CI] at h
  | .bx rows, v, h => by simp only [CI] at h
  | .ref _ _ _, v, h => by simp only [CI] at h
  | .np, v, h => by simpa only [CI] using h
  | .ptr _ _ _, v, h => by simp only [CI] at h
  | .pim cs, v, h => by
    simp only [CI] at h ⊢
    obtain ⟨b, o, us, e, hb, hc, hm⟩ := h
    exact ⟨b, o, us, e, hO _ hb, CIs.cong hO hw hc, hm.cong (hw _ hb)⟩
  | .fn f caps, v, h => by
    simp only [CI] at h ⊢
    obtain ⟨us, e, h⟩ := h
    exact ⟨us, e, CIs.cong hO hw h⟩
  | .nif, v, h => by simpa only [CI] using h
  | .nfn, v, h => by simpa only [CI] using h
  | .ifc t x, v, h => by
    simp only [CI] at h ⊢
    obtain ⟨u, e, h⟩ := h
    exact ⟨u, e, CI.cong hO hw h⟩
  | .agg cs, v, h => by
    simp only [CI] at h ⊢
    obtain ⟨us, e, h⟩ := h
    exact ⟨us, e, CIs.cong hO hw h⟩
  | .tup cs, v, h => by
    simp only [CI] at h ⊢
    obtain ⟨us, e, h⟩ := h
    exact ⟨us, e, CIs.cong hO hw h⟩
  | .nmp, v, h => by simpa only [CI] using h
  | .mp _, v, h => by simp only [CI] at h
theorem CIs.cong (hO : ∀ b, O b → O' b) (hw : ∀ b, O b → w'.heap[b]? = w.heap[b]?) : ∀ {ts : List T} {vs : List Value}, CIs w O ts vs → CIs w' O' ts vs
  | [], vs, h => by simpa only [CIs] using h
  | t :: ts, vs, h => by
    simp only [CIs] at h ⊢
    obtain ⟨v, r, e, h1, h2⟩ := h
    exact ⟨v, r, e, CI.cong hO hw h1, CIs.cong hO hw h2⟩
theorem CIr.cong (hO : ∀ b, O b → O' b) (hw : ∀ b, O b → w'.heap[b]? = w.heap[b]?) : ∀ {rs : List (List T)} {vs : List Value}, CIr w O rs vs → CIr w' O' rs vs
  | [], vs, h => by simpa only [CIr] using h
  | r :: rs, vs, h => by
    simp only [CIr] at h ⊢
    obtain ⟨v1, v2, e, h1, h2⟩ := h
    exact ⟨v1, v2, e, CIs.cong hO hw h1, CIr.cong hO hw h2⟩
end

mutual
theorem K.cong (hO : ∀ b, O b → O' b) (hw : ∀ b, O b → w'.heap[b]? = w.heap[b]?) : ∀ {t : T} {v : Value} {F : List Nat}, (∀ b ∈ F, w'.heap[b]? = w.heap[b]?) → K w O t v F → K w' O' t v F
  | .own sz rows, v, F, hF, h => by
    simp only [K] at h ⊢
    refine h.imp id ?_
    rintro ⟨b, o, cap, c, e, cs, F', ev, hb, h1, h2, h3, rfl, hr, hm⟩
    exact ⟨b, o, cap, c, e, cs, F', ev, by rw [hF _ (by simp)]; exact hb, h1, h2, h3, rfl, Kr.cong hO hw (fun x hx => hF x (by simp [hx])) hr, hm⟩
  | .bx cs, v, F, hF, h => by
    simp only [K] at h ⊢
    obtain ⟨b, o, c, e, us, F', ev, hb, hc, rfl, hk, hm⟩ := h
    exact ⟨b, o, c, e, us, F', ev, by rw [hF _ (by simp)]; exact hb, hc, rfl, Ks.cong hO hw (fun x hx => hF x (by simp [hx])) hk, hm⟩
  | .agg cs, v, F, hF, h => by
    simp only [K] at h ⊢
    obtain ⟨us, e, h⟩ := h
    exact ⟨us, e, Ks.cong hO hw hF h⟩
  | .tup cs, v, F, hF, h => by
    simp only [K] at h ⊢
    obtain ⟨us, e, h⟩ := h
    exact ⟨us, e, Ks.cong hO hw hF h⟩
  | .fn f caps, v, F, hF, h => by simp only [K] at h ⊢; exact ⟨CI.cong hO hw h.1, h.2⟩
  | .dead, v, F, hF, h => by simp only [K] at h ⊢; exact ⟨CI.cong hO hw h.1, h.2⟩
  | .un, v, F, hF, h => by simp only [K] at h ⊢; exact ⟨CI.cong hO hw h.1, h.2⟩
  | .b x, v, F, hF, h => by simp only [K] at h ⊢; exact ⟨CI.cong hO hw h.1, h.2⟩
  | .i k n, v, F, hF, h => by simp only [K] at h ⊢; exact ⟨CI.cong hO hw h.1, h.2⟩
  | .s l, v, F, hF, h => by simp only [K] at h ⊢; exact ⟨CI.cong hO hw h.1, h.2⟩
  | .nl, v, F, hF, h => by simp only [K] at h ⊢; exact ⟨CI.cong hO hw h.1, h.2⟩
  | .imm rows, v, F, hF, h => by simp only [K] at h ⊢; exact ⟨CI.cong hO hw h.1, h.2⟩
  | .ref _ _ _, v, F, hF, h => by simp only [K] at h ⊢; exact ⟨CI.cong hO hw h.1, h.2⟩
  | .np, v, F, hF, h => by simp only [K] at h ⊢; exact ⟨CI.cong hO hw h.1, h.2⟩
  | .ptr _ _ _, v, F, hF, h => by simp only [K] at h ⊢; exact ⟨CI.cong hO hw h.1, h.2⟩
  | .pim cs, v, F, hF, h => by simp only [K] at h ⊢; exact ⟨CI.cong hO hw h.1, h.2⟩
  | .nif, v, F, hF, h => by simp only [K] at h ⊢; exact ⟨CI.cong hO hw h.1, h.2⟩
  | .nfn, v, F, hF, h => by simp only [K] at h ⊢; exact ⟨CI.cong hO hw h.1, h.2⟩
  | .ifc t x, v, F, hF, h => by simp only [K] at h ⊢; exact ⟨CI.cong hO hw h.1, h.2⟩
  | .nmp, v, F, hF, h => by simp only [K] at h ⊢; exact ⟨CI.cong hO hw h.1, h.2⟩
  | .mp _, v, F, hF, h => by simp only [K] at h ⊢; exact ⟨CI.cong hO hw h.1, h.2⟩
theorem Ks.cong (hO : ∀ b, O b → O' b) (hw : ∀ b, O b → w'.heap[b]? = w.heap[b]?) : ∀ {ts : List T} {vs : List Value} {F : List Nat}, (∀ b ∈ F, w'.heap[b]? = w.heap[b]?) → Ks w O ts vs F → Ks w' O' ts vs F
  | [], vs, F, hF, h => by simpa only [Ks] using h
  | t :: ts, vs, F, hF, h => by
    simp only [Ks] at h ⊢
    obtain ⟨v, r, F1, F2, e, rfl, h1, h2⟩ := h
    exact ⟨v, r, F1, F2, e, rfl, K.cong hO hw (fun x hx => hF x (by simp [hx])) h1, Ks.cong hO hw (fun x hx => hF x (by simp [hx])) h2⟩
theorem Kr.cong (hO : ∀ b, O b → O' b) (hw : ∀ b, O b → w'.heap[b]? = w.heap[b]?) : ∀ {rs : List (List T)} {vs : List Value} {F : List Nat}, (∀ b ∈ F, w'.heap[b]? = w.heap[b]?) → Kr w O rs vs F → Kr w' O' rs vs F
  | [], vs, F, hF, h => by simpa only [Kr] using h
  | r :: rs, vs, F, hF, h => by
    simp only [Kr] at h ⊢
    obtain ⟨v1, v2, F1, F2, e, rfl, h1, h2⟩ := h
    exact ⟨v1, v2, F1, F2, e, rfl, Ks.cong hO hw (fun x hx => hF x (by simp [hx])) h1, Kr.cong hO hw (fun x hx => hF x (by simp [hx])) h2⟩
end
mutual
theorem CV.cong (hO : ∀ b, O b → O' b) (hw : ∀ b, O b → w'.heap[b]? = w.heap[b]?) (hA : ∀ t, A t → A' t) (hρ : ∀ t, A t → ρ' t = ρ t) : ∀ {t : T} {v : Value}, CV w O ρ A t v → CV w' O' ρ' A' t v
  | .ref t o n, v, h => by simp only [CV] at h ⊢; exact ⟨hA _ h.1, by rw [hρ _ h.1]; exact h.2⟩
  | .ptr t r o, v, h => by simp only [CV] at h ⊢; exact ⟨hA _ h.1, by rw [hρ _ h.1]; exact h.2⟩
  | .mp t, v, h => by simp only [CV] at h ⊢; exact ⟨hA _ h.1, by rw [hρ _ h.1]; exact h.2⟩
  | .agg cs, v, h => by
    simp only [CV] at h ⊢
    obtain ⟨us, e, h⟩ := h
    exact ⟨us, e, CVs.cong hO hw hA hρ h⟩
  | .tup cs, v, h => by
    simp only [CV] at h ⊢
    obtain ⟨us, e, h⟩ := h
    exact ⟨us, e, CVs.cong hO hw hA hρ h⟩
  | .fn f caps, v, h => by
    simp only [CV] at h ⊢
    obtain ⟨us, e, h⟩ := h
    exact ⟨us, e, CVs.cong hO hw hA hρ h⟩
  | .ifc t x, v, h => by
    simp only [CV] at h ⊢
    obtain ⟨u, e, h⟩ := h
    exact ⟨u, e, CV.cong hO hw hA hρ h⟩
  | .dead, v, h => by simp only [CV] at h ⊢; exact CI.cong hO hw h
  | .un, v, h => by simp only [CV] at h ⊢; exact CI.cong hO hw h
  | .b x, v, h => by simp only [CV] at h ⊢; exact CI.cong hO hw h
  | .i k n, v, h => by simp only [CV] at h ⊢; exact CI.cong hO hw h
  | .s l, v, h => by simp only [CV] at h ⊢; exact CI.cong hO hw h
  | .nl, v, h => by simp only [CV] at h ⊢; exact CI.cong hO hw h
  | .imm rows, v, h => by simp only [CV] at h ⊢; exact CI.cong hO hw h
  | .own sz rows, v, h => by simp only [CV] at h ⊢; exact CI.cong hO hw h
  | .bx cs, v, h => by simp only [CV] at h ⊢; exact CI.cong hO hw h
  | .np, v, h => by simp only [CV] at h ⊢; exact CI.cong hO hw h
  | .pim cs, v, h => by simp only [CV] at h ⊢; exact CI.cong hO hw h
  | .nif, v, h => by simp only [CV] at h ⊢; exact CI.cong hO hw h
  | .nfn, v, h => by simp only [CV] at h ⊢; exact CI.cong hO hw h
  | .nmp, v, h => by simp only [CV] at h ⊢; exact CI.cong hO hw h
theorem CVs.cong (hO : ∀ b, O b → O' b) (hw : ∀ b, O b → w'.heap[b]? = w.heap[b]?) (hA : ∀ t, A t → A' t) (hρ : ∀ t, A t → ρ' t = ρ t) : ∀ {ts : List T} {vs : List Value}, CVs w O ρ A ts vs → CVs w' O' ρ' A' ts vs
  | [], vs, h => by simpa only [CVs] using h
  | t :: ts, vs, h => by
    simp only [CVs] at h ⊢
    obtain ⟨v, r, e, h1, h2⟩ := h
    exact ⟨v, r, e, CV.cong hO hw hA hρ h1, CVs.cong hO hw hA hρ h2⟩
end
theorem D.cong (hO : ∀ b, O b → O' b) (hw : ∀ b, O b → w'.heap[b]? = w.heap[b]?) (hA : ∀ t, A t → A' t) (hρ : ∀ t, A t → ρ' t = ρ t) {t : T} {v : Value} {F : List Nat} (hF : ∀ b ∈ F, w'.heap[b]? = w.heap[b]?) (h : D w O ρ A t v F) : D w' O' ρ' A' t v F :=
  h.imp (K.cong hO hw hF) (fun h => ⟨CV.cong hO hw hA hρ h.1, h.2⟩)
theorem Ds.cong (hO : ∀ b, O b → O' b) (hw : ∀ b, O b → w'.heap[b]? = w.heap[b]?) (hA : ∀ t, A t → A' t) (hρ : ∀ t, A t → ρ' t = ρ t) : ∀ {ts : List T} {vs : List Value} {F : List Nat}, (∀ b ∈ F, w'.heap[b]? = w.heap[b]?) → Ds w O ρ A ts vs F → Ds w' O' ρ' A' ts vs F
  | [], vs, F, hF, h => by simpa only [Ds] using h
  | t :: ts, vs, F, hF, h => by
    simp only [Ds] at h ⊢
    obtain ⟨v, r, F1, F2, e, rfl, h1, h2⟩ := h
    exact ⟨v, r, F1, F2, e, rfl, D.cong hO hw hA hρ (fun x hx => hF x (by simp [hx])) h1, Ds.cong hO hw hA hρ (fun x hx => hF x (by simp [hx])) h2⟩
theorem Dr.cong (hO : ∀ b, O b → O' b) (hw : ∀ b, O b → w'.heap[b]? = w.heap[b]?) (hA : ∀ t, A t → A' t) (hρ : ∀ t, A t → ρ' t = ρ t) : ∀ {rs : List (List T)} {vs : List Value} {F : List Nat}, (∀ b ∈ F, w'.heap[b]? = w.heap[b]?) → Dr w O ρ A rs vs F → Dr w' O' ρ' A' rs vs F
  | [], vs, F, hF, h => by simpa only [Dr] using h
  | r :: rs, vs, F, hF, h => by
    simp only [Dr] at h ⊢
    obtain ⟨v1, v2, F1, F2, e, rfl, h1, h2⟩ := h
    exact ⟨v1, v2, F1, F2, e, rfl, Ds.cong hO hw hA hρ (fun x hx => hF x (by simp [hx])) h1, Dr.cong hO hw hA hρ (fun x hx => hF x (by simp [hx])) h2⟩
theorem BR.cong (hO : ∀ b, O b → O' b) (hw : ∀ b, O b → w'.heap[b]? = w.heap[b]?) (hA : ∀ t, A t → A' t) (hρ : ∀ t, A t → ρ' t = ρ t) {t : Nat} (ht : A t) {k : Blk} {F : List Nat} (hF : ∀ b ∈ F, w'.heap[b]? = w.heap[b]?) (h : BR w O ρ A t k F) : BR w' O' ρ' A' t k F := by
  cases k with
  | arr sz rows =>
    simp only [BR] at h ⊢
    rw [hρ _ ht]
    refine h.imp id ?_
    rintro ⟨B, e1, e2, h1, h2, c, e, cs, F', hb, h3, hr, hm, rfl⟩
    exact ⟨B, e1, e2, h1, h2, c, e, cs, F', by rw [hF _ (by simp)]; exact hb, h3, Dr.cong hO hw hA hρ (fun x hx => hF x (by simp [hx])) hr, hm, rfl⟩
  | mb es => simp only [BR] at h
end
end Go.Proofs.Ytcchmhmbjhgfdaa.V
