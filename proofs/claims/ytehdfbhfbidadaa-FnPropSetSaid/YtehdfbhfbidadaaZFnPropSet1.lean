/- The law FnPropSet of the given program holds of every input (theorem fnPropSet_holds, the last of these texts): part 1 of 8. -/
import Derived.WalkKit
import Derived.Calls
import Derived.Laws.Cells
import Derived.Laws.CopyRow
import Derived.Laws.Entries
import Derived.Below
import Derived.MapKept
import Derived.Great.FillDense
import Derived.Laws.MakeOwn
/- The machine of trees, texts Va, Vb, Vc, Vd, Ve, Vf, Vg, Vh, Vi, Vj, Vk, Vl, Vm. -/
/- A machine of trees: values, cells and blocks as trees; what a tree says of the machine's memory. -/
namespace Go.Proofs.Ytehdfbhfbidadaa.V
open Go
set_option linter.unusedVariables false

/-- A value, a cell, a tree. -/
inductive T where
  | un | dead
  | b (x : Bool) | i (k : IntKind) (n : Int) | s (l : List UInt8)
  | nl | imm (rows : List (List T)) | own (sz : Nat) (rows : List (List T)) | bx (cs : List T)
  | ref (t o n : Nat)
  | np | ptr (t r o : Nat) | pim (cs : List T)
  | fn (f : Nat) (caps : List T)
  | nfn | nif | ifc (t : Nat) (x : T)
  | agg (cs : List T) | tup (xs : List T)
  | nmp | mp (t : Nat)
  deriving Inhabited

/-- Interfaces, by their type; from 4294967296 on: the program's one method of an interface, bound to one. -/
def metName : String := "loop.example/ashlar/impl.order"
def ifW (t : Nat) (u : Value) : Value := if t < 4294967296 then .iface t u else .func (.method metName) #[u] #[]
/-- Where a block lies: its number, its first cell, how many rows it bears, how many cells a row has. -/
structure RB where
  b : Nat
  o : Nat
  cap : Nat
  sz : Nat

section
variable (w : World) (O : Nat → Prop)
/-- What the cells from a place on hold. -/
def Lies (b o : Nat) (us : List Value) : Prop := ∀ j u, us[j]? = some u → w.cell? ⟨b, o + j, none⟩ = some u

mutual
/-- What is never written again. -/
def CI : T → Value → Prop
  | .dead, _ => True
  | .un, v => v = undef
  | .b x, v => v = .bool x
  | .i k n, v => v = .int k n
  | .s l, v => v = .string ⟨l.toArray⟩
  | .nl, v => v = .slice none 0 0
  | .imm rows, v => ∃ a cap, v = .slice a rows.length cap ∧ rows.length ≤ cap ∧ (rows = [] ∨ ∃ b o sz cs, a = some ⟨b, o, none⟩ ∧ O b ∧ (∀ r ∈ rows, r.length = sz) ∧ CIr rows cs ∧ Lies w b o cs)
  | .np, v => v = .pointer none
  | .pim cs, v => ∃ b o us, v = .pointer (some ⟨b, o, none⟩) ∧ O b ∧ CIs cs us ∧ Lies w b o us
  | .fn f caps, v => ∃ us : List Value, v = .func (.func f) #[] us.toArray ∧ CIs caps us
  | .nif, v => v = .nilIface
  | .nfn, v => v = .nilFunc
  | .ifc t x, v => ∃ u, v = ifW t u ∧ CI x u
  | .agg cs, v => ∃ us : List Value, v = .agg us.toArray ∧ CIs cs us
  | .tup cs, v => ∃ us : List Value, v = .tuple us.toArray ∧ CIs cs us
  | .nmp, v => v = .map none
  | _, _ => False
def CIs : List T → List Value → Prop
  | [], vs => vs = []
  | t :: ts, vs => ∃ v r, vs = v :: r ∧ CI t v ∧ CIs ts r
def CIr : List (List T) → List Value → Prop
  | [], vs => vs = []
  | r :: rs, vs => ∃ v1 v2, vs = v1 ++ v2 ∧ CIs r v1 ∧ CIr rs v2
end

mutual
/-- What is owned: with the blocks that it has alone. -/
def K : T → Value → List Nat → Prop
  | .own sz rows, v, F => (rows = [] ∧ (∃ q, v = .slice q 0 0) ∧ F = []) ∨ ∃ b o cap c e cs F', v = .slice (some ⟨b, o, none⟩) rows.length cap ∧ w.heap[b]? = some (.cells c e (0, 0)) ∧ rows.length ≤ cap ∧ o + cap * sz ≤ c.size ∧ (∀ r ∈ rows, r.length = sz) ∧ F = b :: F' ∧ Kr rows cs F' ∧ ∀ j u, cs[j]? = some u → c[o + j]? = some u
  | .bx cs, v, F => ∃ b o c e us F', v = .pointer (some ⟨b, o, none⟩) ∧ w.heap[b]? = some (.cells c e (0, 0)) ∧ o + cs.length ≤ c.size ∧ F = b :: F' ∧ Ks cs us F' ∧ ∀ j u, us[j]? = some u → c[o + j]? = some u
  | .agg cs, v, F => ∃ us : List Value, v = .agg us.toArray ∧ Ks cs us F
  | .tup cs, v, F => ∃ us : List Value, v = .tuple us.toArray ∧ Ks cs us F
  | t, v, F => CI w O t v ∧ F = []
def Ks : List T → List Value → List Nat → Prop
  | [], vs, F => vs = [] ∧ F = []
  | t :: ts, vs, F => ∃ v r F1 F2, vs = v :: r ∧ F = F1 ++ F2 ∧ K t v F1 ∧ Ks ts r F2
def Kr : List (List T) → List Value → List Nat → Prop
  | [], vs, F => vs = [] ∧ F = []
  | r :: rs, vs, F => ∃ v1 v2 F1 F2, vs = v1 ++ v2 ∧ F = F1 ++ F2 ∧ Ks r v1 F1 ∧ Kr rs v2 F2
end
variable (ρ : Nat → Option RB) (A : Nat → Prop)
mutual
/-- What stands in a slot. -/
def CV : T → Value → Prop
  | .ref t o n, v => A t ∧ ((ρ t = none ∧ o = 0 ∧ n = 0 ∧ ∃ q, v = .slice q 0 0) ∨ ∃ B, ρ t = some B ∧ ∃ b' o' c, v = .slice (some ⟨b', o', none⟩) n c ∧ o + c = B.cap ∧ n ≤ c ∧ (c = 0 ∨ (b' = B.b ∧ o' = B.o + o * B.sz)))
  | .ptr t r o, v => A t ∧ ∃ B, ρ t = some B ∧ v = .pointer (some ⟨B.b, B.o + r * B.sz + o, none⟩)
  | .mp t, v => A t ∧ ∃ B, ρ t = some B ∧ v = .map (some B.b)
  | .agg cs, v => ∃ us : List Value, v = .agg us.toArray ∧ CVs cs us
  | .tup cs, v => ∃ us : List Value, v = .tuple us.toArray ∧ CVs cs us
  | .fn f caps, v => ∃ us : List Value, v = .func (.func f) #[] us.toArray ∧ CVs caps us
  | .ifc t x, v => ∃ u, v = ifW t u ∧ CV x u
  | t, v => CI w O t v
def CVs : List T → List Value → Prop
  | [], vs => vs = []
  | t :: ts, vs => ∃ v r, vs = v :: r ∧ CV t v ∧ CVs ts r
end
/-- What stands in a cell of a block of one's own. -/
def D (t : T) (v : Value) (F : List Nat) : Prop := K w O t v F ∨ (CV w O ρ A t v ∧ F = [])
def Ds : List T → List Value → List Nat → Prop
  | [], vs, F => vs = [] ∧ F = []
  | t :: ts, vs, F => ∃ v r F1 F2, vs = v :: r ∧ F = F1 ++ F2 ∧ D w O ρ A t v F1 ∧ Ds ts r F2
def Dr : List (List T) → List Value → List Nat → Prop
  | [], vs, F => vs = [] ∧ F = []
  | r :: rs, vs, F => ∃ v1 v2 F1 F2, vs = v1 ++ v2 ∧ F = F1 ++ F2 ∧ Ds w O ρ A r v1 F1 ∧ Dr rs v2 F2
end

/-- A block: rows of cells (a variable is one row), or a map. -/
inductive Blk where
  | arr (sz : Nat) (rows : List (List T))
  | mb (es : List (T × T))
  deriving Inhabited

def BR (w : World) (O : Nat → Prop) (ρ : Nat → Option RB) (A : Nat → Prop) (t : Nat) : Blk → List Nat → Prop
  | .arr sz rows, F => (rows = [] ∧ F = [] ∧ (ρ t = none ∨ ∃ B, ρ t = some B ∧ B.cap = 0 ∧ sz = B.sz)) ∨ ∃ B, ρ t = some B ∧ sz = B.sz ∧ (∀ r ∈ rows, r.length = sz) ∧ rows.length ≤ B.cap ∧ ∃ c e cs F', w.heap[B.b]? = some (.cells c e (0, 0)) ∧ B.o + B.cap * B.sz ≤ c.size ∧ Dr w O ρ A rows cs F' ∧ (∀ j u, cs[j]? = some u → c[B.o + j]? = some u) ∧ F = B.b :: F'
  | .mb es, F => ∃ (B : RB) (ents : Array MapEntry) (clk : Nat) (F' : List Nat), ρ t = some B ∧ w.heap[B.b]? = some (.map ents clk) ∧ CIs w O (es.map Prod.fst) (ents.toList.map (·.key)) ∧ Ds w O ρ A (es.map Prod.snd) (ents.toList.map (·.val)) F' ∧ F = B.b :: F'

/-! ### lists -/
section
variable {w w' : World} {O O' : Nat → Prop} {ρ ρ' : Nat → Option RB} {A A' : Nat → Prop}
theorem Lies.cong {b o : Nat} {us : List Value} (h : Lies w b o us) (e : w'.heap[b]? = w.heap[b]?) : Lies w' b o us := by
  intro j u hj
  have := h j u hj
  simp only [World.cell?] at this ⊢
  rw [e]; exact this

theorem CIs.len : ∀ {ts : List T} {vs : List Value}, CIs w O ts vs → vs.length = ts.length
  | [], vs, h => by simp only [CIs] at h; simp [h]
  | t :: ts, vs, h => by
    simp only [CIs] at h
    obtain ⟨v, r, rfl, _, h2⟩ := h
    simp [CIs.len h2]
theorem CVs.len : ∀ {ts : List T} {vs : List Value}, CVs w O ρ A ts vs → vs.length = ts.length
  | [], vs, h => by simp only [CVs] at h; simp [h]
  | t :: ts, vs, h => by
    simp only [CVs] at h
    obtain ⟨v, r, rfl, _, h2⟩ := h
    simp [CVs.len h2]
theorem Ks.len : ∀ {ts : List T} {vs : List Value} {F : List Nat}, Ks w O ts vs F → vs.length = ts.length
  | [], vs, F, h => by simp only [Ks] at h; simp [h.1]
  | t :: ts, vs, F, h => by
    simp only [Ks] at h
    obtain ⟨v, r, F1, F2, rfl, _, _, h2⟩ := h
    simp [Ks.len h2]
theorem Ds.len : ∀ {ts : List T} {vs : List Value} {F : List Nat}, Ds w O ρ A ts vs F → vs.length = ts.length
  | [], vs, F, h => by simp only [Ds] at h; simp [h.1]
  | t :: ts, vs, F, h => by
    simp only [Ds] at h
    obtain ⟨v, r, F1, F2, rfl, _, _, h2⟩ := h
    simp [Ds.len h2]

/-! ### another world -/
mutual
theorem CI.cong (hO : ∀ b, O b → O' b) (hw : ∀ b, O b → w'.heap[b]? = w.heap[b]?) : ∀ {t : T} {v : Value}, CI w O t v → CI w' O' t v
  | .dead, v, h => by simp only [CI]
  | .un, v, h => by simpa only [CI] using h
  | .b x, v, h => by simpa only [CI] using h
  | .i k n, v, h => by simpa only [CI] using h
  | .s l, v, h => by simpa only [CI] using h
  | .nl, v, h => by simpa only [CI] using h
  | .imm rows, v, h => by
    simp only [CI] at h ⊢
    obtain ⟨a, cap, e, hl, h⟩ := h
    refine ⟨a, cap, e, hl, h.imp id ?_⟩
    rintro ⟨b, o, sz, cs, ea, hb, hs, hr, hm⟩
    exact ⟨b, o, sz, cs, ea, hO _ hb, hs, CIr.cong hO hw hr, hm.cong (hw _ hb)⟩
  | .own sz rows, v, h => by simp only [CI] at h
  | .bx rows, v, h => by simp only [CI] at h
  | .ref _ _ _, v, h => by simp only [CI] at h
  | .np, v, h => by simpa only [CI] using h
  | .ptr _ _ _, v, h => by simp only [CI] at h
  | .pim cs, v, h => by
    simp only [CI] at h ⊢
    obtain ⟨b, o, us, e, hb, hc, hm⟩ := h
    exact ⟨b, o, us, e, hO _ hb, CIs.cong hO hw hc, hm.cong (hw _ hb)⟩
  | .fn f caps, v, h => by
    simp only [CI] at h ⊢
    obtain ⟨us, e, h⟩ := h
    exact ⟨us, e, CIs.cong hO hw h⟩
  | .nif, v, h => by simpa only [CI] using h
  | .nfn, v, h => by simpa only [CI] using h
  | .ifc t x, v, h => by
    simp only [CI] at h ⊢
    obtain ⟨u, e, h⟩ := h
    exact ⟨u, e, CI.cong hO hw h⟩
  | .agg cs, v, h => by
    simp only [CI] at h ⊢
    obtain ⟨us, e, h⟩ := h
    exact ⟨us, e, CIs.cong hO hw h⟩
  | .tup cs, v, h => by
    simp only [CI] at h ⊢
    obtain ⟨us, e, h⟩ := h
    exact ⟨us, e, CIs.cong hO hw h⟩
  | .nmp, v, h => by simpa only [CI] using h
  | .mp _, v, h => by simp only [CI] at h
theorem CIs.cong (hO : ∀ b, O b → O' b) (hw : ∀ b, O b → w'.heap[b]? = w.heap[b]?) : ∀ {ts : List T} {vs : List Value}, CIs w O ts vs → CIs w' O' ts vs
  | [], vs, h => by simpa only [CIs] using h
  | t :: ts, vs, h => by
    simp only [CIs] at h ⊢
    obtain ⟨v, r, e, h1, h2⟩ := h
    exact ⟨v, r, e, CI.cong hO hw h1, CIs.cong hO hw h2⟩
theorem CIr.cong (hO : ∀ b, O b → O' b) (hw : ∀ b, O b → w'.heap[b]? = w.heap[b]?) : ∀ {rs : List (List T)} {vs : List Value}, CIr w O rs vs → CIr w' O' rs vs
  | [], vs, h => by simpa only [CIr] using h
  | r :: rs, vs, h => by
    simp only [CIr] at h ⊢
    obtain ⟨v1, v2, e, h1, h2⟩ := h
    exact ⟨v1, v2, e, CIs.cong hO hw h1, CIr.cong hO hw h2⟩
end

mutual
theorem K.cong (hO : ∀ b, O b → O' b) (hw : ∀ b, O b → w'.heap[b]? = w.heap[b]?) : ∀ {t : T} {v : Value} {F : List Nat}, (∀ b ∈ F, w'.heap[b]? = w.heap[b]?) → K w O t v F → K w' O' t v F
  | .own sz rows, v, F, hF, h => by
    simp only [K] at h ⊢
    refine h.imp id ?_
    rintro ⟨b, o, cap, c, e, cs, F', ev, hb, h1, h2, h3, rfl, hr, hm⟩
    exact ⟨b, o, cap, c, e, cs, F', ev, by rw [hF _ (by simp)]; exact hb, h1, h2, h3, rfl, Kr.cong hO hw (fun x hx => hF x (by simp [hx])) hr, hm⟩
  | .bx cs, v, F, hF, h => by
    simp only [K] at h ⊢
    obtain ⟨b, o, c, e, us, F', ev, hb, hc, rfl, hk, hm⟩ := h
    exact ⟨b, o, c, e, us, F', ev, by rw [hF _ (by simp)]; exact hb, hc, rfl, Ks.cong hO hw (fun x hx => hF x (by simp [hx])) hk, hm⟩
  | .agg cs, v, F, hF, h => by
    simp only [K] at h ⊢
    obtain ⟨us, e, h⟩ := h
    exact ⟨us, e, Ks.cong hO hw hF h⟩
  | .tup cs, v, F, hF, h => by
    simp only [K] at h ⊢
    obtain ⟨us, e, h⟩ := h
    exact ⟨us, e, Ks.cong hO hw hF h⟩
  | .fn f caps, v, F, hF, h => by simp only [K] at h ⊢; exact ⟨CI.cong hO hw h.1, h.2⟩
  | .dead, v, F, hF, h => by simp only [K] at h ⊢; exact ⟨CI.cong hO hw h.1, h.2⟩
  | .un, v, F, hF, h => by simp only [K] at h ⊢; exact ⟨CI.cong hO hw h.1, h.2⟩
  | .b x, v, F, hF, h => by simp only [K] at h ⊢; exact ⟨CI.cong hO hw h.1, h.2⟩
  | .i k n, v, F, hF, h => by simp only [K] at h ⊢; exact ⟨CI.cong hO hw h.1, h.2⟩
  | .s l, v, F, hF, h => by simp only [K] at h ⊢; exact ⟨CI.cong hO hw h.1, h.2⟩
  | .nl, v, F, hF, h => by simp only [K] at h ⊢; exact ⟨CI.cong hO hw h.1, h.2⟩
  | .imm rows, v, F, hF, h => by simp only [K] at h ⊢; exact ⟨CI.cong hO hw h.1, h.2⟩
  | .ref _ _ _, v, F, hF, h => by simp only [K] at h ⊢; exact ⟨CI.cong hO hw h.1, h.2⟩
  | .np, v, F, hF, h => by simp only [K] at h ⊢; exact ⟨CI.cong hO hw h.1, h.2⟩
  | .ptr _ _ _, v, F, hF, h => by simp only [K] at h ⊢; exact ⟨CI.cong hO hw h.1, h.2⟩
  | .pim cs, v, F, hF, h => by simp only [K] at h ⊢; exact ⟨CI.cong hO hw h.1, h.2⟩
  | .nif, v, F, hF, h => by simp only [K] at h ⊢; exact ⟨CI.cong hO hw h.1, h.2⟩
  | .nfn, v, F, hF, h => by simp only [K] at h ⊢; exact ⟨CI.cong hO hw h.1, h.2⟩
  | .ifc t x, v, F, hF, h => by simp only [K] at h ⊢; exact ⟨CI.cong hO hw h.1, h.2⟩
  | .nmp, v, F, hF, h => by simp only [K] at h ⊢; exact ⟨CI.cong hO hw h.1, h.2⟩
  | .mp _, v, F, hF, h => by simp only [K] at h ⊢; exact ⟨CI.cong hO hw h.1, h.2⟩
theorem Ks.cong (hO : ∀ b, O b → O' b) (hw : ∀ b, O b → w'.heap[b]? = w.heap[b]?) : ∀ {ts : List T} {vs : List Value} {F : List Nat}, (∀ b ∈ F, w'.heap[b]? = w.heap[b]?) → Ks w O ts vs F → Ks w' O' ts vs F
  | [], vs, F, hF, h => by simpa only [Ks] using h
  | t :: ts, vs, F, hF, h => by
    simp only [Ks] at h ⊢
    obtain ⟨v, r, F1, F2, e, rfl, h1, h2⟩ := h
    exact ⟨v, r, F1, F2, e, rfl, K.cong hO hw (fun x hx => hF x (by simp [hx])) h1, Ks.cong hO hw (fun x hx => hF x (by simp [hx])) h2⟩
theorem Kr.cong (hO : ∀ b, O b → O' b) (hw : ∀ b, O b → w'.heap[b]? = w.heap[b]?) : ∀ {rs : List (List T)} {vs : List Value} {F : List Nat}, (∀ b ∈ F, w'.heap[b]? = w.heap[b]?) → Kr w O rs vs F → Kr w' O' rs vs F
  | [], vs, F, hF, h => by simpa only [Kr] using h
  | r :: rs, vs, F, hF, h => by
    simp only [Kr] at h ⊢
    obtain ⟨v1, v2, F1, F2, e, rfl, h1, h2⟩ := h
    exact ⟨v1, v2, F1, F2, e, rfl, Ks.cong hO hw (fun x hx => hF x (by simp [hx])) h1, Kr.cong hO hw (fun x hx => hF x (by simp [hx])) h2⟩
end
mutual
theorem CV.cong (hO : ∀ b, O b → O' b) (hw : ∀ b, O b → w'.heap[b]? = w.heap[b]?) (hA : ∀ t, A t → A' t) (hρ : ∀ t, A t → ρ' t = ρ t) : ∀ {t : T} {v : Value}, CV w O ρ A t v → CV w' O' ρ' A' t v
  | .ref t o n, v, h => by simp only [CV] at h ⊢; exact ⟨hA _ h.1, by rw [hρ _ h.1]; exact h.2⟩
  | .ptr t r o, v, h => by simp only [CV] at h ⊢; exact ⟨hA _ h.1, by rw [hρ _ h.1]; exact h.2⟩
  | .mp t, v, h => by simp only [CV] at h ⊢; exact ⟨hA _ h.1, by rw [hρ _ h.1]; exact h.2⟩
  | .agg cs, v, h => by
    simp only [CV] at h ⊢
    obtain ⟨us, e, h⟩ := h
    exact ⟨us, e, CVs.cong hO hw hA hρ h⟩
  | .tup cs, v, h => by
    simp only [CV] at h ⊢
    obtain ⟨us, e, h⟩ := h
    exact ⟨us, e, CVs.cong hO hw hA hρ h⟩
  | .fn f caps, v, h => by
    simp only [CV] at h ⊢
    obtain ⟨us, e, h⟩ := h
    exact ⟨us, e, CVs.cong hO hw hA hρ h⟩
  | .ifc t x, v, h => by
    simp only [CV] at h ⊢
    obtain ⟨u, e, h⟩ := h
    exact ⟨u, e, CV.cong hO hw hA hρ h⟩
  | .dead, v, h => by simp only [CV] at h ⊢; exact CI.cong hO hw h
  | .un, v, h => by simp only [CV] at h ⊢; exact CI.cong hO hw h
  | .b x, v, h => by simp only [CV] at h ⊢; exact CI.cong hO hw h
  | .i k n, v, h => by simp only [CV] at h ⊢; exact CI.cong hO hw h
  | .s l, v, h => by simp only [CV] at h ⊢; exact CI.cong hO hw h
  | .nl, v, h => by simp only [CV] at h ⊢; exact CI.cong hO hw h
  | .imm rows, v, h => by simp only [CV] at h ⊢; exact CI.cong hO hw h
  | .own sz rows, v, h => by simp only [CV] at h ⊢; exact CI.cong hO hw h
  | .bx cs, v, h => by simp only [CV] at h ⊢; exact CI.cong hO hw h
  | .np, v, h => by simp only [CV] at h ⊢; exact CI.cong hO hw h
  | .pim cs, v, h => by simp only [CV] at h ⊢; exact CI.cong hO hw h
  | .nif, v, h => by simp only [CV] at h ⊢; exact CI.cong hO hw h
  | .nfn, v, h => by simp only [CV] at h ⊢; exact CI.cong hO hw h
  | .nmp, v, h => by simp only [CV] at h ⊢; exact CI.cong hO hw h
theorem CVs.cong (hO : ∀ b, O b → O' b) (hw : ∀ b, O b → w'.heap[b]? = w.heap[b]?) (hA : ∀ t, A t → A' t) (hρ : ∀ t, A t → ρ' t = ρ t) : ∀ {ts : List T} {vs : List Value}, CVs w O ρ A ts vs → CVs w' O' ρ' A' ts vs
  | [], vs, h => by simpa only [CVs] using h
  | t :: ts, vs, h => by
    simp only [CVs] at h ⊢
    obtain ⟨v, r, e, h1, h2⟩ := h
    exact ⟨v, r, e, CV.cong hO hw hA hρ h1, CVs.cong hO hw hA hρ h2⟩
end
theorem D.cong (hO : ∀ b, O b → O' b) (hw : ∀ b, O b → w'.heap[b]? = w.heap[b]?) (hA : ∀ t, A t → A' t) (hρ : ∀ t, A t → ρ' t = ρ t) {t : T} {v : Value} {F : List Nat} (hF : ∀ b ∈ F, w'.heap[b]? = w.heap[b]?) (h : D w O ρ A t v F) : D w' O' ρ' A' t v F :=
  h.imp (K.cong hO hw hF) (fun h => ⟨CV.cong hO hw hA hρ h.1, h.2⟩)
theorem Ds.cong (hO : ∀ b, O b → O' b) (hw : ∀ b, O b → w'.heap[b]? = w.heap[b]?) (hA : ∀ t, A t → A' t) (hρ : ∀ t, A t → ρ' t = ρ t) : ∀ {ts : List T} {vs : List Value} {F : List Nat}, (∀ b ∈ F, w'.heap[b]? = w.heap[b]?) → Ds w O ρ A ts vs F → Ds w' O' ρ' A' ts vs F
  | [], vs, F, hF, h => by simpa only [Ds] using h
  | t :: ts, vs, F, hF, h => by
    simp only [Ds] at h ⊢
    obtain ⟨v, r, F1, F2, e, rfl, h1, h2⟩ := h
    exact ⟨v, r, F1, F2, e, rfl, D.cong hO hw hA hρ (fun x hx => hF x (by simp [hx])) h1, Ds.cong hO hw hA hρ (fun x hx => hF x (by simp [hx])) h2⟩
theorem Dr.cong (hO : ∀ b, O b → O' b) (hw : ∀ b, O b → w'.heap[b]? = w.heap[b]?) (hA : ∀ t, A t → A' t) (hρ : ∀ t, A t → ρ' t = ρ t) : ∀ {rs : List (List T)} {vs : List Value} {F : List Nat}, (∀ b ∈ F, w'.heap[b]? = w.heap[b]?) → Dr w O ρ A rs vs F → Dr w' O' ρ' A' rs vs F
  | [], vs, F, hF, h => by simpa only [Dr] using h
  | r :: rs, vs, F, hF, h => by
    simp only [Dr] at h ⊢
    obtain ⟨v1, v2, F1, F2, e, rfl, h1, h2⟩ := h
    exact ⟨v1, v2, F1, F2, e, rfl, Ds.cong hO hw hA hρ (fun x hx => hF x (by simp [hx])) h1, Dr.cong hO hw hA hρ (fun x hx => hF x (by simp [hx])) h2⟩
theorem BR.cong (hO : ∀ b, O b → O' b) (hw : ∀ b, O b → w'.heap[b]? = w.heap[b]?) (hA : ∀ t, A t → A' t) (hρ : ∀ t, A t → ρ' t = ρ t) {t : Nat} (ht : A t) {k : Blk} {F : List Nat} (hF : ∀ b ∈ F, w'.heap[b]? = w.heap[b]?) (h : BR w O ρ A t k F) : BR w' O' ρ' A' t k F := by
  cases k with
  | arr sz rows =>
    simp only [BR] at h ⊢
    rw [hρ _ ht]
    refine h.imp id ?_
    rintro ⟨B, e1, e2, h1, h2, c, e, cs, F', hb, h3, hr, hm, rfl⟩
    exact ⟨B, e1, e2, h1, h2, c, e, cs, F', by rw [hF _ (by simp)]; exact hb, h3, Dr.cong hO hw hA hρ (fun x hx => hF x (by simp [hx])) hr, hm, rfl⟩
  | mb es =>
    simp only [BR] at h ⊢
    rw [hρ _ ht]
    obtain ⟨B, ents, clk, F', hB, hh, hk, hd, rfl⟩ := h
    exact ⟨B, ents, clk, F', hB, by rw [hF _ (by simp)]; exact hh, CIs.cong hO hw hk, Ds.cong hO hw hA hρ (fun x hx => hF x (by simp [hx])) hd, rfl⟩
end
end Go.Proofs.Ytehdfbhfbidadaa.V

/- States of the machine of trees, and what a state says of a frame and a world. -/
namespace Go.Proofs.Ytehdfbhfbidadaa.V
open Go
set_option linter.unusedVariables false

/-! ### lists by number -/
def tget : List (Nat × T) → Nat → T
  | [], _ => .dead
  | (j, v) :: l, k => if j = k then v else tget l k
def hget : List (Nat × Blk) → Nat → Option Blk
  | [], _ => none
  | (j, v) :: l, k => if j = k then some v else hget l k
def hdel : List (Nat × Blk) → Nat → List (Nat × Blk)
  | [], _ => []
  | (j, v) :: l, k => if j = k then hdel l k else (j, v) :: hdel l k
def hset : List (Nat × Blk) → Nat → Blk → List (Nat × Blk)
  | [], k, x => [(k, x)]
  | (j, v) :: l, k, x => if j = k then (j, x) :: hdel l k else (j, v) :: hset l k x
theorem hget_hdel : ∀ (l : List (Nat × Blk)) (k j : Nat), hget (hdel l k) j = if k = j then none else hget l j
  | [], k, j => by simp [hdel, hget]
  | (i, v) :: l, k, j => by
    have ih := hget_hdel l k j
    simp only [hdel]
    split
    · rename_i h; subst h
      rw [ih]; simp only [hget]
      split <;> rfl
    · simp only [hget, ih]
      by_cases h1 : i = j
      · subst h1
        rw [if_pos rfl, if_neg (fun h => by omega), if_pos rfl]
      · rw [if_neg h1]; simp only [if_neg h1]
theorem hget_hset : ∀ (l : List (Nat × Blk)) (k : Nat) (x : Blk) (j : Nat), hget (hset l k x) j = if k = j then some x else hget l j
  | [], k, x, j => by simp [hset, hget]
  | (i, v) :: l, k, x, j => by
    have ih := hget_hset l k x j
    simp only [hset]
    split
    · rename_i h; subst h
      simp only [hget, hget_hdel]
      split <;> rfl
    · simp only [hget, ih]
      by_cases h1 : i = j
      · subst h1
        rw [if_pos rfl, if_neg (fun h => by omega), if_pos rfl]
      · rw [if_neg h1]; simp only [if_neg h1]

/-- A state: slots, blocks, the next block's name, the first name that is this frame's. -/
structure St where
  tm : List (Nat × T)
  hp : List (Nat × Blk)
  nx : Nat
  fb : Nat

/-- What a change does to the blocks. -/
def hap : List (Nat × Blk) → List (Nat × Option Blk) → List (Nat × Blk)
  | h, [] => h
  | h, (t, some x) :: d => hap (hset h t x) d
  | h, (t, none) :: d => hap (hdel h t) d
def tput (l : List (Nat × T)) (d : Option Nat) (v : T) : List (Nat × T) := match d with | some d => (d, v) :: l | none => l
def St.app (s : St) (d : Option Nat) (v : T) (δ : List (Nat × Option Blk)) : St := { s with tm := tput s.tm d v, hp := hap s.hp δ }

/-- What is fixed while a frame runs. -/
structure Env where
  w0 : World
  mine : List Nat
  O0 : Nat → Prop
  ρ0 : Nat → Option RB
  n : Nat
  fb : Nat

/-- What is as it was. -/
structure Keep (w0 : World) (mine : List Nat) (w : World) : Prop where
  os : w.os = w0.os
  tape : w.tape = w0.tape
  output : w.output = w0.output
  size : w0.heap.size ≤ w.heap.size
  block : ∀ k, k < w0.heap.size → k ∉ mine → w.heap[k]? = w0.heap[k]?
  cells : ∀ (k : Nat) (c : Array Value) (e : TypeId) (f : Nat × Nat), w0.heap[k]? = some (.cells c e f) → ∃ c' e' f', w.heap[k]? = some (.cells c' e' f') ∧ c'.size = c.size
theorem Keep.refl (w : World) (m : List Nat) : Keep w m w := ⟨rfl, rfl, rfl, Nat.le_refl _, fun _ _ _ => rfl, fun k c e f h => ⟨c, e, f, h, rfl⟩⟩
theorem Keep.trans {w0 w1 w2 : World} {m m' : List Nat} (h : Keep w0 m w1) (h' : Keep w1 m' w2) (hm : ∀ b ∈ m', b < w0.heap.size → b ∈ m) : Keep w0 m w2 :=
  ⟨h'.os.trans h.os, h'.tape.trans h.tape, h'.output.trans h.output, Nat.le_trans h.size h'.size, fun k hk hn => (h'.block k (Nat.lt_of_lt_of_le hk h.size) (fun hin => hn (hm k hin hk))).trans (h.block k hk hn),
    fun k c e f hc => by
      obtain ⟨c1, e1, f1, h1, h2⟩ := h.cells k c e f hc
      obtain ⟨c2, e2, f2, h3, h4⟩ := h'.cells k c1 e1 f1 h1
      exact ⟨c2, e2, f2, h3, h4.trans h2⟩⟩
theorem lt_of_heap {w : World} {k : Nat} {x : Obj} (h : w.heap[k]? = some x) : k < w.heap.size := (Array.getElem?_eq_some_iff.1 h).1
/-- Nothing that was has turned. -/
theorem Keep.grown {w w' : World} (h1 : w'.os = w.os) (h2 : w'.tape = w.tape) (h3 : w'.output = w.output) (h4 : w.heap.size ≤ w'.heap.size) (h : ∀ k, k < w.heap.size → w'.heap[k]? = w.heap[k]?) : Keep w [] w' :=
  ⟨h1, h2, h3, h4, fun k hk _ => h k hk, fun k c e f hc => ⟨c, e, f, by rw [h k (lt_of_heap hc)]; exact hc, rfl⟩⟩
/-- One row was written. -/
theorem Keep.row {w : World} {b : Nat} {c c' : Array Value} {e : TypeId} (hb : w.heap[b]? = some (.cells c e (0, 0))) (hs : c'.size = c.size) : Keep w [b] (w.setRow b c') := by
  have hoth : ∀ k, k ≠ b → (w.setRow b c').heap[k]? = w.heap[k]? := by
    intro k hk
    simp only [World.setRow, Array.getElem?_modify]
    rw [if_neg (fun h => hk h.symm)]
  refine ⟨rfl, rfl, rfl, by simp [World.setRow], fun k _ hk => hoth k (by simpa using hk), fun k c1 e1 f1 h => ?_⟩
  by_cases hk : k = b
  · subst hk
    rw [hb] at h
    simp only [Option.some.injEq, Obj.cells.injEq] at h
    obtain ⟨rfl, rfl, rfl⟩ := h
    exact ⟨c', e, _, setRow_heap w k c c' e _ hb, hs⟩
  · exact ⟨c1, e1, f1, by rw [hoth k hk]; exact h, rfl⟩

structure R (E : Env) (A : Nat → Prop) (ρ : Nat → Option RB) (O : Nat → Prop) (F : Nat → List Nat) (s : St) (a : Act) (w : World) : Prop where
  size : a.tmps.size = E.n
  defers : a.defers = []
  fb : s.fb = E.fb
  ρ0 : ∀ t, t < E.fb → ρ t = E.ρ0 t
  O0 : ∀ b, E.O0 b → O b
  Olt : ∀ b, O b → b < w.heap.size
  Onew : ∀ b, O b → E.O0 b ∨ E.w0.heap.size ≤ b ∨ b ∈ E.mine
  tm : ∀ j, CV w O ρ A (tget s.tm j) (a.tmps.getD j undef)
  hp : ∀ t k, hget s.hp t = some k → A t ∧ BR w O ρ A t k (F t)
  nodup : ∀ t k, hget s.hp t = some k → (F t).Nodup
  apart : ∀ t k t' k', hget s.hp t = some k → hget s.hp t' = some k' → t ≠ t' → ∀ b ∈ F t, b ∉ F t'
  mine : ∀ t k, hget s.hp t = some k → ∀ b ∈ F t, ¬ O b ∧ b < w.heap.size ∧ (E.w0.heap.size ≤ b ∨ b ∈ E.mine)
  keep : Keep E.w0 E.mine w

def Rel (E : Env) (A : Nat → Prop) (s : St) (a : Act) (w : World) : Prop := ∃ ρ O F, R E A ρ O F s a w

theorem CV.dead {w : World} {O : Nat → Prop} {ρ : Nat → Option RB} {A : Nat → Prop} (v : Value) : CV w O ρ A .dead v := by simp only [CV, CI]

theorem put_size (a : Act) (d : Option Nat) (v : Value) : (a.put d v).tmps.size = a.tmps.size := by cases d <;> simp [Act.put]
theorem put_defers (a : Act) (d : Option Nat) (v : Value) : (a.put d v).defers = a.defers := by cases d <;> simp [Act.put]
theorem put_getD (a : Act) (d : Nat) (v : Value) (j : Nat) (h : d < a.tmps.size) : (a.put (some d) v).tmps.getD j undef = if d = j then v else a.tmps.getD j undef := by
  simp only [Act.put, Array.getD_eq_getD_getElem?, Array.getElem?_setIfInBounds]
  by_cases e : d = j
  · subst e; simp [h]
  · simp [e]

section
variable {E : Env} {A A' : Nat → Prop} {ρ ρ' : Nat → Option RB} {O O' : Nat → Prop} {F F' : Nat → List Nat} {s : St} {a : Act} {w w' : World}
/-- A slot is written, nothing else. -/
theorem R.put (h : R E A ρ O F s a w) {d : Option Nat} (hd : ∀ k, d = some k → k < E.n) {v : T} {u : Value} (hv : CV w O ρ A v u) : R E A ρ O F (s.app d v []) (a.put d u) w := by
  refine ⟨by rw [put_size, h.size], by rw [put_defers, h.defers], h.fb, h.ρ0, h.O0, h.Olt, h.Onew, ?_, h.hp, h.nodup, h.apart, h.mine, h.keep⟩
  intro j
  cases d with
  | none => exact h.tm j
  | some k =>
    have hk : k < a.tmps.size := by rw [h.size]; exact hd k rfl
    rw [put_getD _ _ _ _ hk]
    simp only [St.app, tput, tget]
    split
    · exact hv
    · exact h.tm j
/-- The world goes on: nothing that is spoken of has turned. -/
theorem R.world (h : R E A ρ O F s a w) {M : List Nat} (hA : ∀ t, A t → A' t) (hO : ∀ b, O b → O' b) (hρ : ∀ t, A t → ρ' t = ρ t) (hfb : ∀ t, t < E.fb → ρ' t = E.ρ0 t)
    (hw : ∀ b, O b → w'.heap[b]? = w.heap[b]?) (hF : ∀ t k, hget s.hp t = some k → ∀ b ∈ F t, w'.heap[b]? = w.heap[b]?) (hlt : ∀ b, O' b → b < w'.heap.size) (hnew : ∀ b, O' b → O b ∨ ((E.w0.heap.size ≤ b ∨ b ∈ E.mine) ∧ ∀ t k, hget s.hp t = some k → b ∉ F t))
    (hk : Keep w M w') (hM : ∀ b ∈ M, E.w0.heap.size ≤ b ∨ b ∈ E.mine) : R E A' ρ' O' F s a w' := by
  refine ⟨h.size, h.defers, h.fb, hfb, fun b hb => hO b (h.O0 b hb), hlt, ?_, fun j => (h.tm j).cong hO hw hA hρ, ?_, h.nodup, h.apart, ?_, h.keep.trans hk (fun b hb hlt => (hM b hb).elim (fun h => by omega) id)⟩
  · intro b hb
    rcases hnew b hb with h1 | h1
    · exact h.Onew b h1
    · exact .inr h1.1
  · intro t k hk'
    exact ⟨hA _ (h.hp t k hk').1, (h.hp t k hk').2.cong hO hw hA hρ (h.hp t k hk').1 (hF t k hk')⟩
  · intro t k hk' b hb
    obtain ⟨h1, h2, h3⟩ := h.mine t k hk' b hb
    refine ⟨fun ho => ?_, Nat.lt_of_lt_of_le h2 hk.size, h3⟩
    rcases hnew b ho with h4 | h4
    · exact h1 h4
    · exact h4.2 t k hk' hb
end
end Go.Proofs.Ytehdfbhfbidadaa.V

/- Rows of cells: where a row lies, a row written anew. -/
namespace Go.Proofs.Ytehdfbhfbidadaa.V
open Go
set_option linter.unusedVariables false
section
variable {w w' : World} {O O' : Nat → Prop} {ρ ρ' : Nat → Option RB} {A A' : Nat → Prop}
theorem CVs_append : ∀ {xs ys : List T} {vs : List Value}, CVs w O ρ A (xs ++ ys) vs ↔ ∃ v1 v2, vs = v1 ++ v2 ∧ CVs w O ρ A xs v1 ∧ CVs w O ρ A ys v2
  | [], ys, vs => by
    simp only [List.nil_append, CVs]
    exact ⟨fun h => ⟨[], vs, rfl, rfl, h⟩, fun ⟨v1, v2, e, e1, h⟩ => by subst e1; simpa [e] using h⟩
  | x :: xs, ys, vs => by
    simp only [List.cons_append, CVs]
    constructor
    · rintro ⟨v, r, rfl, h1, h2⟩
      obtain ⟨v1, v2, rfl, h3, h4⟩ := CVs_append.1 h2
      exact ⟨v :: v1, v2, rfl, ⟨v, v1, rfl, h1, h3⟩, h4⟩
    · rintro ⟨v1, v2, rfl, ⟨v, r, rfl, h1, h2⟩, h3⟩
      exact ⟨v, r ++ v2, rfl, h1, CVs_append.2 ⟨r, v2, rfl, h2, h3⟩⟩
theorem CIs_append : ∀ {xs ys : List T} {vs : List Value}, CIs w O (xs ++ ys) vs ↔ ∃ v1 v2, vs = v1 ++ v2 ∧ CIs w O xs v1 ∧ CIs w O ys v2
  | [], ys, vs => by
    simp only [List.nil_append, CIs]
    exact ⟨fun h => ⟨[], vs, rfl, rfl, h⟩, fun ⟨v1, v2, e, e1, h⟩ => by subst e1; simpa [e] using h⟩
  | x :: xs, ys, vs => by
    simp only [List.cons_append, CIs]
    constructor
    · rintro ⟨v, r, rfl, h1, h2⟩
      obtain ⟨v1, v2, rfl, h3, h4⟩ := CIs_append.1 h2
      exact ⟨v :: v1, v2, rfl, ⟨v, v1, rfl, h1, h3⟩, h4⟩
    · rintro ⟨v1, v2, rfl, ⟨v, r, rfl, h1, h2⟩, h3⟩
      exact ⟨v, r ++ v2, rfl, h1, CIs_append.2 ⟨r, v2, rfl, h2, h3⟩⟩
theorem Ds_append : ∀ {xs ys : List T} {vs : List Value} {F : List Nat}, Ds w O ρ A (xs ++ ys) vs F ↔ ∃ v1 v2 F1 F2, vs = v1 ++ v2 ∧ F = F1 ++ F2 ∧ Ds w O ρ A xs v1 F1 ∧ Ds w O ρ A ys v2 F2
  | [], ys, vs, F => by
    simp only [List.nil_append, Ds]
    exact ⟨fun h => ⟨[], vs, [], F, rfl, rfl, ⟨rfl, rfl⟩, h⟩, fun ⟨v1, v2, F1, F2, e, e', ⟨e1, e2⟩, h⟩ => by subst e1 e2; simpa [e, e'] using h⟩
  | x :: xs, ys, vs, F => by
    simp only [List.cons_append, Ds]
    constructor
    · rintro ⟨v, r, F1, F2, rfl, rfl, h1, h2⟩
      obtain ⟨v1, v2, F3, F4, rfl, rfl, h3, h4⟩ := Ds_append.1 h2
      exact ⟨v :: v1, v2, F1 ++ F3, F4, rfl, by simp, ⟨v, v1, F1, F3, rfl, rfl, h1, h3⟩, h4⟩
    · rintro ⟨v1, v2, F1, F2, rfl, rfl, ⟨v, r, F3, F4, rfl, rfl, h1, h2⟩, h3⟩
      exact ⟨v, r ++ v2, F3, F4 ++ F2, rfl, by simp, h1, Ds_append.2 ⟨r, v2, F4, F2, rfl, rfl, h2, h3⟩⟩
theorem Dr_append : ∀ {xs ys : List (List T)} {vs : List Value} {F : List Nat}, Dr w O ρ A (xs ++ ys) vs F ↔ ∃ v1 v2 F1 F2, vs = v1 ++ v2 ∧ F = F1 ++ F2 ∧ Dr w O ρ A xs v1 F1 ∧ Dr w O ρ A ys v2 F2
  | [], ys, vs, F => by
    simp only [List.nil_append, Dr]
    exact ⟨fun h => ⟨[], vs, [], F, rfl, rfl, ⟨rfl, rfl⟩, h⟩, fun ⟨v1, v2, F1, F2, e, e', ⟨e1, e2⟩, h⟩ => by subst e1 e2; simpa [e, e'] using h⟩
  | x :: xs, ys, vs, F => by
    simp only [List.cons_append, Dr]
    constructor
    · rintro ⟨v, r, F1, F2, rfl, rfl, h1, h2⟩
      obtain ⟨v1, v2, F3, F4, rfl, rfl, h3, h4⟩ := Dr_append.1 h2
      exact ⟨v ++ v1, v2, F1 ++ F3, F4, by simp, by simp, ⟨v, v1, F1, F3, rfl, rfl, h1, h3⟩, h4⟩
    · rintro ⟨v1, v2, F1, F2, rfl, rfl, ⟨v, r, F3, F4, rfl, rfl, h1, h2⟩, h3⟩
      exact ⟨v, r ++ v2, F3, F4 ++ F2, by simp, by simp, h1, Dr_append.2 ⟨r, v2, F4, F2, rfl, rfl, h2, h3⟩⟩
theorem Dr.len {sz : Nat} : ∀ {rs : List (List T)} {vs : List Value} {F : List Nat}, (∀ r ∈ rs, r.length = sz) → Dr w O ρ A rs vs F → vs.length = rs.length * sz
  | [], vs, F, _, h => by simp only [Dr] at h; simp [h.1]
  | r :: rs, vs, F, hs, h => by
    simp only [Dr] at h
    obtain ⟨v1, v2, F1, F2, rfl, _, h1, h2⟩ := h
    have := h1.len; have := Dr.len (fun x hx => hs x (by simp [hx])) h2; have := hs r (by simp)
    simp only [List.length_append, List.length_cons, Nat.succ_mul]; omega
theorem CIr_append : ∀ {xs ys : List (List T)} {vs : List Value}, CIr w O (xs ++ ys) vs ↔ ∃ v1 v2, vs = v1 ++ v2 ∧ CIr w O xs v1 ∧ CIr w O ys v2
  | [], ys, vs => by
    simp only [List.nil_append, CIr]
    exact ⟨fun h => ⟨[], vs, rfl, rfl, h⟩, fun ⟨v1, v2, e, e1, h⟩ => by subst e1; simpa [e] using h⟩
  | x :: xs, ys, vs => by
    simp only [List.cons_append, CIr]
    constructor
    · rintro ⟨v, r, rfl, h1, h2⟩
      obtain ⟨v1, v2, rfl, h3, h4⟩ := CIr_append.1 h2
      exact ⟨v ++ v1, v2, by simp, ⟨v, v1, rfl, h1, h3⟩, h4⟩
    · rintro ⟨v1, v2, rfl, ⟨v, r, rfl, h1, h2⟩, h3⟩
      exact ⟨v, r ++ v2, by simp, h1, CIr_append.2 ⟨r, v2, rfl, h2, h3⟩⟩
theorem CIr.len {sz : Nat} : ∀ {rs : List (List T)} {vs : List Value}, (∀ r ∈ rs, r.length = sz) → CIr w O rs vs → vs.length = rs.length * sz
  | [], vs, _, h => by simp only [CIr] at h; simp [h]
  | r :: rs, vs, hs, h => by
    simp only [CIr] at h
    obtain ⟨v1, v2, rfl, h1, h2⟩ := h
    have := h1.len; have := CIr.len (fun x hx => hs x (by simp [hx])) h2; have := hs r (by simp)
    simp only [List.length_append, List.length_cons, Nat.succ_mul]; omega
theorem split_at {α : Type} {l : List α} {r : Nat} {x : α} (h : l[r]? = some x) : ∃ l1 l2, l = l1 ++ x :: l2 ∧ l1.length = r := by
  have hr : r < l.length := by
    rcases Nat.lt_or_ge r l.length with h' | h'
    · exact h'
    · rw [List.getElem?_eq_none h'] at h; exact absurd h (by simp)
  refine ⟨l.take r, l.drop (r + 1), ?_, by simp; omega⟩
  have : l[r] = x := by rw [List.getElem?_eq_getElem hr] at h; exact Option.some.inj h
  rw [← this]
  simp
theorem set_split {α : Type} (l1 : List α) (x y : α) (l2 : List α) : (l1 ++ x :: l2).set l1.length y = l1 ++ y :: l2 := by
  simp
end
end Go.Proofs.Ytehdfbhfbidadaa.V

/- The machine of trees: its code, how code of the model becomes it, its steps. -/
namespace Go.Proofs.Ytehdfbhfbidadaa.V
open Go
set_option linter.unusedVariables false

inductive X where
  | t (j : Nat) | c (v : T)
  deriving Inhabited
/-- What becomes of a call's result: owned, shared for good, or owned with shared parts. -/
inductive RK where
  | own | imm | sh
  deriving DecidableEq, Inhabited
inductive CM where
  | ev (mu : List Nat) (rk : RK) | inl
  deriving Inhabited
def CM.isEv : CM → Bool | .ev _ _ => true | .inl => false
inductive PI where
  | mv (x : X)
  | pick (c a b : X)
  | alloc (zs : List T)
  | box (sz : Nat) (x : X)
  | build (zs : List T) (ps : List (Nat × Nat × X))
  | mksl (sz : Nat) (ps : List X)
  | load (n : Option Nat) (x : X)
  | store (n : Option Nat) (x v : X)
  | fa (off : Nat) (x : X)
  | fld (off : Nat) (n : Option Nat) (x : X)
  | ia (sz : Nat) (x i : X)
  | ix (x i : X)
  | bin (op : BinOp) (x y : X)
  | beq (op : BinOp) (x y : X)
  | peq (op : BinOp) (x y : X)
  | un (op : UnOp) (x : X)
  | conv (k : IntKind) (x : X)
  | tostr (x : X)
  | strid (x : X)
  | sl (sz : Nat) (x : X) (lo hi : Option X)
  | sls (x : X) (lo hi : Option X)
  | len (x : X)
  | lens (x : X)
  | app (sz bytes : Nat) (x y : X)
  | make (sz bytes : Nat) (zs : List T) (n : X)
  | call (m : CM) (f : Nat) (args : List X)
  | callv (m : CM) (f : X) (args : List X)
  | ext (i : Nat) (x : X)
  | nilchk (x : X)
  | mkfn (f : Nat) (caps : List X)
  | hook (o : Op) (ys : List X)
  | stuck
  deriving Inhabited
structure PO where
  d : Option Nat
  pi : PI
  g : Option (Nat × Bool)
  pre : List Nat
  deriving Inhabited
inductive PC where
  | skip
  | reg (ops : List PO) (draw : Bool)
  | seq (a b : PC)
  | cond (x : X) (a b : PC)
  | block (id : Nat) (b : PC)
  | loop (b : PC)
  | exit (id : Nat)
  | ret
  deriving Inhabited

/-! ### from the model's code -/
def cst : Value → Option T
  | .bool x => some (.b x)
  | .int k n => some (.i k n)
  | .string s => some (.s s.data.toList)
  | .pointer none => some .np
  | .slice none 0 0 => some .nl
  | .map none => some .nmp
  | .nilIface => some .nif
  | .nilFunc => some .nfn
  | _ => none
def opd : Operand → Option X
  | .tmp j => some (.t j)
  | .const v => (cst v).map .c
  | .func f => some (.c (.fn f []))
  | .global _ => none
section
variable (P : Program)
def szOf (t : TypeId) : Option Nat := (P.info? t).map (·.size)
/-- How many cells a variable of a type has, if it is of several; one, if it is not. -/
def shp (t : TypeId) : Option (Option Nat) :=
  match P.underlying t, szOf P t with
  | some (.struct _), some n => some (some n)
  | some (.array _ _), some n => none
  | some _, some 1 => some none
  | _, _ => none
def zero? (t : TypeId) : Option (List T) :=
  match (P.info? t).bind (·.zero) with
  | some z => z.cells.toList.mapM cst
  | none => none
def places (fields : List Field) : List (Nat × Operand) → Option (List (Nat × Nat × X))
  | [] => some []
  | (k, x) :: r => do
    let f ← fields[k]?
    let n ← szOf P f.type
    let y ← opd x
    let ys ← places fields r
    some ((f.offset, n, y) :: ys)
def inOrder : Nat → List (Nat × Operand) → Option (List X)
  | _, [] => some []
  | n, (k, x) :: r => if k = n then do
      let y ← opd x
      let ys ← inOrder (n + 1) r
      some (y :: ys)
    else none
def modeOf (M : List (Nat × CM)) (f : Nat) : CM := ((M.find? (·.1 == f)).map (·.2)).getD (.ev [] .own)
def opdO : Option Operand → Option (Option X)
  | none => some none
  | some x => (opd x).map some
def okCall (f : Nat) : Bool := match P.funcs[f]? with
  | some fn => fn.name != "runtime.NumGoroutine" && fn.body.isSome
  | none => false
def compOp (M : List (Nat × CM)) : Op → Option PI
  | .move x => (opd x).map .mv
  | .assign x => (opd x).map .mv
  | .pick c a b => do some (.pick (← opd c) (← opd a) (← opd b))
  | .alloc e => (zero? P e).map .alloc
  | .box e x => do some (.box (← szOf P e) (← opd x))
  | .build t ps => match P.underlying t with
    | some (.struct fields) => if fields.toList.all (fun f => (szOf P f.type).isSome) then do some (.build (← zero? P t) (← places P fields.toList ps.toList)) else none
    | _ => none
  | .buildSlice t n ps => match P.underlying t with
    | some (.slice e) => do
      let sz ← szOf P e
      let ys ← inOrder 0 ps.toList
      if ps.size = n ∧ n * sz ≤ 16777216 ∧ sz ≠ 0 ∧ (zero? P e).isSome then some (.mksl sz ys) else none
    | _ => none
  | .load t x => do some (.load (← shp P t) (← opd x))
  | .store t x v => do some (.store (← shp P t) (← opd x) (← opd v))
  | .fieldAddr s x f => match P.underlying s with
    | some (.struct fields) => do
      let fd ← fields[f]?
      let n ← szOf P fd.type
      if n = 0 then none else some (.fa fd.offset (← opd x))
    | _ => none
  | .field s x f => match P.underlying s with
    | some (.struct fields) => do
      let fd ← fields[f]?
      some (.fld fd.offset (← shp P fd.type) (← opd x))
    | _ => none
  | .indexAddr t x i => match P.underlying t with
    | some (.slice e) => do some (.ia (← szOf P e) (← opd x) (← opd i))
    | _ => none
  | .index t x i => match P.underlying t with
    | some .string => do some (.ix (← opd x) (← opd i))
    | _ => none
  | .binOp op t x y _ => match P.underlying t with
    | some (.int _) => do some (.bin op (← opd x) (← opd y))
    | some .string => do some (.bin op (← opd x) (← opd y))
    | some .bool => do some (.beq op (← opd x) (← opd y))
    | some (.pointer _) => do some (.peq op (← opd x) (← opd y))
    | _ => none
  | .unOp op _ x => do some (.un op (← opd x))
  | .convert s d x => match P.underlying s, P.underlying d with
    | some (.int _), some (.int k) => do some (.conv k (← opd x))
    | some .string, some .string => do some (.strid (← opd x))
    | some (.slice e), some .string => match P.underlying e with
      | some (.int .u8) => if szOf P e = some 1 then do some (.tostr (← opd x)) else none
      | _ => none
    | _, _ => none
  | .slice t x lo hi none => match P.underlying t with
    | some .string => do some (.sls (← opd x) (← opdO lo) (← opdO hi))
    | some (.slice e) => do
      some (.sl (← szOf P e) (← opd x) (← opdO lo) (← opdO hi))
    | _ => none
  | .makeSlice t (.tmp a) (.tmp b) => match P.underlying t with
    | some (.slice e) => do
      let i ← P.info? e
      let zs ← zero? P e
      if a = b ∧ i.size = zs.length ∧ i.size ≠ 0 then some (.make i.size i.bytes zs (.t a)) else none
    | _ => none
  | .call c => match c.callee with
    | .builtin .len => match (c.argTypes[0]?).bind P.underlying, c.args.toList with
      | some .string, [x] => (opd x).map .lens
      | some (.slice _), [x] => (opd x).map .len
      | _, _ => none
    | .builtin .append => match c.argTypes.toList, c.args.toList with
      | [t, t'], [x, y] => match P.underlying t with
        | some (.slice e) => do
          let i ← P.info? e
          if t = t' ∧ i.size ≠ 0 ∧ i.bytes ≠ 0 ∧ (zero? P e).map (·.length) = some i.size then some (.app i.size i.bytes (← opd x) (← opd y)) else none
        | _ => none
      | _, _ => none
    | .value (.func f) => if okCall P f = true ∧ (modeOf M f).isEv = true then do some (.call (modeOf M f) f (← c.args.toList.mapM opd)) else none
    | .value (.tmp j) => do some (.callv (.ev [] .own) (.t j) (← c.args.toList.mapM opd))
    | _ => none
  | .extract x i => do some (.ext i (← opd x))
  | .nilCheck x => do some (.nilchk (← opd x))
  | .makeFunc (.func f) first caps => if first.isEmpty then do some (.mkfn f (← caps.toList.mapM opd)) else none
  | _ => none
def grd (ops : Array Oper) (o : Oper) : Option (Option (Nat × Bool)) := match o.guard with
  | none => some none
  | some (j, want) => match (ops[j]?).bind (·.dst) with
    | some d => some (some (d, want))
    | none => none
/-- What is not covered is left to a proof of its own. -/
def hookOf (o : Op) : PI := match o.operands.toList.mapM opd with | some ys => .hook o ys | none => .stuck
def compI (M : List (Nat × CM)) (o : Op) : PI := (compOp P M o).getD (hookOf o)
def compO (M : List (Nat × CM)) (n : Nat) (draw : Bool) (ops : Array Oper) (o : Oper) : Option PO := match grd ops o with
  | some g => if (o.dst.all (· < n)) then some { d := o.dst, pi := compI P M o.op, g := g, pre := if draw then (o.after.toList.filter (Region.binds .any ·)).map (·.on) else [] } else none
  | none => none
def X.slots : X → List Nat | .t j => [j] | .c _ => []
def oslots : Option X → List Nat | some x => x.slots | none => []
def PI.slots : PI → List Nat
  | .mv x | .box _ x | .load _ x | .fa _ x | .fld _ _ x | .un _ x | .conv _ x | .tostr x | .strid x | .len x | .lens x | .make _ _ _ x | .ext _ x | .nilchk x => x.slots
  | .pick c a b => c.slots ++ a.slots ++ b.slots
  | .alloc _ => []
  | .stuck => []
  | .hook _ ys => ys.flatMap X.slots
  | .build _ ps => ps.flatMap fun p => p.2.2.slots
  | .mksl _ ps => ps.flatMap X.slots
  | .store _ x v => x.slots ++ v.slots
  | .ia _ x i | .ix x i => x.slots ++ i.slots
  | .bin _ x y | .beq _ x y | .peq _ x y => x.slots ++ y.slots
  | .sl _ x lo hi | .sls x lo hi => x.slots ++ oslots lo ++ oslots hi
  | .app _ _ x y => x.slots ++ y.slots
  | .call _ _ az => az.flatMap X.slots
  | .callv _ f az => f.slots ++ az.flatMap X.slots
  | .mkfn _ cs => cs.flatMap X.slots
def PO.slots (o : PO) : List Nat := o.pi.slots ++ (match o.g with | some (j, _) => [j] | none => [])
def addN (l : List Nat) (m : List Nat) : List Nat := m.foldl (fun l x => if l.contains x then l else x :: l) l
/-- What stands ahead of each operation, directly or not. -/
def ahead (ops : List PO) : List (List Nat) := ops.foldl (fun acc o => acc ++ [o.pre.foldl (fun l i => addN (addN l [i]) (acc.getD i [])) []]) []
/-- Each operation's slots are written ahead of it, or elsewhere; no slot twice. -/
def okDraw (ops : List PO) : Bool :=
  let ah := ahead ops
  (ops.zipIdx.all fun (o, j) => o.pre.all (· < j) && ((ah.getD j []).all fun m => o.pre.contains m || o.pre.any fun p => (ah.getD p []).contains m) && (ops.zipIdx.all fun (q, i) => i == j || (match q.d with
    | some d => (!(o.slots.contains d) || (ah.getD j []).contains i || (ah.getD i []).contains j) && (o.d != some d)
    | none => true)))
def comp (M : List (Nat × CM)) (n : Nat) : Code → Option PC
  | .skip => some .skip
  | .region _ ops draw => do
    let pos ← ops.toList.mapM (compO P M n draw ops)
    if draw then (if okDraw pos && (P.follows .mixedOrders || !Region.departs ops) then some (.reg pos true) else none) else some (.reg pos false)
  | .seq a b => do some (.seq (← comp M n a) (← comp M n b))
  | .cond x a b => do some (.cond (← opd x) (← comp M n a) (← comp M n b))
  | .block id b => do some (.block id (← comp M n b))
  | .loop b => do some (.loop (← comp M n b))
  | .exit id => some (.exit id)
  | .ret => some .ret
  | _ => none
end
end Go.Proofs.Ytehdfbhfbidadaa.V

/- The machine of trees: what a call means, its steps, its code. -/
namespace Go.Proofs.Ytehdfbhfbidadaa.V
open Go
set_option linter.unusedVariables false

/-- A call: from memory that reads as the arguments it comes to memory that reads as the result; what was handed over comes back as told, all else is as it was. -/
def Ret (P : Program) (f : Nat) (args : List T) (r : T) (outs : List T) : Prop :=
  ∀ (w : World) (vs : List Value) (O : Nat → Prop) (F : List Nat), (∀ b, O b → b < w.heap.size) → Ks w O args vs F → F.Nodup → (∀ b ∈ F, ¬ O b ∧ b < w.heap.size) →
    Calls P f vs.toArray w fun e w' => ∃ v O' Fr Fo, e = .returned v ∧ (∀ b, O b → O' b) ∧ (∀ b, O' b → b < w'.heap.size) ∧ (∀ b, O' b → O b ∨ w.heap.size ≤ b ∨ b ∈ F) ∧
      K w' O' r v Fr ∧ Ks w' O' outs vs Fo ∧ (Fr ++ Fo).Nodup ∧ (∀ b ∈ Fr ++ Fo, ¬ O' b ∧ b < w'.heap.size ∧ (w.heap.size ≤ b ∨ b ∈ F)) ∧ Keep w F w'

/-! ### plain words on trees -/
def T.isOwn : T → Bool | .own _ _ => true | _ => false
/-- What may stand in a cell. -/
def T.cell : T → Bool
  | .un | .dead | .agg _ | .tup _ | .own _ _ | .bx _ => false
  | _ => true
def T.cells : T → List T | .agg cs => cs | v => [v]
/-- Closed: says nothing of blocks by name. -/
def T.clean : T → Bool
  | .ref _ _ _ | .ptr _ _ _ | .mp _ | .agg _ | .tup _ | .fn _ _ | .ifc _ _ => false
  | _ => true
mutual
/-- As it is shared for good. -/
def T.toI : T → T
  | .own _ rows => .imm (toIr rows)
  | .bx cs => .pim (toIs cs)
  | .agg cs => .agg (toIs cs)
  | .tup cs => .tup (toIs cs)
  | t => t
def toIs : List T → List T
  | [] => []
  | t :: ts => t.toI :: toIs ts
def toIr : List (List T) → List (List T)
  | [] => []
  | r :: rs => toIs r :: toIr rs
end
mutual
/-- All of it is owned. -/
def T.noImm : T → Bool
  | .imm _ | .pim _ => false
  | .own _ rows => noImr rows
  | .agg cs => noIms cs
  | .tup cs => noIms cs
  | .bx cs => noIms cs
  | .fn _ cs => noIms cs
  | .ifc _ x => x.noImm
  | _ => true
def noIms : List T → Bool
  | [] => true
  | t :: ts => t.noImm && noIms ts
def noImr : List (List T) → Bool
  | [] => true
  | r :: rs => noIms r && noImr rs
end
/-- Owned, its parts shared for good. -/
def T.sh1 : T → T | .own sz rows => .own sz (toIr rows) | t => t.toI
def T.sh : T → T | .agg cs => .agg (cs.map T.sh1) | .tup cs => .tup (cs.map fun | .agg ds => .agg (ds.map T.sh1) | t => t.sh1) | t => t.sh1
def rk : RK → T → T | .own, t => t | .imm, t => t.toI | .sh, t => t.sh

mutual
/-- Owned rows get blocks of their own: from name 'n' on. -/
def mat : T → Nat → T × List (Nat × Blk)
  | .own sz rows, n => (.ref n 0 rows.length, [(n, .arr sz rows)])
  | .bx cs, n => (.ptr n 0 0, [(n, .arr cs.length [cs])])
  | .agg cs, n => ((.agg (mats cs n).1), (mats cs n).2)
  | .tup cs, n => ((.tup (mats cs n).1), (mats cs n).2)
  | t, _ => (t, [])
def mats : List T → Nat → List T × List (Nat × Blk)
  | [], _ => ([], [])
  | t :: ts, n => ((mat t n).1 :: (mats ts (n + (mat t n).2.length)).1, (mat t n).2 ++ (mats ts (n + (mat t n).2.length)).2)
end
abbrev Δ := List (Nat × Option Blk)
def news (l : List (Nat × Blk)) : Δ := l.map fun p => (p.1, some p.2)

def X.ev (s : St) : X → T
  | .t j => tget s.tm j
  | .c v => v
def parts (s : St) : List T → List (Nat × Nat × X) → Option (List T)
  | zs, [] => some zs
  | zs, (off, n, x) :: ps => if ((x.ev s).cells.length = n ∧ ((x.ev s).cells.all T.cell) = true) ∧ off + n ≤ zs.length then parts s (zs.take off ++ (x.ev s).cells ++ zs.drop (off + n)) ps else none

/-- Cells that are clean. -/
def cleanR (rows : List (List T)) : Bool := rows.all fun r => r.all T.clean
mutual
/-- An argument as the callee is handed it: what lies in blocks is read as shared for good. -/
def argI (s : St) : T → Option T
  | .ref t o n => match hget s.hp t with
    | some (.arr _ rows) => if o + n ≤ rows.length ∧ cleanR ((rows.drop o).take n) = true then some (.imm (toIr ((rows.drop o).take n))) else none
    | _ => none
  | .ptr t r o => match hget s.hp t with
    | some (.arr _ rows) => match rows[r]? with
      | some row => if o ≤ row.length ∧ row.all T.clean = true then some (.pim (toIs (row.drop o))) else none
      | none => none
    | _ => none
  | .nl => some (.imm [])
  | .agg cs => (argIs s cs).map .agg
  | .fn f cs => (argIs s cs).map (.fn f)
  | .tup _ => none
  | .ifc t x => (argI s x).map (.ifc t)
  | .mp _ => none
  | .un => none
  | t => some t
def argIs (s : St) : List T → Option (List T)
  | [] => some []
  | t :: ts => match argI s t, argIs s ts with
    | some x, some xs => some (x :: xs)
    | _, _ => none
end
mutual
def T.names : T → List Nat
  | .ref t _ _ => [t]
  | .ptr t _ _ => [t]
  | .mp t => [t]
  | .agg cs => namess cs
  | .tup cs => namess cs
  | .fn _ cs => namess cs
  | .ifc _ x => x.names
  | _ => []
def namess : List T → List Nat
  | [] => []
  | t :: ts => t.names ++ namess ts
end

def binK (op : BinOp) : T → T → (T → Prop) → Prop
  | .i k a, .i k' b, K => k = k' ∧ match op with
    | .add => K (.i k (k.wrap (a + b)))
    | .sub => K (.i k (k.wrap (a - b)))
    | .mul => K (.i k (k.wrap (a * b)))
    | .quo => b ≠ 0 ∧ K (.i k (k.wrap (a.tdiv b)))
    | .rem => b ≠ 0 ∧ K (.i k (a.tmod b))
    | .eql => K (.b (a == b))
    | .neq => K (.b (a != b))
    | .lss => K (.b (decide (a < b)))
    | .leq => K (.b (decide (a ≤ b)))
    | .gtr => K (.b (decide (a > b)))
    | .geq => K (.b (decide (a ≥ b)))
    | .xor => K (.i k (k.wrap ((BitVec.ofInt k.bits a ^^^ BitVec.ofInt k.bits b).toNat : Int)))
    | _ => False
  | .s a, .s b, K => match op with
    | .add => a.length + b.length ≤ 9223372036854775807 ∧ K (.s (a ++ b))
    | .eql => K (.b (a == b))
    | .neq => K (.b (!(a == b)))
    | .lss => K (.b (Op.bytesLess a b))
    | .leq => K (.b (Op.bytesLess a b || a == b))
    | .gtr => K (.b (!(Op.bytesLess a b || a == b)))
    | .geq => K (.b (!(Op.bytesLess a b)))
    | _ => False
  | _, _, _ => False
def beqK (op : BinOp) : T → T → (T → Prop) → Prop
  | .b x, .b y, K => match op with
    | .eql => K (.b (x == y))
    | .neq => K (.b (!(x == y)))
    | _ => False
  | _, _, _ => False
def T.nilness : T → Option Bool | .np => some true | .ptr _ _ _ => some false | .pim _ => some false | _ => none
def peqK (op : BinOp) (x y : T) (K : T → Prop) : Prop :=
  match x.nilness, y.nilness with
  | some p, some q => (p = true ∨ q = true) ∧ match op with
    | .eql => K (.b (p && q))
    | .neq => K (.b (!(p && q)))
    | _ => False
  | _, _ => False
/-- How a slice of rows may be told at an operand: the rows, and the block that goes with it. -/
def rowsAt (s : St) : T → Option (List (List T) × List Nat)
  | .nl => some ([], [])
  | .imm rows => some (rows, [])
  | .ref t o n => match hget s.hp t with
    | some (.arr _ rows) => if o + n ≤ rows.length then some ((rows.drop o).take n, [t]) else none
    | _ => none
  | _ => none
def bndLo (lo : Option T) (h : Nat) (K : Nat → Nat → Prop) : Prop :=
  match lo with
  | none => K 0 h
  | some (.i _ l) => (0 ≤ l ∧ l ≤ h) ∧ K l.toNat h
  | _ => False
def bnd (len : Nat) (lo hi : Option T) (K : Nat → Nat → Prop) : Prop :=
  match hi with
  | none => bndLo lo len K
  | some (.i _ h) => (0 ≤ h ∧ h ≤ len) ∧ bndLo lo h.toNat K
  | _ => False

/-- What is handed over whole. -/
def handed1 (s : St) : T → Option T
  | .ref t 0 m => match hget s.hp t with
    | some (.arr sz rows) => if m = rows.length ∧ cleanR rows = true then some (.own sz rows) else none
    | _ => none
  | .ptr t 0 0 => match hget s.hp t with
    | some (.arr _ [cs]) => if cs.all T.clean = true then some (.bx cs) else none
    | _ => none
  | _ => none
/-- A struct's cells: slices and pointers are handed over whole. -/
def handedCs (s : St) : List T → Option (List T)
  | [] => some []
  | c :: cs => match (if c.clean = true then some c else handed1 s c), handedCs s cs with
    | some x, some xs => some (x :: xs)
    | _, _ => none
def handedA (s : St) : T → Option T
  | .agg cs => (handedCs s cs).map .agg
  | t => handed1 s t
/-- The arguments as they are handed over, from number 'j' on; those that 'mu' lists are handed over whole. -/
def handed (s : St) (mu : List Nat) : Nat → List T → Option (List T)
  | _, [] => some []
  | j, a :: az => match (if mu.contains j = true then handedA s a else argI s a), handed s mu (j + 1) az with
    | some x, some ys => some (x :: ys)
    | _, _ => none
/-- The names of the blocks behind the arguments: those that are read, those that are handed over. -/
def named (mu : List Nat) (b : Bool) : Nat → List T → List Nat
  | _, [] => []
  | j, a :: az => (if mu.contains j = b then a.names else []) ++ named mu b (j + 1) az
/-- What was handed over comes back. -/
def back1 : T → T → T → Option (Nat × Blk)
  | .ref t _ m, .own sz _, .own sz' rows => if sz' = sz ∧ rows.length = m then some (t, .arr sz rows) else none
  | .ptr t _ _, .bx cs, .bx cs' => if cs'.length = cs.length then some (t, .arr cs.length [cs']) else none
  | _, _, _ => none
def backCs : List T → List T → List T → Option (List (Nat × Blk))
  | [], [], [] => some []
  | c :: cs, x :: xs, o :: os => match backCs cs xs os with
    | some r => if c.clean = true then some r else (match back1 c x o with
      | some p => some (p :: r)
      | none => none)
    | none => none
  | _, _, _ => none
def backA : T → T → T → Option (List (Nat × Blk))
  | .agg cs, .agg xs, .agg os => backCs cs xs os
  | .agg _, _, _ => none
  | t, x, o => match back1 t x o with
    | some p => some [p]
    | none => none
def back (mu : List Nat) : Nat → List T → List T → List T → Option (List (Nat × Blk))
  | _, [], [], [] => some []
  | j, a :: az, x :: xs, o :: os => match back mu (j + 1) az xs os with
    | some r => if mu.contains j = true then (match backA a x o with
      | some p => some (p ++ r)
      | none => none) else some r
    | none => none
  | _, _, _, _ => none
/-- What is owned by a cell that is read gets a name. -/
def drawn (t sz : Nat) (rows : List (List T)) (r : Nat) (row : List T) (o m : Nat) (x : List T × List (Nat × Blk)) : Δ :=
  if x.2.isEmpty then [] else (t, some (.arr sz (rows.set r (row.take o ++ x.1 ++ row.drop (o + m))))) :: news x.2
def Aext (A : Nat → Prop) (n m : Nat) : Nat → Prop := fun t => A t ∨ (n ≤ t ∧ t < n + m)
section
variable (P : Program)
/-- An operation that has a proof of its own: from these operands, with these blocks, it comes to this value and does this to the blocks. -/
def HookOk (op : Op) (xs : List T) (hp : List (Nat × Blk)) (n : Nat) (v : T) (δ : Δ) : Prop :=
  ∀ (E : Env) (A : Nat → Prop) (ρ : Nat → Option RB) (O : Nat → Prop) (F : Nat → List Nat) (s : St) (a : Act) (w : World) (o : Oper) (ys : List X) (next : Act → World → Prop) (Q : Exit → Act → World → Prop),
    o.op = op → op.operands.toList.mapM opd = some ys → ys.map (·.ev s) = xs → R E A ρ O F s a w → (∀ k, o.dst = some k → k < E.n) → (∀ p ∈ hp, hget s.hp p.1 = some p.2) → E.fb ≤ n → (∀ t, n ≤ t → t < n + δ.length → ¬ A t) →
    (∀ u w', Rel E (Aext A n δ.length) (s.app o.dst v δ) (a.put o.dst u) w' → next (a.put o.dst u) w') → o.wp P a w next Q
/-- A type that is no interface and no pointer. -/
def plainTy (P : Program) (t : TypeId) : Bool := match P.underlying t with
  | some (.interface _) => false
  | some (.pointer _) => false
  | some _ => true
  | none => false
/-- The program's method of interfaces is a function of this type's own. -/
def nilOk (P : Program) (t : TypeId) : Bool := match P.info? t with
  | some i => (match i.methods.find? (·.name == metName) with | some m => m.path.isEmpty && (match m.func with | some (_, false) => true | _ => false) | none => false) && plainTy P t
  | none => false
/-- A call. What is read of blocks is shared for good behind it where the result may share it. -/
def callK (s : St) (n : Nat) (mu : List Nat) (q : RK) (f : Nat) (args : List T) (K : T → Δ → List Nat → Prop) : Prop :=
  match handed s mu 0 args with
  | none => False
  | some xs => (named mu true 0 args).Nodup ∧ (∀ t ∈ named mu false 0 args, t ∉ named mu true 0 args) ∧ ∃ r outs, Ret P f xs r outs ∧
    match back mu 0 args xs outs, q with
    | some bk, .own => r.noImm = true ∧ noIms outs = true ∧ K (mat r n).1 (news bk ++ news (mat r n).2) (named mu true 0 args ++ named mu false 0 args)
    | some bk, .imm => K r.toI ((named mu false 0 args).map (fun t => (t, none)) ++ news bk) (named mu true 0 args ++ named mu false 0 args)
    | _, _ => False
/-- One step: the value, what it does to the blocks, which blocks it looks at. 'n': the name of the next block. -/
def stepK (s : St) (n : Nat) : PI → (T → Δ → List Nat → Prop) → Prop
  | .mv x, K => K (x.ev s) [] []
  | .pick c a b, K => match c.ev s with
    | .b x => if x = true then K (a.ev s) [] [] else K (b.ev s) [] []
    | _ => False
  | .alloc zs, K => K (.ptr n 0 0) [(n, some (.arr zs.length [zs]))] []
  | .box sz x, K => (x.ev s).cells.length = sz ∧ ((x.ev s).cells.all T.cell) = true ∧ K (.ptr n 0 0) [(n, some (.arr sz [(x.ev s).cells]))] []
  | .build zs ps, K => match parts s zs ps with
    | some cs => K (.agg cs) [] []
    | none => False
  | .mksl sz ps, K => (∀ x ∈ ps, (x.ev s).cells.length = sz ∧ ((x.ev s).cells.all T.cell) = true) ∧ K (.ref n 0 ps.length) [(n, some (.arr sz (ps.map fun x => (x.ev s).cells)))] []
  | .load m x, K => match x.ev s with
    | .ptr t r o => match hget s.hp t with
      | some (.arr sz rows) => match rows[r]? with
        | some row => (o + m.getD 1 ≤ row.length) ∧
            (match m with
              | some _ => fun (k : T → Δ → List Nat → Prop) => k (.agg (mats ((row.drop o).take (m.getD 1)) n).1) (drawn t sz rows r row o (m.getD 1) (mats ((row.drop o).take (m.getD 1)) n)) [t]
              | none => fun k => match (mats ((row.drop o).take 1) n).1 with
                | [v] => k v (drawn t sz rows r row o 1 (mats ((row.drop o).take 1) n)) [t]
                | _ => False) K
        | none => False
      | _ => False
    | .pim cs => (m.getD 1 ≤ cs.length) ∧ (match m with
      | some k => K (.agg (cs.take k)) [] []
      | none => match cs with
        | c :: _ => K c [] []
        | [] => False)
    | _ => False
  | .store m x v, K => match x.ev s with
    | .ptr t r o => match hget s.hp t with
      | some (.arr sz rows) => match rows[r]? with
        | some row => (v.ev s).cells.length = m.getD 1 ∧ o + m.getD 1 ≤ row.length ∧ ((v.ev s).cells.all T.cell) = true ∧
            K .dead [(t, some (.arr sz (rows.set r (row.take o ++ (v.ev s).cells ++ row.drop (o + m.getD 1)))))] [t]
        | none => False
      | _ => False
    | _ => False
  | .fa off x, K => match x.ev s with
    | .ptr t r o => K (.ptr t r (o + off)) [] []
    | .pim cs => off ≤ cs.length ∧ K (.pim (cs.drop off)) [] []
    | _ => False
  | .fld off m x, K => match x.ev s with
    | .agg cs => (off + m.getD 1 ≤ cs.length) ∧ (match m with
      | some k => K (.agg ((cs.drop off).take k)) [] []
      | none => match cs.drop off with
        | c :: _ => K c [] []
        | [] => False)
    | _ => False
  | .ia sz x i, K => match x.ev s, i.ev s with
    | .ref t o len, .i _ k => (0 ≤ k ∧ k < len) ∧ (match hget s.hp t with
      | some (.arr sz' _) => sz' = sz ∧ K (.ptr t (o + k.toNat) 0) [] [t]
      | _ => False)
    | .imm rows, .i _ k => 0 ≤ k ∧ (match rows[k.toNat]? with
      | some row => row.length = sz ∧ K (.pim row) [] []
      | none => False)
    | _, _ => False
  | .ix x i, K => match x.ev s, i.ev s with
    | .s l, .i _ k => 0 ≤ k ∧ (match l[k.toNat]? with
      | some c => K (.i .u8 (c.toNat : Int)) [] []
      | none => False)
    | _, _ => False
  | .bin op x y, K => binK op (x.ev s) (y.ev s) fun v => K v [] []
  | .beq op x y, K => beqK op (x.ev s) (y.ev s) fun v => K v [] []
  | .peq op x y, K => peqK op (x.ev s) (y.ev s) fun v => K v [] []
  | .un op x, K => match op, x.ev s with
    | .not, .b y => K (.b !y) [] []
    | .neg, .i k a => K (.i k (k.wrap (0 - a))) [] []
    | _, _ => False
  | .conv k x, K => match x.ev s with
    | .i _ a => K (.i k (k.wrap a)) [] []
    | _ => False
  | .strid x, K => match x.ev s with
    | .s l => K (.s l) [] []
    | _ => False
  | .tostr x, K => match rowsAt s (x.ev s) with
    | some (rows, ts) => (∃ l : List UInt8, rows = l.map (fun c => [.i .u8 (c.toNat : Int)]) ∧ K (.s l) [] ts)
    | none => False
  | .sls x lo hi, K => match x.ev s with
    | .s l => bnd l.length (lo.map (·.ev s)) (hi.map (·.ev s)) fun a b => K (.s ((l.drop a).take (b - a))) [] []
    | _ => False
  | .sl sz x lo hi, K => match x.ev s with
    | .imm rows => bnd rows.length (lo.map (·.ev s)) (hi.map (·.ev s)) fun a b => (∀ r ∈ rows, r.length = sz) ∧ K (.imm ((rows.drop a).take (b - a))) [] []
    | .ref t o m => bnd m (lo.map (·.ev s)) (hi.map (·.ev s)) fun a b => match hget s.hp t with
      | some (.arr sz' _) => sz' = sz ∧ K (.ref t (o + a) (b - a)) [] [t]
      | _ => False
    | .nl => bnd 0 (lo.map (·.ev s)) (hi.map (·.ev s)) fun a b => K .nl [] []
    | _ => False
  | .lens x, K => match x.ev s with
    | .s l => K (.i .i64 (l.length : Int)) [] []
    | _ => False
  | .len x, K => match x.ev s with
    | .imm rows => K (.i .i64 (rows.length : Int)) [] []
    | .ref _ _ m => K (.i .i64 (m : Int)) [] []
    | .nl => K (.i .i64 0) [] []
    | _ => False
  | .app sz bytes x y, K => match rowsAt s (y.ev s) with
    | some (src, ts) => (∀ r ∈ src, r.length = sz ∧ r.all T.cell = true) ∧ (match x.ev s with
      | .nl => src.length * bytes ≤ 35184372088832 ∧ K (.ref n 0 src.length) [(n, some (.arr sz src))] ts
      | .ref t o m => match hget s.hp t with
        | some (.arr sz' rows) => sz' = sz ∧ o + m ≤ rows.length ∧ t ∉ ts ∧ (m + src.length) * bytes ≤ 35184372088832 ∧
            K (.ref n 0 (m + src.length)) [(t, none), (n, some (.arr sz ((rows.drop o).take m ++ src)))] (t :: ts)
        | _ => False
      | _ => False)
    | none => False
  | .make sz bytes zs x, K => match x.ev s with
    | .i .i64 k => 0 ≤ k ∧ k ≤ 35184372088832 ∧ k * bytes ≤ 35184372088832 ∧ K (.ref n 0 k.toNat) [(n, some (.arr sz (List.replicate k.toNat zs)))] []
    | _ => False
  | .call (.ev mu q) f args, K => callK P s n mu q f (args.map (·.ev s)) K
  | .callv (.ev mu q) f args, K => match f.ev s with
    | .fn g caps => okCall P g = true ∧ callK P s n mu q g (args.map (·.ev s) ++ caps) K
    | _ => False
  | .call .inl _ _, K => False
  | .callv .inl _ _, K => False
  | .ext i x, K => match x.ev s with
    | .tup xs => match xs[i]? with
      | some v => K v [] []
      | none => False
    | _ => False
  | .nilchk x, K => match x.ev s with
    | .ptr t r o => K (.ptr t r o) [] []
    | .pim cs => K (.pim cs) [] []
    | .ifc t (.ifc t' y) => (4294967296 ≤ t ∧ t' < 4294967296 ∧ nilOk P t' = true) ∧ K (.ifc t (.ifc t' y)) [] []
    | _ => False
  | .mkfn f caps, K => K (.fn f (caps.map (·.ev s))) [] []
  | .hook op ys, K => ∃ hp v δ, (∀ p ∈ hp, hget s.hp p.1 = some p.2) ∧ HookOk P op (ys.map (·.ev s)) hp n v δ ∧ K v δ (hp.map (·.1))
  | .stuck, K => False
end
end Go.Proofs.Ytehdfbhfbidadaa.V

/- Each step of the machine of trees is a step of the model: what only reckons. -/
namespace Go.Proofs.Ytehdfbhfbidadaa.V
open Go
set_option linter.unusedVariables false
set_option linter.unusedSimpArgs false

section
variable {P : Program} {E : Env} {A A' : Nat → Prop} {ρ ρ' : Nat → Option RB} {O O' : Nat → Prop} {F F' : Nat → List Nat} {s : St} {a : Act} {w w' : World} {o : Oper} {n : Nat}
  {K : T → Δ → List Nat → Prop} {next : Act → World → Prop} {Q : Exit → Act → World → Prop}
/-- What follows a step. -/
def NX (E : Env) (A : Nat → Prop) (s : St) (a : Act) (n : Nat) (d : Option Nat) (K : T → Δ → List Nat → Prop) (next : Act → World → Prop) : Prop :=
  ∀ v δ rd u w', K v δ rd → Rel E (Aext A n δ.length) (s.app d v δ) (a.put d u) w' → next (a.put d u) w'
theorem wp_value {u : Value} (hr : (execOp a.eval o).run P w = .ok (.value u) w') (h : next (a.put o.dst u) w') : o.wp P a w next Q := by
  unfold Oper.wp; rw [hr]; exact h
theorem wp_skip' (hr : (execOp a.eval o).run P w = .ok .skip w') (h : next (a.put o.dst undef) w') : o.wp P a w next Q := by
  unfold Oper.wp; rw [hr]; exact h
theorem R.monoA (h : R E A ρ O F s a w) (hA : ∀ t, A t → A' t) : R E A' ρ O F s a w :=
  h.world (M := []) hA (fun _ h => h) (fun _ _ => rfl) h.ρ0 (fun _ _ => rfl) (fun _ _ _ _ _ => rfl) h.Olt (fun b hb => .inl hb) (Keep.refl _ _) (by simp)
theorem pureOp (hR : R E A ρ O F s a w) (hd : ∀ k, o.dst = some k → k < E.n) {u : Value} {v : T} (hrun : (execOp a.eval o).run P w = .ok (.value u) w) (hv : CV w O ρ A v u)
    (hK : ∃ rd, K v [] rd) (hn : NX E A s a n o.dst K next) : o.wp P a w next Q := by
  obtain ⟨rd, hK⟩ := hK
  refine wp_value hrun (hn v [] rd u w hK ⟨ρ, O, F, ?_⟩)
  exact (hR.put hd hv).monoA (fun t h => .inl h)

theorem cst_ok {v : Value} {t : T} (h : cst v = some t) : CI w O t v := by
  unfold cst at h
  split at h <;> first
    | (simp only [Option.some.injEq] at h; subst h; simp [CI])
    | exact absurd h (by simp)
mutual
theorem CV.ofCI : ∀ {t : T} {v : Value}, CI w O t v → CV w O ρ A t v
  | .ref _ _ _, v, h => by simp only [CI] at h
  | .ptr _ _ _, v, h => by simp only [CI] at h
  | .mp _, v, h => by simp only [CI] at h
  | .agg cs, v, h => by
    simp only [CI] at h; simp only [CV]
    obtain ⟨us, e, h⟩ := h
    exact ⟨us, e, CVs.ofCI h⟩
  | .tup cs, v, h => by
    simp only [CI] at h; simp only [CV]
    obtain ⟨us, e, h⟩ := h
    exact ⟨us, e, CVs.ofCI h⟩
  | .fn f cs, v, h => by
    simp only [CI] at h; simp only [CV]
    obtain ⟨us, e, h⟩ := h
    exact ⟨us, e, CVs.ofCI h⟩
  | .ifc t x, v, h => by
    simp only [CI] at h; simp only [CV]
    obtain ⟨u, e, h⟩ := h
    exact ⟨u, e, CV.ofCI h⟩
  | .dead, v, h => by simp only [CV]; exact h
  | .un, v, h => by simp only [CV]; exact h
  | .b x, v, h => by simp only [CV]; exact h
  | .i k n, v, h => by simp only [CV]; exact h
  | .s l, v, h => by simp only [CV]; exact h
  | .nl, v, h => by simp only [CV]; exact h
  | .imm rows, v, h => by simp only [CV]; exact h
  | .own sz rows, v, h => by simp only [CV]; exact h
  | .bx cs, v, h => by simp only [CV]; exact h
  | .np, v, h => by simp only [CV]; exact h
  | .pim cs, v, h => by simp only [CV]; exact h
  | .nif, v, h => by simp only [CV]; exact h
  | .nfn, v, h => by simp only [CV]; exact h
  | .nmp, v, h => by simp only [CV]; exact h
theorem CVs.ofCI : ∀ {ts : List T} {vs : List Value}, CIs w O ts vs → CVs w O ρ A ts vs
  | [], vs, h => by simpa only [CVs, CIs] using h
  | t :: ts, vs, h => by
    simp only [CIs] at h; simp only [CVs]
    obtain ⟨v, r, e, h1, h2⟩ := h
    exact ⟨v, r, e, CV.ofCI h1, CVs.ofCI h2⟩
end
theorem ev_ok (h : R E A ρ O F s a w) {x : Operand} {y : X} (hx : opd x = some y) : CV w O ρ A (y.ev s) (a.eval x) := by
  cases x with
  | tmp j => simp only [opd, Option.some.injEq] at hx; subst hx; exact h.tm j
  | const v =>
    simp only [opd, Option.map_eq_some_iff] at hx
    obtain ⟨t, ht, rfl⟩ := hx
    exact CV.ofCI (cst_ok ht)
  | global g => simp [opd] at hx
  | func f =>
    simp only [opd, Option.some.injEq] at hx; subst hx
    simp only [X.ev, CV, Act.eval]
    exact ⟨[], rfl, by simp [CVs]⟩

/-- A string's bytes. -/
theorem str_toList (l : List UInt8) : (⟨l.toArray⟩ : ByteArray).toList = l := by rw [ByteArray.toList_eq]
theorem str_size (l : List UInt8) : (⟨l.toArray⟩ : ByteArray).size = l.length := by simp [ByteArray.size]

theorem s_mv (hR : R E A ρ O F s a w) (hd : ∀ k, o.dst = some k → k < E.n) {x : Operand} {y : X} (ho : o.op = .move x ∨ o.op = .assign x) (hx : opd x = some y)
    (hK : stepK P s n (.mv y) K) (hn : NX E A s a n o.dst K next) : o.wp P a w next Q := by
  refine pureOp hR hd (u := a.eval x) (v := y.ev s) ?_ (ev_ok hR hx) ⟨[], hK⟩ hn
  rcases ho with ho | ho <;> simp [execOp, ho]
theorem s_pick (hR : R E A ρ O F s a w) (hd : ∀ k, o.dst = some k → k < E.n) {c x y : Operand} {c' x' y' : X} (ho : o.op = .pick c x y) (hc : opd c = some c') (hx : opd x = some x') (hy : opd y = some y')
    (hK : stepK P s n (.pick c' x' y') K) (hn : NX E A s a n o.dst K next) : o.wp P a w next Q := by
  have hcv := ev_ok hR hc
  simp only [stepK] at hK
  split at hK
  · rename_i b hb
    rw [hb] at hcv
    simp only [CV, CI] at hcv
    cases b
    · simp only [Bool.false_eq_true, if_false] at hK
      exact pureOp hR hd (u := a.eval y) (v := y'.ev s) (by simp [execOp, ho, hcv, asBool]) (ev_ok hR hy) ⟨[], hK⟩ hn
    · simp only [if_true] at hK
      exact pureOp hR hd (u := a.eval x) (v := x'.ev s) (by simp [execOp, ho, hcv, asBool]) (ev_ok hR hx) ⟨[], hK⟩ hn
  · exact hK.elim
theorem s_un (hR : R E A ρ O F s a w) (hd : ∀ k, o.dst = some k → k < E.n) {p : UnOp} {ty : TypeId} {x : Operand} {x' : X} (ho : o.op = .unOp p ty x) (hx : opd x = some x')
    (hK : stepK P s n (.un p x') K) (hn : NX E A s a n o.dst K next) : o.wp P a w next Q := by
  have hv := ev_ok hR hx
  simp only [stepK] at hK
  split at hK
  · rename_i y hy
    rw [hy] at hv; simp only [CV, CI] at hv
    exact pureOp hR hd (u := .bool !y) (v := .b !y) (by simp [execOp, ho, hv, Op.unary]) (by simp [CV, CI]) ⟨[], hK⟩ hn
  · rename_i k m hy
    rw [hy] at hv; simp only [CV, CI] at hv
    exact pureOp hR hd (u := .int k (k.wrap (0 - m))) (v := .i k (k.wrap (0 - m))) (by simp [execOp, ho, hv, Op.unary, Op.intArith]) (by simp [CV, CI]) ⟨[], hK⟩ hn
  · exact hK.elim
theorem s_ext (hR : R E A ρ O F s a w) (hd : ∀ k, o.dst = some k → k < E.n) {i : Nat} {x : Operand} {x' : X} (ho : o.op = .extract x i) (hx : opd x = some x')
    (hK : stepK P s n (.ext i x') K) (hn : NX E A s a n o.dst K next) : o.wp P a w next Q := by
  have hv := ev_ok hR hx
  simp only [stepK] at hK
  split at hK
  · rename_i xs hy
    rw [hy] at hv; simp only [CV] at hv
    obtain ⟨us, e, hv⟩ := hv
    split at hK
    · rename_i v hi
      obtain ⟨l1, l2, rfl, rfl⟩ := split_at hi
      obtain ⟨v1, v2, rfl, h1, h2⟩ := CVs_append.1 hv
      simp only [CVs] at h2
      obtain ⟨u, r, rfl, h3, h4⟩ := h2
      have hl := h1.len
      refine pureOp hR hd (u := u) (v := v) ?_ h3 ⟨[], hK⟩ hn
      have : (v1 ++ u :: r)[l1.length]? = some u := by rw [← hl]; simp
      simp [execOp, ho, e, Instr.extract, this]
    · exact hK.elim
  · exact hK.elim
theorem run_nilAhead {t : TypeId} {u : Value} (h : nilOk P t = true) (k : Nat) : (nilAhead (k + 1) t u metName).run P w = .ok (some false) w := by
  unfold nilOk at h
  split at h
  · rename_i i hi
    simp only [Bool.and_eq_true] at h
    obtain ⟨h1, h2⟩ := h
    split at h1
    · rename_i m hm
      simp only [Bool.and_eq_true] at h1
      obtain ⟨hp, hf⟩ := h1
      split at hf
      · rename_i g hg
        have hpl : m.path.toList = [] := by
          have := Array.isEmpty_iff.1 hp
          simp [this]
        unfold plainTy at h2
        split at h2
        · exact absurd h2 (by simp)
        · exact absurd h2 (by simp)
        · rename_i d h3 h4 h5
          have hti : (typeInfo t).run P w = .ok i w := by simp [typeInfo, program, Sem.run, hi]
          simp only [nilAhead, Sem.run_bind, hti, Result.andThen_ok, hm, hpl, followBlind, Sem.run_pure, hg, run_underlying h5]
          cases d <;> first | (simp [Sem.run_bind, Sem.run_pure, Result.andThen]; done) | (exact absurd rfl (h4 _))
        · exact absurd h2 (by simp)
      · exact absurd hf (by simp)
    · exact absurd h1 (by simp)
  · exact absurd h (by simp)
theorem s_nilchk (hR : R E A ρ O F s a w) (hd : ∀ k, o.dst = some k → k < E.n) {x : Operand} {x' : X} (ho : o.op = .nilCheck x) (hx : opd x = some x')
    (hK : stepK P s n (.nilchk x') K) (hn : NX E A s a n o.dst K next) : o.wp P a w next Q := by
  have hv := ev_ok hR hx
  simp only [stepK] at hK
  split at hK
  · rename_i t r q hy
    rw [hy] at hv
    have hv' := hv
    simp only [CV] at hv'
    obtain ⟨_, B, _, e⟩ := hv'
    exact pureOp hR hd (u := a.eval x) (v := .ptr t r q) (by simp [execOp, ho, e]) hv ⟨[], hK⟩ hn
  · rename_i cs hy
    rw [hy] at hv
    have hv' := hv
    simp only [CV, CI] at hv'
    obtain ⟨b, q, us, e, _⟩ := hv'
    exact pureOp hR hd (u := a.eval x) (v := .pim cs) (by simp [execOp, ho, e]) hv ⟨[], hK⟩ hn
  · rename_i t t' y hy
    rw [hy] at hv
    have hv' := hv
    simp only [CV] at hv'
    obtain ⟨u, e, u', e', _⟩ := hv'
    obtain ⟨⟨k1, k2, k3⟩, hK⟩ := hK
    subst e'
    unfold ifW at e
    rw [if_neg (by omega), if_pos k2] at e
    have hna : (nilAhead (P.types.size + Made.depth) t' u' metName).run P w = .ok (some false) w := run_nilAhead (w := w) (u := u') k3 (P.types.size + (Made.depth - 1))
    refine pureOp hR hd (u := a.eval x) (v := .ifc t (.ifc t' y)) ?_ hv ⟨[], hK⟩ hn
    have hprog : (program).run P w = .ok P w := rfl
    simp [execOp, ho, e, Sem.run_bind, hprog, hna, Result.andThen]
  · exact hK.elim
theorem s_conv (hR : R E A ρ O F s a w) (hd : ∀ k, o.dst = some k → k < E.n) {t1 t2 : TypeId} {k k1 : IntKind} {x : Operand} {x' : X} (ho : o.op = .convert t1 t2 x) (h1 : P.underlying t1 = some (.int k1)) (h2 : P.underlying t2 = some (.int k)) (hx : opd x = some x')
    (hK : stepK P s n (.conv k x') K) (hn : NX E A s a n o.dst K next) : o.wp P a w next Q := by
  have hv := ev_ok hR hx
  simp only [stepK] at hK
  split at hK
  · rename_i k' m hy
    rw [hy] at hv; simp only [CV, CI] at hv
    exact pureOp hR hd (u := .int k (k.wrap m)) (v := .i k (k.wrap m)) (by simp [execOp, ho, hv, convert, run_underlying h1, run_underlying h2, Conv.intToInt]) (by simp [CV, CI]) ⟨[], hK⟩ hn
  · exact hK.elim
theorem s_convs (hR : R E A ρ O F s a w) (hd : ∀ k, o.dst = some k → k < E.n) {t1 t2 : TypeId} {x : Operand} {x' : X} (ho : o.op = .convert t1 t2 x) (h1 : P.underlying t1 = some .string) (h2 : P.underlying t2 = some .string) (hx : opd x = some x')
    (hK : stepK P s n (.strid x') K) (hn : NX E A s a n o.dst K next) : o.wp P a w next Q := by
  have hv := ev_ok hR hx
  simp only [stepK] at hK
  split at hK
  · rename_i l hy
    rw [hy] at hv; simp only [CV, CI] at hv
    exact pureOp hR hd (u := .string ⟨l.toArray⟩) (v := .s l) (by simp [execOp, ho, hv, convert, run_underlying h1, run_underlying h2]) (by simp [CV, CI]) ⟨[], hK⟩ hn
  · exact hK.elim
theorem s_ix (hR : R E A ρ O F s a w) (hd : ∀ k, o.dst = some k → k < E.n) {t : TypeId} {x i : Operand} {x' i' : X} (ho : o.op = .index t x i) (h1 : P.underlying t = some .string) (hx : opd x = some x') (hi : opd i = some i')
    (hK : stepK P s n (.ix x' i') K) (hn : NX E A s a n o.dst K next) : o.wp P a w next Q := by
  have hv := ev_ok hR hx
  have hw := ev_ok hR hi
  simp only [stepK] at hK
  split at hK
  · rename_i l k m hy hz
    rw [hy] at hv; rw [hz] at hw; simp only [CV, CI] at hv hw
    obtain ⟨h0, hK⟩ := hK
    split at hK
    · rename_i c hc
      refine pureOp hR hd (u := .int .u8 (c.toNat : Int)) (v := .i .u8 (c.toNat : Int)) ?_ (by simp [CV, CI]) ⟨[], hK⟩ hn
      have hg : (⟨l.toArray⟩ : ByteArray)[m.toNat]? = some c := by
        have : m.toNat < l.length := by
          rcases Nat.lt_or_ge m.toNat l.length with h | h
          · exact h
          · rw [List.getElem?_eq_none h] at hc; exact absurd hc (by simp)
        rw [List.getElem?_eq_getElem this] at hc
        rw [getElem?_pos (⟨l.toArray⟩ : ByteArray) m.toNat (by simpa [ByteArray.size] using this)]
        rw [← hc]; rfl
      simp [execOp, ho, hv, hw, Instr.index, asIntOf, run_underlying h1, h0, hg]
    · exact hK.elim
  · exact hK.elim
theorem s_mkfn (hR : R E A ρ O F s a w) (hd : ∀ k, o.dst = some k → k < E.n) {f : Nat} {caps : Array Operand} {ys : List X} (ho : o.op = .makeFunc (.func f) #[] caps) (hx : caps.toList.mapM opd = some ys)
    (hK : stepK P s n (.mkfn f ys) K) (hn : NX E A s a n o.dst K next) : o.wp P a w next Q := by
  simp only [stepK] at hK
  have key : ∀ (l : List Operand) (ys : List X), l.mapM opd = some ys → CVs w O ρ A (ys.map (·.ev s)) (l.map a.eval) := by
    intro l
    induction l with
    | nil => intro ys h; simp at h; subst h; simp [CVs]
    | cons x l ih =>
      intro ys h
      simp only [List.mapM_cons, Option.pure_def, Option.bind_eq_bind, Option.bind_eq_some_iff, Option.some.injEq] at h
      obtain ⟨y, hy, zs, hz, rfl⟩ := h
      simp only [List.map_cons, CVs]
      exact ⟨_, _, rfl, ev_ok hR hy, ih _ hz⟩
  refine pureOp hR hd (u := .func (.func f) #[] (caps.map a.eval)) (v := .fn f (ys.map (·.ev s))) (by simp [execOp, ho, Instr.makeFunc]) ?_ ⟨[], hK⟩ hn
  simp only [CV]
  exact ⟨caps.toList.map a.eval, by congr 1; apply Array.ext'; simp, key _ _ hx⟩

theorem s_len (hR : R E A ρ O F s a w) (hd : ∀ k, o.dst = some k → k < E.n) {c : Call} {e : TypeId} {x : Operand} {x' : X} (ho : o.op = .call c) (hc : c.callee = .builtin .len) (h0 : (c.argTypes[0]?).bind P.underlying = some (.slice e)) (ha : c.args.toList = [x]) (hx : opd x = some x')
    (hK : stepK P s n (.len x') K) (hn : NX E A s a n o.dst K next) : o.wp P a w next Q := by
  obtain ⟨callee, args, argTypes⟩ := c
  obtain ⟨al⟩ := args
  simp only at hc ha h0
  subst hc ha
  obtain ⟨t0, ht0, hu⟩ := Option.bind_eq_some_iff.1 h0
  have hv := ev_ok hR hx
  simp only [stepK] at hK
  have fin : ∀ (k : Nat) (b : Option Addr) (c : Nat), a.eval x = .slice b k c → K (.i .i64 (k : Int)) [] [] → o.wp P a w next Q := by
    intro k b c hr hK
    refine pureOp hR hd (u := goInt k) (v := .i .i64 k) ?_ (by simp [CV, CI, goInt]) ⟨[], hK⟩ hn
    simp [execOp, ho, resolve, invoke, builtin, Builtin.len_, ht0, run_underlying hu, hr]
  split at hK
  · rename_i rows hy
    rw [hy] at hv; simp only [CV, CI] at hv
    obtain ⟨b, c, e, _⟩ := hv
    exact fin _ _ _ e hK
  · rename_i t q m hy
    rw [hy] at hv; simp only [CV] at hv
    obtain ⟨_, ⟨_, _, hm, q, e⟩ | ⟨B, _, b', o', c, e, _⟩⟩ := hv
    · subst hm; exact fin _ _ _ e hK
    · exact fin _ _ _ e hK
  · rename_i hy
    rw [hy] at hv; simp only [CV, CI] at hv
    exact fin _ _ _ hv hK
  · exact hK.elim
theorem s_lens (hR : R E A ρ O F s a w) (hd : ∀ k, o.dst = some k → k < E.n) {c : Call} {x : Operand} {x' : X} (ho : o.op = .call c) (hc : c.callee = .builtin .len) (h0 : (c.argTypes[0]?).bind P.underlying = some .string) (ha : c.args.toList = [x]) (hx : opd x = some x')
    (hK : stepK P s n (.lens x') K) (hn : NX E A s a n o.dst K next) : o.wp P a w next Q := by
  obtain ⟨callee, args, argTypes⟩ := c
  obtain ⟨al⟩ := args
  simp only at hc ha h0
  subst hc ha
  obtain ⟨t0, ht0, hu⟩ := Option.bind_eq_some_iff.1 h0
  have hv := ev_ok hR hx
  simp only [stepK] at hK
  split at hK
  · rename_i l hy
    rw [hy] at hv; simp only [CV, CI] at hv
    refine pureOp hR hd (u := goInt l.length) (v := .i .i64 l.length) ?_ (by simp [CV, CI, goInt]) ⟨[], hK⟩ hn
    simp [execOp, ho, resolve, invoke, builtin, Builtin.len_, ht0, run_underlying hu, hv, str_size]
  · exact hK.elim
theorem eqGuard_plain (op : BinOp) (t : TypeId) (x y : Operand) (u v : Value) (h : (∀ c, u ≠ .agg c) ∧ u ≠ .nilIface) : (eqGuard op t x y u v).run P w = .ok () w := by
  obtain ⟨h1, h2⟩ := h
  unfold eqGuard
  cases u <;> first
    | exact absurd rfl h2
    | exact absurd rfl (h1 _)
    | (split <;> rfl)
theorem s_bin (hR : R E A ρ O F s a w) (hd : ∀ k, o.dst = some k → k < E.n) {p : BinOp} {t t' : TypeId} {x y : Operand} {x' y' : X} (ho : o.op = .binOp p t x y t') (hx : opd x = some x') (hy : opd y = some y')
    (hK : stepK P s n (.bin p x' y') K) (hn : NX E A s a n o.dst K next) : o.wp P a w next Q := by
  have hv := ev_ok hR hx
  have hw := ev_ok hR hy
  simp only [stepK] at hK
  have fin : ∀ (u : Value) (v : T), (eqGuard p t x y (a.eval x) (a.eval y)).run P w = .ok () w → (binOp p t (a.eval x) (a.eval y)).run P w = .ok u w → CV w O ρ A v u → K v [] [] → o.wp P a w next Q := by
    intro u v hg hr hv hK
    exact pureOp hR hd (u := u) (v := v) (by simp [execOp, ho, hg, hr]) hv ⟨[], hK⟩ hn
  unfold binK at hK
  split at hK
  · rename_i k p1 k' p2 h1 h2
    rw [h1] at hv; rw [h2] at hw; simp only [CV, CI] at hv hw
    obtain ⟨rfl, hK⟩ := hK
    have hg : (eqGuard p t x y (a.eval x) (a.eval y)).run P w = .ok () w := eqGuard_plain _ _ _ _ _ _ (by rw [hv]; simp)
    split at hK
    · exact fin _ _ hg (by simp [binOp, hv, hw, Op.intArith]; rfl) (by simp [CV, CI]) hK
    · exact fin _ _ hg (by simp [binOp, hv, hw, Op.intArith]; rfl) (by simp [CV, CI]) hK
    · exact fin _ _ hg (by simp [binOp, hv, hw, Op.intArith]; rfl) (by simp [CV, CI]) hK
    · exact fin _ _ hg (by simp [binOp, hv, hw, Op.intDiv, hK.1]; rfl) (by simp [CV, CI]) hK.2
    · exact fin _ _ hg (by simp [binOp, hv, hw, Op.intDiv, hK.1]; rfl) (by simp [CV, CI]) hK.2
    · exact fin _ _ hg (by simp [binOp, hv, hw, Op.intCmp]; rfl) (by simp [CV, CI]) hK
    · exact fin _ _ hg (by simp [binOp, hv, hw, Op.intCmp]; rfl) (by simp [CV, CI]) hK
    · exact fin _ _ hg (by simp [binOp, hv, hw, Op.intCmp]; rfl) (by simp [CV, CI]) hK
    · exact fin _ _ hg (by simp [binOp, hv, hw, Op.intCmp]; rfl) (by simp [CV, CI]) hK
    · exact fin _ _ hg (by simp [binOp, hv, hw, Op.intCmp]; rfl) (by simp [CV, CI]) hK
    · exact fin _ _ hg (by simp [binOp, hv, hw, Op.intCmp]; rfl) (by simp [CV, CI]) hK
    · exact fin _ _ hg (by simp [binOp, hv, hw, Op.intBits]; rfl) (by simp [CV, CI]) hK
    · exact hK.elim
  · rename_i l1 l2 h1 h2
    rw [h1] at hv; rw [h2] at hw; simp only [CV, CI] at hv hw
    have hg : (eqGuard p t x y (a.eval x) (a.eval y)).run P w = .ok () w := eqGuard_plain _ _ _ _ _ _ (by rw [hv]; simp)
    split at hK
    · refine fin (.string ⟨(l1 ++ l2).toArray⟩) _ hg ?_ (by simp [CV, CI]) hK.2
      have h64 : ¬ (((⟨l1.toArray⟩ : ByteArray).size + (⟨l2.toArray⟩ : ByteArray).size : Nat) : Int) > IntKind.i64.max := by
        have := hK.1
        simp only [str_size, IntKind.max, IntKind.signed, IntKind.bits]
        simp; omega
      simp only [binOp, hv, hw, Op.stringOp, h64, if_false, Sem.run_pure, Result.ok.injEq, and_true, Value.string.injEq]
      apply ByteArray.ext
      simp [ByteArray.data_append]
    · exact fin _ _ hg (by simp [binOp, hv, hw, Op.stringOp, str_toList]; rfl) (by simp [CV, CI]) hK
    · exact fin _ _ hg (by simp [binOp, hv, hw, Op.stringOp, str_toList]; rfl) (by simp [CV, CI]) hK
    · exact fin _ _ hg (by simp [binOp, hv, hw, Op.stringOp, str_toList]; rfl) (by simp [CV, CI]) hK
    · exact fin _ _ hg (by simp [binOp, hv, hw, Op.stringOp, str_toList]; rfl) (by simp [CV, CI]) hK
    · exact fin _ _ hg (by simp [binOp, hv, hw, Op.stringOp, str_toList]; rfl) (by simp [CV, CI]) hK
    · exact fin _ _ hg (by simp [binOp, hv, hw, Op.stringOp, str_toList]; rfl) (by simp [CV, CI]) hK
    · exact hK.elim
  · exact hK.elim
theorem equal_step (t : TypeId) (x y : Value) : ∃ d, Op.equal t x y = Op.equalIn (d + 1) t x y := ⟨9999, rfl⟩
theorem run_equal_bool {t : TypeId} (hu : P.underlying t = some .bool) (b c : Bool) : (Op.equal t (.bool b) (.bool c)).run P w = .ok (b == c) w := by
  obtain ⟨d, hd⟩ := equal_step t (.bool b) (.bool c)
  rw [hd, Op.equalIn]
  simp only [Sem.run_bind, run_underlying hu, Result.andThen_ok, Sem.run_pure]
theorem run_equal_nil {t e : TypeId} (hu : P.underlying t = some (.pointer e)) (p : Option Addr) : (Op.equal t (.pointer none) (.pointer p)).run P w = .ok p.isNone w := by
  obtain ⟨d, hd⟩ := equal_step t (.pointer none) (.pointer p)
  rw [hd, Op.equalIn]
  simp only [Sem.run_bind, run_underlying hu, Result.andThen_ok, Sem.run_pure]
theorem run_equal_nil' {t e : TypeId} (hu : P.underlying t = some (.pointer e)) (p : Addr) : (Op.equal t (.pointer (some p)) (.pointer none)).run P w = .ok false w := by
  obtain ⟨d, hd⟩ := equal_step t (.pointer (some p)) (.pointer none)
  rw [hd, Op.equalIn]
  simp only [Sem.run_bind, run_underlying hu, Result.andThen_ok, Sem.run_pure]
theorem s_beq (hR : R E A ρ O F s a w) (hd : ∀ k, o.dst = some k → k < E.n) {p : BinOp} {t t' : TypeId} {x y : Operand} {x' y' : X} (ho : o.op = .binOp p t x y t') (hu : P.underlying t = some .bool) (hx : opd x = some x') (hy : opd y = some y')
    (hK : stepK P s n (.beq p x' y') K) (hn : NX E A s a n o.dst K next) : o.wp P a w next Q := by
  have hv := ev_ok hR hx
  have hw := ev_ok hR hy
  simp only [stepK] at hK
  unfold beqK at hK
  split at hK
  · rename_i b c h1 h2
    rw [h1] at hv; rw [h2] at hw; simp only [CV, CI] at hv hw
    have hg : (eqGuard p t x y (a.eval x) (a.eval y)).run P w = .ok () w := eqGuard_plain _ _ _ _ _ _ (by rw [hv]; simp)
    split at hK
    · exact pureOp hR hd (u := .bool (b == c)) (v := .b (b == c)) (by rw [hv, hw] at hg; simp only [execOp, ho, hv, hw, Sem.run_bind, hg, Result.andThen_ok, binOp, run_equal_bool hu, Sem.run_pure, pure, Sem.run]) (by simp [CV, CI]) ⟨[], hK⟩ hn
    · exact pureOp hR hd (u := .bool (!(b == c))) (v := .b (!(b == c))) (by rw [hv, hw] at hg; simp only [execOp, ho, hv, hw, Sem.run_bind, hg, Result.andThen_ok, binOp, run_equal_bool hu, Sem.run_pure, pure, Sem.run]) (by simp [CV, CI]) ⟨[], hK⟩ hn
    · exact hK.elim
  · exact hK.elim
theorem nilness_ok {t : T} {v : Value} {p : Bool} (h : CV w O ρ A t v) (e : t.nilness = some p) : if p then v = .pointer none else ∃ q, v = .pointer (some q) := by
  unfold T.nilness at e
  split at e <;> simp only [Option.some.injEq, reduceCtorEq] at e
  · subst e; simpa [CV, CI] using h
  · subst e; simp only [CV] at h; obtain ⟨_, B, _, h⟩ := h; exact ⟨_, h⟩
  · subst e; simp only [CV, CI] at h; obtain ⟨b, q, us, h, _⟩ := h; exact ⟨_, h⟩
theorem s_peq (hR : R E A ρ O F s a w) (hd : ∀ k, o.dst = some k → k < E.n) {p : BinOp} {t t' e : TypeId} {x y : Operand} {x' y' : X} (ho : o.op = .binOp p t x y t') (hu : P.underlying t = some (.pointer e)) (hx : opd x = some x') (hy : opd y = some y')
    (hK : stepK P s n (.peq p x' y') K) (hn : NX E A s a n o.dst K next) : o.wp P a w next Q := by
  have hv := ev_ok hR hx
  have hw := ev_ok hR hy
  simp only [stepK] at hK
  unfold peqK at hK
  split at hK
  · rename_i b c h1 h2
    have g1 := nilness_ok hv h1
    have g2 := nilness_ok hw h2
    obtain ⟨hbc, hK⟩ := hK
    have hg : (eqGuard p t x y (a.eval x) (a.eval y)).run P w = .ok () w := by
      refine eqGuard_plain _ _ _ _ _ _ ?_
      cases b <;> simp only [Bool.false_eq_true, if_false, if_true] at g1
      · obtain ⟨q, g1⟩ := g1; rw [g1]; simp
      · rw [g1]; simp
    have key : (Op.equal t (a.eval x) (a.eval y)).run P w = .ok (b && c) w := by
      cases b <;> cases c <;> simp only [Bool.false_eq_true, if_false, if_true, or_self, or_true, true_or] at g1 g2 hbc
      · obtain ⟨q, g1⟩ := g1; rw [g1, g2, run_equal_nil' hu]; rfl
      · obtain ⟨q, g2⟩ := g2; rw [g1, g2, run_equal_nil hu]; rfl
      · rw [g1, g2, run_equal_nil hu]; rfl
    have key2 : ∀ p, (p = .eql → (binOp p t (a.eval x) (a.eval y)).run P w = .ok (.bool (b && c)) w) ∧ (p = .neq → (binOp p t (a.eval x) (a.eval y)).run P w = .ok (.bool (!(b && c))) w) := by
      intro p
      cases b <;> cases c <;> simp only [Bool.false_eq_true, if_false, if_true, or_self, or_true, true_or] at g1 g2 hbc
      · obtain ⟨q, g1⟩ := g1
        constructor <;> (rintro rfl; rw [g1, g2] at key ⊢; simp only [binOp, Sem.run_bind, key, Result.andThen_ok, Sem.run_pure])
      · obtain ⟨q, g2⟩ := g2
        constructor <;> (rintro rfl; rw [g1, g2] at key ⊢; simp only [binOp, Sem.run_bind, key, Result.andThen_ok, Sem.run_pure])
      · constructor <;> (rintro rfl; rw [g1, g2] at key ⊢; simp only [binOp, Sem.run_bind, key, Result.andThen_ok, Sem.run_pure])
    split at hK
    · exact pureOp hR hd (u := .bool (b && c)) (v := .b (b && c)) (by simp [execOp, ho, hg, (key2 .eql).1 rfl]) (by simp [CV, CI]) ⟨[], hK⟩ hn
    · exact pureOp hR hd (u := .bool (!(b && c))) (v := .b (!(b && c))) (by simp [execOp, ho, hg, (key2 .neq).2 rfl]) (by simp [CV, CI]) ⟨[], hK⟩ hn
    · exact hK.elim
  · exact hK.elim
end
end Go.Proofs.Ytehdfbhfbidadaa.V

/- Each step of the machine of trees is a step of the model: places and parts. -/
namespace Go.Proofs.Ytehdfbhfbidadaa.V
open Go
set_option linter.unusedVariables false
set_option linter.unusedSimpArgs false
section
variable {P : Program} {E : Env} {A A' : Nat → Prop} {ρ ρ' : Nat → Option RB} {O O' : Nat → Prop} {F F' : Nat → List Nat} {s : St} {a : Act} {w w' : World} {o : Oper} {n : Nat}
  {K : T → Δ → List Nat → Prop} {next : Act → World → Prop} {Q : Exit → Act → World → Prop}
theorem szOf_info {t : TypeId} {k : Nat} (h : szOf P t = some k) : ∃ i, P.info? t = some i ∧ i.size = k := by
  unfold szOf at h
  obtain ⟨i, h1, h2⟩ := Option.map_eq_some_iff.1 h
  exact ⟨i, h1, h2⟩
theorem run_szOf {t : TypeId} {k : Nat} (h : szOf P t = some k) : (sizeOf t).run P w = .ok k w := by
  obtain ⟨i, hi, rfl⟩ := szOf_info h
  rw [run_sizeOf w hi]; simp [Program.cellsOf, hi]
theorem add_none (b o k : Nat) : (⟨b, o, none⟩ : Addr).add k = ⟨b, o + k, none⟩ := by unfold Addr.add; split <;> simp_all

/-- The bounds of a slice expression. -/
theorem run_bounds {isS : Bool} {len cap : Nat} {lo hi : Option Operand} {lo' hi' : Option X} (hR : R E A ρ O F s a w) (hl : opdO lo = some lo') (hh : opdO hi = some hi') (hc : len ≤ cap) {K : Nat → Nat → Prop}
    (h : bnd len (lo'.map (·.ev s)) (hi'.map (·.ev s)) K) : ∃ l h, l ≤ h ∧ h ≤ len ∧ K l h ∧ (Instr.sliceBounds isS len cap (lo.map a.eval) (hi.map a.eval) none).run P w = .ok (l, h, cap) w := by
  have opt : ∀ {x : Option Operand} {x' : Option X}, opdO x = some x' → (x = none ∧ x' = none) ∨ ∃ y y', x = some y ∧ x' = some y' ∧ CV w O ρ A (y'.ev s) (a.eval y) := by
    intro x x' h
    cases x with
    | none => simp only [opdO, Option.some.injEq] at h; exact .inl ⟨rfl, h.symm⟩
    | some y =>
      simp only [opdO, Option.map_eq_some_iff] at h
      obtain ⟨y', hy, rfl⟩ := h
      exact .inr ⟨y, y', rfl, rfl, ev_ok hR hy⟩
  have lows : ∀ (hv : Nat), bndLo (lo'.map (·.ev s)) hv K →
      ∃ l, l ≤ hv ∧ K l hv ∧ ((lo = none ∧ l = 0) ∨ ∃ v, lo.map a.eval = some v ∧ (Instr.sliceBound v hv .sliceB).run P w = .ok l w) := by
    intro hv h
    rcases opt hl with ⟨rfl, rfl⟩ | ⟨y, y', rfl, rfl, hy⟩
    · exact ⟨0, Nat.zero_le _, h, .inl ⟨rfl, rfl⟩⟩
    · unfold bndLo at h
      simp only [Option.map_some] at h
      cases e : y'.ev s <;> rw [e] at h hy <;> simp only at h
      rename_i k l
      simp only [CV, CI] at hy
      refine ⟨l.toNat, by omega, h.2, .inr ⟨_, rfl, ?_⟩⟩
      simp [Instr.sliceBound, hy, asIntOf, h.1]
  rcases opt hh with ⟨rfl, rfl⟩ | ⟨y, y', rfl, rfl, hy⟩
  · obtain ⟨l, h1, h2, h3⟩ := lows len h
    refine ⟨l, len, h1, Nat.le_refl _, h2, ?_⟩
    unfold Instr.sliceBounds
    rcases h3 with ⟨rfl, rfl⟩ | ⟨v, e, h3⟩
    · simp
    · simp [e, h3]
  · unfold bnd at h
    simp only [Option.map_some] at h
    cases e : y'.ev s <;> rw [e] at h hy <;> simp only at h
    rename_i k hv
    simp only [CV, CI] at hy
    obtain ⟨h0, h⟩ := h
    obtain ⟨l, h1, h2, h3⟩ := lows hv.toNat h
    refine ⟨l, hv.toNat, h1, by omega, h2, ?_⟩
    have hb : ∀ code, (Instr.sliceBound (a.eval y) cap code).run P w = .ok hv.toNat w := by
      intro code
      have : 0 ≤ hv ∧ hv ≤ (cap : Int) := by omega
      simp [Instr.sliceBound, hy, asIntOf, this]
    unfold Instr.sliceBounds
    rcases h3 with ⟨rfl, rfl⟩ | ⟨v, e, h3⟩
    · simp [hb]
    · simp [e, h3, hb]
theorem s_sls (hR : R E A ρ O F s a w) (hd : ∀ k, o.dst = some k → k < E.n) {t : TypeId} {x : Operand} {x' : X} {lo hi : Option Operand} {lo' hi' : Option X} (ho : o.op = .slice t x lo hi none) (hu : P.underlying t = some .string) (hx : opd x = some x') (hl : opdO lo = some lo') (hh : opdO hi = some hi')
    (hK : stepK P s n (.sls x' lo' hi') K) (hn : NX E A s a n o.dst K next) : o.wp P a w next Q := by
  have hv := ev_ok hR hx
  simp only [stepK] at hK
  split at hK
  · rename_i l hy
    rw [hy] at hv; simp only [CV, CI] at hv
    obtain ⟨p, q, h1, h2, hK, hr⟩ := run_bounds (P := P) (isS := false) hR hl hh (Nat.le_refl _) hK
    refine pureOp hR hd (u := .string ⟨((l.drop p).take (q - p)).toArray⟩) (v := .s ((l.drop p).take (q - p))) ?_ (by simp [CV, CI]) ⟨[], hK⟩ hn
    simp only [execOp, ho, Option.map_none, Sem.run_bind, Instr.sliceAt, run_underlying hu, Result.andThen_ok, Instr.slice, hv, Option.isSome_none, Bool.false_eq_true, if_false, str_size, hr, Sem.run_pure, Result.ok.injEq, and_true, Next.value.injEq, Value.string.injEq]
    apply ByteArray.ext
    apply Array.ext'
    rw [ByteArray.data_extract]
    simp [List.extract_eq_take_drop]
  · exact hK.elim
theorem CIr_lie {rows : List (List T)} {us : List Value} {b q sz p : Nat} (hs : ∀ r ∈ rows, r.length = sz) (hr : CIr w O rows us) (hl : Lies w b q us) : ∃ us', CIr w O (rows.drop p) us' ∧ Lies w b (q + p * sz) us' := by
  rcases Nat.lt_or_ge p rows.length with hp | hp
  · have e : rows = rows.take p ++ rows.drop p := by simp
    rw [e] at hr
    obtain ⟨v1, v2, rfl, h1, h2⟩ := CIr_append.1 hr
    have hl1 := h1.len (fun r hr => hs r (List.mem_of_mem_take hr))
    refine ⟨v2, h2, ?_⟩
    intro j u hj
    have := hl (v1.length + j) u (by rw [List.getElem?_append_right (by omega)]; simpa using hj)
    rw [show q + p * sz + j = q + (v1.length + j) by rw [hl1]; simp; rw [Nat.min_eq_left (by omega)]; omega]
    exact this
  · rw [List.drop_eq_nil_of_le hp]
    exact ⟨[], by simp [CIr], fun j u h => by simp at h⟩
theorem CIr_take {rows : List (List T)} {us : List Value} {b q p : Nat} (hr : CIr w O rows us) (hl : Lies w b q us) : ∃ us', CIr w O (rows.take p) us' ∧ Lies w b q us' := by
  have e : rows = rows.take p ++ rows.drop p := by simp
  rw [e] at hr
  obtain ⟨v1, v2, rfl, h1, h2⟩ := CIr_append.1 hr
  refine ⟨v1, h1, fun j u hj => hl j u ?_⟩
  have : j < v1.length := by
    rcases Nat.lt_or_ge j v1.length with h | h
    · exact h
    · rw [List.getElem?_eq_none h] at hj; exact absurd hj (by simp)
  rw [List.getElem?_append_left this]; exact hj
theorem s_sl (hR : R E A ρ O F s a w) (hd : ∀ k, o.dst = some k → k < E.n) {t e : TypeId} {sz : Nat} {x : Operand} {x' : X} {lo hi : Option Operand} {lo' hi' : Option X} (ho : o.op = .slice t x lo hi none) (hu : P.underlying t = some (.slice e)) (hz : szOf P e = some sz) (hx : opd x = some x') (hl : opdO lo = some lo') (hh : opdO hi = some hi')
    (hK : stepK P s n (.sl sz x' lo' hi') K) (hn : NX E A s a n o.dst K next) : o.wp P a w next Q := by
  have hv := ev_ok hR hx
  have hz' := fun w => run_szOf (w := w) hz
  simp only [stepK] at hK
  have fin : ∀ (q : Option Addr) (len cap l h : Nat) (v : T), a.eval x = .slice q len cap → (Instr.sliceBounds true len cap (lo.map a.eval) (hi.map a.eval) none).run P w = .ok (l, h, cap) w →
      CV w O ρ A v (.slice (if cap = l then q else q.map (·.add (l * sz))) (h - l) (cap - l)) → (∃ rd, K v [] rd) → o.wp P a w next Q := by
    intro q len cap l h v he hr hv hK
    refine pureOp hR hd (u := .slice (if cap = l then q else q.map (·.add (l * sz))) (h - l) (cap - l)) (v := v) ?_ hv hK hn
    simp only [execOp, ho, Option.map_none, Sem.run_bind, Instr.sliceAt, run_underlying hu, Result.andThen_ok, Instr.slice, he, hr, hz', Sem.run_pure]
  split at hK
  · rename_i rows hy
    rw [hy] at hv; simp only [CV, CI] at hv
    obtain ⟨q, cap, e, hlc, hm⟩ := hv
    obtain ⟨l, h, h1, h2, ⟨hsz, hK⟩, hr⟩ := run_bounds (P := P) (isS := true) hR hl hh hlc hK
    refine fin _ _ _ _ _ _ e hr ?_ ⟨[], hK⟩
    simp only [CV, CI]
    have hlen : ((rows.drop l).take (h - l)).length = h - l := by simp; omega
    rw [hlen]
    refine ⟨_, _, rfl, by omega, ?_⟩
    by_cases hcl : cap = l
    · left
      rw [show h - l = 0 by omega]; simp
    · rw [if_neg hcl]
      rcases hm with rfl | ⟨b, qo, sz', us, rfl, hb, hs', hrr, hmm⟩
      · left; simp
      · right
        by_cases hre : rows = []
        · subst hre
          simp at h2
          subst h2
          refine ⟨b, qo + l * sz, sz, [], by simp [add_none], hb, by simp, by simp [CIr], fun j u h => by simp at h⟩
        · obtain ⟨us', h3, h4⟩ := CIr_lie (p := l) hsz hrr hmm
          obtain ⟨us'', h5, h6⟩ := CIr_take (p := h - l) h3 h4
          exact ⟨b, qo + l * sz, sz, us'', by simp [add_none], hb, fun r hr => hsz r (List.mem_of_mem_drop (List.mem_of_mem_take hr)), h5, h6⟩
  · rename_i t q m hy
    rw [hy] at hv; simp only [CV] at hv
    obtain ⟨hA, hv⟩ := hv
    have hb : ∃ cap len q', a.eval x = .slice q' len cap ∧ len = m ∧ len ≤ cap := by
      rcases hv with ⟨_, _, rfl, q1, e⟩ | ⟨B, hB, b', o', c, e, hc, hmc, _⟩
      · exact ⟨_, _, _, e, rfl, Nat.le_refl _⟩
      · exact ⟨_, _, _, e, rfl, hmc⟩
    obtain ⟨cap, len, q', e, rfl, hlc⟩ := hb
    obtain ⟨l, h, h1, h2, hK2, hr⟩ := run_bounds (P := P) (isS := true) hR hl hh hlc hK
    clear hK
    split at hK2
    · rename_i sz' rows hg
      obtain ⟨rfl, hK2⟩ := hK2
      have hBR := (hR.hp _ _ hg).2
      refine fin _ _ _ _ _ _ e hr ?_ ⟨[t], hK2⟩
      simp only [CV]
      refine ⟨hA, ?_⟩
      rcases hv with ⟨hn, rfl, rfl, q1, e'⟩ | ⟨B, hB, b', o', c, e', hc, hmc, hbo⟩
      · rw [e] at e'
        simp only [Value.slice.injEq] at e'
        obtain ⟨rfl, _, rfl⟩ := e'
        left
        have : l = 0 := by omega
        have : h = 0 := by omega
        subst_vars
        exact ⟨hn, by omega, by omega, by simp⟩
      · rw [e] at e'
        simp only [Value.slice.injEq] at e'
        obtain ⟨rfl, _, rfl⟩ := e'
        have hsz : sz' = B.sz := by
          simp only [BR, hB] at hBR
          rcases hBR with ⟨_, _, h | ⟨B', h, _, h'⟩⟩ | ⟨B', h, h', _⟩
          · exact absurd h (by simp)
          · simp only [Option.some.injEq] at h; rw [h', ← h]
          · simp only [Option.some.injEq] at h; rw [h', ← h]
        right
        refine ⟨B, hB, ?_⟩
        by_cases hcl : cap = l
        · rw [if_pos hcl]
          exact ⟨b', o', cap - l, rfl, by omega, by omega, .inl (by omega)⟩
        · rw [if_neg hcl]
          simp only [Option.map_some, add_none]
          refine ⟨b', o' + l * sz', cap - l, rfl, by omega, by omega, .inr ?_⟩
          rcases hbo with h0 | ⟨h3, h4⟩
          · omega
          · refine ⟨h3, ?_⟩
            rw [h4, hsz, Nat.add_mul]; omega
    · exact hK2.elim
  · rename_i hy
    rw [hy] at hv; simp only [CV, CI] at hv
    obtain ⟨l, h, h1, h2, hK, hr⟩ := run_bounds (P := P) (isS := true) hR hl hh (Nat.le_refl 0) hK
    have : l = 0 := by omega
    have : h = 0 := by omega
    subst_vars
    refine fin _ _ _ _ _ _ hv hr ?_ ⟨[], hK⟩
    simp [CV, CI]
  · exact hK.elim
theorem Lies.drop {b q k : Nat} {us : List Value} (h : Lies w b q us) : Lies w b (q + k) (us.drop k) := by
  intro j u hj
  have := h (k + j) u (by rw [List.getElem?_drop] at hj; exact hj)
  rw [show q + k + j = q + (k + j) by omega]; exact this
theorem CIs_drop {cs : List T} {us : List Value} (k : Nat) (h : CIs w O cs us) : CIs w O (cs.drop k) (us.drop k) := by
  have e : cs = cs.take k ++ cs.drop k := by simp
  by_cases hk : k ≤ cs.length
  · rw [e] at h
    obtain ⟨v1, v2, rfl, h1, h2⟩ := CIs_append.1 h
    have := h1.len
    rw [List.length_take, Nat.min_eq_left hk] at this
    rw [← this] at h2 ⊢
    simpa using h2
  · rw [List.drop_eq_nil_of_le (by omega), List.drop_eq_nil_of_le (by have := h.len; omega)]
    simp [CIs]
theorem CIs_take {cs : List T} {us : List Value} (k : Nat) (h : CIs w O cs us) : CIs w O (cs.take k) (us.take k) := by
  have e : cs = cs.take k ++ cs.drop k := by simp
  by_cases hk : k ≤ cs.length
  · rw [e] at h
    obtain ⟨v1, v2, rfl, h1, h2⟩ := CIs_append.1 h
    have := h1.len
    rw [List.length_take, Nat.min_eq_left hk] at this
    rw [← this] at h1 ⊢
    simpa using h1
  · rw [List.take_of_length_le (by omega), List.take_of_length_le (by have := h.len; omega)]
    exact h
theorem s_fa (hR : R E A ρ O F s a w) (hd : ∀ k, o.dst = some k → k < E.n) {t : TypeId} {x : Operand} {x' : X} {f k : Nat} {fields : Array Field} {fd : Field} (ho : o.op = .fieldAddr t x f) (hu : P.underlying t = some (.struct fields)) (hf : fields[f]? = some fd) (hz : szOf P fd.type = some k) (hk : k ≠ 0) (hx : opd x = some x')
    (hK : stepK P s n (.fa fd.offset x') K) (hn : NX E A s a n o.dst K next) : o.wp P a w next Q := by
  have hv := ev_ok hR hx
  have hz' := fun w => run_szOf (w := w) hz
  simp only [stepK] at hK
  have fin : ∀ (b q : Nat) (v : T), a.eval x = .pointer (some ⟨b, q, none⟩) → CV w O ρ A v (.pointer (some ⟨b, q + fd.offset, none⟩)) → K v [] [] → o.wp P a w next Q := by
    intro b q v he hv hK
    refine pureOp hR hd (u := .pointer (some ⟨b, q + fd.offset, none⟩)) (v := v) ?_ hv ⟨[], hK⟩ hn
    simp only [execOp, ho, Sem.run_bind, Instr.fieldAt, run_underlying hu, Result.andThen_ok, hf, he, Instr.sureAddr, fieldPlace, hz', hk, if_false, Sem.run_pure, add_none]
  split at hK
  · rename_i t r q hy
    rw [hy] at hv; simp only [CV] at hv
    obtain ⟨hA, B, hB, e⟩ := hv
    refine fin _ _ _ e ?_ hK
    simp only [CV]
    exact ⟨hA, B, hB, by rw [Nat.add_assoc]⟩
  · rename_i cs hy
    rw [hy] at hv; simp only [CV, CI] at hv
    obtain ⟨b, q, us, e, hb, hc, hm⟩ := hv
    refine fin _ _ _ e ?_ hK.2
    simp only [CV, CI]
    exact ⟨b, q + fd.offset, us.drop fd.offset, rfl, hb, CIs_drop _ hc, hm.drop⟩
  · exact hK.elim
theorem s_ia (hR : R E A ρ O F s a w) (hd : ∀ k, o.dst = some k → k < E.n) {t e : TypeId} {sz : Nat} {x i : Operand} {x' i' : X} (ho : o.op = .indexAddr t x i) (hu : P.underlying t = some (.slice e)) (hz : szOf P e = some sz) (hx : opd x = some x') (hi : opd i = some i')
    (hK : stepK P s n (.ia sz x' i') K) (hn : NX E A s a n o.dst K next) : o.wp P a w next Q := by
  have hv := ev_ok hR hx
  have hw := ev_ok hR hi
  have hz' := fun w => run_szOf (w := w) hz
  simp only [stepK] at hK
  have fin : ∀ (b q len cap : Nat) (k : Int) (kd : IntKind) (v : T), a.eval x = .slice (some ⟨b, q, none⟩) len cap → a.eval i = .int kd k → 0 ≤ k ∧ k < len → CV w O ρ A v (.pointer (some ⟨b, q + k.toNat * sz, none⟩)) → (∃ rd, K v [] rd) → o.wp P a w next Q := by
    intro b q len cap k kd v he hi hk hv hK
    refine pureOp hR hd (u := .pointer (some ⟨b, q + k.toNat * sz, none⟩)) (v := v) ?_ hv hK hn
    simp [execOp, ho, Instr.indexAt, hi, asIntOf, run_underlying hu, he, hk, hz', add_none]
  split at hK
  · rename_i t q len kd k hy hj
    rw [hy] at hv; rw [hj] at hw; simp only [CV, CI] at hv hw
    obtain ⟨hk, hK⟩ := hK
    obtain ⟨hA, hv⟩ := hv
    split at hK
    · rename_i sz' rows hg
      obtain ⟨rfl, hK⟩ := hK
      have hBR := (hR.hp _ _ hg).2
      rcases hv with ⟨_, _, rfl, _⟩ | ⟨B, hB, b', o', c, e', hc, hmc, hbo⟩
      · omega
      · have hsz : sz' = B.sz := by
          simp only [BR, hB] at hBR
          rcases hBR with ⟨_, _, h | ⟨B', h, _, h'⟩⟩ | ⟨B', h, h', _⟩
          · exact absurd h (by simp)
          · simp only [Option.some.injEq] at h; rw [h', ← h]
          · simp only [Option.some.injEq] at h; rw [h', ← h]
        rcases hbo with h0 | ⟨h3, h4⟩
        · omega
        · refine fin _ _ _ _ _ _ _ e' hw hk ?_ ⟨_, hK⟩
          simp only [CV]
          refine ⟨hA, B, hB, ?_⟩
          rw [h3, h4, hsz, Nat.add_mul]
          simp only [Value.pointer.injEq, Option.some.injEq, Addr.mk.injEq, and_true, true_and]; omega
    · exact hK.elim
  · rename_i rows kd k hy hj
    rw [hy] at hv; rw [hj] at hw; simp only [CV, CI] at hv hw
    obtain ⟨h0, hK⟩ := hK
    split at hK
    · rename_i row hrow
      obtain ⟨hsz, hK⟩ := hK
      obtain ⟨q, cap, e, hlc, hm⟩ := hv
      obtain ⟨l1, l2, rfl, hl1⟩ := split_at hrow
      rcases hm with hnil | ⟨b, qo, sz', us, rfl, hb, hs', hrr, hmm⟩
      · simp at hnil
      · obtain ⟨v1, v2, rfl, h1, h2⟩ := CIr_append.1 hrr
        simp only [CIr] at h2
        obtain ⟨v3, v4, rfl, h3, h4⟩ := h2
        have e1 := h1.len (fun r hr => hs' r (by simp [hr]))
        have e2 := hs' row (by simp)
        refine fin _ _ _ _ _ _ _ e hw ⟨h0, by simp; omega⟩ ?_ ⟨_, hK⟩
        simp only [CV, CI]
        refine ⟨b, qo + k.toNat * sz, v3, rfl, hb, h3, ?_⟩
        intro j u hj
        have hj' : j < v3.length := by
          rcases Nat.lt_or_ge j v3.length with h | h
          · exact h
          · rw [List.getElem?_eq_none h] at hj; exact absurd hj (by simp)
        have := hmm (v1.length + j) u (by rw [List.getElem?_append_right (by omega), Nat.add_sub_cancel_left, List.getElem?_append_left hj']; exact hj)
        rw [show qo + k.toNat * sz + j = qo + (v1.length + j) by rw [e1, hl1, ← hsz, e2]; omega]
        exact this
    · exact hK.elim
  · exact hK.elim
end
end Go.Proofs.Ytehdfbhfbidadaa.V

/- Blocks that come, go, and are written. -/
namespace Go.Proofs.Ytehdfbhfbidadaa.V
open Go
set_option linter.unusedVariables false
set_option linter.unusedSimpArgs false
section
variable {P : Program} {E : Env} {A A' : Nat → Prop} {ρ ρ' : Nat → Option RB} {O O' : Nat → Prop} {F F' : Nat → List Nat} {s : St} {a : Act} {w w' : World} {o : Oper} {n : Nat}
/-- One block is new, or written; others may go. -/
theorem R.set1 (h : R E A ρ O F s a w) {t : Nat} {k : Blk} {Ft M : List Nat} {hp0 : List (Nat × Blk)} (hA : ∀ t, A t → A' t) (hρ : ∀ t, A t → ρ' t = ρ t) (hfb : ∀ t, t < E.fb → ρ' t = E.ρ0 t)
    (hw : ∀ b, O b → w'.heap[b]? = w.heap[b]?) (hs : ∀ t' k, hget hp0 t' = some k → hget s.hp t' = some k) (hF : ∀ t' k, t' ≠ t → hget hp0 t' = some k → ∀ b ∈ F t', w'.heap[b]? = w.heap[b]?)
    (hk : Keep w M w') (hM : ∀ b ∈ M, E.w0.heap.size ≤ b ∨ b ∈ E.mine) (ht : A' t) (hbr : BR w' O ρ' A' t k Ft) (hnd : Ft.Nodup)
    (hm : ∀ b ∈ Ft, ¬ O b ∧ b < w'.heap.size ∧ (E.w0.heap.size ≤ b ∨ b ∈ E.mine)) (hap : ∀ t' k, t' ≠ t → hget hp0 t' = some k → ∀ b ∈ Ft, b ∉ F t') :
    R E A' ρ' O (fun x => if x = t then Ft else F x) { s with hp := hset hp0 t k } a w' := by
  refine ⟨h.size, h.defers, h.fb, hfb, h.O0, fun b hb => Nat.lt_of_lt_of_le (h.Olt b hb) hk.size, h.Onew, fun j => (h.tm j).cong (fun _ h => h) hw hA hρ, ?_, ?_, ?_, ?_, ?_⟩
  · intro t' k' h'
    simp only [hget_hset] at h'
    split at h'
    · rename_i e; subst e
      obtain rfl := Option.some.inj h'
      simp only [if_true]
      exact ⟨ht, hbr⟩
    · rename_i e
      have e' : t' ≠ t := fun h => e h.symm
      rw [if_neg e']
      have := h.hp t' k' (hs _ _ h')
      exact ⟨hA _ this.1, this.2.cong (fun _ h => h) hw hA hρ this.1 (hF _ _ e' h')⟩
  · intro t' k' h'
    simp only [hget_hset] at h'
    split at h'
    · rename_i e; subst e; simp only [if_true]; exact hnd
    · rename_i e
      rw [if_neg (fun h => e h.symm)]
      exact h.nodup _ _ (hs _ _ h')
  · intro t1 k1 t2 k2 h1 h2 hne b hb
    simp only [hget_hset] at h1 h2
    by_cases e1 : t = t1
    · subst e1
      simp only [if_true] at hb
      rw [if_neg (fun h => hne h)] at h2
      rw [if_neg (fun h => hne h.symm)]
      exact hap _ _ (fun h => hne h.symm) h2 b hb
    · rw [if_neg e1] at h1
      rw [if_neg (fun h => e1 h.symm)] at hb
      by_cases e2 : t = t2
      · subst e2
        simp only [if_true]
        intro hb2
        exact hap _ _ (fun h => e1 h.symm) h1 b hb2 hb
      · rw [if_neg e2] at h2
        rw [if_neg (fun h => e2 h.symm)]
        exact h.apart _ _ _ _ (hs _ _ h1) (hs _ _ h2) hne b hb
  · intro t' k' h' b hb
    simp only [hget_hset] at h'
    split at h'
    · rename_i e; subst e; simp only [if_true] at hb; exact hm b hb
    · rename_i e
      rw [if_neg (fun h => e h.symm)] at hb
      obtain ⟨h1, h2, h3⟩ := h.mine _ _ (hs _ _ h') b hb
      exact ⟨h1, Nat.lt_of_lt_of_le h2 hk.size, h3⟩
  · exact h.keep.trans hk (fun b hb hlt => (hM b hb).elim (fun h => by omega) id)
/-- Blocks that go are forgotten. -/
theorem R.hpsub (h : R E A ρ O F s a w) {hp0 : List (Nat × Blk)} (hs : ∀ t' k, hget hp0 t' = some k → hget s.hp t' = some k) : R E A ρ O F { s with hp := hp0 } a w :=
  ⟨h.size, h.defers, h.fb, h.ρ0, h.O0, h.Olt, h.Onew, h.tm, fun t k hk => h.hp t k (hs t k hk), fun t k hk => h.nodup t k (hs t k hk), fun t k t' k' h1 h2 => h.apart t k t' k' (hs _ _ h1) (hs _ _ h2), fun t k hk => h.mine t k (hs t k hk), h.keep⟩
theorem hget_hdel_sub {l : List (Nat × Blk)} {t t' : Nat} {k : Blk} (h : hget (hdel l t) t' = some k) : hget l t' = some k := by
  rw [hget_hdel] at h
  split at h
  · exact absurd h (by simp)
  · exact h
theorem heap_push_old {b : Nat} {ob : Obj} (h : b < w.heap.size) : (w.alloc ob).heap[b]? = w.heap[b]? := Go.RowKit.Below.heap_alloc _ _ _ h
theorem Keep.alloc (w : World) (ob : Obj) : Keep w [] (w.alloc ob) := Keep.grown rfl rfl rfl (by simp) (fun k hk => heap_push_old hk)
/-- Cells that stand in slots stand in a block without more. -/
theorem Ds_of_CVs : ∀ {ts : List T} {vs : List Value}, CVs w O ρ A ts vs → (ts.all T.cell) = true → Ds w O ρ A ts vs []
  | [], vs, h, hc => by simp only [CVs] at h; simp [Ds, h]
  | t :: ts, vs, h, hc => by
    simp only [CVs] at h; simp only [Ds]
    simp only [List.all_cons, Bool.and_eq_true] at hc
    obtain ⟨v, r, e, h1, h2⟩ := h
    exact ⟨v, r, [], [], e, rfl, .inr ⟨h1, rfl⟩, Ds_of_CVs h2 hc.2⟩
theorem Ds_of_CVs' : ∀ {ts : List T} {vs : List Value}, CVs w O ρ A ts vs → Ds w O ρ A ts vs []
  | [], vs, h => by simp only [CVs] at h; simp [Ds, h]
  | t :: ts, vs, h => by
    simp only [CVs] at h; simp only [Ds]
    obtain ⟨v, r, e, h1, h2⟩ := h
    exact ⟨v, r, [], [], e, rfl, .inr ⟨h1, rfl⟩, Ds_of_CVs' h2⟩
/-- One value of one cell is a cell. -/
theorem oneCell_of_CV {t : T} {v : Value} (h : CV w O ρ A t v) (hc : t.cell = true) : v.oneCell' = true := by
  cases t <;> simp only [T.cell, Bool.false_eq_true] at hc <;> simp only [CV, CI] at h
  case ref => obtain ⟨_, ⟨_, _, _, _, rfl⟩ | ⟨_, _, _, _, _, rfl, _⟩⟩ := h <;> rfl
  case ptr => obtain ⟨_, _, _, rfl⟩ := h; rfl
  case mp => obtain ⟨_, _, _, rfl⟩ := h; rfl
  case imm => obtain ⟨_, _, rfl, _⟩ := h; rfl
  case pim => obtain ⟨_, _, _, rfl, _⟩ := h; rfl
  case fn => obtain ⟨_, rfl, _⟩ := h; rfl
  case ifc => obtain ⟨_, rfl, _⟩ := h; unfold ifW; split <;> rfl
  all_goals (subst h; rfl)
theorem CVs_cells {x : T} {v : Value} (h : CV w O ρ A x v) (hc : (x.cells.all T.cell) = true) : CVs w O ρ A x.cells v.cells.toList ∧ (∀ u ∈ v.cells.toList, u.oneCell' = true) ∧ v.cells.size = x.cells.length := by
  have one : ∀ {ts : List T} {vs : List Value}, CVs w O ρ A ts vs → (ts.all T.cell) = true → ∀ u ∈ vs, u.oneCell' = true := by
    intro ts
    induction ts with
    | nil => intro vs h; simp only [CVs] at h; simp [h]
    | cons t ts ih =>
      intro vs h hc
      simp only [CVs] at h
      simp only [List.all_cons, Bool.and_eq_true] at hc
      obtain ⟨u, r, rfl, h1, h2⟩ := h
      intro x hx
      rcases List.mem_cons.1 hx with rfl | hx
      · exact oneCell_of_CV h1 hc.1
      · exact ih h2 hc.2 x hx
  have gen : ∀ (ts : List T) (us : List Value), CVs w O ρ A ts us → x.cells = ts → v.cells.toList = us → CVs w O ρ A x.cells v.cells.toList ∧ (∀ u ∈ v.cells.toList, u.oneCell' = true) ∧ v.cells.size = x.cells.length := by
    intro ts us h e1 e2
    rw [e1, e2]
    rw [e1] at hc
    refine ⟨h, one h hc, ?_⟩
    have := h.len
    rw [← e2] at this
    simpa using this
  by_cases hx : ∃ cs, x = .agg cs
  · obtain ⟨cs, rfl⟩ := hx
    simp only [CV] at h
    obtain ⟨us, rfl, h⟩ := h
    exact gen cs us h rfl rfl
  · have e : x.cells = [x] := by cases x <;> first | rfl | exact absurd ⟨_, rfl⟩ hx
    have hone : v.oneCell' = true := oneCell_of_CV h (by rw [e] at hc; simpa using hc)
    have e' : v.cells = #[v] := by cases v <;> first | rfl | (simp [Value.oneCell'] at hone)
    refine gen [x] [v] ?_ e (by rw [e'])
    simp only [CVs]; exact ⟨v, [], rfl, h, rfl⟩
/-- A new block of rows without anything owned. -/
theorem R.new (h : R E A ρ O F s a w) {n : Nat} (hn : ¬ A n) (hfb : E.fb ≤ n) {sz cap : Nat} {rows : List (List T)} {us : List Value} {c : Array Value} {e : TypeId} (hs : ∀ r ∈ rows, r.length = sz) (hcap : rows.length ≤ cap) (hc : cap * sz ≤ c.size)
    (hr : Dr w O ρ A rows us []) (hl : ∀ (j : Nat) (u : Value), us[j]? = some u → c[j]? = some u) :
    R E (Aext A n 1) (fun x => if x = n then some ⟨w.heap.size, 0, cap, sz⟩ else ρ x) O (fun x => if x = n then [w.heap.size] else F x) { s with hp := hset s.hp n (.arr sz rows) } a (w.alloc (.cells c e)) := by
  have hA : ∀ t, A t → Aext A n 1 t := fun t h => .inl h
  have hρ : ∀ t, A t → (fun x => if x = n then some (⟨w.heap.size, 0, cap, sz⟩ : RB) else ρ x) t = ρ t := fun t ht => if_neg (fun (h : t = n) => hn (by rw [← h]; exact ht))
  have hw : ∀ b, O b → (w.alloc (.cells c e)).heap[b]? = w.heap[b]? := fun b hb => heap_push_old (h.Olt b hb)
  refine h.set1 (M := []) hA hρ (fun t ht => by rw [if_neg (by omega)]; exact h.ρ0 t ht) hw (fun _ _ h => h) (fun t' k _ hk b hb => heap_push_old (h.mine t' k hk b hb).2.1) (Keep.alloc _ _) (by simp) (.inr ⟨Nat.le_refl _, by omega⟩) ?_ (by simp) ?_ ?_
  · simp only [BR]
    refine .inr ⟨⟨w.heap.size, 0, cap, sz⟩, by simp, rfl, hs, hcap, c, e, us, [], ?_, by simpa using hc, hr.cong (fun _ h => h) hw hA hρ (by simp), by simpa using hl, rfl⟩
    show (w.heap.push _)[w.heap.size]? = _
    simp
  · intro b hb
    simp only [List.mem_singleton] at hb
    subst hb
    refine ⟨fun ho => ?_, by simp, .inl h.keep.size⟩
    have := h.Olt _ ho; omega
  · intro t' k _ hk b hb hb'
    simp only [List.mem_singleton] at hb
    subst hb
    have := (h.mine t' k hk _ hb').2.1
    omega
mutual
theorem mat_CV : ∀ {t : T} {v : Value} {n : Nat}, CV w O ρ A t v → mat t n = (t, [])
  | .own sz rows, v, n, h => by simp only [CV, CI] at h
  | .bx cs, v, n, h => by simp only [CV, CI] at h
  | .agg cs, v, n, h => by
    simp only [CV] at h
    obtain ⟨us, _, h⟩ := h
    simp only [mat, mats_CV h]
  | .tup cs, v, n, h => by
    simp only [CV] at h
    obtain ⟨us, _, h⟩ := h
    simp only [mat, mats_CV h]
  | .un, v, n, h => by simp only [mat]
  | .dead, v, n, h => by simp only [mat]
  | .b _, v, n, h => by simp only [mat]
  | .i _ _, v, n, h => by simp only [mat]
  | .s _, v, n, h => by simp only [mat]
  | .nl, v, n, h => by simp only [mat]
  | .imm _, v, n, h => by simp only [mat]
  | .ref _ _ _, v, n, h => by simp only [mat]
  | .np, v, n, h => by simp only [mat]
  | .ptr _ _ _, v, n, h => by simp only [mat]
  | .pim _, v, n, h => by simp only [mat]
  | .fn _ _, v, n, h => by simp only [mat]
  | .nif, v, n, h => by simp only [mat]
  | .nfn, v, n, h => by simp only [mat]
  | .ifc _ _, v, n, h => by simp only [mat]
  | .nmp, v, n, h => by simp only [mat]
  | .mp _, v, n, h => by simp only [mat]
theorem mats_CV : ∀ {ts : List T} {vs : List Value} {n : Nat}, CVs w O ρ A ts vs → mats ts n = (ts, [])
  | [], vs, n, h => by simp only [mats]
  | t :: ts, vs, n, h => by
    simp only [CVs] at h
    obtain ⟨v, r, _, h1, h2⟩ := h
    simp only [mats, mat_CV h1, List.length_nil, Nat.add_zero, mats_CV h2, List.append_nil]
end
/-- Blocks under names from 'n' on. -/
def BL (w : World) (O : Nat → Prop) (ρ : Nat → Option RB) (A : Nat → Prop) : Nat → List (Nat × Blk) → List Nat → Prop
  | n, [], F => F = []
  | n, (t, k) :: l, F => t = n ∧ ∃ F1 F2, F = F1 ++ F2 ∧ BR w O ρ A n k F1 ∧ BL w O ρ A (n + 1) l F2
theorem BL.cong (hO : ∀ b, O b → O' b) (hw : ∀ b, O b → w'.heap[b]? = w.heap[b]?) (hA : ∀ t, A t → A' t) (hρ : ∀ t, A t → ρ' t = ρ t) : ∀ {l : List (Nat × Blk)} {n : Nat} {F : List Nat}, (∀ b ∈ F, w'.heap[b]? = w.heap[b]?) → (∀ x, n ≤ x → x < n + l.length → A x) → BL w O ρ A n l F → BL w' O' ρ' A' n l F
  | [], n, F, hF, hn, h => by simpa only [BL] using h
  | (t, k) :: l, n, F, hF, hn, h => by
    simp only [BL] at h ⊢
    obtain ⟨rfl, F1, F2, rfl, h1, h2⟩ := h
    exact ⟨rfl, F1, F2, rfl, h1.cong hO hw hA hρ (hn _ (Nat.le_refl _) (by simp)) (fun b hb => hF b (by simp [hb])), BL.cong hO hw hA hρ (fun b hb => hF b (by simp [hb])) (fun x h1 h2 => hn x (by omega) (by simp; omega)) h2⟩
theorem BL.append : ∀ {l l' : List (Nat × Blk)} {n : Nat} {F F' : List Nat}, BL w O ρ A n l F → BL w O ρ A (n + l.length) l' F' → BL w O ρ A n (l ++ l') (F ++ F')
  | [], l', n, F, F', h, h' => by simp only [BL] at h; subst h; simpa using h'
  | (t, k) :: l, l', n, F, F', h, h' => by
    simp only [BL, List.cons_append] at h ⊢
    obtain ⟨rfl, F1, F2, rfl, h1, h2⟩ := h
    exact ⟨rfl, F1, F2 ++ F', by simp, h1, BL.append h2 (by rw [show t + 1 + l.length = t + (l.length + 1) by omega]; exact h')⟩
theorem Ds_of_Ks : ∀ {ts : List T} {vs : List Value} {F : List Nat}, Ks w O ts vs F → Ds w O ρ A ts vs F
  | [], vs, F, h => by simpa only [Ds, Ks] using h
  | t :: ts, vs, F, h => by
    simp only [Ks] at h; simp only [Ds]
    obtain ⟨v, r, F1, F2, e, e', h1, h2⟩ := h
    exact ⟨v, r, F1, F2, e, e', .inl h1, Ds_of_Ks h2⟩
theorem Dr_of_Kr : ∀ {ts : List (List T)} {vs : List Value} {F : List Nat}, Kr w O ts vs F → Dr w O ρ A ts vs F
  | [], vs, F, h => by simpa only [Dr, Kr] using h
  | t :: ts, vs, F, h => by
    simp only [Kr] at h; simp only [Dr]
    obtain ⟨v, r, F1, F2, e, e', h1, h2⟩ := h
    exact ⟨v, r, F1, F2, e, e', Ds_of_Ks h1, Dr_of_Kr h2⟩
mutual
theorem mat_K : ∀ {t : T} {v : Value} {F : List Nat} (n : Nat) (ρ : Nat → Option RB) (A : Nat → Prop), K w O t v F → (∀ x, n ≤ x → x < n + (mat t n).2.length → ¬ A x) →
    ∃ ρ', (∀ x, (x < n ∨ n + (mat t n).2.length ≤ x) → ρ' x = ρ x) ∧ CV w O ρ' (Aext A n (mat t n).2.length) (mat t n).1 v ∧ BL w O ρ' (Aext A n (mat t n).2.length) n (mat t n).2 F
  | .own sz rows, v, F, n, ρ, A, h, hn => by
    simp only [K] at h
    simp only [mat, List.length_singleton] at hn ⊢
    have hA : ¬ A n := hn n (Nat.le_refl _) (by omega)
    have hAn : Aext A n 1 n := .inr ⟨Nat.le_refl _, by omega⟩
    rcases h with ⟨rfl, ⟨q, rfl⟩, rfl⟩ | ⟨b, q, cap, c, e, cs, F', rfl, hb, hl, hc, hs, rfl, hr, hm⟩
    · refine ⟨fun x => if x = n then none else ρ x, fun x hx => if_neg (show ¬ x = n by omega), ?_, ?_⟩
      · simp only [CV]
        exact ⟨hAn, .inl ⟨by simp, trivial, rfl, q, rfl⟩⟩
      · simp only [BL, BR]
        exact ⟨trivial, [], [], rfl, .inl ⟨trivial, rfl, .inl (by simp)⟩, rfl⟩
    · refine ⟨fun x => if x = n then some ⟨b, q, cap, sz⟩ else ρ x, fun x hx => if_neg (show ¬ x = n by omega), ?_, ?_⟩
      · simp only [CV]
        exact ⟨hAn, .inr ⟨⟨b, q, cap, sz⟩, by simp, b, q, cap, rfl, by simp, hl, .inr ⟨rfl, by simp⟩⟩⟩
      · simp only [BL, BR]
        refine ⟨trivial, b :: F', [], by simp, .inr ⟨⟨b, q, cap, sz⟩, by simp, rfl, hs, hl, c, e, cs, F', hb, hc, Dr_of_Kr hr, hm, rfl⟩, rfl⟩
  | .bx cs, v, F, n, ρ, A, h, hn => by
    simp only [K] at h
    simp only [mat, List.length_singleton] at hn ⊢
    have hA : ¬ A n := hn n (Nat.le_refl _) (by omega)
    have hAn : Aext A n 1 n := .inr ⟨Nat.le_refl _, by omega⟩
    obtain ⟨b, q, c, e, us, F', rfl, hb, hcs, rfl, hk, hm⟩ := h
    refine ⟨fun x => if x = n then some ⟨b, q, 1, cs.length⟩ else ρ x, fun x hx => if_neg (show ¬ x = n by omega), ?_, ?_⟩
    · simp only [CV]
      exact ⟨hAn, ⟨b, q, 1, cs.length⟩, by simp, by simp⟩
    · simp only [BL, BR]
      refine ⟨trivial, b :: F', [], by simp, .inr ⟨⟨b, q, 1, cs.length⟩, by simp, rfl, by simp, by simp, c, e, us, F', hb, by simpa using hcs, ?_, hm, rfl⟩, rfl⟩
      simp only [Dr]
      exact ⟨us, [], F', [], by simp, by simp, Ds_of_Ks hk, rfl, rfl⟩
  | .agg cs, v, F, n, ρ, A, h, hn => by
    simp only [K] at h
    simp only [mat] at hn ⊢
    obtain ⟨us, rfl, h⟩ := h
    obtain ⟨ρ', h1, h2, h3⟩ := mats_K n ρ A h hn
    exact ⟨ρ', h1, by simp only [CV]; exact ⟨us, rfl, h2⟩, h3⟩
  | .tup cs, v, F, n, ρ, A, h, hn => by
    simp only [K] at h
    simp only [mat] at hn ⊢
    obtain ⟨us, rfl, h⟩ := h
    obtain ⟨ρ', h1, h2, h3⟩ := mats_K n ρ A h hn
    exact ⟨ρ', h1, by simp only [CV]; exact ⟨us, rfl, h2⟩, h3⟩
  | .fn f cs, v, F, n, ρ, A, h, hn => by simp only [K] at h; simp only [mat, BL]; exact ⟨ρ, fun _ _ => rfl, CV.ofCI h.1, h.2⟩
  | .un, v, F, n, ρ, A, h, hn => by simp only [K] at h; simp only [mat, BL]; exact ⟨ρ, fun _ _ => rfl, (by simp only [CV]; exact h.1), h.2⟩
  | .dead, v, F, n, ρ, A, h, hn => by simp only [K] at h; simp only [mat, BL]; exact ⟨ρ, fun _ _ => rfl, (by simp only [CV]; exact h.1), h.2⟩
  | .b _, v, F, n, ρ, A, h, hn => by simp only [K] at h; simp only [mat, BL]; exact ⟨ρ, fun _ _ => rfl, (by simp only [CV]; exact h.1), h.2⟩
  | .i _ _, v, F, n, ρ, A, h, hn => by simp only [K] at h; simp only [mat, BL]; exact ⟨ρ, fun _ _ => rfl, (by simp only [CV]; exact h.1), h.2⟩
  | .s _, v, F, n, ρ, A, h, hn => by simp only [K] at h; simp only [mat, BL]; exact ⟨ρ, fun _ _ => rfl, (by simp only [CV]; exact h.1), h.2⟩
  | .nl, v, F, n, ρ, A, h, hn => by simp only [K] at h; simp only [mat, BL]; exact ⟨ρ, fun _ _ => rfl, (by simp only [CV]; exact h.1), h.2⟩
  | .imm _, v, F, n, ρ, A, h, hn => by simp only [K] at h; simp only [mat, BL]; exact ⟨ρ, fun _ _ => rfl, (by simp only [CV]; exact h.1), h.2⟩
  | .ref _ _ _, v, F, n, ρ, A, h, hn => by simp only [K, CI] at h; exact h.1.elim
  | .np, v, F, n, ρ, A, h, hn => by simp only [K] at h; simp only [mat, BL]; exact ⟨ρ, fun _ _ => rfl, (by simp only [CV]; exact h.1), h.2⟩
  | .ptr _ _ _, v, F, n, ρ, A, h, hn => by simp only [K, CI] at h; exact h.1.elim
  | .pim _, v, F, n, ρ, A, h, hn => by simp only [K] at h; simp only [mat, BL]; exact ⟨ρ, fun _ _ => rfl, (by simp only [CV]; exact h.1), h.2⟩
  | .nif, v, F, n, ρ, A, h, hn => by simp only [K] at h; simp only [mat, BL]; exact ⟨ρ, fun _ _ => rfl, (by simp only [CV]; exact h.1), h.2⟩
  | .nfn, v, F, n, ρ, A, h, hn => by simp only [K] at h; simp only [mat, BL]; exact ⟨ρ, fun _ _ => rfl, (by simp only [CV]; exact h.1), h.2⟩
  | .ifc t x, v, F, n, ρ, A, h, hn => by simp only [K] at h; simp only [mat, BL]; exact ⟨ρ, fun _ _ => rfl, CV.ofCI h.1, h.2⟩
  | .nmp, v, F, n, ρ, A, h, hn => by simp only [K] at h; simp only [mat, BL]; exact ⟨ρ, fun _ _ => rfl, (by simp only [CV]; exact h.1), h.2⟩
  | .mp _, v, F, n, ρ, A, h, hn => by simp only [K, CI] at h; exact h.1.elim
theorem mats_K : ∀ {ts : List T} {vs : List Value} {F : List Nat} (n : Nat) (ρ : Nat → Option RB) (A : Nat → Prop), Ks w O ts vs F → (∀ x, n ≤ x → x < n + (mats ts n).2.length → ¬ A x) →
    ∃ ρ', (∀ x, (x < n ∨ n + (mats ts n).2.length ≤ x) → ρ' x = ρ x) ∧ CVs w O ρ' (Aext A n (mats ts n).2.length) (mats ts n).1 vs ∧ BL w O ρ' (Aext A n (mats ts n).2.length) n (mats ts n).2 F
  | [], vs, F, n, ρ, A, h, hn => by
    simp only [Ks] at h
    simp only [mats, CVs, BL]
    exact ⟨ρ, fun _ _ => rfl, h.1, h.2⟩
  | t :: ts, vs, F, n, ρ, A, h, hn => by
    simp only [Ks] at h
    obtain ⟨v, r, F1, F2, rfl, rfl, h1, h2⟩ := h
    simp only [mats, List.length_append] at hn ⊢
    obtain ⟨ρ1, a1, a2, a3⟩ := mat_K n ρ A h1 (fun x hx hx' => hn x hx (by omega))
    obtain ⟨ρ2, b1, b2, b3⟩ := mats_K (n + (mat t n).2.length) ρ1 (Aext A n (mat t n).2.length) h2 (fun x hx hx' => by rintro (h | h); exact hn x (by omega) (by omega) h; omega)
    have hAA : ∀ x, Aext (Aext A n (mat t n).2.length) (n + (mat t n).2.length) (mats ts (n + (mat t n).2.length)).2.length x → Aext A n ((mat t n).2.length + (mats ts (n + (mat t n).2.length)).2.length) x := by
      rintro x ((h | h) | h)
      · exact .inl h
      · exact .inr ⟨h.1, by omega⟩
      · exact .inr ⟨by omega, by omega⟩
    have hA1 : ∀ x, Aext A n (mat t n).2.length x → Aext A n ((mat t n).2.length + (mats ts (n + (mat t n).2.length)).2.length) x := fun x h => hAA x (.inl h)
    have hρ : ∀ x, Aext A n (mat t n).2.length x → ρ2 x = ρ1 x := by
      intro x hx
      refine b1 x ?_
      rcases hx with hx | hx
      · rcases Nat.lt_or_ge x (n + (mat t n).2.length) with h | h
        · exact .inl h
        · right
          rcases Nat.lt_or_ge x (n + (mat t n).2.length + (mats ts (n + (mat t n).2.length)).2.length) with h' | h'
          · exact absurd hx (hn x (by omega) (by omega))
          · exact h'
      · exact .inl hx.2
    refine ⟨ρ2, ?_, ?_, ?_⟩
    · intro x hx
      rw [b1 x (by omega), a1 x (by omega)]
    · simp only [CVs]
      exact ⟨v, r, rfl, a2.cong (fun _ h => h) (fun _ _ => rfl) hA1 hρ, b2.cong (fun _ h => h) (fun _ _ => rfl) hAA (fun _ _ => rfl)⟩
    · refine BL.append ?_ (b3.cong (fun _ h => h) (fun _ _ => rfl) hAA (fun _ _ => rfl) (fun _ _ => rfl) (fun x h1 h2 => .inr ⟨h1, h2⟩))
      exact a3.cong (fun _ h => h) (fun _ _ => rfl) hA1 hρ (fun _ _ => rfl) (fun x h1 h2 => .inr ⟨h1, h2⟩)
end
theorem mats_D : ∀ {ts : List T} {vs : List Value} {F : List Nat} (n : Nat) (ρ : Nat → Option RB) (A : Nat → Prop), Ds w O ρ A ts vs F → (∀ x, n ≤ x → x < n + (mats ts n).2.length → ¬ A x) →
    ∃ ρ', (∀ x, (x < n ∨ n + (mats ts n).2.length ≤ x) → ρ' x = ρ x) ∧ CVs w O ρ' (Aext A n (mats ts n).2.length) (mats ts n).1 vs ∧ BL w O ρ' (Aext A n (mats ts n).2.length) n (mats ts n).2 F
  | [], vs, F, n, ρ, A, h, hn => by
    simp only [Ds] at h
    simp only [mats, CVs, BL]
    exact ⟨ρ, fun _ _ => rfl, h.1, h.2⟩
  | t :: ts, vs, F, n, ρ, A, h, hn => by
    simp only [Ds] at h
    obtain ⟨v, r, F1, F2, rfl, rfl, h1, h2⟩ := h
    simp only [mats, List.length_append] at hn ⊢
    have one : ∃ ρ', (∀ x, (x < n ∨ n + (mat t n).2.length ≤ x) → ρ' x = ρ x) ∧ CV w O ρ' (Aext A n (mat t n).2.length) (mat t n).1 v ∧ BL w O ρ' (Aext A n (mat t n).2.length) n (mat t n).2 F1 := by
      rcases h1 with h1 | ⟨h1, rfl⟩
      · exact mat_K n ρ A h1 (fun x hx hx' => hn x hx (by omega))
      · rw [mat_CV h1]
        simp only [BL]
        exact ⟨ρ, fun _ _ => rfl, h1.cong (fun _ h => h) (fun _ _ => rfl) (fun _ h => .inl h) (fun _ _ => rfl), trivial⟩
    obtain ⟨ρ1, a1, a2, a3⟩ := one
    have hAA : ∀ x, Aext (Aext A n (mat t n).2.length) (n + (mat t n).2.length) (mats ts (n + (mat t n).2.length)).2.length x → Aext A n ((mat t n).2.length + (mats ts (n + (mat t n).2.length)).2.length) x := by
      rintro x ((h | h) | h)
      · exact .inl h
      · exact .inr ⟨h.1, by omega⟩
      · exact .inr ⟨by omega, by omega⟩
    have hA1 : ∀ x, Aext A n (mat t n).2.length x → Aext A n ((mat t n).2.length + (mats ts (n + (mat t n).2.length)).2.length) x := fun x h => hAA x (.inl h)
    have hρ1 : ∀ x, A x → ρ1 x = ρ x := by
      intro x hx
      refine a1 x ?_
      rcases Nat.lt_or_ge x n with h | h
      · exact .inl h
      · rcases Nat.lt_or_ge x (n + (mat t n).2.length) with h' | h'
        · exact absurd hx (hn x h (by omega))
        · exact .inr h'
    obtain ⟨ρ2, b1, b2, b3⟩ := mats_D (n + (mat t n).2.length) ρ1 (Aext A n (mat t n).2.length) (h2.cong (fun _ h => h) (fun _ _ => rfl) (fun _ h => .inl h) hρ1 (fun _ _ => rfl)) (fun x hx hx' => by rintro (h | h); exact hn x (by omega) (by omega) h; omega)
    have hρ : ∀ x, Aext A n (mat t n).2.length x → ρ2 x = ρ1 x := by
      intro x hx
      refine b1 x ?_
      rcases hx with hx | hx
      · rcases Nat.lt_or_ge x (n + (mat t n).2.length) with h | h
        · exact .inl h
        · right
          rcases Nat.lt_or_ge x (n + (mat t n).2.length + (mats ts (n + (mat t n).2.length)).2.length) with h' | h'
          · exact absurd hx (hn x (by omega) (by omega))
          · exact h'
      · exact .inl hx.2
    refine ⟨ρ2, ?_, ?_, ?_⟩
    · intro x hx
      rw [b1 x (by omega), a1 x (by omega)]
    · simp only [CVs]
      exact ⟨v, r, rfl, a2.cong (fun _ h => h) (fun _ _ => rfl) hA1 hρ, b2.cong (fun _ h => h) (fun _ _ => rfl) hAA (fun _ _ => rfl)⟩
    · refine BL.append ?_ (b3.cong (fun _ h => h) (fun _ _ => rfl) hAA (fun _ _ => rfl) (fun _ _ => rfl) (fun x h1 h2 => .inr ⟨h1, h2⟩))
      exact a3.cong (fun _ h => h) (fun _ _ => rfl) hA1 hρ (fun _ _ => rfl) (fun x h1 h2 => .inr ⟨h1, h2⟩)
/-- Blocks that nothing speaks of yet get their names. -/
theorem R.adds : ∀ {l : List (Nat × Blk)} {n : Nat} {G : List Nat} {F : Nat → List Nat} {s : St}, R E A ρ O F s a w → BL w O ρ A n l G → (∀ x, n ≤ x → x < n + l.length → A x) → (∀ x, n ≤ x → x < n + l.length → hget s.hp x = none) → G.Nodup →
    (∀ b ∈ G, ¬ O b ∧ b < w.heap.size ∧ (E.w0.heap.size ≤ b ∨ b ∈ E.mine)) → (∀ t k, hget s.hp t = some k → ∀ b ∈ G, b ∉ F t) → ∃ F', R E A ρ O F' { s with hp := hap s.hp (news l) } a w
  | [], n, G, F, s, h, hb, hA, hg, hnd, hm, hap' => ⟨F, h⟩
  | (t, k) :: l, n, G, F, s, h, hb, hA, hg, hnd, hm, hap' => by
    simp only [BL] at hb
    obtain ⟨rfl, G1, G2, rfl, hb1, hb2⟩ := hb
    have hnd' := List.nodup_append.1 hnd
    have h1 := h.set1 (t := t) (k := k) (Ft := G1) (M := []) (A' := A) (ρ' := ρ) (w' := w) (hp0 := s.hp) (fun _ h => h) (fun _ _ => rfl) h.ρ0 (fun _ _ => rfl) (fun _ _ h => h) (fun _ _ _ _ _ _ => rfl) (Keep.refl _ _) (by simp)
      (hA t (Nat.le_refl _) (by simp)) hb1 hnd'.1 (fun b hb => hm b (by simp [hb])) (fun t' k' _ hk b hb => hap' t' k' hk b (by simp [hb]))
    obtain ⟨F', h2⟩ := R.adds h1 hb2 (fun x hx hx' => hA x (by omega) (by simp; omega)) (fun x hx hx' => by
        simp only [hget_hset]; rw [if_neg (by omega)]; exact hg x (by omega) (by simp; omega)) hnd'.2.1 (fun b hb => hm b (by simp [hb])) (fun t' k' hk b hb => by
        simp only [hget_hset] at hk
        by_cases e : t = t'
        · subst e; simp only [if_true]; intro hb1; exact hnd'.2.2 b hb1 b hb rfl
        · rw [if_neg e] at hk; rw [if_neg (fun h => e h.symm)]; exact hap' t' k' hk b (by simp [hb]))
    exact ⟨F', h2⟩
end
end Go.Proofs.Ytehdfbhfbidadaa.V

/- Each step of the machine of trees is a step of the model: what makes blocks, reads and writes them. -/
namespace Go.Proofs.Ytehdfbhfbidadaa.V
open Go
set_option linter.unusedVariables false
set_option linter.unusedSimpArgs false
section
variable {P : Program} {E : Env} {A A' : Nat → Prop} {ρ ρ' : Nat → Option RB} {O O' : Nat → Prop} {F F' : Nat → List Nat} {s : St} {a : Act} {w w' : World} {o : Oper} {n : Nat}
  {K : T → Δ → List Nat → Prop} {next : Act → World → Prop} {Q : Exit → Act → World → Prop}
/-- The names that a step gives are new. -/
def FR (E : Env) (A : Nat → Prop) (n : Nat) (K : T → Δ → List Nat → Prop) : Prop := E.fb ≤ n ∧ ∀ v δ rd, K v δ rd → ∀ t, n ≤ t → t < n + δ.length → ¬ A t
theorem Lies.of_block {b q : Nat} {c : Array Value} {e : TypeId} {f : Nat × Nat} (h : w.heap[b]? = some (.cells c e f)) {us : List Value} (hl : ∀ (j : Nat) (u : Value), us[j]? = some u → c[q + j]? = some u) : Lies w b q us := by
  intro j u hj
  simp only [World.cell?, h]
  simpa using hl j u hj
/-- A new block under a new name, and a pointer to it or a slice of it. -/
theorem newOp (hR : R E A ρ O F s a w) (hd : ∀ k, o.dst = some k → k < E.n) (hf : FR E A n K) {v : T} {u : Value} {sz cap : Nat} {rows : List (List T)} {us : List Value} {c : Array Value} {e : TypeId}
    (hrun : (execOp a.eval o).run P w = .ok (.value u) (w.alloc (.cells c e))) (hs : ∀ r ∈ rows, r.length = sz) (hcap : rows.length ≤ cap) (hc : cap * sz ≤ c.size)
    (hr : Dr w O ρ A rows us []) (hl : ∀ (j : Nat) (u : Value), us[j]? = some u → c[j]? = some u)
    (hv : ∀ ρ' A', A' n → ρ' n = some ⟨w.heap.size, 0, cap, sz⟩ → CV (w.alloc (.cells c e)) O ρ' A' v u) (hK : ∃ rd, K v [(n, some (.arr sz rows))] rd) (hn : NX E A s a n o.dst K next) : o.wp P a w next Q := by
  obtain ⟨rd, hK⟩ := hK
  have hA : ¬ A n := hf.2 _ _ _ hK n (Nat.le_refl _) (by simp)
  have h1 := hR.new hA hf.1 (e := e) hs hcap hc hr hl
  have h2 := h1.put hd (v := v) (u := u) (hv _ _ (.inr ⟨Nat.le_refl _, by omega⟩) (by simp))
  exact wp_value hrun (hn v _ rd u _ hK ⟨_, _, _, h2⟩)
theorem zero_ok {t : TypeId} {zs : List T} (h : zero? P t = some zs) : ∃ z, (zeroValue t).run P w = .ok z w ∧ z.cells.toList.mapM cst = some zs := by
  unfold zero? at h
  split at h
  · rename_i z hz
    obtain ⟨i, hi, hz⟩ := Option.bind_eq_some_iff.1 hz
    refine ⟨z, ?_, h⟩
    simp [zeroValue, typeInfo, program, Sem.run, hi, hz]
  · exact absurd h (by simp)
theorem csts_ok : ∀ {vs : List Value} {ts : List T}, vs.mapM cst = some ts → CIs w O ts vs ∧ (ts.all T.cell) = true
  | [], ts, h => by simp at h; subst h; simp [CIs]
  | v :: vs, ts, h => by
    simp only [List.mapM_cons, Option.pure_def, Option.bind_eq_bind, Option.bind_eq_some_iff, Option.some.injEq] at h
    obtain ⟨t, ht, ts', hts, rfl⟩ := h
    have ih := csts_ok hts
    refine ⟨?_, ?_⟩
    · simp only [CIs]
      exact ⟨v, vs, rfl, cst_ok ht, ih.1⟩
    · simp only [List.all_cons, ih.2, Bool.and_true]
      unfold cst at ht
      split at ht <;> first
        | (simp only [Option.some.injEq] at ht; subst ht; rfl)
        | exact absurd ht (by simp)
theorem row1 {ts : List T} {vs : List Value} (h : Ds w O ρ A ts vs []) : Dr w O ρ A [ts] vs [] := by
  simp only [Dr]
  exact ⟨vs, [], [], [], by simp, rfl, h, rfl, rfl⟩
theorem s_alloc (hR : R E A ρ O F s a w) (hd : ∀ k, o.dst = some k → k < E.n) {t : TypeId} {zs : List T} (ho : o.op = .alloc t) (hz : zero? P t = some zs) (hf : FR E A n K)
    (hK : stepK P s n (.alloc zs) K) (hn : NX E A s a n o.dst K next) : o.wp P a w next Q := by
  obtain ⟨z, hrz, hm⟩ := zero_ok (w := w) hz
  obtain ⟨hci, hcell⟩ := csts_ok (w := w) (O := O) hm
  simp only [stepK] at hK
  have hlen := hci.len
  refine newOp hR hd hf (u := .pointer (some ⟨w.heap.size, 0, none⟩)) (v := .ptr n 0 0) (cap := 1) (sz := zs.length) (rows := [zs]) (us := z.cells.toList) (c := z.cells) (e := t) ?_ (by simp) (by simp) (by simp at hlen ⊢; omega) (row1 (Ds_of_CVs (CVs.ofCI hci) hcell)) (by simp) ?_ ⟨[], hK⟩ hn
  · simp [execOp, ho, Instr.alloc, hrz, newVar, newRow, newObj, Sem.run]
  · intro ρ' A' h1 h2
    simp only [CV]
    exact ⟨h1, _, h2, by simp⟩
theorem s_box (hR : R E A ρ O F s a w) (hd : ∀ k, o.dst = some k → k < E.n) {t : TypeId} {sz : Nat} {x : Operand} {x' : X} (ho : o.op = .box t x) (hx : opd x = some x') (hf : FR E A n K)
    (hK : stepK P s n (.box sz x') K) (hn : NX E A s a n o.dst K next) : o.wp P a w next Q := by
  have hv := ev_ok hR hx
  simp only [stepK] at hK
  obtain ⟨hsz, hcell, hK⟩ := hK
  obtain ⟨h1, h2, h3⟩ := CVs_cells hv hcell
  refine newOp hR hd hf (u := .pointer (some ⟨w.heap.size, 0, none⟩)) (v := .ptr n 0 0) (cap := 1) (sz := sz) (rows := [(x'.ev s).cells]) (us := (a.eval x).cells.toList) (c := (a.eval x).cells) (e := t) ?_ (by simpa using hsz) (by simp) (by omega) (row1 (Ds_of_CVs h1 hcell)) (by simp) ?_ ⟨[], hK⟩ hn
  · simp [execOp, ho, Instr.box, newVar, newRow, newObj, Sem.run]
  · intro ρ' A' h1 h2
    simp only [CV]
    exact ⟨h1, _, h2, by simp⟩
/-- A row of a block: where it lies. -/
theorem BR.row {t sz : Nat} {rows : List (List T)} {Ft : List Nat} (h : BR w O ρ A t (.arr sz rows) Ft) {r : Nat} {row : List T} (hr : rows[r]? = some row) :
    ∃ B c e rs1 rs2 us1 us us2 F1 Fr F2, ρ t = some B ∧ sz = B.sz ∧ rows = rs1 ++ row :: rs2 ∧ rs1.length = r ∧ row.length = sz ∧ (∀ x ∈ rs1, x.length = sz) ∧ (∀ x ∈ rs2, x.length = sz) ∧ rows.length ≤ B.cap ∧ w.heap[B.b]? = some (.cells c e (0, 0)) ∧ B.o + B.cap * B.sz ≤ c.size ∧
      Dr w O ρ A rs1 us1 F1 ∧ Ds w O ρ A row us Fr ∧ Dr w O ρ A rs2 us2 F2 ∧ (∀ (j : Nat) (u : Value), (us1 ++ us ++ us2)[j]? = some u → c[B.o + j]? = some u) ∧ us1.length = r * sz ∧ us.length = sz ∧ Ft = B.b :: (F1 ++ Fr ++ F2) := by
  simp only [BR] at h
  rcases h with ⟨rfl, _⟩ | ⟨B, hB, hsz, hs, hcap, c, e, cs, F', hb, hc, hd, hm, hF⟩
  · simp at hr
  · obtain ⟨rs1, rs2, rfl, hl⟩ := split_at hr
    obtain ⟨us1, u2, F1, G2, rfl, rfl, h1, h2⟩ := Dr_append.1 hd
    simp only [Dr] at h2
    obtain ⟨us, us2, Fr, F2, rfl, rfl, h3, h4⟩ := h2
    refine ⟨B, c, e, rs1, rs2, us1, us, us2, F1, Fr, F2, hB, hsz, rfl, hl, hs _ (by simp), fun x hx => hs x (by simp [hx]), fun x hx => hs x (by simp [hx]), hcap, hb, hc, h1, h3, h4, by simpa using hm, ?_, ?_, by simpa using hF⟩
    · rw [h1.len (fun x hx => hs x (by simp [hx])), hl]
    · rw [h3.len]; exact hs _ (by simp)
theorem getElem?_len {α : Type} {l : List α} {j : Nat} {u : α} (h : l[j]? = some u) : j < l.length := by
  rcases Nat.lt_or_ge j l.length with h' | h'
  · exact h'
  · rw [List.getElem?_eq_none h'] at h; exact absurd h (by simp)
def ldv (m : Option Nat) (us : List Value) : Value := match m with | some _ => .agg us.toArray | none => us.getD 0 undef
/-- What a load of cells comes to. -/
theorem run_loadAt {t : TypeId} {m : Option Nat} {b q : Nat} {us : List Value} (hs : shp P t = some m) (hl : Lies w b q us) (hm : us.length = m.getD 1) (v : Value) (hv : v = .pointer (some ⟨b, q, none⟩)) :
    (Instr.loadAt t v).run P w = .ok (ldv m us) w := by
  unfold ldv
  subst hv
  have hcells : ∀ k, us.length = k → (loadCells ⟨b, q, none⟩ k).run P w = .ok us.toArray w := by
    rintro k rfl
    exact run_loadCells_list w _ us (fun j u hj => by rw [add_none]; exact hl j u hj)
  unfold shp at hs
  split at hs
  · rename_i f k hu hk
    simp only [Option.some.injEq] at hs
    subst hs
    simp only [Option.getD_some] at hm
    simp [Instr.loadAt, Instr.sureAddr, loadVar, isAgg, run_underlying hu, run_szOf hk, hcells _ hm]
  · exact absurd hs (by simp)
  · rename_i d h3 h4 h1 h2
    simp only [Option.some.injEq] at hs
    subst hs
    simp only [Option.getD_none] at hm
    obtain ⟨u, rfl⟩ : ∃ u, us = [u] := by
      match us, hm with
      | [u], _ => exact ⟨u, rfl⟩
    have hc : w.cell? ⟨b, q, none⟩ = some u := by simpa using hl 0 u rfl
    have hag : (isAgg t).run P w = .ok false w := by
      unfold isAgg
      simp only [Sem.run_bind, run_underlying h1, Result.andThen_ok]
      rfl
    simp [Instr.loadAt, Instr.sureAddr, loadVar, hag, hc]
  · exact absurd hs (by simp)
theorem s_store (hR : R E A ρ O F s a w) (hd : ∀ k, o.dst = some k → k < E.n) {t : TypeId} {m : Option Nat} {x y : Operand} {x' y' : X} (ho : o.op = .store t x y) (hs : shp P t = some m) (hx : opd x = some x') (hy : opd y = some y') (hf : FR E A n K)
    (hK : stepK P s n (.store m x' y') K) (hn : NX E A s a n o.dst K next) : o.wp P a w next Q := by
  have hv := ev_ok hR hx
  have hw := ev_ok hR hy
  simp only [stepK] at hK
  split at hK
  case h_2 => exact hK.elim
  rename_i tk r q he
  rw [he] at hv; simp only [CV] at hv
  obtain ⟨hA, B, hB, e⟩ := hv
  split at hK
  case h_2 => exact hK.elim
  rename_i sz rows hg
  split at hK
  case h_2 => exact hK.elim
  rename_i row hrow
  obtain ⟨hlen, hqm, hcell, hK⟩ := hK
  obtain ⟨h1, h2, h3⟩ := CVs_cells hw hcell
  obtain ⟨hAt, hBR⟩ := hR.hp _ _ hg
  obtain ⟨B', c, et, rs1, rs2, us1, us, us2, F1, Fr, F2, hB', hsz, hrows, hl1, hrl, hz1, hz2, hcap, hheap, hcs, hd1, hdr, hd2, hlie, hlu1, hlu, hF⟩ := hBR.row hrow
  obtain rfl : B = B' := Option.some.inj (hB.symm.trans hB')
  generalize hM : m.getD 1 = M at *
  have hrM : r * sz + sz ≤ B.cap * sz := by
    have : r + 1 ≤ rows.length := by rw [hrows]; simp; omega
    have : (r + 1) * sz ≤ B.cap * sz := Nat.mul_le_mul_right _ (Nat.le_trans this hcap)
    rw [Nat.add_mul] at this; omega
  have hfit : B.o + r * B.sz + q + 0 + (a.eval y).cells.toList.length ≤ c.size := by
    have e1 : (a.eval y).cells.toList.length = M := by rw [Array.length_toList, h3, hlen]
    rw [e1, ← hsz]
    rw [← hsz] at hcs
    omega
  have hst := run_storeCells_at P B.b (B.o + r * B.sz + q) et (a.eval y).cells.toList 0 c w hheap (by omega) h2
  -- the store itself
  have hrun : (execOp a.eval o).run P w = .ok .skip (w.setRow B.b (c.toList.take (B.o + r * B.sz + q) ++ (a.eval y).cells.toList ++ c.toList.drop (B.o + r * B.sz + q + (a.eval y).cells.toList.length)).toArray) := by
    have hszz : (sizeOf t).run P w = .ok M w := by
      unfold shp at hs
      split at hs
      · rename_i f k hu hk
        simp only [Option.some.injEq] at hs
        subst hs
        simp only [Option.getD_some] at hM
        subst hM; exact run_szOf hk
      · exact absurd hs (by simp)
      · rename_i d h1 h2 h3 h4
        simp only [Option.some.injEq] at hs
        subst hs
        simp only [Option.getD_none] at hM
        subst hM; exact run_szOf ‹_›
      · exact absurd hs (by simp)
    have e2 : (a.eval y).cells.size = M := by rw [h3, hlen]
    simp only [execOp, ho, Instr.storeAt, e, Instr.sureAddr, Sem.run_bind, Sem.run_pure, Result.andThen_ok, storeVar, hszz, e2, ne_eq, not_true_eq_false, if_false]
    simp only [Nat.add_zero] at hst
    rw [hst]
    rfl
  generalize hN : (c.toList.take (B.o + r * B.sz + q) ++ (a.eval y).cells.toList ++ c.toList.drop (B.o + r * B.sz + q + (a.eval y).cells.toList.length)).toArray = c' at hrun
  have e1 : (a.eval y).cells.toList.length = M := by rw [Array.length_toList, h3, hlen]
  rw [← hsz] at hN hcs hfit
  -- the row in three
  have hrow3 : row = row.take q ++ ((row.drop q).take M ++ row.drop (q + M)) := by
    rw [← List.drop_drop, List.take_append_drop, List.take_append_drop]
  rw [hrow3] at hdr
  obtain ⟨ua, ub', Fa, Fb', rfl, rfl, hda, hdb'⟩ := Ds_append.1 hdr
  obtain ⟨ub, uc, Fb, Fc, rfl, rfl, hdb, hdc⟩ := Ds_append.1 hdb'
  have hla : ua.length = q := by rw [hda.len]; simp; omega
  have hlb : ub.length = M := by rw [hdb.len]; simp; omega
  have hld := hdc.len
  have hc'size : c'.size = c.size := by
    rw [← hN]; simp [e1]; omega
  have hh' : (w.setRow B.b c').heap[B.b]? = some (.cells c' et (0, 0)) := setRow_heap w B.b c c' et _ hheap
  have hoth : ∀ b, b ≠ B.b → (w.setRow B.b c').heap[b]? = w.heap[b]? := by
    intro b hb
    simp only [World.setRow, Array.getElem?_modify]
    rw [if_neg (fun h => hb h.symm)]
  have hnoO : ∀ b, O b → b ≠ B.b := by
    rintro b hb rfl
    exact (hR.mine _ _ hg B.b (by rw [hF]; simp)).1 hb
  have hnd := hR.nodup _ _ hg
  rw [hF] at hnd
  have hndt := List.nodup_cons.1 hnd
  have hw : ∀ b, O b → (w.setRow B.b c').heap[b]? = w.heap[b]? := fun b hb => hoth b (hnoO b hb)
  have hsub : ∀ b ∈ F1 ++ (Fa ++ Fc) ++ F2, b ∈ F1 ++ (Fa ++ (Fb ++ Fc)) ++ F2 := by
    intro b hb
    simp only [List.mem_append] at hb ⊢
    rcases hb with (hb | hb | hb) | hb <;> simp [hb]
  have hFw : ∀ b ∈ F1 ++ (Fa ++ (Fb ++ Fc)) ++ F2, (w.setRow B.b c').heap[b]? = w.heap[b]? := fun b hb => hoth b (by rintro rfl; exact hndt.1 hb)
  have hk : Keep w [B.b] (w.setRow B.b c') := Keep.row hheap hc'size
  have hset : rows.set r (row.take q ++ (y'.ev s).cells ++ row.drop (q + M)) = rs1 ++ (row.take q ++ (y'.ev s).cells ++ row.drop (q + M)) :: rs2 := by
    rw [hrows, ← hl1]; simp
  rw [hset] at hK
  have hR1 := hR.set1 (t := tk) (k := .arr sz (rs1 ++ (row.take q ++ (y'.ev s).cells ++ row.drop (q + M)) :: rs2)) (Ft := B.b :: (F1 ++ (Fa ++ Fc) ++ F2)) (M := [B.b]) (A' := A) (ρ' := ρ) (w' := w.setRow B.b c') (hp0 := s.hp)
    (fun _ h => h) (fun _ _ => rfl) hR.ρ0 hw (fun _ _ h => h) ?_ hk ?_ hA ?_ ?_ ?_ ?_
  · have h2 := hR1.put hd (v := .dead) (u := undef) (CV.dead _)
    exact wp_skip' hrun (hn .dead _ _ undef _ hK ⟨_, _, _, h2.monoA (fun t h => .inl h)⟩)
  · intro t' k' hne hk' b hb
    refine hoth b ?_
    rintro rfl
    exact hR.apart _ _ _ _ hk' hg hne _ hb (by rw [hF]; simp)
  · intro b hb
    simp only [List.mem_singleton] at hb
    subst hb
    exact (hR.mine _ _ hg B.b (by rw [hF]; simp)).2.2
  · simp only [BR]
    refine .inr ⟨B, hB, hsz, ?_, ?_, c', et, us1 ++ (ua ++ ((a.eval y).cells.toList ++ uc)) ++ us2, F1 ++ (Fa ++ Fc) ++ F2, hh', ?_, ?_, ?_, rfl⟩
    · intro x hx
      simp only [List.mem_append, List.mem_cons] at hx
      rcases hx with hx | rfl | hx
      · exact hz1 x hx
      · simp [hlen]; omega
      · exact hz2 x hx
    · simpa [hrows] using hcap
    · rw [hc'size, ← hsz]; exact hcs
    · have hd1' := hd1.cong (w' := w.setRow B.b c') (A' := A) (ρ' := ρ) (fun _ h => h) hw (fun _ h => h) (fun _ _ => rfl) (fun b hb => hFw b (by simp [hb]))
      have hd2' := hd2.cong (w' := w.setRow B.b c') (A' := A) (ρ' := ρ) (fun _ h => h) hw (fun _ h => h) (fun _ _ => rfl) (fun b hb => hFw b (by simp [hb]))
      have hda' := hda.cong (w' := w.setRow B.b c') (A' := A) (ρ' := ρ) (fun _ h => h) hw (fun _ h => h) (fun _ _ => rfl) (fun b hb => hFw b (by simp [hb]))
      have hdc' := hdc.cong (w' := w.setRow B.b c') (A' := A) (ρ' := ρ) (fun _ h => h) hw (fun _ h => h) (fun _ _ => rfl) (fun b hb => hFw b (by simp [hb]))
      have hm' := Ds_of_CVs (h1.cong (w' := w.setRow B.b c') (A' := A) (ρ' := ρ) (fun _ h => h) hw (fun _ h => h) (fun _ _ => rfl)) hcell
      rw [List.append_assoc us1]
      refine Dr_append.2 ⟨us1, _, F1, (Fa ++ Fc) ++ F2, rfl, by simp, hd1', ?_⟩
      simp only [Dr]
      refine ⟨_, us2, Fa ++ Fc, F2, rfl, rfl, ?_, hd2'⟩
      rw [List.append_assoc]
      exact Ds_append.2 ⟨ua, _, Fa, Fc, rfl, rfl, hda', Ds_append.2 ⟨_, uc, [], Fc, rfl, rfl, hm', hdc'⟩⟩
    · intro j u hj
      have hold : ∀ (j : Nat) (u : Value), (us1 ++ (ua ++ (ub ++ uc)) ++ us2)[j]? = some u → c.toList[B.o + j]? = some u := by
        intro j u h; simpa using hlie j u h
      have hp : us1.length + ua.length = r * sz + q := by omega
      have hjl := getElem?_len hj
      simp only [List.length_append] at hjl
      rw [← hN]
      simp only [List.getElem?_toArray]
      have hp1 : (c.toList.take (B.o + r * sz + q)).length = B.o + r * sz + q := by simp; omega
      by_cases c1 : j < r * sz + q
      · have h4 : (us1 ++ (ua ++ (ub ++ uc)) ++ us2)[j]? = some u := by
          rw [← hj]
          have : j < (us1 ++ ua).length := by simp; omega
          rw [show us1 ++ (ua ++ (ub ++ uc)) ++ us2 = (us1 ++ ua) ++ (ub ++ uc ++ us2) by simp, show us1 ++ (ua ++ ((a.eval y).cells.toList ++ uc)) ++ us2 = (us1 ++ ua) ++ ((a.eval y).cells.toList ++ uc ++ us2) by simp, List.getElem?_append_left this, List.getElem?_append_left this]
        have h5 := hold j u h4
        rw [List.append_assoc, List.getElem?_append_left (by rw [hp1]; omega), List.getElem?_take, if_pos (by omega)]
        exact h5
      · by_cases c2 : j < r * sz + q + M
        · rw [List.append_assoc, List.getElem?_append_right (by rw [hp1]; omega), hp1, List.getElem?_append_left (by omega)]
          rw [show us1 ++ (ua ++ ((a.eval y).cells.toList ++ uc)) ++ us2 = (us1 ++ ua) ++ ((a.eval y).cells.toList ++ (uc ++ us2)) by simp, List.getElem?_append_right (by simp; omega), List.getElem?_append_left (by simp [List.length_append]; omega)] at hj
          rw [← hj]; congr 1; simp [List.length_append]; omega
        · have h4 : (us1 ++ (ua ++ (ub ++ uc)) ++ us2)[j]? = some u := by
            have e3 : (us1 ++ ua ++ (a.eval y).cells.toList).length = r * sz + q + M := by simp only [List.length_append]; omega
            have e4 : (us1 ++ ua ++ ub).length = r * sz + q + M := by simp only [List.length_append]; omega
            have q1 : (us1 ++ (ua ++ (ub ++ uc)) ++ us2)[j]? = (uc ++ us2)[j - (r * sz + q + M)]? := by
              rw [show us1 ++ (ua ++ (ub ++ uc)) ++ us2 = (us1 ++ ua ++ ub) ++ (uc ++ us2) by simp, List.getElem?_append_right (by rw [e4]; omega), e4]
            have q2 : (us1 ++ (ua ++ ((a.eval y).cells.toList ++ uc)) ++ us2)[j]? = (uc ++ us2)[j - (r * sz + q + M)]? := by
              rw [show us1 ++ (ua ++ ((a.eval y).cells.toList ++ uc)) ++ us2 = (us1 ++ ua ++ (a.eval y).cells.toList) ++ (uc ++ us2) by simp, List.getElem?_append_right (by rw [e3]; omega), e3]
            rw [q1, ← q2]; exact hj
          have h5 := hold j u h4
          have e5 : (c.toList.take (B.o + r * sz + q) ++ (a.eval y).cells.toList).length = B.o + r * sz + q + M := by rw [List.length_append, hp1]; omega
          rw [List.getElem?_append_right (by rw [e5]; omega), List.getElem?_drop, e5, e1]
          rw [← h5]; congr 1; omega
  · refine List.nodup_cons.2 ⟨fun h => hndt.1 (hsub _ h), ?_⟩
    refine List.Nodup.sublist ?_ hndt.2
    refine List.Sublist.append (List.Sublist.append (List.Sublist.refl _) (List.Sublist.append (List.Sublist.refl _) ?_)) (List.Sublist.refl _)
    exact List.sublist_append_right _ _
  · intro b hb
    have hb' : b ∈ F tk := by
      rw [hF]
      rcases List.mem_cons.1 hb with rfl | hb
      · simp
      · exact List.mem_cons_of_mem _ (hsub b hb)
    obtain ⟨h1, h2, h3⟩ := hR.mine _ _ hg b hb'
    exact ⟨h1, by simpa [World.setRow] using h2, h3⟩
  · intro t' k' hne hk' b hb
    have hb' : b ∈ F tk := by
      rw [hF]
      rcases List.mem_cons.1 hb with rfl | hb
      · simp
      · exact List.mem_cons_of_mem _ (hsub b hb)
    exact hR.apart _ _ _ _ hg hk' (fun h => hne h.symm) b hb'
/-- Reading cells: what is owned gets a name. -/
theorem draw_ok (hR : R E A ρ O F s a w) (hd : ∀ k, o.dst = some k → k < E.n) {tk r q M n sz : Nat} {rows : List (List T)} {row : List T} {B : RB} (hA : A tk) (hB : ρ tk = some B) (hg : hget s.hp tk = some (.arr sz rows)) (hrow : rows[r]? = some row) (hqm : q + M ≤ row.length)
    (hfb : E.fb ≤ n) (hfr : ∀ t, n ≤ t → t < n + (drawn tk sz rows r row q M (mats ((row.drop q).take M) n)).length → ¬ A t) :
    ∃ us, us.length = M ∧ Lies w B.b (B.o + r * B.sz + q) us ∧ ∃ ρ', CVs w O ρ' (Aext A n (drawn tk sz rows r row q M (mats ((row.drop q).take M) n)).length) (mats ((row.drop q).take M) n).1 us ∧
      ∃ F', R E (Aext A n (drawn tk sz rows r row q M (mats ((row.drop q).take M) n)).length) ρ' O F' { s with hp := hap s.hp (drawn tk sz rows r row q M (mats ((row.drop q).take M) n)) } a w := by
  obtain ⟨hAt, hBR⟩ := hR.hp _ _ hg
  obtain ⟨B', c, et, rs1, rs2, us1, us, us2, F1, Fr, F2, hB', hsz, hrows, hl1, hrl, hz1, hz2, hcap, hheap, hcs, hd1, hdr, hd2, hlie, hlu1, hlu, hF⟩ := hBR.row hrow
  obtain rfl : B = B' := Option.some.inj (hB.symm.trans hB')
  have hrow3 : row = row.take q ++ ((row.drop q).take M ++ row.drop (q + M)) := by
    rw [← List.drop_drop, List.take_append_drop, List.take_append_drop]
  have hdr' := hdr
  rw [hrow3] at hdr'
  obtain ⟨ua, ub', Fa, Fb', rfl, rfl, hda, hdb'⟩ := Ds_append.1 hdr'
  obtain ⟨ub, uc, Fb, Fc, rfl, rfl, hdb, hdc⟩ := Ds_append.1 hdb'
  have hla : ua.length = q := by rw [hda.len]; simp; omega
  have hlb : ub.length = M := by rw [hdb.len]; simp; omega
  have hlies : Lies w B.b (B.o + r * B.sz + q) ub := by
    intro j u hj
    have := Lies.of_block (us := us1 ++ (ua ++ (ub ++ uc)) ++ us2) hheap hlie (us1.length + ua.length + j) u (by
      rw [show us1 ++ (ua ++ (ub ++ uc)) ++ us2 = (us1 ++ ua) ++ (ub ++ (uc ++ us2)) by simp, List.getElem?_append_right (by simp), List.getElem?_append_left (by simp; exact getElem?_len hj)]
      simpa using hj)
    rw [show B.o + r * B.sz + q + j = B.o + (us1.length + ua.length + j) by rw [hlu1, hla, hsz]; omega]
    exact this
  refine ⟨ub, hlb, hlies, ?_⟩
  unfold drawn at hfr ⊢
  by_cases hem : (mats ((row.drop q).take M) n).2.isEmpty = true
  · rw [if_pos hem] at hfr ⊢
    have h0 : (mats ((row.drop q).take M) n).2 = [] := by simpa using hem
    obtain ⟨ρ', g1, g2, g3⟩ := mats_D n ρ A hdb (by rw [h0]; simp; omega)
    rw [h0] at g1 g2
    simp only [List.length_nil] at g1 g2 ⊢
    have hρ : ρ' = ρ := funext fun x => g1 x (by omega)
    subst hρ
    exact ⟨ρ', g2, F, hR.monoA (fun t h => .inl h)⟩
  · rw [if_neg hem] at hfr ⊢
    simp only [List.length_cons, news, List.length_map] at hfr ⊢
    obtain ⟨ρ', g1, g2, g3⟩ := mats_D n ρ A hdb (fun x h1 h2 => hfr x h1 (by omega))
    generalize hcells : (mats ((row.drop q).take M) n).1 = cells at g2 ⊢
    generalize hblks : (mats ((row.drop q).take M) n).2 = blks at g1 g2 g3 hfr ⊢
    have hAA : ∀ x, Aext A n blks.length x → Aext A n (blks.length + 1) x := fun x h => h.imp id (fun h => ⟨h.1, by omega⟩)
    have hAm : ∀ x, A x → Aext A n (blks.length + 1) x := fun x h => .inl h
    have hρ : ∀ x, A x → ρ' x = ρ x := by
      intro x hx
      refine g1 x ?_
      rcases Nat.lt_or_ge x n with h | h
      · exact .inl h
      · rcases Nat.lt_or_ge x (n + blks.length) with h' | h'
        · exact absurd hx (hfr x h (by omega))
        · exact .inr h'
    have hρ0 : ∀ x, x < E.fb → ρ' x = E.ρ0 x := fun x hx => (g1 x (by omega)).trans (hR.ρ0 x hx)
    have hnd := hR.nodup _ _ hg
    rw [hF] at hnd
    have hndt := List.nodup_cons.1 hnd
    have hlc : cells.length = M := by rw [← hlb]; exact (g2.len).symm
    have hset : rows.set r (row.take q ++ cells ++ row.drop (q + M)) = rs1 ++ (row.take q ++ cells ++ row.drop (q + M)) :: rs2 := by
      rw [hrows, ← hl1]; simp
    rw [hset]
    have hsub : ∀ b ∈ F1 ++ (Fa ++ Fc) ++ F2, b ∈ F1 ++ (Fa ++ (Fb ++ Fc)) ++ F2 := by
      intro b hb
      simp only [List.mem_append] at hb ⊢
      rcases hb with (hb | hb | hb) | hb <;> simp [hb]
    have hbsub : ∀ b ∈ Fb, b ∈ F1 ++ (Fa ++ (Fb ++ Fc)) ++ F2 := fun b hb => by simp [hb]
    have hin : ∀ b ∈ F1 ++ (Fa ++ (Fb ++ Fc)) ++ F2, b ∈ F tk := fun b hb => by rw [hF]; exact List.mem_cons_of_mem _ hb
    have hR1 := hR.set1 (t := tk) (k := .arr sz (rs1 ++ (row.take q ++ cells ++ row.drop (q + M)) :: rs2)) (Ft := B.b :: (F1 ++ (Fa ++ Fc) ++ F2)) (M := []) (A' := Aext A n (blks.length + 1)) (ρ' := ρ') (w' := w) (hp0 := s.hp)
      hAm hρ hρ0 (fun _ _ => rfl) (fun _ _ h => h) (fun _ _ _ _ _ _ => rfl) (Keep.refl _ _) (by simp) (.inl hA) ?_ ?_ ?_ ?_
    · have hadd := R.adds hR1 (g3.cong (fun _ h => h) (fun _ _ => rfl) hAA (fun _ _ => rfl) (fun _ _ => rfl) (fun x h1 h2 => .inr ⟨h1, h2⟩)) (fun x h1 h2 => .inr ⟨h1, by omega⟩) (fun x h1 h2 => ?_) ?_ ?_ ?_
      · obtain ⟨F', hR2⟩ := hadd
        exact ⟨ρ', g2.cong (fun _ h => h) (fun _ _ => rfl) hAA (fun _ _ => rfl), F', hR2⟩
      · simp only [hget_hset]
        rw [if_neg (by rintro rfl; exact hfr _ h1 (by omega) hA)]
        cases hx : hget s.hp x with
        | none => rfl
        | some k => exact absurd (hR.hp x k hx).1 (hfr x h1 (by omega))
      · exact hndt.2.sublist (List.Sublist.trans (List.Sublist.trans (List.sublist_append_left Fb Fc) (List.sublist_append_right Fa _)) (List.Sublist.trans (List.sublist_append_right F1 _) (List.sublist_append_left _ F2)))
      · intro b hb
        exact hR.mine _ _ hg b (hin b (hbsub b hb))
      · intro t k hk b hb
        simp only [hget_hset] at hk
        by_cases e : tk = t
        · subst e
          simp only [if_true]
          intro hb'
          rcases List.mem_cons.1 hb' with rfl | hb'
          · exact hndt.1 (hbsub _ hb)
          · have hn2 := hndt.2
            simp only [List.nodup_append, List.mem_append] at hn2 hb'
            rcases hb' with (h1 | h1 | h1) | h1
            · exact hn2.1.2.2 b h1 b (.inr (.inl hb)) rfl
            · exact hn2.1.2.1.2.2 b h1 b (.inl hb) rfl
            · exact hn2.1.2.1.2.1.2.2 b hb b h1 rfl
            · exact hn2.2.2 b (.inr (.inr (.inl hb))) b h1 rfl
        · rw [if_neg e] at hk
          rw [if_neg (fun h => e h.symm)]
          exact hR.apart _ _ _ _ hg hk e b (hin b (hbsub b hb))
    · simp only [BR]
      refine .inr ⟨B, (hρ _ hA).trans hB, hsz, ?_, ?_, c, et, us1 ++ (ua ++ (ub ++ uc)) ++ us2, F1 ++ (Fa ++ Fc) ++ F2, hheap, hcs, ?_, hlie, rfl⟩
      · intro x hx
        simp only [List.mem_append, List.mem_cons] at hx
        rcases hx with hx | rfl | hx
        · exact hz1 x hx
        · simp [hlc]; omega
        · exact hz2 x hx
      · simpa [hrows] using hcap
      · have hd1' := hd1.cong (w' := w) (A' := Aext A n (blks.length + 1)) (ρ' := ρ') (fun _ h => h) (fun _ _ => rfl) hAm hρ (fun _ _ => rfl)
        have hd2' := hd2.cong (w' := w) (A' := Aext A n (blks.length + 1)) (ρ' := ρ') (fun _ h => h) (fun _ _ => rfl) hAm hρ (fun _ _ => rfl)
        have hda' := hda.cong (w' := w) (A' := Aext A n (blks.length + 1)) (ρ' := ρ') (fun _ h => h) (fun _ _ => rfl) hAm hρ (fun _ _ => rfl)
        have hdc' := hdc.cong (w' := w) (A' := Aext A n (blks.length + 1)) (ρ' := ρ') (fun _ h => h) (fun _ _ => rfl) hAm hρ (fun _ _ => rfl)
        have hm' := Ds_of_CVs' (g2.cong (w' := w) (A' := Aext A n (blks.length + 1)) (ρ' := ρ') (fun _ h => h) (fun _ _ => rfl) hAA (fun _ _ => rfl))
        rw [List.append_assoc us1]
        refine Dr_append.2 ⟨us1, _, F1, (Fa ++ Fc) ++ F2, rfl, by simp, hd1', ?_⟩
        simp only [Dr]
        refine ⟨_, us2, Fa ++ Fc, F2, rfl, rfl, ?_, hd2'⟩
        rw [List.append_assoc]
        exact Ds_append.2 ⟨ua, _, Fa, Fc, rfl, rfl, hda', Ds_append.2 ⟨_, uc, [], Fc, rfl, rfl, hm', hdc'⟩⟩
    · refine List.nodup_cons.2 ⟨fun h => hndt.1 (hsub _ h), hndt.2.sublist ?_⟩
      refine List.Sublist.append (List.Sublist.append (List.Sublist.refl _) (List.Sublist.append (List.Sublist.refl _) ?_)) (List.Sublist.refl _)
      exact List.sublist_append_right _ _
    · intro b hb
      have hb' : b ∈ F tk := by
        rw [hF]
        rcases List.mem_cons.1 hb with rfl | hb
        · simp
        · exact List.mem_cons_of_mem _ (hsub b hb)
      exact hR.mine _ _ hg b hb'
    · intro t' k' hne hk' b hb
      have hb' : b ∈ F tk := by
        rw [hF]
        rcases List.mem_cons.1 hb with rfl | hb
        · simp
        · exact List.mem_cons_of_mem _ (hsub b hb)
      exact hR.apart _ _ _ _ hg hk' (fun h => hne h.symm) b hb'
theorem s_load (hR : R E A ρ O F s a w) (hd : ∀ k, o.dst = some k → k < E.n) {t : TypeId} {m : Option Nat} {x : Operand} {x' : X} (ho : o.op = .load t x) (hs : shp P t = some m) (hx : opd x = some x') (hf : FR E A n K)
    (hK : stepK P s n (.load m x') K) (hn : NX E A s a n o.dst K next) : o.wp P a w next Q := by
  have hv := ev_ok hR hx
  simp only [stepK] at hK
  split at hK
  · rename_i tk r q he
    rw [he] at hv; simp only [CV] at hv
    obtain ⟨hA, B, hB, e⟩ := hv
    split at hK
    case h_2 => exact hK.elim
    rename_i sz rows hg
    split at hK
    case h_2 => exact hK.elim
    rename_i row hrow
    obtain ⟨hqm, hK⟩ := hK
    have fin : ∀ (v : T), K v (drawn tk sz rows r row q (m.getD 1) (mats ((row.drop q).take (m.getD 1)) n)) [tk] → (∀ us, us.length = m.getD 1 → ∀ ρ' A', CVs w O ρ' A' (mats ((row.drop q).take (m.getD 1)) n).1 us → CV w O ρ' A' v (ldv m us)) → o.wp P a w next Q := by
      intro v hK hcv
      obtain ⟨us, hlu, hli, ρ', hc, F', hR'⟩ := draw_ok (o := o) hR hd hA hB hg hrow hqm hf.1 (hf.2 _ _ _ hK)
      have hrun := run_loadAt hs hli hlu (a.eval x) e
      refine wp_value (u := ldv m us) (w' := w) (by simp [execOp, ho, hrun]) (hn v _ _ _ _ hK ⟨ρ', O, F', ?_⟩)
      exact hR'.put hd (hcv us hlu _ _ hc)
    cases m with
    | some k =>
      refine fin _ hK (fun us hlu ρ' A' hc => ?_)
      simp only [CV]; exact ⟨us, rfl, hc⟩
    | none =>
      simp only at hK
      split at hK
      · rename_i v hone
        refine fin v hK (fun us hlu ρ' A' hc => ?_)
        simp only [Option.getD_none] at hc hlu
        rw [hone] at hc
        simp only [CVs] at hc
        obtain ⟨u, r', rfl, h1, rfl⟩ := hc
        exact h1
      · exact hK.elim
  · rename_i cs he
    rw [he] at hv; simp only [CV, CI] at hv
    obtain ⟨b, q, us, e, hb, hc, hl⟩ := hv
    obtain ⟨hm, hK⟩ := hK
    have hlen := hc.len
    have hl' : Lies w b q (us.take (m.getD 1)) := by
      intro j u hj
      refine hl j u ?_
      rw [List.getElem?_take] at hj
      split at hj
      · exact hj
      · exact absurd hj (by simp)
    have hrun := run_loadAt hs hl' (by simp; omega) (a.eval x) e
    cases m with
    | some k =>
      refine pureOp hR hd (u := .agg (us.take k).toArray) (v := .agg (cs.take k)) (by simp [execOp, ho, hrun, ldv]) ?_ ⟨[], hK⟩ hn
      simp only [CV]
      exact ⟨_, rfl, CVs.ofCI (CIs_take k hc)⟩
    | none =>
      simp only at hK
      split at hK
      · rename_i c cs
        simp only [CIs] at hc
        obtain ⟨u, r', rfl, h1, _⟩ := hc
        refine pureOp hR hd (u := u) (v := c) (by simp [execOp, ho, hrun, ldv]) (CV.ofCI h1) ⟨[], hK⟩ hn
      · exact hK.elim
  · exact hK.elim
end
end Go.Proofs.Ytehdfbhfbidadaa.V

/- Each step of the machine of trees is a step of the model: slices made, grown; structs built. -/
namespace Go.Proofs.Ytehdfbhfbidadaa.V
open Go
set_option linter.unusedVariables false
set_option linter.unusedSimpArgs false
section
variable {P : Program} {E : Env} {A A' : Nat → Prop} {ρ ρ' : Nat → Option RB} {O O' : Nat → Prop} {F F' : Nat → List Nat} {s : St} {a : Act} {w w' : World} {o : Oper} {n : Nat}
  {K : T → Δ → List Nat → Prop} {next : Act → World → Prop} {Q : Exit → Act → World → Prop}
theorem splice (off : Nat) (l : List Value) (cs : Array Value) (h : off + l.length ≤ cs.size) :
    ((l.zipIdx 0).foldl (fun cs (x : Value × Nat) => cs.setIfInBounds (off + x.2) x.1) cs).toList = cs.toList.take off ++ l ++ cs.toList.drop (off + l.length) := by
  obtain ⟨h1, h2⟩ := Great.foldl_set off l 0 cs
  apply List.ext_getElem?
  intro k
  have e := h2 k
  simp only [Nat.add_zero] at e
  rw [Array.getElem?_toList, e]
  by_cases c1 : k < off
  · rw [if_neg (by omega), List.append_assoc, List.getElem?_append_left (by simp; omega), List.getElem?_take, if_pos c1]
    simp
  · by_cases c2 : k < off + l.length
    · rw [if_pos ⟨by omega, c2, by omega⟩, List.append_assoc, List.getElem?_append_right (by simp; omega), List.getElem?_append_left (by simp; omega)]
      congr 1; simp; omega
    · have e5 : (cs.toList.take off ++ l).length = off + l.length := by simp; omega
      rw [if_neg (by omega), List.getElem?_append_right (by rw [e5]; omega), List.getElem?_drop, e5]
      rw [show off + l.length + (k - (off + l.length)) = k by omega]
      simp
theorem fill_ok {fields : List Field} {pl : Array (Nat × Nat)} (hpl : ∀ (k : Nat) (f : Field) (n : Nat), fields[k]? = some f → szOf P f.type = some n → pl[k]? = some (f.offset, n)) :
    ∀ {ps : List (Nat × Operand)} {qs : List (Nat × Nat × X)} {zs : List T} {cells : Array Value} {ts : List T}, R E A ρ O F s a w →
    places P fields ps = some qs → CVs w O ρ A zs cells.toList → parts s zs qs = some ts →
    ∃ c, Instr.fill (pl[·]?) cells (ps.map fun p => (p.1, a.eval p.2)) = some c ∧ CVs w O ρ A ts c.toList
  | [], qs, zs, cells, ts, hR, hp, hz, hq => by
    simp only [places, Option.some.injEq] at hp
    subst hp
    simp only [parts, Option.some.injEq] at hq
    subst hq
    exact ⟨cells, rfl, hz⟩
  | (k, x) :: ps, qs, zs, cells, ts, hR, hp, hz, hq => by
    simp only [places, Option.bind_eq_bind, Option.bind_eq_some_iff, Option.some.injEq] at hp
    obtain ⟨f, hf, n, hn, y, hy, ys, hys, rfl⟩ := hp
    simp only [parts] at hq
    split at hq
    · rename_i hc
      obtain ⟨⟨hl, hcell⟩, hfit⟩ := hc
      obtain ⟨h1, h2, h3⟩ := CVs_cells (ev_ok hR hy) hcell
      have hlz := hz.len
      simp only [Array.length_toList] at hlz
      have hsp := splice f.offset (a.eval x).cells.toList cells (by simp; omega)
      have hz' : CVs w O ρ A (zs.take f.offset ++ (y.ev s).cells ++ zs.drop (f.offset + n)) (((a.eval x).cells.zipIdx.foldl (fun cs (c, j) => cs.setIfInBounds (f.offset + j) c) cells)).toList := by
        have e : ((a.eval x).cells.zipIdx.foldl (fun cs (c, j) => cs.setIfInBounds (f.offset + j) c) cells) = (((a.eval x).cells.toList.zipIdx 0).foldl (fun cs (x : Value × Nat) => cs.setIfInBounds (f.offset + x.2) x.1) cells) := by
          rw [← Array.foldl_toList, Array.toList_zipIdx]
        rw [e, hsp]
        have hzz := hz
        rw [show zs = zs.take f.offset ++ ((zs.drop f.offset).take n ++ zs.drop (f.offset + n)) by rw [← List.drop_drop, List.take_append_drop, List.take_append_drop]] at hzz
        obtain ⟨v1, v2, e1, g1, g2⟩ := CVs_append.1 hzz
        obtain ⟨v3, v4, rfl, g3, g4⟩ := CVs_append.1 g2
        have l1 := g1.len
        have l3 := g3.len
        simp only [List.length_take, List.length_drop] at l1 l3
        rw [e1]
        refine CVs_append.2 ⟨v1 ++ (a.eval x).cells.toList, v4, ?_, CVs_append.2 ⟨v1, _, rfl, g1, h1⟩, g4⟩
        have l1' : v1.length = f.offset := by omega
        have l3' : v3.length = n := by omega
        have e4 : (a.eval x).cells.toList.length = n := by simp; omega
        rw [e4, List.take_left' l1', ← List.append_assoc, List.drop_left' (by simp; omega)]
      obtain ⟨c, hc, hcv⟩ := fill_ok hpl hR hys hz' hq
      refine ⟨c, ?_, hcv⟩
      simp only [List.map_cons, Instr.fill, hpl _ _ _ hf hn]
      rw [if_neg (by simp; omega)]
      exact hc
    · exact absurd hq (by simp)
theorem s_build (hR : R E A ρ O F s a w) (hd : ∀ k, o.dst = some k → k < E.n) {t : TypeId} {fields : Array Field} {ps : Array (Nat × Operand)} {zs : List T} {qs : List (Nat × Nat × X)} (ho : o.op = .build t ps) (hu : P.underlying t = some (.struct fields)) (hz : zero? P t = some zs) (hp : places P fields.toList ps.toList = some qs)
    (hall : ∀ f ∈ fields.toList, (szOf P f.type).isSome = true) (hK : stepK P s n (.build zs qs) K) (hn : NX E A s a n o.dst K next) : o.wp P a w next Q := by
  obtain ⟨z, hrz, hm⟩ := zero_ok (w := w) hz
  obtain ⟨hci, hcell⟩ := csts_ok (w := w) (O := O) hm
  simp only [stepK] at hK
  split at hK
  · rename_i ts hts
    have hmap : ∀ (l : List Field), (∀ f ∈ l, (szOf P f.type).isSome = true) → ((l.mapM fun f => do pure (f.offset, ← sizeOf f.type)) : Sem (List (Nat × Nat))).run P w = .ok (l.map fun f => (f.offset, (szOf P f.type).getD 0)) w := by
      intro l
      induction l with
      | nil => intro _; rfl
      | cons f l ih =>
        intro h
        obtain ⟨k, hk⟩ := Option.isSome_iff_exists.1 (h f (by simp))
        have ih := ih (fun f hf => h f (by simp [hf]))
        simp only [List.mapM_cons, Sem.run_bind, run_szOf hk, Result.andThen_ok, Sem.run_pure, ih, List.map_cons, hk, Option.getD_some]
    have hmapA : ((fields.mapM fun f => do pure (f.offset, ← sizeOf f.type)) : Sem (Array (Nat × Nat))).run P w = .ok (fields.map fun f => (f.offset, (szOf P f.type).getD 0)) w := by
      rw [Array.mapM_eq_mapM_toList, Sem.run_map, hmap _ hall]
      simp only [Result.andThen_ok]
      congr 1
      apply Array.ext'
      simp
    obtain ⟨c, hc, hcv⟩ := fill_ok (P := P) (fields := fields.toList) (pl := fields.map fun f => (f.offset, (szOf P f.type).getD 0)) (by
      intro k f n hf hn
      rw [Array.getElem?_map]
      rw [Array.getElem?_toList] at hf
      simp [hf, hn]) hR hp (CVs.ofCI hci) hts
    refine pureOp hR hd (u := .agg c) (v := .agg ts) ?_ ?_ ⟨[], hK⟩ hn
    · have : (ps.map fun (i, x) => (i, a.eval x)).toList = ps.toList.map fun p => (p.1, a.eval p.2) := by simp
      simp only [execOp, ho, Sem.run_bind, Instr.build, hrz, Result.andThen_ok, run_underlying hu, hmapA, this, hc, Sem.run_pure]
    · simp only [CV]; exact ⟨c.toList, by simp, hcv⟩
  · exact hK.elim
end
end Go.Proofs.Ytehdfbhfbidadaa.V

/- Each step of the machine of trees is a step of the model: slices made, grown, read as text. -/
namespace Go.Proofs.Ytehdfbhfbidadaa.V
open Go
set_option linter.unusedVariables false
set_option linter.unusedSimpArgs false
section
variable {P : Program} {E : Env} {A A' : Nat → Prop} {ρ ρ' : Nat → Option RB} {O O' : Nat → Prop} {F F' : Nat → List Nat} {s : St} {a : Act} {w w' : World} {o : Oper} {n : Nat}
  {K : T → Δ → List Nat → Prop} {next : Act → World → Prop} {Q : Exit → Act → World → Prop}
/-- Is it one cell, or several? -/
theorem shp_agg {t : TypeId} {m : Option Nat} (h : shp P t = some m) : (isAgg t).run P w = .ok m.isSome w ∧ (sizeOf t).run P w = .ok (m.getD 1) w := by
  unfold shp at h
  split at h
  · rename_i f k hu hk
    simp only [Option.some.injEq] at h
    subst h
    exact ⟨by simp [isAgg, run_underlying hu], run_szOf hk⟩
  · exact absurd h (by simp)
  · rename_i d h3 h4 h1 h2
    simp only [Option.some.injEq] at h
    subst h
    refine ⟨?_, run_szOf ‹_›⟩
    unfold isAgg
    simp only [Sem.run_bind, run_underlying h1, Result.andThen_ok]
    rfl
  · exact absurd h (by simp)
theorem CVs_drop {cs : List T} {us : List Value} (k : Nat) (h : CVs w O ρ A cs us) : CVs w O ρ A (cs.drop k) (us.drop k) := by
  have e : cs = cs.take k ++ cs.drop k := by simp
  by_cases hk : k ≤ cs.length
  · rw [e] at h
    obtain ⟨v1, v2, rfl, h1, h2⟩ := CVs_append.1 h
    have := h1.len
    rw [List.length_take, Nat.min_eq_left hk] at this
    rw [← this] at h2 ⊢
    simpa using h2
  · rw [List.drop_eq_nil_of_le (by omega), List.drop_eq_nil_of_le (by have := h.len; omega)]
    simp [CVs]
theorem CVs_take {cs : List T} {us : List Value} (k : Nat) (h : CVs w O ρ A cs us) : CVs w O ρ A (cs.take k) (us.take k) := by
  have e : cs = cs.take k ++ cs.drop k := by simp
  by_cases hk : k ≤ cs.length
  · rw [e] at h
    obtain ⟨v1, v2, rfl, h1, h2⟩ := CVs_append.1 h
    have := h1.len
    rw [List.length_take, Nat.min_eq_left hk] at this
    rw [← this] at h1 ⊢
    simpa using h1
  · rw [List.take_of_length_le (by omega), List.take_of_length_le (by have := h.len; omega)]
    exact h
theorem s_fld (hR : R E A ρ O F s a w) (hd : ∀ k, o.dst = some k → k < E.n) {t : TypeId} {m : Option Nat} {x : Operand} {x' : X} {f : Nat} {fields : Array Field} {fd : Field} (ho : o.op = .field t x f) (hu : P.underlying t = some (.struct fields)) (hf : fields[f]? = some fd) (hs : shp P fd.type = some m) (hx : opd x = some x')
    (hK : stepK P s n (.fld fd.offset m x') K) (hn : NX E A s a n o.dst K next) : o.wp P a w next Q := by
  have hv := ev_ok hR hx
  obtain ⟨hg, hz⟩ := shp_agg (w := w) hs
  simp only [stepK] at hK
  split at hK
  · rename_i cs he
    rw [he] at hv; simp only [CV] at hv
    obtain ⟨us, e, hc⟩ := hv
    obtain ⟨hm, hK⟩ := hK
    have hlen := hc.len
    cases m with
    | some k =>
      refine pureOp hR hd (u := .agg ((us.drop fd.offset).take k).toArray) (v := .agg ((cs.drop fd.offset).take k)) ?_ ?_ ⟨[], hK⟩ hn
      · simp [execOp, ho, Instr.field, run_underlying hu, hf, part, hg, hz, e, asAgg, List.extract_eq_take_drop]
      · simp only [CV]; exact ⟨_, rfl, CVs_take _ (CVs_drop _ hc)⟩
    | none =>
      simp only at hK
      split at hK
      · rename_i c r hdr
        have h1 := CVs_drop fd.offset hc
        rw [hdr] at h1
        simp only [CVs] at h1
        obtain ⟨u, r', e1, h2, _⟩ := h1
        have e2 : us[fd.offset]? = some u := by
          have := congrArg (·[0]?) e1
          simpa using this
        refine pureOp hR hd (u := u) (v := c) (by simp [execOp, ho, Instr.field, run_underlying hu, hf, part, hg, hz, e, asAgg, e2]) h2 ⟨[], hK⟩ hn
      · exact hK.elim
  · exact hK.elim
theorem s_mksl (hR : R E A ρ O F s a w) (hd : ∀ k, o.dst = some k → k < E.n) {t e : TypeId} {len sz : Nat} {ps : Array (Nat × Operand)} {ys : List X} (ho : o.op = .buildSlice t len ps) (hu : P.underlying t = some (.slice e)) (hz : szOf P e = some sz) (hp : inOrder 0 ps.toList = some ys) (h1 : ps.size = len) (h2 : len * sz ≤ 16777216) (h3 : sz ≠ 0) (h4 : (zero? P e).isSome = true) (hf : FR E A n K)
    (hK : stepK P s n (.mksl sz ys) K) (hn : NX E A s a n o.dst K next) : o.wp P a w next Q := by
  obtain ⟨zs, hzs⟩ := Option.isSome_iff_exists.1 h4
  obtain ⟨z, hrz, _⟩ := zero_ok (w := w) hzs
  simp only [stepK] at hK
  obtain ⟨hall, hK⟩ := hK
  -- the operands in order
  have key : ∀ (l : List (Nat × Operand)) (k : Nat) (ys : List X), inOrder k l = some ys → l.map (fun p => (p.1, a.eval p.2)) = ((l.map fun p => a.eval p.2).zipIdx k).map (fun x => (x.2, x.1)) ∧ ys.length = l.length ∧
      ((∀ x ∈ ys, (x.ev s).cells.length = sz ∧ ((x.ev s).cells.all T.cell) = true) → (∀ v ∈ l.map (fun p => a.eval p.2), v.cells.size = sz) ∧ Dr w O ρ A (ys.map fun x => (x.ev s).cells) ((l.map fun p => a.eval p.2).flatMap fun v => v.cells.toList) []) := by
    intro l
    induction l with
    | nil =>
      intro k ys h
      simp only [inOrder, Option.some.injEq] at h
      subst h
      simp [Dr]
    | cons p l ih =>
      obtain ⟨i, x⟩ := p
      intro k ys h
      simp only [inOrder] at h
      split at h
      · rename_i hik
        subst hik
        simp only [Option.bind_eq_bind, Option.bind_eq_some_iff, Option.some.injEq] at h
        obtain ⟨y, hy, ys', hys, rfl⟩ := h
        obtain ⟨e1, e2, e3⟩ := ih _ _ hys
        refine ⟨by simp [e1], by simp [e2], ?_⟩
        intro hall
        obtain ⟨g1, g2⟩ := e3 (fun x hx => hall x (by simp [hx]))
        obtain ⟨c1, c2⟩ := hall y (by simp)
        obtain ⟨d1, d2, d3⟩ := CVs_cells (ev_ok hR hy) c2
        refine ⟨?_, ?_⟩
        · intro v hv
          simp only [List.map_cons, List.mem_cons] at hv
          rcases hv with rfl | hv
          · rw [d3, c1]
          · exact g1 v hv
        · simp only [List.map_cons, List.flatMap_cons, Dr]
          exact ⟨_, _, [], [], rfl, rfl, Ds_of_CVs' d1, g2⟩
      · exact absurd h (by simp)
  obtain ⟨e1, e2, e3⟩ := key _ _ _ hp
  obtain ⟨e4, e5⟩ := e3 hall
  generalize hvs : ps.toList.map (fun p => a.eval p.2) = vs at e1 e4 e5
  have hvl : vs.length = len := by rw [← hvs]; simpa using h1
  have hyl : ys.length = len := by rw [e2]; simpa using h1
  have hfl : ∀ (l : List Value), (∀ v ∈ l, v.cells.size = sz) → (l.flatMap fun v => v.cells.toList).length = l.length * sz := by
    intro l
    induction l with
    | nil => simp
    | cons x l ih =>
      intro h
      have := h x (by simp)
      simp only [List.flatMap_cons, List.length_append, Array.length_toList, this, ih (fun v hv => h v (by simp [hv])), List.length_cons, Nat.add_mul]; omega
  refine newOp hR hd hf (u := .slice (some ⟨w.heap.size, 0, none⟩) len len) (v := .ref n 0 ys.length) (cap := len) (sz := sz) (rows := ys.map fun x => (x.ev s).cells) (us := vs.flatMap fun v => v.cells.toList) (c := (vs.flatMap fun v => v.cells.toList).toArray) (e := e) ?_ ?_ (by simp [hyl]) (by simp only [List.size_toArray]; rw [hfl _ e4, hvl]; exact Nat.le_refl _) e5 (by simp) ?_ ⟨[], hK⟩ hn
  · have hmap : (ps.map fun (i, x) => (i, a.eval x)).toList = (vs.zipIdx 0).map fun x => (x.2, x.1) := by
      rw [Array.toList_map]; exact e1
    have hszs := run_szOf (w := w) hz
    have hfill : ∀ cells : Array Value, cells.size = len * sz → Instr.fill (fun i => some (i * sz, sz)) cells ((vs.zipIdx 0).map fun x => (x.2, x.1)) = some (vs.flatMap fun v => v.cells.toList).toArray :=
      fun cells hc => Great.fill_whole (Nat.pos_of_ne_zero h3) vs cells e4 (by rw [hc, hvl])
    have hsm : ¬ len * sz > 2 ^ 24 := by omega
    by_cases h0 : len * sz = 0
    · have hl0 : len = 0 := (Nat.mul_eq_zero.1 h0).resolve_right h3
      subst hl0
      have hv0 : vs = [] := List.length_eq_zero_iff.1 hvl
      subst hv0
      simp only [List.zipIdx_nil, List.map_nil] at hmap
      have hsm : ¬ 0 > 2 ^ 24 := by omega
      simp only [execOp, ho, Instr.buildSlice, Sem.run_bind, run_underlying hu, Result.andThen_ok, hszs, Nat.zero_mul, hsm, if_false, if_true, Sem.run_pure, hmap, Instr.fill]
      simp [newRow, newObj, Sem.run, Array.range_zero']
    · have hf0 := hfill ((Array.range (len * sz)).map (z.cells[· % z.cells.size]!)) (by simp)
      simp only [execOp, ho, Instr.buildSlice, Sem.run_bind, run_underlying hu, Result.andThen_ok, hszs, hsm, if_false, h0, hrz, Sem.run_pure, hmap, hf0, newRow, newObj, Sem.run]
      rfl
  · intro r hr
    obtain ⟨x, hx, rfl⟩ := List.mem_map.1 hr
    exact (hall x hx).1
  · intro ρ' A' g1 g2
    simp only [CV]
    refine ⟨g1, .inr ⟨_, g2, w.heap.size, 0, len, by rw [hyl], by simp, by omega, .inr ⟨rfl, by simp⟩⟩⟩
theorem s_make (hR : R E A ρ O F s a w) (hd : ∀ k, o.dst = some k → k < E.n) {t e : TypeId} {j : Nat} {i : TypeInfo} {zs : List T} (ho : o.op = .makeSlice t (.tmp j) (.tmp j)) (hu : P.underlying t = some (.slice e)) (hi : P.info? e = some i) (hz : zero? P e = some zs) (hl : i.size = zs.length) (h0 : i.size ≠ 0) (hf : FR E A n K)
    (hK : stepK P s n (.make i.size i.bytes zs (.t j)) K) (hn : NX E A s a n o.dst K next) : o.wp P a w next Q := by
  obtain ⟨z, hrz, hm⟩ := zero_ok (w := w) hz
  obtain ⟨hci, hcell⟩ := csts_ok (w := w) (O := O) hm
  have hv := ev_ok (x := .tmp j) hR rfl
  simp only [stepK] at hK
  split at hK
  · rename_i k he
    rw [he] at hv; simp only [CV, CI] at hv
    obtain ⟨g0, gk, g1, hK⟩ := hK
    have hlen := hci.len
    simp only [Array.length_toList] at hlen
    have hzsz : z.cells.size = i.size := by rw [hlen, hl]
    obtain ⟨m, rfl⟩ := Int.eq_ofNat_of_zero_le g0
    simp only [Int.toNat_natCast] at hK
    obtain ⟨z', hz', hzm⟩ : ∃ z', i.zero = some z' ∧ z'.cells.toList.mapM cst = some zs := by
      unfold zero? at hz
      simp only [hi, Option.bind_some] at hz
      cases hh : i.zero with
      | none => rw [hh] at hz; exact absurd hz (by simp)
      | some z' => rw [hh] at hz; exact ⟨z', rfl, hz⟩
    have hci' := (csts_ok (w := w) (O := O) hzm).1
    have hlen' := hci'.len
    simp only [Array.length_toList] at hlen'
    have hzsz' : z'.cells.size = i.size := by rw [hlen', hl]
    have hmade : madeCells z'.cells (m * i.size) = ((List.replicate m z'.cells.toList).flatten).toArray := by
      apply Array.ext_getElem?
      intro j
      simp only [madeCells, Array.getElem?_map, List.getElem?_toArray]
      have hfl : ∀ (k j : Nat), ((List.replicate k z'.cells.toList).flatten)[j]? = if j < k * i.size then z'.cells.toList[j % i.size]? else none := by
        intro k
        induction k with
        | zero => intro j; simp
        | succ k ih =>
          intro j
          simp only [List.replicate_succ, List.flatten_cons]
          by_cases hj : j < i.size
          · rw [List.getElem?_append_left (by simp; omega), if_pos (by rw [Nat.add_mul]; omega), Nat.mod_eq_of_lt hj]
          · rw [List.getElem?_append_right (by simp; omega), ih]
            have e1 : z'.cells.toList.length = i.size := by simpa using hzsz'
            rw [e1]
            by_cases hj2 : j < (k + 1) * i.size
            · rw [if_pos (by rw [Nat.add_mul] at hj2; omega), if_pos hj2]
              rw [Nat.mod_eq_sub_mod (a := j) (by omega)]
            · rw [if_neg (by rw [Nat.add_mul] at hj2; omega), if_neg hj2]
      rw [hfl]
      by_cases hj : j < m * i.size
      · rw [if_pos hj]
        have hlt : j % z'.cells.size < z'.cells.size := Nat.mod_lt _ (by omega)
        rw [Array.getElem?_eq_getElem (by simpa using hj)]
        simp only [Array.getElem_range, Option.map_some]
        rw [← hzsz', getElem!_pos z'.cells _ hlt, Array.getElem?_toList, Array.getElem?_eq_getElem hlt]
      · rw [if_neg hj, Array.getElem?_eq_none (by simpa using hj)]
        rfl
    have hrun := run_make (P := P) w t e i z' hu hi hz' .i64 .i64 m m (by omega) (Int.le_refl _) (by rw [Int.mul_comm]; omega) (by omega)
    simp only [Int.toNat_natCast] at hrun
    rw [hmade] at hrun
    refine newOp hR hd hf (u := .slice (some ⟨w.heap.size, 0, none⟩) m m) (v := .ref n 0 m) (cap := m) (sz := i.size) (rows := List.replicate m zs) (us := (List.replicate m z'.cells.toList).flatten) (c := ((List.replicate m z'.cells.toList).flatten).toArray) (e := e) ?_ ?_ (by simp) ?_ ?_ (by simp) ?_ ⟨[], hK⟩ hn
    · simp only [Act.eval] at hv
      simp [execOp, ho, Act.eval, hv, hrun]
    · intro r hr
      rw [List.mem_replicate] at hr
      rw [hr.2, hl]
    · simp [hzsz']
    · have : ∀ k, Dr w O ρ A (List.replicate k zs) ((List.replicate k z'.cells.toList).flatten) [] := by
        intro k
        induction k with
        | zero => simp [Dr]
        | succ k ih =>
          simp only [List.replicate_succ, List.flatten_cons, Dr]
          exact ⟨_, _, [], [], rfl, rfl, Ds_of_CVs' (CVs.ofCI hci'), ih⟩
      exact this m
    · intro ρ' A' h1 h2
      simp only [CV]
      exact ⟨h1, .inr ⟨_, h2, w.heap.size, 0, m, rfl, by simp, Nat.le_refl _, .inr ⟨rfl, by simp⟩⟩⟩
  · exact hK.elim
end
end Go.Proofs.Ytehdfbhfbidadaa.V

/- Each step of the machine of trees is a step of the model: append; bytes read as text. -/
namespace Go.Proofs.Ytehdfbhfbidadaa.V
open Go
set_option linter.unusedVariables false
set_option linter.unusedSimpArgs false
section
variable {P : Program} {E : Env} {A A' : Nat → Prop} {ρ ρ' : Nat → Option RB} {O O' : Nat → Prop} {F F' : Nat → List Nat} {s : St} {a : Act} {w w' : World} {o : Oper} {n : Nat}
  {K : T → Δ → List Nat → Prop} {next : Act → World → Prop} {Q : Exit → Act → World → Prop}
theorem CVs_of_Ds : ∀ {ts : List T} {vs : List Value} {F : List Nat}, Ds w O ρ A ts vs F → (ts.all T.cell) = true → CVs w O ρ A ts vs
  | [], vs, F, h, hc => by simp only [Ds] at h; simp [CVs, h.1]
  | t :: ts, vs, F, h, hc => by
    simp only [Ds] at h; simp only [CVs]
    simp only [List.all_cons, Bool.and_eq_true] at hc
    obtain ⟨v, r, F1, F2, e, _, h1, h2⟩ := h
    refine ⟨v, r, e, ?_, CVs_of_Ds h2 hc.2⟩
    rcases h1 with h1 | h1
    · have hc1 := hc.1
      refine CV.ofCI (w := w) (O := O) ?_
      cases t <;> first
        | (simp only [K] at h1; exact h1.1)
        | (simp [T.cell] at hc1)
    · exact h1.1
theorem Dr_cells : ∀ {rs : List (List T)} {vs : List Value} {F : List Nat}, Dr w O ρ A rs vs F → (∀ r ∈ rs, (r.all T.cell) = true) → Dr w O ρ A rs vs [] ∧ ∀ u ∈ vs, u.oneCell' = true
  | [], vs, F, h, hc => by simp only [Dr] at h; simp [Dr, h.1]
  | r :: rs, vs, F, h, hc => by
    simp only [Dr] at h
    obtain ⟨v1, v2, F1, F2, rfl, _, h1, h2⟩ := h
    obtain ⟨g1, g2⟩ := Dr_cells h2 (fun x hx => hc x (by simp [hx]))
    have h3 := CVs_of_Ds h1 (hc r (by simp))
    have one : ∀ {ts : List T} {vs : List Value}, CVs w O ρ A ts vs → (ts.all T.cell) = true → ∀ u ∈ vs, u.oneCell' = true := by
      intro ts
      induction ts with
      | nil => intro vs h; simp only [CVs] at h; simp [h]
      | cons t ts ih =>
        intro vs h hc
        simp only [CVs] at h
        simp only [List.all_cons, Bool.and_eq_true] at hc
        obtain ⟨u, r, rfl, h1, h2⟩ := h
        intro x hx
        rcases List.mem_cons.1 hx with rfl | hx
        · exact oneCell_of_CV h1 hc.1
        · exact ih h2 hc.2 x hx
    refine ⟨?_, ?_⟩
    · simp only [Dr]; exact ⟨v1, v2, [], [], rfl, rfl, Ds_of_CVs' h3, g1⟩
    · intro u hu
      rcases List.mem_append.1 hu with hu | hu
      · exact one h3 (hc r (by simp)) u hu
      · exact g2 u hu
theorem Dr_of_CIr : ∀ {rs : List (List T)} {vs : List Value}, CIr w O rs vs → Dr w O ρ A rs vs []
  | [], vs, h => by simp only [CIr] at h; simp [Dr, h]
  | r :: rs, vs, h => by
    simp only [CIr] at h; simp only [Dr]
    obtain ⟨v1, v2, e, h1, h2⟩ := h
    exact ⟨v1, v2, [], [], e, rfl, Ds_of_CVs' (CVs.ofCI h1), Dr_of_CIr h2⟩
/-- Some rows of a block, from row 'p' on. -/
theorem BR.seg {t sz : Nat} {rows : List (List T)} {Ft : List Nat} (h : BR w O ρ A t (.arr sz rows) Ft) {p m : Nat} (hp : p + m ≤ rows.length) :
    (rows = [] ∧ Ft = [] ∧ (ρ t = none ∨ ∃ B, ρ t = some B ∧ B.cap = 0 ∧ sz = B.sz)) ∨ ∃ B c e us1 us us2 F1 Fm F2, ρ t = some B ∧ sz = B.sz ∧ rows.length ≤ B.cap ∧ (∀ r ∈ rows, r.length = sz) ∧ w.heap[B.b]? = some (.cells c e (0, 0)) ∧ B.o + B.cap * B.sz ≤ c.size ∧ Dr w O ρ A ((rows.drop p).take m) us Fm ∧
      (∀ (j : Nat) (u : Value), (us1 ++ us ++ us2)[j]? = some u → c[B.o + j]? = some u) ∧ us1.length = p * sz ∧ us.length = m * sz ∧ Ft = B.b :: (F1 ++ Fm ++ F2) := by
  simp only [BR] at h
  rcases h with h | ⟨B, hB, hsz, hs, hcap, c, e, cs, F', hb, hc, hd, hm, hF⟩
  · exact .inl h
  · right
    rw [show rows = rows.take p ++ ((rows.drop p).take m ++ rows.drop (p + m)) by rw [← List.drop_drop, List.take_append_drop, List.take_append_drop]] at hd
    obtain ⟨u1, u23, F1, F23, rfl, rfl, h1, h2⟩ := Dr_append.1 hd
    obtain ⟨u2, u3, F2, F3, rfl, rfl, h3, h4⟩ := Dr_append.1 h2
    refine ⟨B, c, e, u1, u2, u3, F1, F2, F3, hB, hsz, hcap, hs, hb, hc, h3, by simpa using hm, ?_, ?_, by simpa using hF⟩
    · rw [h1.len (fun r hr => hs r (List.mem_of_mem_take hr))]; simp; rw [Nat.min_eq_left (by omega)]
    · rw [h3.len (fun r hr => hs r (List.mem_of_mem_drop (List.mem_of_mem_take hr)))]; simp; rw [Nat.min_eq_left (by omega)]
/-- A slice of a block without rows. -/
theorem ref_empty {tk p m : Nat} {v : Value} (hp : p = 0) (hm : m = 0) (hv : (ρ tk = none ∧ p = 0 ∧ m = 0 ∧ ∃ q, v = .slice q 0 0) ∨ ∃ B, ρ tk = some B ∧ ∃ b' o' c, v = .slice (some ⟨b', o', none⟩) m c ∧ p + c = B.cap ∧ m ≤ c ∧ (c = 0 ∨ (b' = B.b ∧ o' = B.o + p * B.sz))) {sz : Nat} (h : ρ tk = none ∨ ∃ B, ρ tk = some B ∧ B.cap = 0 ∧ sz = B.sz) : ∃ q, v = .slice q 0 0 := by
  rcases hv with ⟨_, _, _, h⟩ | ⟨B, hB, b', o', c, e, h1, h2, _⟩
  · exact h
  · rcases h with h | ⟨B', h, h3, _⟩
    · rw [h] at hB; exact absurd hB (by simp)
    · rw [h] at hB
      obtain rfl := Option.some.inj hB
      have hc : c = 0 := by omega
      subst hm hc
      exact ⟨_, e⟩
/-- The rows of a slice that is read: its cells. -/
theorem src_ok (hR : R E A ρ O F s a w) {t : T} {v : Value} (hv : CV w O ρ A t v) {src : List (List T)} {ts : List Nat} {sz : Nat} (h : rowsAt s t = some (src, ts)) (hs : ∀ r ∈ src, r.length = sz ∧ (r.all T.cell) = true) :
    ∃ news, news.length = src.length * sz ∧ Dr w O ρ A src news [] ∧ (∀ u ∈ news, u.oneCell' = true) ∧ ∃ q c, v = .slice q src.length c ∧ (q = none → src = []) ∧ ((∃ b off, q = some ⟨b, off, none⟩ ∧ (src = [] ∨ Lies w b off news)) ∨ src = []) := by
  unfold rowsAt at h
  split at h
  · simp only [Option.some.injEq, Prod.mk.injEq] at h
    obtain ⟨rfl, rfl⟩ := h
    simp only [CV, CI] at hv
    exact ⟨[], by simp, by simp [Dr], by simp, none, 0, hv, fun _ => rfl, .inr rfl⟩
  · rename_i rows
    simp only [Option.some.injEq, Prod.mk.injEq] at h
    obtain ⟨rfl, rfl⟩ := h
    simp only [CV, CI] at hv
    obtain ⟨q, cap, e, hl, hm⟩ := hv
    rcases hm with rfl | ⟨b, off, sz', cs, rfl, hb, hs', hr, hli⟩
    · exact ⟨[], by simp, by simp [Dr], by simp, q, cap, e, fun _ => rfl, .inr rfl⟩
    · have hd := Dr_of_CIr (ρ := ρ) (A := A) hr
      obtain ⟨h1, h2⟩ := Dr_cells hd (fun r hr => (hs r hr).2)
      exact ⟨cs, h1.len (fun r hr => (hs r hr).1), h1, h2, _, cap, e, fun h => absurd h (by simp), .inl ⟨b, off, rfl, .inr hli⟩⟩
  · rename_i tk p m
    split at h
    · rename_i sz' rows hg
      split at h
      · rename_i hpm
        simp only [Option.some.injEq, Prod.mk.injEq] at h
        obtain ⟨rfl, rfl⟩ := h
        have hlen : ((rows.drop p).take m).length = m := by simp; omega
        simp only [CV] at hv
        obtain ⟨hA, hv⟩ := hv
        rcases (hR.hp _ _ hg).2.seg hpm with ⟨rfl, _, hn⟩ | ⟨B, c, e, us1, us, us2, F1, Fm, F2, hB, hsz, hcap, hsr, hb, hc, hd, hm, l1, l2, hF⟩
        · simp only [List.drop_nil, List.take_nil] at hs ⊢
          simp only [List.length_nil, Nat.le_zero] at hpm
          obtain ⟨q1, e⟩ := ref_empty (by omega) (by omega) hv hn
          exact ⟨[], by simp, by simp [Dr], by simp, q1, 0, e, fun _ => trivial, .inr trivial⟩
        · obtain ⟨h1, h2⟩ := Dr_cells hd (fun r hr => (hs r hr).2)
          have e1 : us.length = ((rows.drop p).take m).length * sz := h1.len (fun r hr => (hs r hr).1)
          refine ⟨us, e1, h1, h2, ?_⟩
          rcases hv with ⟨hn, _⟩ | ⟨B', hB', b', o', c', e', hc', hmc, hbo⟩
          · rw [hn] at hB; exact absurd hB (by simp)
          · obtain rfl : B = B' := Option.some.inj (hB.symm.trans hB')
            rw [hlen]
            refine ⟨_, c', e', fun h => absurd h (by simp), ?_⟩
            by_cases h0 : (rows.drop p).take m = []
            · exact .inr h0
            · left
              refine ⟨b', o', rfl, .inr ?_⟩
              rcases hbo with h00 | ⟨rfl, rfl⟩
              · exfalso; apply h0; rw [show m = 0 by omega]; simp
              · refine Lies.of_block hb ?_
                intro j u hj
                have := hm (us1.length + j) u (by
                  rw [List.append_assoc, List.getElem?_append_right (by omega), Nat.add_sub_cancel_left, List.getElem?_append_left (getElem?_len hj)]; exact hj)
                rw [l1, hsz] at this
                rw [← this]; congr 1; omega
      · exact absurd h (by simp)
    · exact absurd h (by simp)
  · exact absurd h (by simp)
/-- What append does, its source told by what it reads. -/
theorem run_src {size m : Nat} {q : Option Addr} {c : Nat} {news : List Value} (hl : news.length = m * size) (hq : (∃ b off, q = some ⟨b, off, none⟩ ∧ (m = 0 ∨ Lies w b off news)) ∨ m = 0) (hw' : w'.heap = w.heap) :
    (Builtin.firstCells size m (.slice q m c)).run P w' = .ok news.toArray w' := by
  have zero : m = 0 → (Builtin.firstCells size m (.slice q m c)).run P w' = .ok news.toArray w' := by
    rintro rfl
    simp only [Nat.zero_mul, List.length_eq_zero_iff] at hl
    subst hl
    cases q with
    | none => simp [Builtin.firstCells]
    | some q => simp [Builtin.firstCells, loadCells, loadCellsFrom]
  rcases hq with ⟨b, off, rfl, h | h⟩ | h
  · exact zero h
  · refine run_firstCells_some (P := P) w' size m ⟨b, off, none⟩ m c news hl ?_
    intro j v hj
    rw [add_none]
    have := h j v hj
    simpa only [World.cell?, hw'] using this
  · exact zero h
theorem run_app_room {t ty e : TypeId} {i : TypeInfo} (ht : P.underlying t = some (.slice e)) (hi : P.info? e = some i) {b off sLen sCap m c : Nat} {q : Option Addr} {news : List Value} {cur : Array Value} {et : TypeId} (hg : w.heap[b]? = some (.cells cur et (0, 0)))
    (hl : news.length = m * i.size) (hq : (∃ b off, q = some ⟨b, off, none⟩ ∧ (m = 0 ∨ Lies w b off news)) ∨ m = 0) (h1 : ∀ u ∈ news, u.oneCell' = true) (hroom : sLen + m ≤ sCap) (hfit : off + sLen * i.size + news.length ≤ cur.size) :
    (Builtin.append_ #[t, t] ty #[.slice (some ⟨b, off, none⟩) sLen sCap, .slice q m c]).run P w =
      .ok (.slice (some ⟨b, off, none⟩) (sLen + m) sCap) (w.setRow b (cur.toList.take (off + sLen * i.size) ++ news ++ cur.toList.drop (off + sLen * i.size + news.length)).toArray) := by
  have hf := run_src (P := P) (c := c) hl hq (w' := w) rfl
  have hst := run_storeCells_at P b (off + sLen * i.size) et news 0 cur w hg (by omega) h1
  simp only [Nat.add_zero] at hst
  simp [Builtin.append_, run_underlying ht, sizeOf, typeInfo, hi, Builtin.lenOf, hroom, hf, add_none, hst]
theorem run_app_room0 {t ty e : TypeId} {i : TypeInfo} (ht : P.underlying t = some (.slice e)) (hi : P.info? e = some i) {d : Option Addr} {sLen sCap c : Nat} {q : Option Addr} (hroom : sLen ≤ sCap) :
    (Builtin.append_ #[t, t] ty #[.slice d sLen sCap, .slice q 0 c]).run P w = .ok (.slice d sLen sCap) w := by
  have hf := run_src (P := P) (size := i.size) (m := 0) (q := q) (c := c) (news := []) (by simp) (.inr rfl) (w' := w) rfl
  cases d with
  | none => simp [Builtin.append_, run_underlying ht, sizeOf, typeInfo, hi, Builtin.lenOf, hroom, hf]
  | some d => simp [Builtin.append_, run_underlying ht, sizeOf, typeInfo, hi, Builtin.lenOf, hroom, hf, storeCells]
theorem run_app_grow {t ty e : TypeId} {i : TypeInfo} {z : Value} (ht : P.underlying t = some (.slice e)) (hi : P.info? e = some i) (hz : i.zero = some z) {d : Option Addr} {sLen sCap m c : Nat} {q : Option Addr} {olds news : List Value}
    (hlo : olds.length = sLen * i.size) (hd : (∃ b off, d = some ⟨b, off, none⟩ ∧ (sLen = 0 ∨ Lies w b off olds)) ∨ sLen = 0)
    (hl : news.length = m * i.size) (hq : (∃ b off, q = some ⟨b, off, none⟩ ∧ (m = 0 ∨ Lies w b off news)) ∨ m = 0) (hg : sCap < sLen + m) (hbytes : (sLen + m) * i.bytes ≤ 140737488355328) (h63 : sLen + m ≤ 9223372036854775807) :
    (Builtin.append_ #[t, t] ty #[.slice d sLen sCap, .slice q m c]).run P w =
      .ok (.slice (some ⟨w.heap.size, 0, none⟩) (sLen + m) (grownCap w (sLen + m) sCap e)) (w.drew.alloc (.cells ((olds ++ news).toArray ++ Builtin.zeroCells z.cells (grownCap w (sLen + m) sCap e - (sLen + m))) e)) := by
  have hn : ¬ (sLen + m ≤ sCap) := by omega
  have h63' : ¬ (9223372036854775807 < ((sLen : Int) + (m : Int))) := by omega
  have hfit := growslice_fits hg hbytes
  have h48' : ¬ (281474976710656 < Builtin.nextslicecap (sLen + m) sCap * i.bytes) := by omega
  have hf := run_src (P := P) (c := c) hl hq (w' := w.drew) rfl
  have ho := run_src (P := P) (c := sCap) hlo hd (w' := w.drew) rfl
  simp [Builtin.append_, run_underlying ht, sizeOf, typeInfo, zeroValue, hi, hz, Builtin.lenOf, hn, h63', h48', Question.forced, ho, hf, newRow, grownCap]
  congr 2
  apply Array.ext'
  simp
theorem s_app (hR : R E A ρ O F s a w) (hd : ∀ k, o.dst = some k → k < E.n) {c : Call} {t e : TypeId} {i : TypeInfo} {x y : Operand} {x' y' : X} (ho : o.op = .call c) (hc : c.callee = .builtin .append) (h0 : c.argTypes.toList = [t, t]) (ha : c.args.toList = [x, y]) (ht : P.underlying t = some (.slice e)) (hi : P.info? e = some i) (hi0 : i.size ≠ 0) (hb0 : i.bytes ≠ 0) (hz : (zero? P e).map (·.length) = some i.size) (hx : opd x = some x') (hy : opd y = some y') (hf : FR E A n K)
    (hK : stepK P s n (.app i.size i.bytes x' y') K) (hn : NX E A s a n o.dst K next) : o.wp P a w next Q := by
  obtain ⟨callee, ⟨args⟩, ⟨argTypes⟩⟩ := c
  simp only at hc ha h0
  subst hc ha h0
  obtain ⟨zs, hz, hzl⟩ := Option.map_eq_some_iff.1 hz
  obtain ⟨z, hiz, hzc⟩ : ∃ z, i.zero = some z ∧ z.cells.size = i.size := by
    unfold zero? at hz
    simp only [hi, Option.bind_some] at hz
    cases hh : i.zero with
    | none => rw [hh] at hz; exact absurd hz (by simp)
    | some z =>
      rw [hh] at hz
      refine ⟨z, rfl, ?_⟩
      have := (csts_ok (w := w) (O := O) hz).1.len
      simpa [hzl] using this
  have hv := ev_ok hR hx
  have hw := ev_ok hR hy
  simp only [stepK] at hK
  split at hK
  case h_2 => exact hK.elim
  rename_i src ts hsrc
  obtain ⟨hs, hK⟩ := hK
  obtain ⟨news, hnl, hnd, hn1, q, cq, hye, hqn, hq⟩ := src_ok hR hw hsrc hs
  have hq' : (∃ b off, q = some ⟨b, off, none⟩ ∧ (src.length = 0 ∨ Lies w b off news)) ∨ src.length = 0 := by
    rcases hq with ⟨b, off, h1, h2⟩ | h
    · exact .inl ⟨b, off, h1, h2.imp (fun h => by simp [h]) id⟩
    · exact .inr (by simp [h])
  have hrun : ∀ u w', (Builtin.append_ #[t, t] o.type #[a.eval x, a.eval y]).run P w = .ok u w' → (execOp a.eval o).run P w = .ok (.value u) w' := by
    intro u w' hr
    simp [execOp, ho, resolve, invoke, builtin, hr]
  -- what has grown lies in a block of its own
  have grown : ∀ (kept : List (List T)) (olds : List Value) (Fm : List Nat) (d : Option Addr) (sCap : Nat) (hp0 : List (Nat × Blk)) (δ : Δ) (rd : List Nat), a.eval x = .slice d kept.length sCap → (∀ r ∈ kept, r.length = i.size) → Dr w O ρ A kept olds Fm →
      ((∃ b off, d = some ⟨b, off, none⟩ ∧ (kept.length = 0 ∨ Lies w b off olds)) ∨ kept.length = 0) → (kept.length + src.length) * i.bytes ≤ 35184372088832 → sCap < kept.length + src.length →
      (∀ t' k, hget hp0 t' = some k → hget s.hp t' = some k) → Fm.Nodup → (∀ b ∈ Fm, ¬ O b ∧ b < w.heap.size ∧ (E.w0.heap.size ≤ b ∨ b ∈ E.mine)) → (∀ t' k, hget hp0 t' = some k → ∀ b ∈ Fm, b ∉ F t') →
      K (.ref n 0 (kept.length + src.length)) δ rd → hap s.hp δ = hset hp0 n (.arr i.size (kept ++ src)) → n < n + δ.length → o.wp P a w next Q := by
    intro kept olds Fm d sCap hp0 δ rd hxe hks hkd hdd hby hgr hsub hnd' hmi hap' hK hδ hδl
    have hA : ¬ A n := hf.2 _ _ _ hK n (Nat.le_refl _) hδl
    have hlo := hkd.len hks
    have hbl : kept.length + src.length ≤ 35184372088832 := by
      have : (kept.length + src.length) * 1 ≤ (kept.length + src.length) * i.bytes := Nat.mul_le_mul_left _ (Nat.pos_of_ne_zero hb0)
      omega
    have hr := run_app_grow (P := P) (ty := o.type) (c := cq) ht hi hiz hlo hdd hnl hq' hgr (by omega) (by omega)
    rw [← hxe, ← hye] at hr
    have hge := grownCap_ge w (kept.length + src.length) sCap e
    generalize hcapg : grownCap w (kept.length + src.length) sCap e = cap at hr hge
    have hwO : ∀ b, b < w.heap.size → (w.drew.alloc (.cells ((olds ++ news).toArray ++ Builtin.zeroCells z.cells (cap - (kept.length + src.length))) e)).heap[b]? = w.heap[b]? := fun b hb => heap_push_old (w := w.drew) hb
    have hkeep : Keep w [] (w.drew.alloc (.cells ((olds ++ news).toArray ++ Builtin.zeroCells z.cells (cap - (kept.length + src.length))) e)) := Keep.grown rfl rfl rfl (by simp) (fun k hk => hwO k hk)
    have hnew : (w.drew.alloc (.cells ((olds ++ news).toArray ++ Builtin.zeroCells z.cells (cap - (kept.length + src.length))) e)).heap[w.heap.size]? = some (.cells ((olds ++ news).toArray ++ Builtin.zeroCells z.cells (cap - (kept.length + src.length))) e (0, 0)) := heap_alloc_new w.drew _
    have hcsz : ((olds ++ news).toArray ++ Builtin.zeroCells z.cells (cap - (kept.length + src.length))).size = cap * i.size := by
      simp only [Array.size_append, List.size_toArray, List.length_append, hlo, hnl, size_zeroCells, hzc, ← Nat.add_mul]
      congr 1; omega
    generalize hcc : (olds ++ news).toArray ++ Builtin.zeroCells z.cells (cap - (kept.length + src.length)) = cells at *
    generalize hww : w.drew.alloc (.cells cells e) = w2 at *
    have hAm : ∀ x, A x → Aext A n δ.length x := fun x h => .inl h
    have hρ : ∀ x, A x → (fun x => if x = n then some (⟨w.heap.size, 0, cap, i.size⟩ : RB) else ρ x) x = ρ x := fun x hx => if_neg (fun (h : x = n) => hA (by rw [← h]; exact hx))
    have hw2 : ∀ b, O b → w2.heap[b]? = w.heap[b]? := fun b hb => hwO b (hR.Olt b hb)
    have hR1 := hR.set1 (t := n) (k := .arr i.size (kept ++ src)) (Ft := w.heap.size :: Fm) (M := []) (A' := Aext A n δ.length) (ρ' := fun x => if x = n then some (⟨w.heap.size, 0, cap, i.size⟩ : RB) else ρ x) (w' := w2) (hp0 := hp0)
      hAm hρ (fun t ht => by rw [if_neg (by have := hf.1; omega)]; exact hR.ρ0 t ht) hw2 hsub (fun t' k _ hk b hb => hwO b (hR.mine t' k (hsub _ _ hk) b hb).2.1) hkeep (by simp) (.inr ⟨Nat.le_refl _, hδl⟩) ?_ ?_ ?_ ?_
    · have h2 := hR1.put hd (v := .ref n 0 (kept.length + src.length)) (u := .slice (some ⟨w.heap.size, 0, none⟩) (kept.length + src.length) cap) (by
        simp only [CV]
        exact ⟨.inr ⟨Nat.le_refl _, hδl⟩, .inr ⟨⟨w.heap.size, 0, cap, i.size⟩, by simp, w.heap.size, 0, cap, rfl, by simp, hge, .inr ⟨rfl, by simp⟩⟩⟩)
      have h3 : Rel E (Aext A n δ.length) (s.app o.dst (.ref n 0 (kept.length + src.length)) δ) (a.put o.dst (.slice (some ⟨w.heap.size, 0, none⟩) (kept.length + src.length) cap)) w2 := by
        rw [St.app, hδ]
        exact ⟨_, _, _, h2⟩
      exact wp_value (hrun _ _ hr) (hn _ δ rd _ _ hK h3)
    · simp only [BR]
      refine .inr ⟨⟨w.heap.size, 0, cap, i.size⟩, by simp, rfl, ?_, by simpa using hge, cells, e, olds ++ news, Fm, hnew, by simp [hcsz], ?_, ?_, rfl⟩
      · intro r hr
        rcases List.mem_append.1 hr with h | h
        · exact hks r h
        · exact (hs r h).1
      · refine Dr_append.2 ⟨olds, news, Fm, [], rfl, by simp, ?_, ?_⟩
        · exact hkd.cong (fun _ h => h) hw2 hAm hρ (fun b hb => hwO b (hmi b hb).2.1)
        · exact hnd.cong (fun _ h => h) hw2 hAm hρ (by simp)
      · intro j u hj
        rw [← hcc]
        simp only [Nat.zero_add]
        rw [Array.getElem?_append_left (by simpa using getElem?_len hj)]
        simpa using hj
    · refine List.nodup_cons.2 ⟨fun h => ?_, hnd'⟩
      have := (hmi _ h).2.1; omega
    · intro b hb
      rcases List.mem_cons.1 hb with rfl | hb
      · refine ⟨fun h => ?_, ?_, .inl hR.keep.size⟩
        · have := hR.Olt _ h; omega
        · rw [← hww]; simp
      · obtain ⟨g1, g2, g3⟩ := hmi b hb
        exact ⟨g1, Nat.lt_of_lt_of_le g2 hkeep.size, g3⟩
    · intro t' k _ hk b hb
      rcases List.mem_cons.1 hb with rfl | hb
      · intro hb'
        have := (hR.mine _ _ (hsub _ _ hk) _ hb').2.1; omega
      · exact hap' t' k hk b hb
  split at hK
  · -- onto nothing
    rename_i hxe
    obtain ⟨hby, hK⟩ := hK
    rw [hxe] at hv; simp only [CV, CI] at hv
    by_cases hsrc0 : src = []
    · subst hsrc0
      have hA : ¬ A n := hf.2 _ _ _ hK n (Nat.le_refl _) (by simp)
      have hr := run_app_room0 (P := P) (w := w) (ty := o.type) (d := none) (sLen := 0) (sCap := 0) (q := q) (c := cq) ht hi (Nat.le_refl _)
      have hye' : a.eval y = .slice q 0 cq := hye
      rw [← hv, ← hye'] at hr
      have hAm : ∀ x, A x → Aext A n 1 x := fun x h => .inl h
      have hρ : ∀ x, A x → (fun x => if x = n then none else ρ x) x = ρ x := fun x hx => if_neg (fun (h : x = n) => hA (by rw [← h]; exact hx))
      have hR1 := hR.set1 (t := n) (k := .arr i.size []) (Ft := []) (M := []) (A' := Aext A n 1) (ρ' := fun x => if x = n then none else ρ x) (w' := w) (hp0 := s.hp)
        hAm hρ (fun t ht => by rw [if_neg (by have := hf.1; omega)]; exact hR.ρ0 t ht) (fun _ _ => rfl) (fun _ _ h => h) (fun _ _ _ _ _ _ => rfl) (Keep.refl _ _) (by simp) (.inr ⟨Nat.le_refl _, by omega⟩) (by simp [BR]) (by simp) (by simp) (by simp)
      have h2 := hR1.put hd (v := .ref n 0 0) (u := .slice none 0 0) (by
        simp only [CV]
        exact ⟨.inr ⟨Nat.le_refl _, by omega⟩, .inl (by simp)⟩)
      rw [hv] at hr
      exact wp_value (hrun _ _ (by rw [hv]; exact hr)) (hn _ _ _ _ _ hK ⟨_, O, _, h2⟩)
    · refine grown [] [] [] none 0 s.hp [(n, some (.arr i.size src))] ts hv (by simp) (by simp [Dr]) (.inr rfl) (by simpa using hby) ?_ (fun _ _ h => h) (by simp) (by simp) (by simp) (by simpa using hK) (by simp [hap]) (by simp)
      simp only [List.length_nil, Nat.zero_add]
      exact List.length_pos_iff.2 hsrc0
  · rename_i tk p m hxe
    rw [hxe] at hv; simp only [CV] at hv
    obtain ⟨hAk, hv⟩ := hv
    split at hK
    case h_2 => exact hK.elim
    rename_i sz' rows hg
    obtain ⟨rfl, hpm, hnt, hby, hK⟩ := hK
    have hsub : ∀ t' k, hget (hdel s.hp tk) t' = some k → hget s.hp t' = some k := fun _ _ h => hget_hdel_sub h
    have hdelne : ∀ t' k, hget (hdel s.hp tk) t' = some k → t' ≠ tk := by
      intro t' k h e
      rw [hget_hdel, if_pos e.symm] at h
      exact absurd h (by simp)
    have hkl : ((rows.drop p).take m).length = m := by simp; omega
    have hδ : hap s.hp [(tk, none), (n, some (Blk.arr i.size ((rows.drop p).take m ++ src)))] = hset (hdel s.hp tk) n (.arr i.size ((rows.drop p).take m ++ src)) := rfl
    have hA : ¬ A n := hf.2 _ _ _ hK n (Nat.le_refl _) (by simp)
    rcases (hR.hp _ _ hg).2.seg hpm with ⟨rfl, _, hnone⟩ | ⟨B, c, et, us1, us, us2, F1, Fm, F2, hB, hsz, hcap, hsr, hb, hcs, hdm, hlie, l1, l2, hF⟩
    · -- a slice that is nil
      simp only [List.length_nil, Nat.le_zero_eq] at hpm
      obtain ⟨rfl, rfl⟩ : p = 0 ∧ m = 0 := by omega
      obtain ⟨q1, hv⟩ := ref_empty rfl rfl hv hnone
      simp only [List.drop_nil, List.take_nil, List.nil_append, Nat.zero_add] at hK hδ hby
      by_cases hsrc0 : src = []
      · subst hsrc0
        have hr := run_app_room0 (P := P) (w := w) (ty := o.type) (d := q1) (sLen := 0) (sCap := 0) (q := q) (c := cq) ht hi (Nat.le_refl _)
        have hye' : a.eval y = .slice q 0 cq := hye
        rw [← hv, ← hye'] at hr
        have hAm : ∀ x, A x → Aext A n 2 x := fun x h => .inl h
        have hρ : ∀ x, A x → (fun x => if x = n then none else ρ x) x = ρ x := fun x hx => if_neg (fun (h : x = n) => hA (by rw [← h]; exact hx))
        have hR1 := hR.set1 (t := n) (k := .arr i.size []) (Ft := []) (M := []) (A' := Aext A n 2) (ρ' := fun x => if x = n then none else ρ x) (w' := w) (hp0 := hdel s.hp tk)
          hAm hρ (fun t ht => by rw [if_neg (by have := hf.1; omega)]; exact hR.ρ0 t ht) (fun _ _ => rfl) hsub (fun _ _ _ _ _ _ => rfl) (Keep.refl _ _) (by simp) (.inr ⟨Nat.le_refl _, by omega⟩) (by simp [BR]) (by simp) (by simp) (by simp)
        have h2 := hR1.put hd (v := .ref n 0 0) (u := .slice q1 0 0) (by
          simp only [CV]
          exact ⟨.inr ⟨Nat.le_refl _, by omega⟩, .inl (by simp)⟩)
        rw [hv] at hr
        exact wp_value (hrun _ _ (by rw [hv]; exact hr)) (hn _ _ _ _ _ hK ⟨_, O, _, h2⟩)
      · refine grown [] [] [] q1 0 (hdel s.hp tk) _ (tk :: ts) hv (by simp) (by simp [Dr]) (.inr rfl) (by simpa using hby) ?_ hsub (by simp) (by simp) (by simp) (by simpa using hK) (by simpa using hδ) (by simp)
        simp only [List.length_nil, Nat.zero_add]
        exact List.length_pos_iff.2 hsrc0
    · rcases hv with ⟨hnone, _⟩ | ⟨B', hB', b', o', cc, hv, hcc, hmc, hbo⟩
      · rw [hnone] at hB; exact absurd hB (by simp)
      obtain rfl : B = B' := Option.some.inj (hB.symm.trans hB')
      have hndF := hR.nodup _ _ hg
      rw [hF] at hndF
      have hndt := List.nodup_cons.1 hndF
      have hin : ∀ b ∈ Fm, b ∈ F tk := fun b hb => by rw [hF]; simp [hb]
      have hFmnd : Fm.Nodup := hndt.2.sublist (List.Sublist.trans (List.sublist_append_right F1 Fm) (List.sublist_append_left _ F2))
      have hmi : ∀ b ∈ Fm, ¬ O b ∧ b < w.heap.size ∧ (E.w0.heap.size ≤ b ∨ b ∈ E.mine) := fun b hb => hR.mine _ _ hg b (hin b hb)
      have hap' : ∀ t' k, hget (hdel s.hp tk) t' = some k → ∀ b ∈ Fm, b ∉ F t' := fun t' k hk b hb => hR.apart _ _ _ _ hg (hsub _ _ hk) (fun h => hdelne _ _ hk h.symm) b (hin b hb)
      have hdd : (∃ b off, (some ⟨b', o', none⟩ : Option Addr) = some ⟨b, off, none⟩ ∧ (((rows.drop p).take m).length = 0 ∨ Lies w b off us)) ∨ ((rows.drop p).take m).length = 0 := by
        rw [hkl]
        by_cases hm0 : m = 0
        · exact .inr hm0
        · left
          refine ⟨b', o', rfl, .inr ?_⟩
          rcases hbo with h00 | ⟨rfl, rfl⟩
          · omega
          · refine Lies.of_block hb ?_
            intro j u hj
            have := hlie (us1.length + j) u (by
              rw [List.append_assoc, List.getElem?_append_right (by omega), Nat.add_sub_cancel_left, List.getElem?_append_left (getElem?_len hj)]; exact hj)
            rw [l1, hsz] at this
            rw [← this]; congr 1; omega
      have hks : ∀ r ∈ (rows.drop p).take m, r.length = i.size := fun r hr => hsr r (List.mem_of_mem_drop (List.mem_of_mem_take hr))
      by_cases hroom : m + src.length ≤ cc
      · -- there is room
        by_cases hc0 : cc = 0
        · -- no room is wanted
          have hm0 : m = 0 := by omega
          have hs0 : src = [] := List.length_eq_zero_iff.1 (by omega)
          subst hm0 hs0
          have hr := run_app_room0 (P := P) (w := w) (ty := o.type) (d := some ⟨b', o', none⟩) (sLen := 0) (sCap := cc) (q := q) (c := cq) ht hi (by omega)
          have hye' : a.eval y = .slice q 0 cq := hye
          rw [← hv, ← hye'] at hr
          have hAm : ∀ x, A x → Aext A n 2 x := fun x h => .inl h
          have hρ : ∀ x, A x → (fun x => if x = n then some (⟨B.b, B.o, 0, i.size⟩ : RB) else ρ x) x = ρ x := fun x hx => if_neg (fun (h : x = n) => hA (by rw [← h]; exact hx))
          simp only [List.take_zero, List.append_nil, List.length_nil, Nat.add_zero] at hK
          have hR1 := hR.set1 (t := n) (k := .arr i.size []) (Ft := [B.b]) (M := []) (A' := Aext A n 2) (ρ' := fun x => if x = n then some (⟨B.b, B.o, 0, i.size⟩ : RB) else ρ x) (w' := w) (hp0 := hdel s.hp tk)
            hAm hρ (fun t ht => by rw [if_neg (by have := hf.1; omega)]; exact hR.ρ0 t ht) (fun _ _ => rfl) hsub (fun _ _ _ _ _ _ => rfl) (Keep.refl _ _) (by simp) (.inr ⟨Nat.le_refl _, by omega⟩) ?_ (by simp) ?_ ?_
          · have h2 := hR1.put hd (v := .ref n 0 0) (u := .slice (some ⟨b', o', none⟩) 0 cc) (by
              simp only [CV]
              exact ⟨.inr ⟨Nat.le_refl _, by omega⟩, .inr ⟨⟨B.b, B.o, 0, i.size⟩, by simp, b', o', cc, rfl, by simp; omega, by omega, .inl hc0⟩⟩)
            rw [hv] at hr
            exact wp_value (hrun _ _ (by rw [hv]; exact hr)) (hn _ _ _ _ _ hK ⟨_, O, _, h2⟩)
          · simp only [BR]
            exact .inr ⟨⟨B.b, B.o, 0, i.size⟩, by simp, rfl, by simp, by simp, c, et, [], [], hb, by simp; omega, by simp [Dr], by simp, rfl⟩
          · intro b hb'
            simp only [List.mem_singleton] at hb'
            subst hb'
            exact hR.mine _ _ hg _ (by rw [hF]; simp)
          · intro t' k _ hk b hb'
            simp only [List.mem_singleton] at hb'
            subst hb'
            exact hR.apart _ _ _ _ hg (hsub _ _ hk) (fun h => hdelne _ _ hk h.symm) _ (by rw [hF]; simp)
        · obtain ⟨rfl, rfl⟩ : b' = B.b ∧ o' = B.o + p * B.sz := hbo.resolve_left hc0
          have hcapsz : p * B.sz + cc * B.sz = B.cap * B.sz := by rw [← Nat.add_mul, hcc]
          have hroom' : m * i.size + news.length ≤ cc * i.size := by rw [hnl, ← Nat.add_mul]; exact Nat.mul_le_mul_right _ hroom
          have hfit : B.o + p * B.sz + m * i.size + news.length ≤ c.size := by rw [hsz] at hroom' ⊢; omega
          have hr := run_app_room (P := P) (ty := o.type) (c := cq) ht hi hb hnl hq' hn1 hroom hfit
          rw [← hv, ← hye] at hr
          generalize hcN : (c.toList.take (B.o + p * B.sz + m * i.size) ++ news ++ c.toList.drop (B.o + p * B.sz + m * i.size + news.length)).toArray = c' at hr
          have hc'size : c'.size = c.size := by rw [← hcN]; simp; omega
          have hh' : (w.setRow B.b c').heap[B.b]? = some (.cells c' et (0, 0)) := setRow_heap w B.b c c' et _ hb
          have hoth : ∀ b, b ≠ B.b → (w.setRow B.b c').heap[b]? = w.heap[b]? := by
            intro b hb
            simp only [World.setRow, Array.getElem?_modify]
            rw [if_neg (fun h => hb h.symm)]
          have hnoO : ∀ b, O b → b ≠ B.b := by
            rintro b hb rfl
            exact (hR.mine _ _ hg B.b (by rw [hF]; simp)).1 hb
          have hw2 : ∀ b, O b → (w.setRow B.b c').heap[b]? = w.heap[b]? := fun b hb => hoth b (hnoO b hb)
          have hk : Keep w [B.b] (w.setRow B.b c') := Keep.row hb hc'size
          have hAm : ∀ x, A x → Aext A n 2 x := fun x h => .inl h
          have hρ : ∀ x, A x → (fun x => if x = n then some (⟨B.b, B.o + p * B.sz, cc, i.size⟩ : RB) else ρ x) x = ρ x := fun x hx => if_neg (fun (h : x = n) => hA (by rw [← h]; exact hx))
          have hR1 := hR.set1 (t := n) (k := .arr i.size ((rows.drop p).take m ++ src)) (Ft := B.b :: Fm) (M := [B.b]) (A' := Aext A n 2) (ρ' := fun x => if x = n then some (⟨B.b, B.o + p * B.sz, cc, i.size⟩ : RB) else ρ x) (w' := w.setRow B.b c') (hp0 := hdel s.hp tk)
            hAm hρ (fun t ht => by rw [if_neg (by have := hf.1; omega)]; exact hR.ρ0 t ht) hw2 hsub ?_ hk ?_ (.inr ⟨Nat.le_refl _, by omega⟩) ?_ ?_ ?_ ?_
          · have h2 := hR1.put hd (v := .ref n 0 (m + src.length)) (u := .slice (some ⟨B.b, B.o + p * B.sz, none⟩) (m + src.length) cc) (by
              simp only [CV]
              exact ⟨.inr ⟨Nat.le_refl _, by omega⟩, .inr ⟨⟨B.b, B.o + p * B.sz, cc, i.size⟩, by simp, B.b, _, cc, rfl, by simp, hroom, .inr ⟨rfl, by simp⟩⟩⟩)
            have h3 : Rel E (Aext A n 2) (s.app o.dst (.ref n 0 (m + src.length)) [(tk, none), (n, some (Blk.arr i.size ((rows.drop p).take m ++ src)))]) (a.put o.dst (.slice (some ⟨B.b, B.o + p * B.sz, none⟩) (m + src.length) cc)) (w.setRow B.b c') := by
              rw [St.app, hδ]
              exact ⟨_, _, _, h2⟩
            exact wp_value (hrun _ _ hr) (hn _ _ _ _ _ hK h3)
          · intro t' k' hne hk' b hbb
            refine hoth b ?_
            rintro rfl
            exact hR.apart _ _ _ _ (hsub _ _ hk') hg (hdelne _ _ hk') _ hbb (by rw [hF]; simp)
          · intro b hbb
            simp only [List.mem_singleton] at hbb
            subst hbb
            exact (hR.mine _ _ hg B.b (by rw [hF]; simp)).2.2
          · simp only [BR]
            refine .inr ⟨⟨B.b, B.o + p * B.sz, cc, i.size⟩, by simp, rfl, ?_, by simp [hkl]; omega, c', et, us ++ news, Fm, hh', ?_, ?_, ?_, rfl⟩
            · intro r hr
              rcases List.mem_append.1 hr with h | h
              · exact hks r h
              · exact (hs r h).1
            · rw [hc'size]; simp only; rw [hsz]; omega
            · refine Dr_append.2 ⟨us, news, Fm, [], rfl, by simp, ?_, ?_⟩
              · refine hdm.cong (fun _ h => h) hw2 hAm hρ (fun b hbb => hoth b ?_)
                rintro rfl
                exact hndt.1 (by simp [hbb])
              · exact hnd.cong (fun _ h => h) hw2 hAm hρ (by simp)
            · intro j u hj
              rw [← hcN]
              simp only [List.getElem?_toArray]
              have hp1 : (c.toList.take (B.o + p * B.sz + m * i.size)).length = B.o + p * B.sz + m * i.size := by simp; omega
              by_cases c1 : j < us.length
              · rw [List.getElem?_append_left c1] at hj
                have := hlie (us1.length + j) u (by
                  rw [List.append_assoc, List.getElem?_append_right (by omega), Nat.add_sub_cancel_left, List.getElem?_append_left c1]; exact hj)
                rw [List.append_assoc, List.getElem?_append_left (by rw [hp1]; omega), List.getElem?_take, if_pos (by omega)]
                rw [l1, hsz] at this
                rw [Array.getElem?_toList, ← this]; congr 1; omega
              · rw [List.getElem?_append_right (by omega)] at hj
                have hjl := getElem?_len hj
                rw [List.append_assoc, List.getElem?_append_right (by rw [hp1]; omega), hp1, List.getElem?_append_left (by omega)]
                rw [← hj]; congr 1; omega
          · exact List.nodup_cons.2 ⟨fun h => hndt.1 (by simp [h]), hFmnd⟩
          · intro b hbb
            have : b ∈ F tk := by
              rw [hF]
              rcases List.mem_cons.1 hbb with rfl | h
              · simp
              · simp [h]
            obtain ⟨g1, g2, g3⟩ := hR.mine _ _ hg b this
            exact ⟨g1, by simpa [World.setRow] using g2, g3⟩
          · intro t' k _ hk b hbb
            have : b ∈ F tk := by
              rw [hF]
              rcases List.mem_cons.1 hbb with rfl | h
              · simp
              · simp [h]
            exact hR.apart _ _ _ _ hg (hsub _ _ hk) (fun h => hdelne _ _ hk h.symm) b this
      · have hle := hkl
        refine grown ((rows.drop p).take m) us Fm (some ⟨b', o', none⟩) cc (hdel s.hp tk) _ (tk :: ts) (by rw [hkl]; exact hv) hks hdm hdd (by rw [hkl]; exact hby) (by rw [hkl]; omega) hsub hFmnd hmi hap' (by rw [hkl]; exact hK) hδ (by simp)
  · exact hK.elim
end
end Go.Proofs.Ytehdfbhfbidadaa.V

/- Each step of the machine of trees is a step of the model: calls. -/
namespace Go.Proofs.Ytehdfbhfbidadaa.V
open Go
set_option linter.unusedVariables false
set_option linter.unusedSimpArgs false
section
variable {P : Program} {E : Env} {A A' : Nat → Prop} {ρ ρ' : Nat → Option RB} {O O' O2 : Nat → Prop} {F F' : Nat → List Nat} {s : St} {a : Act} {w w' : World} {o : Oper} {n : Nat}
  {K' : T → Δ → List Nat → Prop} {next : Act → World → Prop} {Q : Exit → Act → World → Prop}
mutual
theorem K_toI (hO : ∀ b, O b → O2 b) : ∀ {t : T} {v : Value} {F : List Nat}, (∀ b ∈ F, O2 b) → K w O t v F → CI w O2 t.toI v
  | .own sz rows, v, F, hF, h => by
    simp only [K] at h
    simp only [T.toI, CI]
    rcases h with ⟨rfl, ⟨q, rfl⟩, rfl⟩ | ⟨b, q, cap, c, e, cs, F', rfl, hb, hl, hc, hs, rfl, hr, hm⟩
    · exact ⟨q, 0, rfl, Nat.le_refl _, .inl rfl⟩
    · have hlen : ∀ (l : List (List T)), (toIr l).length = l.length := by
        intro l
        induction l with
        | nil => rfl
        | cons x l ih => simp [toIr, ih]
      have hlen2 : ∀ (l : List T), (toIs l).length = l.length := by
        intro l
        induction l with
        | nil => rfl
        | cons x l ih => simp [toIs, ih]
      have hmem : ∀ (l : List (List T)) (r : List T), r ∈ toIr l → ∃ r', r' ∈ l ∧ r = toIs r' := by
        intro l
        induction l with
        | nil => intro r h; simp [toIr] at h
        | cons x l ih =>
          intro r h
          simp only [toIr, List.mem_cons] at h
          rcases h with rfl | h
          · exact ⟨x, by simp, rfl⟩
          · obtain ⟨r', h1, h2⟩ := ih r h
            exact ⟨r', by simp [h1], h2⟩
      refine ⟨_, cap, by rw [hlen], by rw [hlen]; exact hl, .inr ⟨b, q, sz, cs, rfl, hF b (by simp), ?_, Kr_toI hO (fun x hx => hF x (by simp [hx])) hr, Lies.of_block hb hm⟩⟩
      intro r hr
      obtain ⟨r', h1, rfl⟩ := hmem _ _ hr
      rw [hlen2]; exact hs r' h1
  | .bx cs, v, F, hF, h => by
    simp only [K] at h
    simp only [T.toI, CI]
    obtain ⟨b, q, c, e, us, F', rfl, hb, hcs, rfl, hk, hm⟩ := h
    exact ⟨b, q, us, rfl, hF b (by simp), Ks_toI hO (fun x hx => hF x (by simp [hx])) hk, Lies.of_block hb hm⟩
  | .agg cs, v, F, hF, h => by
    simp only [K] at h; simp only [T.toI, CI]
    obtain ⟨us, e, h⟩ := h
    exact ⟨us, e, Ks_toI hO hF h⟩
  | .tup cs, v, F, hF, h => by
    simp only [K] at h; simp only [T.toI, CI]
    obtain ⟨us, e, h⟩ := h
    exact ⟨us, e, Ks_toI hO hF h⟩
  | .un, v, F, hF, h => by simp only [K] at h; simp only [T.toI]; exact h.1.cong hO (fun _ _ => rfl)
  | .dead, v, F, hF, h => by simp only [K] at h; simp only [T.toI]; exact h.1.cong hO (fun _ _ => rfl)
  | .b _, v, F, hF, h => by simp only [K] at h; simp only [T.toI]; exact h.1.cong hO (fun _ _ => rfl)
  | .i _ _, v, F, hF, h => by simp only [K] at h; simp only [T.toI]; exact h.1.cong hO (fun _ _ => rfl)
  | .s _, v, F, hF, h => by simp only [K] at h; simp only [T.toI]; exact h.1.cong hO (fun _ _ => rfl)
  | .nl, v, F, hF, h => by simp only [K] at h; simp only [T.toI]; exact h.1.cong hO (fun _ _ => rfl)
  | .imm _, v, F, hF, h => by simp only [K] at h; simp only [T.toI]; exact h.1.cong hO (fun _ _ => rfl)
  | .ref _ _ _, v, F, hF, h => by simp only [K] at h; simp only [T.toI]; exact h.1.cong hO (fun _ _ => rfl)
  | .np, v, F, hF, h => by simp only [K] at h; simp only [T.toI]; exact h.1.cong hO (fun _ _ => rfl)
  | .ptr _ _ _, v, F, hF, h => by simp only [K] at h; simp only [T.toI]; exact h.1.cong hO (fun _ _ => rfl)
  | .pim _, v, F, hF, h => by simp only [K] at h; simp only [T.toI]; exact h.1.cong hO (fun _ _ => rfl)
  | .fn _ _, v, F, hF, h => by simp only [K] at h; simp only [T.toI]; exact h.1.cong hO (fun _ _ => rfl)
  | .nif, v, F, hF, h => by simp only [K] at h; simp only [T.toI]; exact h.1.cong hO (fun _ _ => rfl)
  | .nfn, v, F, hF, h => by simp only [K] at h; simp only [T.toI]; exact h.1.cong hO (fun _ _ => rfl)
  | .ifc _ _, v, F, hF, h => by simp only [K] at h; simp only [T.toI]; exact h.1.cong hO (fun _ _ => rfl)
  | .nmp, v, F, hF, h => by simp only [K] at h; simp only [T.toI]; exact h.1.cong hO (fun _ _ => rfl)
  | .mp _, v, F, hF, h => by simp only [K] at h; simp only [T.toI]; exact h.1.cong hO (fun _ _ => rfl)
theorem Ks_toI (hO : ∀ b, O b → O2 b) : ∀ {ts : List T} {vs : List Value} {F : List Nat}, (∀ b ∈ F, O2 b) → Ks w O ts vs F → CIs w O2 (toIs ts) vs
  | [], vs, F, hF, h => by simp only [Ks] at h; simp [toIs, CIs, h.1]
  | t :: ts, vs, F, hF, h => by
    simp only [Ks] at h; simp only [toIs, CIs]
    obtain ⟨v, r, F1, F2, e, rfl, h1, h2⟩ := h
    exact ⟨v, r, e, K_toI hO (fun x hx => hF x (by simp [hx])) h1, Ks_toI hO (fun x hx => hF x (by simp [hx])) h2⟩
theorem Kr_toI (hO : ∀ b, O b → O2 b) : ∀ {rs : List (List T)} {vs : List Value} {F : List Nat}, (∀ b ∈ F, O2 b) → Kr w O rs vs F → CIr w O2 (toIr rs) vs
  | [], vs, F, hF, h => by simp only [Kr] at h; simp [toIr, CIr, h.1]
  | r :: rs, vs, F, hF, h => by
    simp only [Kr] at h; simp only [toIr, CIr]
    obtain ⟨v1, v2, F1, F2, e, rfl, h1, h2⟩ := h
    exact ⟨v1, v2, e, Ks_toI hO (fun x hx => hF x (by simp [hx])) h1, Kr_toI hO (fun x hx => hF x (by simp [hx])) h2⟩
end
mutual
theorem K_noImm : ∀ {t : T} {v : Value} {F : List Nat}, t.noImm = true → K w O t v F → K w O2 t v F
  | .own sz rows, v, F, hn, h => by
    simp only [T.noImm] at hn
    simp only [K] at h ⊢
    refine h.imp id ?_
    rintro ⟨b, o, cap, c, e, cs, F', ev, hb, h1, h2, h3, rfl, hr, hm⟩
    exact ⟨b, o, cap, c, e, cs, F', ev, hb, h1, h2, h3, rfl, Kr_noImm hn hr, hm⟩
  | .bx cs, v, F, hn, h => by
    simp only [T.noImm] at hn
    simp only [K] at h ⊢
    obtain ⟨b, q, c, e, us, F', rfl, hb, hcs, rfl, hk, hm⟩ := h
    exact ⟨b, q, c, e, us, F', rfl, hb, hcs, rfl, Ks_noImm hn hk, hm⟩
  | .agg cs, v, F, hn, h => by
    simp only [T.noImm] at hn
    simp only [K] at h ⊢
    obtain ⟨us, e, h⟩ := h
    exact ⟨us, e, Ks_noImm hn h⟩
  | .tup cs, v, F, hn, h => by
    simp only [T.noImm] at hn
    simp only [K] at h ⊢
    obtain ⟨us, e, h⟩ := h
    exact ⟨us, e, Ks_noImm hn h⟩
  | .un, v, F, hn, h => by simpa only [K, CI] using h
  | .dead, v, F, hn, h => by simpa only [K, CI] using h
  | .b _, v, F, hn, h => by simpa only [K, CI] using h
  | .i _ _, v, F, hn, h => by simpa only [K, CI] using h
  | .s _, v, F, hn, h => by simpa only [K, CI] using h
  | .nl, v, F, hn, h => by simpa only [K, CI] using h
  | .imm _, v, F, hn, h => by simp [T.noImm] at hn
  | .ref _ _ _, v, F, hn, h => by simpa only [K, CI] using h
  | .np, v, F, hn, h => by simpa only [K, CI] using h
  | .ptr _ _ _, v, F, hn, h => by simpa only [K, CI] using h
  | .pim _, v, F, hn, h => by simp [T.noImm] at hn
  | .fn _ cs, v, F, hn, h => by
    simp only [T.noImm] at hn
    simp only [K, CI] at h ⊢
    obtain ⟨⟨us, e, h⟩, e'⟩ := h
    exact ⟨⟨us, e, CIs_noImm hn h⟩, e'⟩
  | .nif, v, F, hn, h => by simpa only [K, CI] using h
  | .nfn, v, F, hn, h => by simpa only [K, CI] using h
  | .ifc _ x, v, F, hn, h => by
    simp only [T.noImm] at hn
    simp only [K, CI] at h ⊢
    obtain ⟨⟨us, e, h⟩, e'⟩ := h
    exact ⟨⟨us, e, CI_noImm hn h⟩, e'⟩
  | .nmp, v, F, hn, h => by simpa only [K, CI] using h
  | .mp _, v, F, hn, h => by simpa only [K, CI] using h
theorem Ks_noImm : ∀ {ts : List T} {vs : List Value} {F : List Nat}, noIms ts = true → Ks w O ts vs F → Ks w O2 ts vs F
  | [], vs, F, hn, h => by simpa only [Ks] using h
  | t :: ts, vs, F, hn, h => by
    simp only [noIms, Bool.and_eq_true] at hn
    simp only [Ks] at h ⊢
    obtain ⟨v, r, F1, F2, e, e', h1, h2⟩ := h
    exact ⟨v, r, F1, F2, e, e', K_noImm hn.1 h1, Ks_noImm hn.2 h2⟩
theorem Kr_noImm : ∀ {rs : List (List T)} {vs : List Value} {F : List Nat}, noImr rs = true → Kr w O rs vs F → Kr w O2 rs vs F
  | [], vs, F, hn, h => by simpa only [Kr] using h
  | t :: ts, vs, F, hn, h => by
    simp only [noImr, Bool.and_eq_true] at hn
    simp only [Kr] at h ⊢
    obtain ⟨v, r, F1, F2, e, e', h1, h2⟩ := h
    exact ⟨v, r, F1, F2, e, e', Ks_noImm hn.1 h1, Kr_noImm hn.2 h2⟩
theorem CI_noImm : ∀ {t : T} {v : Value}, t.noImm = true → CI w O t v → CI w O2 t v
  | .own sz rows, v, hn, h => by simp only [CI] at h
  | .bx cs, v, hn, h => by simp only [CI] at h
  | .agg cs, v, hn, h => by
    simp only [T.noImm] at hn
    simp only [CI] at h ⊢
    obtain ⟨us, e, h⟩ := h
    exact ⟨us, e, CIs_noImm hn h⟩
  | .tup cs, v, hn, h => by
    simp only [T.noImm] at hn
    simp only [CI] at h ⊢
    obtain ⟨us, e, h⟩ := h
    exact ⟨us, e, CIs_noImm hn h⟩
  | .un, v, hn, h => by simpa only [CI] using h
  | .dead, v, hn, h => by simp only [CI]
  | .b _, v, hn, h => by simpa only [CI] using h
  | .i _ _, v, hn, h => by simpa only [CI] using h
  | .s _, v, hn, h => by simpa only [CI] using h
  | .nl, v, hn, h => by simpa only [CI] using h
  | .imm _, v, hn, h => by simp [T.noImm] at hn
  | .ref _ _ _, v, hn, h => by simp only [CI] at h
  | .np, v, hn, h => by simpa only [CI] using h
  | .ptr _ _ _, v, hn, h => by simp only [CI] at h
  | .pim _, v, hn, h => by simp [T.noImm] at hn
  | .fn _ cs, v, hn, h => by
    simp only [T.noImm] at hn
    simp only [CI] at h ⊢
    obtain ⟨us, e, h⟩ := h
    exact ⟨us, e, CIs_noImm hn h⟩
  | .nif, v, hn, h => by simpa only [CI] using h
  | .nfn, v, hn, h => by simpa only [CI] using h
  | .ifc _ x, v, hn, h => by
    simp only [T.noImm] at hn
    simp only [CI] at h ⊢
    obtain ⟨us, e, h⟩ := h
    exact ⟨us, e, CI_noImm hn h⟩
  | .nmp, v, hn, h => by simpa only [CI] using h
  | .mp _, v, hn, h => by simp only [CI] at h
theorem CIs_noImm : ∀ {ts : List T} {vs : List Value}, noIms ts = true → CIs w O ts vs → CIs w O2 ts vs
  | [], vs, hn, h => by simpa only [CIs] using h
  | t :: ts, vs, hn, h => by
    simp only [noIms, Bool.and_eq_true] at hn
    simp only [CIs] at h ⊢
    obtain ⟨v, r, e, h1, h2⟩ := h
    exact ⟨v, r, e, CI_noImm hn.1 h1, CIs_noImm hn.2 h2⟩
end
theorem toI_clean {t : T} {v : Value} (h : CV w O ρ A t v) (hc : t.clean = true) : CI w O t.toI v := by
  cases t <;> simp only [T.clean, Bool.false_eq_true] at hc <;> simp only [CV] at h <;> first
    | exact h
    | (simp only [CI] at h)
theorem D_toI (hO : ∀ b, O b → O2 b) {t : T} {v : Value} {G : List Nat} (hF : ∀ b ∈ G, O2 b) (h : D w O ρ A t v G) (hc : t.clean = true) : CI w O2 t.toI v := by
  rcases h with h | ⟨h, _⟩
  · exact K_toI hO hF h
  · exact (toI_clean h hc).cong hO (fun _ _ => rfl)
theorem Ds_toI (hO : ∀ b, O b → O2 b) : ∀ {ts : List T} {vs : List Value} {G : List Nat}, (∀ b ∈ G, O2 b) → Ds w O ρ A ts vs G → (ts.all T.clean) = true → CIs w O2 (toIs ts) vs
  | [], vs, G, hF, h, hc => by simp only [Ds] at h; simp [toIs, CIs, h.1]
  | t :: ts, vs, G, hF, h, hc => by
    simp only [List.all_cons, Bool.and_eq_true] at hc
    simp only [Ds] at h; simp only [toIs, CIs]
    obtain ⟨v, r, F1, F2, e, rfl, h1, h2⟩ := h
    exact ⟨v, r, e, D_toI hO (fun x hx => hF x (by simp [hx])) h1 hc.1, Ds_toI hO (fun x hx => hF x (by simp [hx])) h2 hc.2⟩
theorem Dr_toI (hO : ∀ b, O b → O2 b) : ∀ {rs : List (List T)} {vs : List Value} {G : List Nat}, (∀ b ∈ G, O2 b) → Dr w O ρ A rs vs G → cleanR rs = true → CIr w O2 (toIr rs) vs
  | [], vs, G, hF, h, hc => by simp only [Dr] at h; simp [toIr, CIr, h.1]
  | r :: rs, vs, G, hF, h, hc => by
    simp only [cleanR, List.all_cons, Bool.and_eq_true] at hc
    simp only [Dr] at h; simp only [toIr, CIr]
    obtain ⟨v1, v2, F1, F2, e, rfl, h1, h2⟩ := h
    exact ⟨v1, v2, e, Ds_toI hO (fun x hx => hF x (by simp [hx])) h1 hc.1, Dr_toI hO (fun x hx => hF x (by simp [hx])) h2 hc.2⟩
theorem D_K {t : T} {v : Value} {G : List Nat} (h : D w O ρ A t v G) (hc : t.clean = true) : K w O t v G := by
  rcases h with h | ⟨h, rfl⟩
  · exact h
  · cases t <;> simp only [T.clean, Bool.false_eq_true] at hc <;> simp only [CV] at h <;> simp only [K] <;> first
      | exact ⟨h, trivial⟩
      | (simp only [CI] at h)
theorem Ds_K : ∀ {ts : List T} {vs : List Value} {G : List Nat}, Ds w O ρ A ts vs G → (ts.all T.clean) = true → Ks w O ts vs G
  | [], vs, G, h, hc => by simpa only [Ds, Ks] using h
  | t :: ts, vs, G, h, hc => by
    simp only [List.all_cons, Bool.and_eq_true] at hc
    simp only [Ds] at h; simp only [Ks]
    obtain ⟨v, r, F1, F2, e, e', h1, h2⟩ := h
    exact ⟨v, r, F1, F2, e, e', D_K h1 hc.1, Ds_K h2 hc.2⟩
theorem Dr_K : ∀ {rs : List (List T)} {vs : List Value} {G : List Nat}, Dr w O ρ A rs vs G → cleanR rs = true → Kr w O rs vs G
  | [], vs, G, h, hc => by simpa only [Dr, Kr] using h
  | r :: rs, vs, G, h, hc => by
    simp only [cleanR, List.all_cons, Bool.and_eq_true] at hc
    simp only [Dr] at h; simp only [Kr]
    obtain ⟨v1, v2, F1, F2, e, e', h1, h2⟩ := h
    exact ⟨v1, v2, F1, F2, e, e', Ds_K h1 hc.1, Dr_K h2 hc.2⟩
end
end Go.Proofs.Ytehdfbhfbidadaa.V
