/- Blocks that come, go, and are written. -/
import Derived.Test.YtcchmhmbjhgfdaaVg
namespace Go.Proofs.Ytcchmhmbjhgfdaa.V
open Go
set_option linter.unusedVariables false
set_option linter.unusedSimpArgs false
section
variable {P : Program} {E : Env} {A A' : Nat → Prop} {ρ ρ' : Nat → Option RB} {O O' : Nat → Prop} {F F' : Nat → List Nat} {s : St} {a : Act} {w w' : World} {o : Oper} {n : Nat}
/-- One block is new, or written; others may go. -/
theorem R.set1 (h : R E A ρ O F s a w) {t : Nat} {k : Blk} {Ft M : List Nat} {hp0 : List (Nat × Blk)} (hA : ∀ t, A t → A' t) (hρ : ∀ t, A t → ρ' t = ρ t) (hfb : ∀ t, t < E.fb → ρ' t = E.ρ0 t)
    (hw : ∀ b, O b → w'.heap[b]? = w.heap[b]?) (hs : ∀ t' k, hget hp0 t' = some k → hget s.hp t' = some k) (hF : ∀ t' k, t' ≠ t → hget hp0 t' = some k → ∀ b ∈ F t', w'.heap[b]? = w.heap[b]?)
    (hk : Keep w M w') (hM : ∀ b ∈ M, E.w0.heap.size ≤ b ∨ b ∈ E.mine) (ht : A' t) (hbr : BR w' O ρ' A' t k Ft) (hnd : Ft.Nodup)
    (hm : ∀ b ∈ Ft, ¬ O b ∧ b < w'.heap.size ∧ (E.w0.heap.size ≤ b ∨ b ∈ E.mine)) (hap : ∀ t' k, t' ≠ t → hget hp0 t' = some k → ∀ b ∈ Ft, b ∉ F t') :
    R E A' ρ' O (fun x => if x = t then Ft else F x) { s with hp := hset hp0 t k } a w' := by
  refine ⟨h.size, h.defers, h.fb, hfb, h.O0, fun b hb => Nat.lt_of_lt_of_le (h.Olt b hb) hk.size, h.Onew, fun j => (h.tm j).cong (fun _ h => h) hw hA hρ, ?_, ?_, ?_, ?_, ?_⟩
  · intro t' k' h'
    simp only [hget_hset] at h'
    split at h'
    · rename_i e; subst e
      obtain rfl := Option.some.inj h'
      simp only [if_true]
      exact ⟨ht, hbr⟩
    · rename_i e
      have e' : t' ≠ t := fun h => e h.symm
      rw [if_neg e']
      have := h.hp t' k' (hs _ _ h')
      exact ⟨hA _ this.1, this.2.cong (fun _ h => h) hw hA hρ this.1 (hF _ _ e' h')⟩
  · intro t' k' h'
    simp only [hget_hset] at h'
    split at h'
    · rename_i e; subst e; simp only [if_true]; exact hnd
    · rename_i e
      rw [if_neg (fun h => e h.symm)]
      exact h.nodup _ _ (hs _ _ h')
  · intro t1 k1 t2 k2 h1 h2 hne b hb
    simp only [hget_hset] at h1 h2
    by_cases e1 : t = t1
    · subst e1
      simp only [if_true] at hb
      rw [if_neg (fun h => hne h)] at h2
      rw [if_neg (fun h => hne h.symm)]
      exact hap _ _ (fun h => hne h.symm) h2 b hb
    · rw [if_neg e1] at h1
      rw [if_neg (fun h => e1 h.symm)] at hb
      by_cases e2 : t = t2
      · subst e2
        simp only [if_true]
        intro hb2
        exact hap _ _ (fun h => e1 h.symm) h1 b hb2 hb
      · rw [if_neg e2] at h2
        rw [if_neg (fun h => e2 h.symm)]
        exact h.apart _ _ _ _ (hs _ _ h1) (hs _ _ h2) hne b hb
  · intro t' k' h' b hb
    simp only [hget_hset] at h'
    split at h'
    · rename_i e; subst e; simp only [if_true] at hb; exact hm b hb
    · rename_i e
      rw [if_neg (fun h => e h.symm)] at hb
      obtain ⟨h1, h2, h3⟩ := h.mine _ _ (hs _ _ h') b hb
      exact ⟨h1, Nat.lt_of_lt_of_le h2 hk.size, h3⟩
  · exact h.keep.trans hk (fun b hb hlt => (hM b hb).elim (fun h => by omega) id)
/-- Blocks that go are forgotten. -/
theorem R.hpsub (h : R E A ρ O F s a w) {hp0 : List (Nat × Blk)} (hs : ∀ t' k, hget hp0 t' = some k → hget s.hp t' = some k) : R E A ρ O F { s with hp := hp0 } a w :=
  ⟨h.size, h.defers, h.fb, h.ρ0, h.O0, h.Olt, h.Onew, h.tm, fun t k hk => h.hp t k (hs t k hk), fun t k hk => h.nodup t k (hs t k hk), fun t k t' k' h1 h2 => h.apart t k t' k' (hs _ _ h1) (hs _ _ h2), fun t k hk => h.mine t k (hs t k hk), h.keep⟩
theorem hget_hdel_sub {l : List (Nat × Blk)} {t t' : Nat} {k : Blk} (h : hget (hdel l t) t' = some k) : hget l t' = some k := by
  rw [hget_hdel] at h
  split at h
  · exact absurd h (by simp)
  · exact h
theorem heap_push_old {b : Nat} {ob : Obj} (h : b < w.heap.size) : (w.alloc ob).heap[b]? = w.heap[b]? := Go.RowKit.Below.heap_alloc _ _ _ h
theorem Keep.alloc (w : World) (ob : Obj) : Keep w [] (w.alloc ob) := Keep.grown rfl rfl rfl (by simp) (fun k hk => heap_push_old hk)
/-- Cells that stand in slots stand in a block without more. -/
theorem Ds_of_CVs : ∀ {ts : List T} {vs : List Value}, CVs w O ρ A ts vs → (ts.all T.cell) = true → Ds w O ρ A ts vs []
  | [], vs, h, hc => by simp only [CVs] at h; simp [Ds, h]
  | t :: ts, vs, h, hc => by
    simp only [CVs] at h; simp only [Ds]
    simp only [List.all_cons, Bool.and_eq_true] at hc
    obtain ⟨v, r, e, h1, h2⟩ := h
    exact ⟨v, r, [], [], e, rfl, .inr ⟨h1, rfl⟩, Ds_of_CVs h2 hc.2⟩
theorem Ds_of_CVs' : ∀ {ts : List T} {vs : List Value}, CVs w O ρ A ts vs → Ds w O ρ A ts vs []
  | [], vs, h => by simp only [CVs] at h; simp [Ds, h]
  | t :: ts, vs, h => by
    simp only [CVs] at h; simp only [Ds]
    obtain ⟨v, r, e, h1, h2⟩ := h
    exact ⟨v, r, [], [], e, rfl, .inr ⟨h1, rfl⟩, Ds_of_CVs' h2⟩
/-- One value of one cell is a cell. -/
theorem oneCell_of_CV {t : T} {v : Value} (h : CV w O ρ A t v) (hc : t.cell = true) : v.oneCell' = true := by
  cases t <;> simp only [T.cell, Bool.false_eq_true] at hc <;> simp only [CV, CI] at h
  case ref => obtain ⟨_, ⟨_, _, _, _, rfl⟩ | ⟨_, _, _, _, _, rfl, _⟩⟩ := h <;> rfl
  case ptr => obtain ⟨_, _, _, rfl⟩ := h; rfl
  case mp => obtain ⟨_, _, _, rfl⟩ := h; rfl
  case imm => obtain ⟨_, _, rfl, _⟩ := h; rfl
  case pim => obtain ⟨_, _, _, rfl, _⟩ := h; rfl
  case fn => obtain ⟨_, rfl, _⟩ := h; rfl
  case ifc => obtain ⟨_, rfl, _⟩ := h; rfl
  all_goals (subst h; rfl)
theorem CVs_cells {x : T} {v : Value} (h : CV w O ρ A x v) (hc : (x.cells.all T.cell) = true) : CVs w O ρ A x.cells v.cells.toList ∧ (∀ u ∈ v.cells.toList, u.oneCell' = true) ∧ v.cells.size = x.cells.length := by
  have one : ∀ {ts : List T} {vs : List Value}, CVs w O ρ A ts vs → (ts.all T.cell) = true → ∀ u ∈ vs, u.oneCell' = true := by
    intro ts
    induction ts with
    | nil => intro vs h; simp only [CVs] at h; simp [h]
    | cons t ts ih =>
      intro vs h hc
      simp only [CVs] at h
      simp only [List.all_cons, Bool.and_eq_true] at hc
      obtain ⟨u, r, rfl, h1, h2⟩ := h
      intro x hx
      rcases List.mem_cons.1 hx with rfl | hx
      · exact oneCell_of_CV h1 hc.1
      · exact ih h2 hc.2 x hx
  have gen : ∀ (ts : List T) (us : List Value), CVs w O ρ A ts us → x.cells = ts → v.cells.toList = us → CVs w O ρ A x.cells v.cells.toList ∧ (∀ u ∈ v.cells.toList, u.oneCell' = true) ∧ v.cells.size = x.cells.length := by
    intro ts us h e1 e2
    rw [e1, e2]
    rw [e1] at hc
    refine ⟨h, one h hc, ?_⟩
    have := h.len
    rw [← e2] at this
    simpa using this
  by_cases hx : ∃ cs, x = .agg cs
  · obtain ⟨cs, rfl⟩ := hx
    simp only [CV] at h
    obtain ⟨us, rfl, h⟩ := h
    exact gen cs us h rfl rfl
  · have e : x.cells = [x] := by cases x <;> first | rfl | exact absurd ⟨_, rfl⟩ hx
    have hone : v.oneCell' = true := oneCell_of_CV h (by rw [e] at hc; simpa using hc)
    have e' : v.cells = #[v] := by cases v <;> first | rfl | (simp [Value.oneCell'] at hone)
    refine gen [x] [v] ?_ e (by rw [e'])
    simp only [CVs]; exact ⟨v, [], rfl, h, rfl⟩
/-- A new block of rows without anything owned. -/
theorem R.new (h : R E A ρ O F s a w) {n : Nat} (hn : ¬ A n) (hfb : E.fb ≤ n) {sz cap : Nat} {rows : List (List T)} {us : List Value} {c : Array Value} {e : TypeId} (hs : ∀ r ∈ rows, r.length = sz) (hcap : rows.length ≤ cap) (hc : cap * sz ≤ c.size)
    (hr : Dr w O ρ A rows us []) (hl : ∀ (j : Nat) (u : Value), us[j]? = some u → c[j]? = some u) :
    R E (Aext A n 1) (fun x => if x = n then some ⟨w.heap.size, 0, cap, sz⟩ else ρ x) O (fun x => if x = n then [w.heap.size] else F x) { s with hp := hset s.hp n (.arr sz rows) } a (w.alloc (.cells c e)) := by
  have hA : ∀ t, A t → Aext A n 1 t := fun t h => .inl h
  have hρ : ∀ t, A t → (fun x => if x = n then some (⟨w.heap.size, 0, cap, sz⟩ : RB) else ρ x) t = ρ t := fun t ht => if_neg (fun (h : t = n) => hn (by rw [← h]; exact ht))
  have hw : ∀ b, O b → (w.alloc (.cells c e)).heap[b]? = w.heap[b]? := fun b hb => heap_push_old (h.Olt b hb)
  refine h.set1 (M := []) hA hρ (fun t ht => by rw [if_neg (by omega)]; exact h.ρ0 t ht) hw (fun _ _ h => h) (fun t' k _ hk b hb => heap_push_old (h.mine t' k hk b hb).2.1) (Keep.alloc _ _) (by simp) (.inr ⟨Nat.le_refl _, by omega⟩) ?_ (by simp) ?_ ?_
  · simp only [BR]
    refine .inr ⟨⟨w.heap.size, 0, cap, sz⟩, by simp, rfl, hs, hcap, c, e, us, [], ?_, by simpa using hc, hr.cong (fun _ h => h) hw hA hρ (by simp), by simpa using hl, rfl⟩
    show (w.heap.push _)[w.heap.size]? = _
    simp
  · intro b hb
    simp only [List.mem_singleton] at hb
    subst hb
    refine ⟨fun ho => ?_, by simp, .inl h.keep.size⟩
    have := h.Olt _ ho; omega
  · intro t' k _ hk b hb hb'
    simp only [List.mem_singleton] at hb
    subst hb
    have := (h.mine t' k hk _ hb').2.1
    omega
mutual
theorem mat_CV : ∀ {t : T} {v : Value} {n : Nat}, CV w O ρ A t v → mat t n = (t, [])
  | .own sz rows, v, n, h => by simp only [CV, CI] at h
  | .bx cs, v, n, h => by simp only [CV, CI] at h
  | .agg cs, v, n, h => by
    simp only [CV] at h
    obtain ⟨us, _, h⟩ := h
    simp only [mat, mats_CV h]
  | .tup cs, v, n, h => by
    simp only [CV] at h
    obtain ⟨us, _, h⟩ := h
    simp only [mat, mats_CV h]
  | .un, v, n, h => by simp only [mat]
  | .dead, v, n, h => by simp only [mat]
  | .b _, v, n, h => by simp only [mat]
  | .i _ _, v, n, h => by simp only [mat]
  | .s _, v, n, h => by simp only [mat]
  | .nl, v, n, h => by simp only [mat]
  | .imm _, v, n, h => by simp only [mat]
  | .ref _ _ _, v, n, h => by simp only [mat]
  | .np, v, n, h => by simp only [mat]
  | .ptr _ _ _, v, n, h => by simp only [mat]
  | .pim _, v, n, h => by simp only [mat]
  | .fn _ _, v, n, h => by simp only [mat]
  | .nif, v, n, h => by simp only [mat]
  | .nfn, v, n, h => by simp only [mat]
  | .ifc _ _, v, n, h => by simp only [mat]
  | .nmp, v, n, h => by simp only [mat]
  | .mp _, v, n, h => by simp only [mat]
theorem mats_CV : ∀ {ts : List T} {vs : List Value} {n : Nat}, CVs w O ρ A ts vs → mats ts n = (ts, [])
  | [], vs, n, h => by simp only [mats]
  | t :: ts, vs, n, h => by
    simp only [CVs] at h
    obtain ⟨v, r, _, h1, h2⟩ := h
    simp only [mats, mat_CV h1, List.length_nil, Nat.add_zero, mats_CV h2, List.append_nil]
end
/-- Blocks under names from 'n' on. -/
def BL (w : World) (O : Nat → Prop) (ρ : Nat → Option RB) (A : Nat → Prop) : Nat → List (Nat × Blk) → List Nat → Prop
  | n, [], F => F = []
  | n, (t, k) :: l, F => t = n ∧ ∃ F1 F2, F = F1 ++ F2 ∧ BR w O ρ A n k F1 ∧ BL w O ρ A (n + 1) l F2
theorem BL.cong (hO : ∀ b, O b → O' b) (hw : ∀ b, O b → w'.heap[b]? = w.heap[b]?) (hA : ∀ t, A t → A' t) (hρ : ∀ t, A t → ρ' t = ρ t) : ∀ {l : List (Nat × Blk)} {n : Nat} {F : List Nat}, (∀ b ∈ F, w'.heap[b]? = w.heap[b]?) → (∀ x, n ≤ x → x < n + l.length → A x) → BL w O ρ A n l F → BL w' O' ρ' A' n l F
  | [], n, F, hF, hn, h => by simpa only [BL] using h
  | (t, k) :: l, n, F, hF, hn, h => by
    simp only [BL] at h ⊢
    obtain ⟨rfl, F1, F2, rfl, h1, h2⟩ := h
    exact ⟨rfl, F1, F2, rfl, h1.cong hO hw hA hρ (hn _ (Nat.le_refl _) (by simp)) (fun b hb => hF b (by simp [hb])), BL.cong hO hw hA hρ (fun b hb => hF b (by simp [hb])) (fun x h1 h2 => hn x (by omega) (by simp; omega)) h2⟩
theorem BL.append : ∀ {l l' : List (Nat × Blk)} {n : Nat} {F F' : List Nat}, BL w O ρ A n l F → BL w O ρ A (n + l.length) l' F' → BL w O ρ A n (l ++ l') (F ++ F')
  | [], l', n, F, F', h, h' => by simp only [BL] at h; subst h; simpa using h'
  | (t, k) :: l, l', n, F, F', h, h' => by
    simp only [BL, List.cons_append] at h ⊢
    obtain ⟨rfl, F1, F2, rfl, h1, h2⟩ := h
    exact ⟨rfl, F1, F2 ++ F', by simp, h1, BL.append h2 (by rw [show t + 1 + l.length = t + (l.length + 1) by omega]; exact h')⟩
theorem Ds_of_Ks : ∀ {ts : List T} {vs : List Value} {F : List Nat}, Ks w O ts vs F → Ds w O ρ A ts vs F
  | [], vs, F, h => by simpa only [Ds, Ks] using h
  | t :: ts, vs, F, h => by
    simp only [Ks] at h; simp only [Ds]
    obtain ⟨v, r, F1, F2, e, e', h1, h2⟩ := h
    exact ⟨v, r, F1, F2, e, e', .inl h1, Ds_of_Ks h2⟩
theorem Dr_of_Kr : ∀ {ts : List (List T)} {vs : List Value} {F : List Nat}, Kr w O ts vs F → Dr w O ρ A ts vs F
  | [], vs, F, h => by simpa only [Dr, Kr] using h
  | t :: ts, vs, F, h => by
    simp only [Kr] at h; simp only [Dr]
    obtain ⟨v, r, F1, F2, e, e', h1, h2⟩ := h
    exact ⟨v, r, F1, F2, e, e', Ds_of_Ks h1, Dr_of_Kr h2⟩
mutual
theorem mat_K : ∀ {t : T} {v : Value} {F : List Nat} (n : Nat) (ρ : Nat → Option RB) (A : Nat → Prop), K w O t v F → (∀ x, n ≤ x → x < n + (mat t n).2.length → ¬ A x) →
    ∃ ρ', (∀ x, (x < n ∨ n + (mat t n).2.length ≤ x) → ρ' x = ρ x) ∧ CV w O ρ' (Aext A n (mat t n).2.length) (mat t n).1 v ∧ BL w O ρ' (Aext A n (mat t n).2.length) n (mat t n).2 F
  | .own sz rows, v, F, n, ρ, A, h, hn => by
    simp only [K] at h
    simp only [mat, List.length_singleton] at hn ⊢
    have hA : ¬ A n := hn n (Nat.le_refl _) (by omega)
    have hAn : Aext A n 1 n := .inr ⟨Nat.le_refl _, by omega⟩
    rcases h with ⟨rfl, ⟨q, rfl⟩, rfl⟩ | ⟨b, q, cap, c, e, cs, F', rfl, hb, hl, hc, hs, rfl, hr, hm⟩
    · refine ⟨fun x => if x = n then none else ρ x, fun x hx => if_neg (show ¬ x = n by omega), ?_, ?_⟩
      · simp only [CV]
        exact ⟨hAn, .inl ⟨by simp, trivial, rfl, q, rfl⟩⟩
      · simp only [BL, BR]
        exact ⟨trivial, [], [], rfl, .inl ⟨trivial, rfl, .inl (by simp)⟩, rfl⟩
    · refine ⟨fun x => if x = n then some ⟨b, q, cap, sz⟩ else ρ x, fun x hx => if_neg (show ¬ x = n by omega), ?_, ?_⟩
      · simp only [CV]
        exact ⟨hAn, .inr ⟨⟨b, q, cap, sz⟩, by simp, b, q, cap, rfl, by simp, hl, .inr ⟨rfl, by simp⟩⟩⟩
      · simp only [BL, BR]
        refine ⟨trivial, b :: F', [], by simp, .inr ⟨⟨b, q, cap, sz⟩, by simp, rfl, hs, hl, c, e, cs, F', hb, hc, Dr_of_Kr hr, hm, rfl⟩, rfl⟩
  | .bx cs, v, F, n, ρ, A, h, hn => by
    simp only [K] at h
    simp only [mat, List.length_singleton] at hn ⊢
    have hA : ¬ A n := hn n (Nat.le_refl _) (by omega)
    have hAn : Aext A n 1 n := .inr ⟨Nat.le_refl _, by omega⟩
    obtain ⟨b, q, c, e, us, F', rfl, hb, hcs, rfl, hk, hm⟩ := h
    refine ⟨fun x => if x = n then some ⟨b, q, 1, cs.length⟩ else ρ x, fun x hx => if_neg (show ¬ x = n by omega), ?_, ?_⟩
    · simp only [CV]
      exact ⟨hAn, ⟨b, q, 1, cs.length⟩, by simp, by simp⟩
    · simp only [BL, BR]
      refine ⟨trivial, b :: F', [], by simp, .inr ⟨⟨b, q, 1, cs.length⟩, by simp, rfl, by simp, by simp, c, e, us, F', hb, by simpa using hcs, ?_, hm, rfl⟩, rfl⟩
      simp only [Dr]
      exact ⟨us, [], F', [], by simp, by simp, Ds_of_Ks hk, rfl, rfl⟩
  | .agg cs, v, F, n, ρ, A, h, hn => by
    simp only [K] at h
    simp only [mat] at hn ⊢
    obtain ⟨us, rfl, h⟩ := h
    obtain ⟨ρ', h1, h2, h3⟩ := mats_K n ρ A h hn
    exact ⟨ρ', h1, by simp only [CV]; exact ⟨us, rfl, h2⟩, h3⟩
  | .tup cs, v, F, n, ρ, A, h, hn => by
    simp only [K] at h
    simp only [mat] at hn ⊢
    obtain ⟨us, rfl, h⟩ := h
    obtain ⟨ρ', h1, h2, h3⟩ := mats_K n ρ A h hn
    exact ⟨ρ', h1, by simp only [CV]; exact ⟨us, rfl, h2⟩, h3⟩
  | .fn f cs, v, F, n, ρ, A, h, hn => by simp only [K] at h; simp only [mat, BL]; exact ⟨ρ, fun _ _ => rfl, CV.ofCI h.1, h.2⟩
  | .un, v, F, n, ρ, A, h, hn => by simp only [K] at h; simp only [mat, BL]; exact ⟨ρ, fun _ _ => rfl, (by simp only [CV]; exact h.1), h.2⟩
  | .dead, v, F, n, ρ, A, h, hn => by simp only [K] at h; simp only [mat, BL]; exact ⟨ρ, fun _ _ => rfl, (by simp only [CV]; exact h.1), h.2⟩
  | .b _, v, F, n, ρ, A, h, hn => by simp only [K] at h; simp only [mat, BL]; exact ⟨ρ, fun _ _ => rfl, (by simp only [CV]; exact h.1), h.2⟩
  | .i _ _, v, F, n, ρ, A, h, hn => by simp only [K] at h; simp only [mat, BL]; exact ⟨ρ, fun _ _ => rfl, (by simp only [CV]; exact h.1), h.2⟩
  | .s _, v, F, n, ρ, A, h, hn => by simp only [K] at h; simp only [mat, BL]; exact ⟨ρ, fun _ _ => rfl, (by simp only [CV]; exact h.1), h.2⟩
  | .nl, v, F, n, ρ, A, h, hn => by simp only [K] at h; simp only [mat, BL]; exact ⟨ρ, fun _ _ => rfl, (by simp only [CV]; exact h.1), h.2⟩
  | .imm _, v, F, n, ρ, A, h, hn => by simp only [K] at h; simp only [mat, BL]; exact ⟨ρ, fun _ _ => rfl, (by simp only [CV]; exact h.1), h.2⟩
  | .ref _ _ _, v, F, n, ρ, A, h, hn => by simp only [K, CI] at h; exact h.1.elim
  | .np, v, F, n, ρ, A, h, hn => by simp only [K] at h; simp only [mat, BL]; exact ⟨ρ, fun _ _ => rfl, (by simp only [CV]; exact h.1), h.2⟩
  | .ptr _ _ _, v, F, n, ρ, A, h, hn => by simp only [K, CI] at h; exact h.1.elim
  | .pim _, v, F, n, ρ, A, h, hn => by simp only [K] at h; simp only [mat, BL]; exact ⟨ρ, fun _ _ => rfl, (by simp only [CV]; exact h.1), h.2⟩
  | .nif, v, F, n, ρ, A, h, hn => by simp only [K] at h; simp only [mat, BL]; exact ⟨ρ, fun _ _ => rfl, (by simp only [CV]; exact h.1), h.2⟩
  | .nfn, v, F, n, ρ, A, h, hn => by simp only [K] at h; simp only [mat, BL]; exact ⟨ρ, fun _ _ => rfl, (by simp only [CV]; exact h.1), h.2⟩
  | .ifc t x, v, F, n, ρ, A, h, hn => by simp only [K] at h; simp only [mat, BL]; exact ⟨ρ, fun _ _ => rfl, CV.ofCI h.1, h.2⟩
  | .nmp, v, F, n, ρ, A, h, hn => by simp only [K] at h; simp only [mat, BL]; exact ⟨ρ, fun _ _ => rfl, (by simp only [CV]; exact h.1), h.2⟩
  | .mp _, v, F, n, ρ, A, h, hn => by simp only [K, CI] at h; exact h.1.elim
theorem mats_K : ∀ {ts : List T} {vs : List Value} {F : List Nat} (n : Nat) (ρ : Nat → Option RB) (A : Nat → Prop), Ks w O ts vs F → (∀ x, n ≤ x → x < n + (mats ts n).2.length → ¬ A x) →
    ∃ ρ', (∀ x, (x < n ∨ n + (mats ts n).2.length ≤ x) → ρ' x = ρ x) ∧ CVs w O ρ' (Aext A n (mats ts n).2.length) (mats ts n).1 vs ∧ BL w O ρ' (Aext A n (mats ts n).2.length) n (mats ts n).2 F
  | [], vs, F, n, ρ, A, h, hn => by
    simp only [Ks] at h
    simp only [mats, CVs, BL]
    exact ⟨ρ, fun _ _ => rfl, h.1, h.2⟩
  | t :: ts, vs, F, n, ρ, A, h, hn => by
    simp only [Ks] at h
    obtain ⟨v, r, F1, F2, rfl, rfl, h1, h2⟩ := h
    simp only [mats, List.length_append] at hn ⊢
    obtain ⟨ρ1, a1, a2, a3⟩ := mat_K n ρ A h1 (fun x hx hx' => hn x hx (by omega))
    obtain ⟨ρ2, b1, b2, b3⟩ := mats_K (n + (mat t n).2.length) ρ1 (Aext A n (mat t n).2.length) h2 (fun x hx hx' => by rintro (h | h); exact hn x (by omega) (by omega) h; omega)
    have hAA : ∀ x, Aext (Aext A n (mat t n).2.length) (n + (mat t n).2.length) (mats ts (n + (mat t n).2.length)).2.length x → Aext A n ((mat t n).2.length + (mats ts (n + (mat t n).2.length)).2.length) x := by
      rintro x ((h | h) | h)
      · exact .inl h
      · exact .inr ⟨h.1, by omega⟩
      · exact .inr ⟨by omega, by omega⟩
    have hA1 : ∀ x, Aext A n (mat t n).2.length x → Aext A n ((mat t n).2.length + (mats ts (n + (mat t n).2.length)).2.length) x := fun x h => hAA x (.inl h)
    have hρ : ∀ x, Aext A n (mat t n).2.length x → ρ2 x = ρ1 x := by
      intro x hx
      refine b1 x ?_
      rcases hx with hx | hx
      · rcases Nat.lt_or_ge x (n + (mat t n).2.length) with h | h
        · exact .inl h
        · right
          rcases Nat.lt_or_ge x (n + (mat t n).2.length + (mats ts (n + (mat t n).2.length)).2.length) with h' | h'
          · exact absurd hx (hn x (by omega) (by omega))
          · exact h'
      · exact .inl hx.2
    refine ⟨ρ2, ?_, ?_, ?_⟩
    · intro x hx
      rw [b1 x (by omega), a1 x (by omega)]
    · simp only [CVs]
      exact ⟨v, r, rfl, a2.cong (fun _ h => h) (fun _ _ => rfl) hA1 hρ, b2.cong (fun _ h => h) (fun _ _ => rfl) hAA (fun _ _ => rfl)⟩
    · refine BL.append ?_ (b3.cong (fun _ h => h) (fun _ _ => rfl) hAA (fun _ _ => rfl) (fun _ _ => rfl) (fun x h1 h2 => .inr ⟨h1, h2⟩))
      exact a3.cong (fun _ h => h) (fun _ _ => rfl) hA1 hρ (fun _ _ => rfl) (fun x h1 h2 => .inr ⟨h1, h2⟩)
end
theorem mats_D : ∀ {ts : List T} {vs : List Value} {F : List Nat} (n : Nat) (ρ : Nat → Option RB) (A : Nat → Prop), Ds w O ρ A ts vs F → (∀ x, n ≤ x → x < n + (mats ts n).2.length → ¬ A x) →
    ∃ ρ', (∀ x, (x < n ∨ n + (mats ts n).2.length ≤ x) → ρ' x = ρ x) ∧ CVs w O ρ' (Aext A n (mats ts n).2.length) (mats ts n).1 vs ∧ BL w O ρ' (Aext A n (mats ts n).2.length) n (mats ts n).2 F
  | [], vs, F, n, ρ, A, h, hn => by
    simp only [Ds] at h
    simp only [mats, CVs, BL]
    exact ⟨ρ, fun _ _ => rfl, h.1, h.2⟩
  | t :: ts, vs, F, n, ρ, A, h, hn => by
    simp only [Ds] at h
    obtain ⟨v, r, F1, F2, rfl, rfl, h1, h2⟩ := h
    simp only [mats, List.length_append] at hn ⊢
    have one : ∃ ρ', (∀ x, (x < n ∨ n + (mat t n).2.length ≤ x) → ρ' x = ρ x) ∧ CV w O ρ' (Aext A n (mat t n).2.length) (mat t n).1 v ∧ BL w O ρ' (Aext A n (mat t n).2.length) n (mat t n).2 F1 := by
      rcases h1 with h1 | ⟨h1, rfl⟩
      · exact mat_K n ρ A h1 (fun x hx hx' => hn x hx (by omega))
      · rw [mat_CV h1]
        simp only [BL]
        exact ⟨ρ, fun _ _ => rfl, h1.cong (fun _ h => h) (fun _ _ => rfl) (fun _ h => .inl h) (fun _ _ => rfl), trivial⟩
    obtain ⟨ρ1, a1, a2, a3⟩ := one
    have hAA : ∀ x, Aext (Aext A n (mat t n).2.length) (n + (mat t n).2.length) (mats ts (n + (mat t n).2.length)).2.length x → Aext A n ((mat t n).2.length + (mats ts (n + (mat t n).2.length)).2.length) x := by
      rintro x ((h | h) | h)
      · exact .inl h
      · exact .inr ⟨h.1, by omega⟩
      · exact .inr ⟨by omega, by omega⟩
    have hA1 : ∀ x, Aext A n (mat t n).2.length x → Aext A n ((mat t n).2.length + (mats ts (n + (mat t n).2.length)).2.length) x := fun x h => hAA x (.inl h)
    have hρ1 : ∀ x, A x → ρ1 x = ρ x := by
      intro x hx
      refine a1 x ?_
      rcases Nat.lt_or_ge x n with h | h
      · exact .inl h
      · rcases Nat.lt_or_ge x (n + (mat t n).2.length) with h' | h'
        · exact absurd hx (hn x h (by omega))
        · exact .inr h'
    obtain ⟨ρ2, b1, b2, b3⟩ := mats_D (n + (mat t n).2.length) ρ1 (Aext A n (mat t n).2.length) (h2.cong (fun _ h => h) (fun _ _ => rfl) (fun _ h => .inl h) hρ1 (fun _ _ => rfl)) (fun x hx hx' => by rintro (h | h); exact hn x (by omega) (by omega) h; omega)
    have hρ : ∀ x, Aext A n (mat t n).2.length x → ρ2 x = ρ1 x := by
      intro x hx
      refine b1 x ?_
      rcases hx with hx | hx
      · rcases Nat.lt_or_ge x (n + (mat t n).2.length) with h | h
        · exact .inl h
        · right
          rcases Nat.lt_or_ge x (n + (mat t n).2.length + (mats ts (n + (mat t n).2.length)).2.length) with h' | h'
          · exact absurd hx (hn x (by omega) (by omega))
          · exact h'
      · exact .inl hx.2
    refine ⟨ρ2, ?_, ?_, ?_⟩
    · intro x hx
      rw [b1 x (by omega), a1 x (by omega)]
    · simp only [CVs]
      exact ⟨v, r, rfl, a2.cong (fun _ h => h) (fun _ _ => rfl) hA1 hρ, b2.cong (fun _ h => h) (fun _ _ => rfl) hAA (fun _ _ => rfl)⟩
    · refine BL.append ?_ (b3.cong (fun _ h => h) (fun _ _ => rfl) hAA (fun _ _ => rfl) (fun _ _ => rfl) (fun x h1 h2 => .inr ⟨h1, h2⟩))
      exact a3.cong (fun _ h => h) (fun _ _ => rfl) hA1 hρ (fun _ _ => rfl) (fun x h1 h2 => .inr ⟨h1, h2⟩)
/-- Blocks that nothing speaks of yet get their names. -/
theorem R.adds : ∀ {l : List (Nat × Blk)} {n : Nat} {G : List Nat} {F : Nat → List Nat} {s : St}, R E A ρ O F s a w → BL w O ρ A n l G → (∀ x, n ≤ x → x < n + l.length → A x) → (∀ x, n ≤ x → x < n + l.length → hget s.hp x = none) → G.Nodup →
    (∀ b ∈ G, ¬ O b ∧ b < w.heap.size ∧ (E.w0.heap.size ≤ b ∨ b ∈ E.mine)) → (∀ t k, hget s.hp t = some k → ∀ b ∈ G, b ∉ F t) → ∃ F', R E A ρ O F' { s with hp := hap s.hp (news l) } a w
  | [], n, G, F, s, h, hb, hA, hg, hnd, hm, hap' => ⟨F, h⟩
  | (t, k) :: l, n, G, F, s, h, hb, hA, hg, hnd, hm, hap' => by
    simp only [BL] at hb
    obtain ⟨rfl, G1, G2, rfl, hb1, hb2⟩ := hb
    have hnd' := List.nodup_append.1 hnd
    have h1 := h.set1 (t := t) (k := k) (Ft := G1) (M := []) (A' := A) (ρ' := ρ) (w' := w) (hp0 := s.hp) (fun _ h => h) (fun _ _ => rfl) h.ρ0 (fun _ _ => rfl) (fun _ _ h => h) (fun _ _ _ _ _ _ => rfl) (Keep.refl _ _) (by simp)
      (hA t (Nat.le_refl _) (by simp)) hb1 hnd'.1 (fun b hb => hm b (by simp [hb])) (fun t' k' _ hk b hb => hap' t' k' hk b (by simp [hb]))
    obtain ⟨F', h2⟩ := R.adds h1 hb2 (fun x hx hx' => hA x (by omega) (by simp; omega)) (fun x hx hx' => by
        simp only [hget_hset]; rw [if_neg (by omega)]; exact hg x (by omega) (by simp; omega)) hnd'.2.1 (fun b hb => hm b (by simp [hb])) (fun t' k' hk b hb => by
        simp only [hget_hset] at hk
        by_cases e : t = t'
        · subst e; simp only [if_true]; intro hb1; exact hnd'.2.2 b hb1 b hb rfl
        · rw [if_neg e] at hk; rw [if_neg (fun h => e h.symm)]; exact hap' t' k' hk b (by simp [hb]))
    exact ⟨F', h2⟩
end
end Go.Proofs.Ytcchmhmbjhgfdaa.V
