/- Operations of open order: what does not touch each other may change places. -/
import Derived.Test.YtcchmhmbjhgfdaaVqa
import Derived.Orders
namespace Go.Proofs.Ytcchmhmbjhgfdaa.V
open Go
set_option linter.unusedVariables false
set_option linter.unusedSimpArgs false
/-- Does an operation touch what an elder one did, without standing behind it? -/
def free (ah : List Nat) (wr rd : List Nat) (log : List (Nat × List Nat × List Nat)) : Bool :=
  log.all fun e => ah.contains e.1 || ((wr.all fun t => !(e.2.1 ++ e.2.2).contains t) && (e.2.1.all fun t => !rd.contains t))
/-- Is it done? -/
def gd (s : St) (po : PO) : Option Bool := match po.g with
  | none => some true
  | some (i, want) => match tget s.tm i with
    | .b x => if x = want then some true else some false
    | .un => some false
    | _ => none
def wdl (P : Program) (ah : List (List Nat)) (base : Nat) : List PO → Nat → St → List (Nat × List Nat × List Nat) → (St → Prop) → Prop
  | [], j, s, log, k => k s
  | po :: r, j, s, log, k => match gd s po with
    | some true => stepK P s (base + 8 * j) po.pi fun v δ rd => δ.length ≤ 8 ∧ free (ah.getD j []) (δ.map (·.1)) rd log = true ∧ wdl P ah base r (j + 1) (s.app po.d v δ) ((j, δ.map (·.1), rd) :: log) k
    | some false => wdl P ah base r (j + 1) { s with tm := tput s.tm po.d .un } log k
    | none => False
def wdraw (P : Program) (ops : List PO) (s : St) (k : St → Prop) : Prop := wdl P (ahead ops) s.nx ops 0 { s with nx := s.nx + 8 * ops.length } [] k

/-! ### what was done, step by step -/
structure En where
  d : Option Nat
  v : T
  δ : Δ
  rd : List Nat
def En.wr (e : En) : List Nat := e.δ.map (·.1)
def En.app (e : En) (s : St) : St := s.app e.d e.v e.δ
def runE : List En → St → St
  | [], s => s
  | e :: r, s => runE r (e.app s)
/-- Only some of it. -/
def sub (L : Nat → Bool) : List En → Nat → St → St
  | [], _, s => s
  | e :: r, j, s => sub L r (j + 1) (if L j = true then e.app s else s)
section
variable {P : Program} {E : Env} {s : St} {a : Act} {w w' : World} {o : Oper} {n : Nat} {Q : Exit → Act → World → Prop}
theorem app_tm (e : En) (s : St) (x : Nat) : tget (e.app s).tm x = if e.d = some x then e.v else tget s.tm x := by
  simp only [En.app, St.app]
  cases hd : e.d with
  | none => simp [tput]
  | some d => simp only [tput, tget, Option.some.injEq]
theorem hap_none : ∀ (δ : Δ) (h : List (Nat × Blk)) (t : Nat), t ∉ δ.map (·.1) → hget (hap h δ) t = hget h t
  | [], h, t, ht => rfl
  | (k, some x) :: δ, h, t, ht => by
    simp only [List.map_cons, List.mem_cons, not_or] at ht
    simp only [hap]
    rw [hap_none δ _ t ht.2, hget_hset, if_neg (fun e => ht.1 e.symm)]
  | (k, none) :: δ, h, t, ht => by
    simp only [List.map_cons, List.mem_cons, not_or] at ht
    simp only [hap]
    rw [hap_none δ _ t ht.2, hget_hdel, if_neg (fun e => ht.1 e.symm)]
theorem hap_cong : ∀ (δ : Δ) (h h' : List (Nat × Blk)) (t : Nat), hget h t = hget h' t → hget (hap h δ) t = hget (hap h' δ) t
  | [], h, h', t, e => e
  | (k, some x) :: δ, h, h', t, e => by
    simp only [hap]
    refine hap_cong δ _ _ t ?_
    rw [hget_hset, hget_hset, e]
  | (k, none) :: δ, h, h', t, e => by
    simp only [hap]
    refine hap_cong δ _ _ t ?_
    rw [hget_hdel, hget_hdel, e]
theorem app_hp (e : En) (s : St) (t : Nat) (ht : t ∉ e.wr) : hget (e.app s).hp t = hget s.hp t := hap_none _ _ _ ht
theorem sub_tm {L L' : Nat → Bool} {x : Nat} : ∀ {es : List En} {j : Nat} {s s' : St}, (∀ i e, es[i]? = some e → e.d = some x → L (j + i) = L' (j + i)) → tget s.tm x = tget s'.tm x → tget (sub L es j s).tm x = tget (sub L' es j s').tm x
  | [], j, s, s', h, h0 => h0
  | e :: es, j, s, s', h, h0 => by
    simp only [sub]
    refine sub_tm (fun i e' hi hd => by have := h (i + 1) e' (by simpa using hi) hd; rw [show j + 1 + i = j + (i + 1) by omega]; exact this) ?_
    by_cases hd : e.d = some x
    · have := h 0 e (by simp) hd
      simp only [Nat.add_zero] at this
      rw [this]
      split
      · rw [app_tm, app_tm, if_pos hd, if_pos hd]
      · exact h0
    · split <;> split <;> simp only [app_tm, if_neg hd, h0]
theorem sub_hp {L L' : Nat → Bool} {t : Nat} : ∀ {es : List En} {j : Nat} {s s' : St}, (∀ i e, es[i]? = some e → t ∈ e.wr → L (j + i) = L' (j + i)) → hget s.hp t = hget s'.hp t → hget (sub L es j s).hp t = hget (sub L' es j s').hp t
  | [], j, s, s', h, h0 => h0
  | e :: es, j, s, s', h, h0 => by
    simp only [sub]
    refine sub_hp (fun i e' hi hd => by have := h (i + 1) e' (by simpa using hi) hd; rw [show j + 1 + i = j + (i + 1) by omega]; exact this) ?_
    by_cases hd : t ∈ e.wr
    · have := h 0 e (by simp) hd
      simp only [Nat.add_zero] at this
      rw [this]
      split
      · exact hap_cong _ _ _ _ h0
      · exact h0
    · split <;> split <;> simp only [app_hp _ _ _ hd, h0]
theorem sub_append (L : Nat → Bool) : ∀ (es es' : List En) (j : Nat) (s : St), sub L (es ++ es') j s = sub L es' (j + es.length) (sub L es j s)
  | [], es', j, s => rfl
  | e :: es, es', j, s => by
    simp only [List.cons_append, sub, List.length_cons]
    rw [sub_append L es es' (j + 1)]
    rw [show j + 1 + es.length = j + (es.length + 1) by omega]
theorem sub_nil_tm {L : Nat → Bool} {x : Nat} {es : List En} {j : Nat} {s : St} (h : ∀ i e, es[i]? = some e → e.d = some x → L (j + i) = false) : tget (sub L es j s).tm x = tget s.tm x := by
  rw [sub_tm (L' := fun _ => false) (s' := s) h rfl]
  clear h
  induction es generalizing j with
  | nil => rfl
  | cons e es ih => simp only [sub, Bool.false_eq_true, if_false]; exact ih
theorem sub_nil_hp {L : Nat → Bool} {t : Nat} {es : List En} {j : Nat} {s : St} (h : ∀ i e, es[i]? = some e → t ∈ e.wr → L (j + i) = false) : hget (sub L es j s).hp t = hget s.hp t := by
  rw [sub_hp (L' := fun _ => false) (s' := s) h rfl]
  clear h
  induction es generalizing j with
  | nil => rfl
  | cons e es ih => simp only [sub, Bool.false_eq_true, if_false]; exact ih
theorem sub_all {L : Nat → Bool} : ∀ {es : List En} {j : Nat} {s : St}, (∀ i, i < es.length → L (j + i) = true) → sub L es j s = runE es s
  | [], j, s, h => rfl
  | e :: es, j, s, h => by
    simp only [sub, runE]
    rw [if_pos (by simpa using h 0 (by simp))]
    exact sub_all fun i hi => by rw [show j + 1 + i = j + (i + 1) by omega]; exact h (i + 1) (by simpa using hi)
theorem sub_fb (L : Nat → Bool) : ∀ (es : List En) (j : Nat) (s : St), (sub L es j s).fb = s.fb ∧ (sub L es j s).nx = s.nx
  | [], j, s => ⟨rfl, rfl⟩
  | e :: es, j, s => by
    simp only [sub]
    have := sub_fb L es (j + 1) (if L j = true then e.app s else s)
    rw [this.1, this.2]
    split <;> exact ⟨rfl, rfl⟩
theorem runE_fb : ∀ (es : List En) (s : St), (runE es s).fb = s.fb ∧ (runE es s).nx = s.nx
  | [], s => ⟨rfl, rfl⟩
  | e :: es, s => runE_fb es (e.app s)
/-- What was done, and that it stays clear of each other. -/
structure Tr (P : Program) (ah : List (List Nat)) (base : Nat) (pos : List PO) (j : Nat) (s : St) (log : List (Nat × List Nat × List Nat)) (es : List En) : Prop where
  len : es.length = pos.length
  d : ∀ (i : Nat) (po : PO) (e : En), pos[i]? = some po → es[i]? = some e → e.d = po.d ∧ e.δ.length ≤ 8
  run : ∀ (i : Nat) (po : PO) (e : En), pos[i]? = some po → es[i]? = some e → (gd (runE (es.take i) s) po = some true ∧ ∀ s' : St, (∀ j ∈ po.pi.slots, tget s'.tm j = tget (runE (es.take i) s).tm j) → (∀ t ∈ e.rd, hget s'.hp t = hget (runE (es.take i) s).hp t) → stepK P s' (base + 8 * (j + i)) po.pi fun v' δ' rd' => v' = e.v ∧ δ' = e.δ ∧ rd' = e.rd) ∨
    (gd (runE (es.take i) s) po = some false ∧ e.v = .un ∧ e.δ = [] ∧ e.rd = [])
  clog : ∀ (i : Nat) (e : En), es[i]? = some e → ∀ l ∈ log, l.1 ∈ ah.getD (j + i) [] ∨ ((∀ t ∈ e.wr, t ∉ l.2.1 ∧ t ∉ l.2.2) ∧ ∀ t ∈ l.2.1, t ∉ e.rd)
  cl : ∀ (i : Nat) (e : En) (i' : Nat) (e' : En), i' < i → es[i]? = some e → es[i']? = some e' → j + i' ∈ ah.getD (j + i) [] ∨ ((∀ t ∈ e.wr, t ∉ e'.wr ∧ t ∉ e'.rd) ∧ ∀ t ∈ e'.wr, t ∉ e.rd)
theorem free_spec {ah wr rd : List Nat} {log : List (Nat × List Nat × List Nat)} (h : free ah wr rd log = true) : ∀ l ∈ log, l.1 ∈ ah ∨ ((∀ t ∈ wr, t ∉ l.2.1 ∧ t ∉ l.2.2) ∧ ∀ t ∈ l.2.1, t ∉ rd) := by
  intro l hl
  have := List.all_eq_true.1 h l hl
  simp only [Bool.or_eq_true, List.contains_iff_mem, Bool.and_eq_true, List.all_eq_true, Bool.not_eq_true', List.contains_eq_mem, decide_eq_false_iff_not, List.mem_append, not_or] at this
  simpa using this
theorem wdl_trace {ah : List (List Nat)} {base : Nat} : ∀ {pos : List PO} {j : Nat} {s : St} {log : List (Nat × List Nat × List Nat)} {k : St → Prop}, wdl P ah base pos j s log k → ∃ es, Tr P ah base pos j s log es ∧ k (runE es s)
  | [], j, s, log, k, h => ⟨[], ⟨rfl, by simp, by simp, by simp, by simp⟩, h⟩
  | po :: r, j, s, log, k, h => by
    simp only [wdl] at h
    split at h
    case h_3 => exact h.elim
    · rename_i hg
      obtain ⟨v, δ, rd, ⟨h1, h2, h3⟩, h4⟩ := step_loc h
      obtain ⟨es, ht, hk⟩ := wdl_trace h3
      refine ⟨⟨po.d, v, δ, rd⟩ :: es, ⟨by simp [ht.len], ?_, ?_, ?_, ?_⟩, hk⟩
      · intro i po' e hp he
        cases i with
        | zero =>
          simp only [List.getElem?_cons_zero, Option.some.injEq] at hp he
          subst hp he
          exact ⟨rfl, h1⟩
        | succ i => exact ht.d i po' e (by simpa using hp) (by simpa using he)
      · intro i po' e hp he
        cases i with
        | zero =>
          simp only [List.getElem?_cons_zero, Option.some.injEq] at hp he
          subst hp he
          exact .inl ⟨hg, fun s' hs hh => h4 s' hs hh _ ⟨rfl, rfl, rfl⟩⟩
        | succ i =>
          have := ht.run i po' e (by simpa using hp) (by simpa using he)
          rw [show base + 8 * (j + 1 + i) = base + 8 * (j + (i + 1)) by omega] at this
          exact this
      · intro i e he l hl
        cases i with
        | zero =>
          simp only [List.getElem?_cons_zero, Option.some.injEq] at he
          subst he
          exact free_spec h2 l hl
        | succ i =>
          have := ht.clog i e (by simpa using he) l (by simp [hl])
          rw [show j + 1 + i = j + (i + 1) by omega] at this
          exact this
      · intro i e i' e' hi he he'
        cases i with
        | zero => omega
        | succ i =>
          cases i' with
          | zero =>
            simp only [List.getElem?_cons_zero, Option.some.injEq] at he'
            subst he'
            have := ht.clog i e (by simpa using he) (j, δ.map (·.1), rd) (by simp)
            rw [show j + 1 + i = j + (i + 1) by omega] at this
            exact this
          | succ i' =>
            have := ht.cl i e i' e' (by omega) (by simpa using he) (by simpa using he')
            rw [show j + 1 + i = j + (i + 1) by omega, show j + 1 + i' = j + (i' + 1) by omega] at this
            exact this
    · rename_i hg
      obtain ⟨es, ht, hk⟩ := wdl_trace h
      refine ⟨⟨po.d, .un, [], []⟩ :: es, ⟨by simp [ht.len], ?_, ?_, ?_, ?_⟩, hk⟩
      · intro i po' e hp he
        cases i with
        | zero =>
          simp only [List.getElem?_cons_zero, Option.some.injEq] at hp he
          subst hp he
          exact ⟨rfl, by simp⟩
        | succ i => exact ht.d i po' e (by simpa using hp) (by simpa using he)
      · intro i po' e hp he
        cases i with
        | zero =>
          simp only [List.getElem?_cons_zero, Option.some.injEq] at hp he
          subst hp he
          exact .inr ⟨hg, rfl, rfl, rfl⟩
        | succ i =>
          have := ht.run i po' e (by simpa using hp) (by simpa using he)
          rw [show base + 8 * (j + 1 + i) = base + 8 * (j + (i + 1)) by omega] at this
          exact this
      · intro i e he l hl
        cases i with
        | zero =>
          simp only [List.getElem?_cons_zero, Option.some.injEq] at he
          subst he
          exact .inr ⟨by simp [En.wr], by simp⟩
        | succ i =>
          have := ht.clog i e (by simpa using he) l hl
          rw [show j + 1 + i = j + (i + 1) by omega] at this
          exact this
      · intro i e i' e' hi he he'
        cases i with
        | zero => omega
        | succ i =>
          cases i' with
          | zero =>
            simp only [List.getElem?_cons_zero, Option.some.injEq] at he'
            subst he'
            exact .inr ⟨by simp [En.wr], by simp [En.wr]⟩
          | succ i' =>
            have := ht.cl i e i' e' (by omega) (by simpa using he) (by simpa using he')
            rw [show j + 1 + i = j + (i + 1) by omega, show j + 1 + i' = j + (i' + 1) by omega] at this
            exact this
theorem okDraw_spec {ops : List PO} (h : okDraw ops = true) {j : Nat} {o : PO} (hj : ops[j]? = some o) :
    (∀ p ∈ o.pre, p < j) ∧ (∀ m ∈ (ahead ops).getD j [], m ∈ o.pre ∨ ∃ p ∈ o.pre, m ∈ (ahead ops).getD p []) ∧
    ∀ i q, ops[i]? = some q → i ≠ j → ∀ d, q.d = some d → (d ∈ o.slots → i ∈ (ahead ops).getD j [] ∨ j ∈ (ahead ops).getD i []) ∧ o.d ≠ some d := by
  have h1 := List.all_eq_true.1 h (o, j) (List.mk_mem_zipIdx_iff_getElem?.2 hj)
  simp only [Bool.and_eq_true, List.all_eq_true, decide_eq_true_eq] at h1
  obtain ⟨⟨h2, h3⟩, h4⟩ := h1
  refine ⟨h2, fun m hm => ?_, fun i q hi hne d hd => ?_⟩
  · have := h3 m hm
    simpa only [Bool.or_eq_true, List.contains_iff_mem, List.any_eq_true] using this
  · have := h4 (q, i) (List.mk_mem_zipIdx_iff_getElem?.2 hi)
    simp only [hd, Bool.or_eq_true, beq_iff_eq, hne, false_or, Bool.and_eq_true, Bool.not_eq_true', List.contains_iff_mem, bne_iff_ne, ne_eq] at this
    refine ⟨fun hs => ?_, this.2⟩
    rcases this.1 with (h | h) | h
    · exact absurd hs (by simpa using h)
    · exact .inl h
    · exact .inr h
/-- What is listed is closed under what stands ahead. -/
theorem closed_ahead {ops : List PO} (h : okDraw ops = true) {L : Nat → Bool} (hL : ∀ (i : Nat) (po : PO), ops[i]? = some po → L i = true → ∀ p ∈ po.pre, L p = true) : ∀ (i : Nat) (po : PO), ops[i]? = some po → L i = true → ∀ m ∈ (ahead ops).getD i [], L m = true := by
  intro i
  induction i using Nat.strongRecOn with
  | _ i ih =>
    intro po hi hl m hm
    obtain ⟨h1, h2, _⟩ := okDraw_spec h hi
    rcases h2 m hm with h3 | ⟨p, hp, h3⟩
    · exact hL i po hi hl m h3
    · have hlt := h1 p hp
      have hlen : i < ops.length := (List.getElem?_eq_some_iff.1 hi).1
      exact ih p hlt ops[p] (List.getElem?_eq_getElem (by omega)) (hL i po hi hl p hp) m h3
end
end Go.Proofs.Ytcchmhmbjhgfdaa.V
