/- Each step of the machine of trees is a step of the model: places and parts. -/
import Derived.Test.YtcchmhmbjhgfdaaVf
namespace Go.Proofs.Ytcchmhmbjhgfdaa.V
open Go
set_option linter.unusedVariables false
set_option linter.unusedSimpArgs false
section
variable {P : Program} {E : Env} {A A' : Nat → Prop} {ρ ρ' : Nat → Option RB} {O O' : Nat → Prop} {F F' : Nat → List Nat} {s : St} {a : Act} {w w' : World} {o : Oper} {n : Nat}
  {K : T → Δ → List Nat → Prop} {next : Act → World → Prop} {Q : Exit → Act → World → Prop}
theorem szOf_info {t : TypeId} {k : Nat} (h : szOf P t = some k) : ∃ i, P.info? t = some i ∧ i.size = k := by
  unfold szOf at h
  obtain ⟨i, h1, h2⟩ := Option.map_eq_some_iff.1 h
  exact ⟨i, h1, h2⟩
theorem run_szOf {t : TypeId} {k : Nat} (h : szOf P t = some k) : (sizeOf t).run P w = .ok k w := by
  obtain ⟨i, hi, rfl⟩ := szOf_info h
  rw [run_sizeOf w hi]; simp [Program.cellsOf, hi]
theorem add_none (b o k : Nat) : (⟨b, o, none⟩ : Addr).add k = ⟨b, o + k, none⟩ := by unfold Addr.add; split <;> simp_all

/-- The bounds of a slice expression. -/
theorem run_bounds {isS : Bool} {len cap : Nat} {lo hi : Option Operand} {lo' hi' : Option X} (hR : R E A ρ O F s a w) (hl : opdO lo = some lo') (hh : opdO hi = some hi') (hc : len ≤ cap) {K : Nat → Nat → Prop}
    (h : bnd len (lo'.map (·.ev s)) (hi'.map (·.ev s)) K) : ∃ l h, l ≤ h ∧ h ≤ len ∧ K l h ∧ (Instr.sliceBounds isS len cap (lo.map a.eval) (hi.map a.eval) none).run P w = .ok (l, h, cap) w := by
  have opt : ∀ {x : Option Operand} {x' : Option X}, opdO x = some x' → (x = none ∧ x' = none) ∨ ∃ y y', x = some y ∧ x' = some y' ∧ CV w O ρ A (y'.ev s) (a.eval y) := by
    intro x x' h
    cases x with
    | none => simp only [opdO, Option.some.injEq] at h; exact .inl ⟨rfl, h.symm⟩
    | some y =>
      simp only [opdO, Option.map_eq_some_iff] at h
      obtain ⟨y', hy, rfl⟩ := h
      exact .inr ⟨y, y', rfl, rfl, ev_ok hR hy⟩
  have lows : ∀ (hv : Nat), bndLo (lo'.map (·.ev s)) hv K →
      ∃ l, l ≤ hv ∧ K l hv ∧ ((lo = none ∧ l = 0) ∨ ∃ v, lo.map a.eval = some v ∧ (Instr.sliceBound v hv .sliceB).run P w = .ok l w) := by
    intro hv h
    rcases opt hl with ⟨rfl, rfl⟩ | ⟨y, y', rfl, rfl, hy⟩
    · exact ⟨0, Nat.zero_le _, h, .inl ⟨rfl, rfl⟩⟩
    · unfold bndLo at h
      simp only [Option.map_some] at h
      cases e : y'.ev s <;> rw [e] at h hy <;> simp only at h
      rename_i k l
      simp only [CV, CI] at hy
      refine ⟨l.toNat, by omega, h.2, .inr ⟨_, rfl, ?_⟩⟩
      simp [Instr.sliceBound, hy, asIntOf, h.1]
  rcases opt hh with ⟨rfl, rfl⟩ | ⟨y, y', rfl, rfl, hy⟩
  · obtain ⟨l, h1, h2, h3⟩ := lows len h
    refine ⟨l, len, h1, Nat.le_refl _, h2, ?_⟩
    unfold Instr.sliceBounds
    rcases h3 with ⟨rfl, rfl⟩ | ⟨v, e, h3⟩
    · simp
    · simp [e, h3]
  · unfold bnd at h
    simp only [Option.map_some] at h
    cases e : y'.ev s <;> rw [e] at h hy <;> simp only at h
    rename_i k hv
    simp only [CV, CI] at hy
    obtain ⟨h0, h⟩ := h
    obtain ⟨l, h1, h2, h3⟩ := lows hv.toNat h
    refine ⟨l, hv.toNat, h1, by omega, h2, ?_⟩
    have hb : ∀ code, (Instr.sliceBound (a.eval y) cap code).run P w = .ok hv.toNat w := by
      intro code
      have : 0 ≤ hv ∧ hv ≤ (cap : Int) := by omega
      simp [Instr.sliceBound, hy, asIntOf, this]
    unfold Instr.sliceBounds
    rcases h3 with ⟨rfl, rfl⟩ | ⟨v, e, h3⟩
    · simp [hb]
    · simp [e, h3, hb]
theorem s_sls (hR : R E A ρ O F s a w) (hd : ∀ k, o.dst = some k → k < E.n) {t : TypeId} {x : Operand} {x' : X} {lo hi : Option Operand} {lo' hi' : Option X} (ho : o.op = .slice t x lo hi none) (hu : P.underlying t = some .string) (hx : opd x = some x') (hl : opdO lo = some lo') (hh : opdO hi = some hi')
    (hK : stepK P s n (.sls x' lo' hi') K) (hn : NX E A s a n o.dst K next) : o.wp P a w next Q := by
  have hv := ev_ok hR hx
  simp only [stepK] at hK
  split at hK
  · rename_i l hy
    rw [hy] at hv; simp only [CV, CI] at hv
    obtain ⟨p, q, h1, h2, hK, hr⟩ := run_bounds (P := P) (isS := false) hR hl hh (Nat.le_refl _) hK
    refine pureOp hR hd (u := .string ⟨((l.drop p).take (q - p)).toArray⟩) (v := .s ((l.drop p).take (q - p))) ?_ (by simp [CV, CI]) ⟨[], hK⟩ hn
    simp only [execOp, ho, Option.map_none, Sem.run_bind, Instr.sliceAt, run_underlying hu, Result.andThen_ok, Instr.slice, hv, Option.isSome_none, Bool.false_eq_true, if_false, str_size, hr, Sem.run_pure, Result.ok.injEq, and_true, Next.value.injEq, Value.string.injEq]
    apply ByteArray.ext
    apply Array.ext'
    rw [ByteArray.data_extract]
    simp [List.extract_eq_take_drop]
  · exact hK.elim
theorem CIr_lie {rows : List (List T)} {us : List Value} {b q sz p : Nat} (hs : ∀ r ∈ rows, r.length = sz) (hr : CIr w O rows us) (hl : Lies w b q us) : ∃ us', CIr w O (rows.drop p) us' ∧ Lies w b (q + p * sz) us' := by
  rcases Nat.lt_or_ge p rows.length with hp | hp
  · have e : rows = rows.take p ++ rows.drop p := by simp
    rw [e] at hr
    obtain ⟨v1, v2, rfl, h1, h2⟩ := CIr_append.1 hr
    have hl1 := h1.len (fun r hr => hs r (List.mem_of_mem_take hr))
    refine ⟨v2, h2, ?_⟩
    intro j u hj
    have := hl (v1.length + j) u (by rw [List.getElem?_append_right (by omega)]; simpa using hj)
    rw [show q + p * sz + j = q + (v1.length + j) by rw [hl1]; simp; rw [Nat.min_eq_left (by omega)]; omega]
    exact this
  · rw [List.drop_eq_nil_of_le hp]
    exact ⟨[], by simp [CIr], fun j u h => by simp at h⟩
theorem CIr_take {rows : List (List T)} {us : List Value} {b q p : Nat} (hr : CIr w O rows us) (hl : Lies w b q us) : ∃ us', CIr w O (rows.take p) us' ∧ Lies w b q us' := by
  have e : rows = rows.take p ++ rows.drop p := by simp
  rw [e] at hr
  obtain ⟨v1, v2, rfl, h1, h2⟩ := CIr_append.1 hr
  refine ⟨v1, h1, fun j u hj => hl j u ?_⟩
  have : j < v1.length := by
    rcases Nat.lt_or_ge j v1.length with h | h
    · exact h
    · rw [List.getElem?_eq_none h] at hj; exact absurd hj (by simp)
  rw [List.getElem?_append_left this]; exact hj
theorem s_sl (hR : R E A ρ O F s a w) (hd : ∀ k, o.dst = some k → k < E.n) {t e : TypeId} {sz : Nat} {x : Operand} {x' : X} {lo hi : Option Operand} {lo' hi' : Option X} (ho : o.op = .slice t x lo hi none) (hu : P.underlying t = some (.slice e)) (hz : szOf P e = some sz) (hx : opd x = some x') (hl : opdO lo = some lo') (hh : opdO hi = some hi')
    (hK : stepK P s n (.sl sz x' lo' hi') K) (hn : NX E A s a n o.dst K next) : o.wp P a w next Q := by
  have hv := ev_ok hR hx
  have hz' := fun w => run_szOf (w := w) hz
  simp only [stepK] at hK
  have fin : ∀ (q : Option Addr) (len cap l h : Nat) (v : T), a.eval x = .slice q len cap → (Instr.sliceBounds true len cap (lo.map a.eval) (hi.map a.eval) none).run P w = .ok (l, h, cap) w →
      CV w O ρ A v (.slice (if cap = l then q else q.map (·.add (l * sz))) (h - l) (cap - l)) → (∃ rd, K v [] rd) → o.wp P a w next Q := by
    intro q len cap l h v he hr hv hK
    refine pureOp hR hd (u := .slice (if cap = l then q else q.map (·.add (l * sz))) (h - l) (cap - l)) (v := v) ?_ hv hK hn
    simp only [execOp, ho, Option.map_none, Sem.run_bind, Instr.sliceAt, run_underlying hu, Result.andThen_ok, Instr.slice, he, hr, hz', Sem.run_pure]
  split at hK
  · rename_i rows hy
    rw [hy] at hv; simp only [CV, CI] at hv
    obtain ⟨q, cap, e, hlc, hm⟩ := hv
    obtain ⟨l, h, h1, h2, ⟨hsz, hK⟩, hr⟩ := run_bounds (P := P) (isS := true) hR hl hh hlc hK
    refine fin _ _ _ _ _ _ e hr ?_ ⟨[], hK⟩
    simp only [CV, CI]
    have hlen : ((rows.drop l).take (h - l)).length = h - l := by simp; omega
    rw [hlen]
    refine ⟨_, _, rfl, by omega, ?_⟩
    by_cases hcl : cap = l
    · left
      rw [show h - l = 0 by omega]; simp
    · rw [if_neg hcl]
      rcases hm with rfl | ⟨b, qo, sz', us, rfl, hb, hs', hrr, hmm⟩
      · left; simp
      · right
        by_cases hre : rows = []
        · subst hre
          simp at h2
          subst h2
          refine ⟨b, qo + l * sz, sz, [], by simp [add_none], hb, by simp, by simp [CIr], fun j u h => by simp at h⟩
        · obtain ⟨us', h3, h4⟩ := CIr_lie (p := l) hsz hrr hmm
          obtain ⟨us'', h5, h6⟩ := CIr_take (p := h - l) h3 h4
          exact ⟨b, qo + l * sz, sz, us'', by simp [add_none], hb, fun r hr => hsz r (List.mem_of_mem_drop (List.mem_of_mem_take hr)), h5, h6⟩
  · rename_i t q m hy
    rw [hy] at hv; simp only [CV] at hv
    obtain ⟨hA, hv⟩ := hv
    have hb : ∃ cap len q', a.eval x = .slice q' len cap ∧ len = m ∧ len ≤ cap := by
      rcases hv with ⟨_, _, rfl, q1, e⟩ | ⟨B, hB, b', o', c, e, hc, hmc, _⟩
      · exact ⟨_, _, _, e, rfl, Nat.le_refl _⟩
      · exact ⟨_, _, _, e, rfl, hmc⟩
    obtain ⟨cap, len, q', e, rfl, hlc⟩ := hb
    obtain ⟨l, h, h1, h2, hK2, hr⟩ := run_bounds (P := P) (isS := true) hR hl hh hlc hK
    clear hK
    split at hK2
    · rename_i sz' rows hg
      obtain ⟨rfl, hK2⟩ := hK2
      have hBR := (hR.hp _ _ hg).2
      refine fin _ _ _ _ _ _ e hr ?_ ⟨[t], hK2⟩
      simp only [CV]
      refine ⟨hA, ?_⟩
      rcases hv with ⟨hn, rfl, rfl, q1, e'⟩ | ⟨B, hB, b', o', c, e', hc, hmc, hbo⟩
      · rw [e] at e'
        simp only [Value.slice.injEq] at e'
        obtain ⟨rfl, _, rfl⟩ := e'
        left
        have : l = 0 := by omega
        have : h = 0 := by omega
        subst_vars
        exact ⟨hn, by omega, by omega, by simp⟩
      · rw [e] at e'
        simp only [Value.slice.injEq] at e'
        obtain ⟨rfl, _, rfl⟩ := e'
        have hsz : sz' = B.sz := by
          simp only [BR, hB] at hBR
          rcases hBR with ⟨_, _, h | ⟨B', h, _, h'⟩⟩ | ⟨B', h, h', _⟩
          · exact absurd h (by simp)
          · simp only [Option.some.injEq] at h; rw [h', ← h]
          · simp only [Option.some.injEq] at h; rw [h', ← h]
        right
        refine ⟨B, hB, ?_⟩
        by_cases hcl : cap = l
        · rw [if_pos hcl]
          exact ⟨b', o', cap - l, rfl, by omega, by omega, .inl (by omega)⟩
        · rw [if_neg hcl]
          simp only [Option.map_some, add_none]
          refine ⟨b', o' + l * sz', cap - l, rfl, by omega, by omega, .inr ?_⟩
          rcases hbo with h0 | ⟨h3, h4⟩
          · omega
          · refine ⟨h3, ?_⟩
            rw [h4, hsz, Nat.add_mul]; omega
    · exact hK2.elim
  · rename_i hy
    rw [hy] at hv; simp only [CV, CI] at hv
    obtain ⟨l, h, h1, h2, hK, hr⟩ := run_bounds (P := P) (isS := true) hR hl hh (Nat.le_refl 0) hK
    have : l = 0 := by omega
    have : h = 0 := by omega
    subst_vars
    refine fin _ _ _ _ _ _ hv hr ?_ ⟨[], hK⟩
    simp [CV, CI]
  · exact hK.elim
theorem Lies.drop {b q k : Nat} {us : List Value} (h : Lies w b q us) : Lies w b (q + k) (us.drop k) := by
  intro j u hj
  have := h (k + j) u (by rw [List.getElem?_drop] at hj; exact hj)
  rw [show q + k + j = q + (k + j) by omega]; exact this
theorem CIs_drop {cs : List T} {us : List Value} (k : Nat) (h : CIs w O cs us) : CIs w O (cs.drop k) (us.drop k) := by
  have e : cs = cs.take k ++ cs.drop k := by simp
  by_cases hk : k ≤ cs.length
  · rw [e] at h
    obtain ⟨v1, v2, rfl, h1, h2⟩ := CIs_append.1 h
    have := h1.len
    rw [List.length_take, Nat.min_eq_left hk] at this
    rw [← this] at h2 ⊢
    simpa using h2
  · rw [List.drop_eq_nil_of_le (by omega), List.drop_eq_nil_of_le (by have := h.len; omega)]
    simp [CIs]
theorem CIs_take {cs : List T} {us : List Value} (k : Nat) (h : CIs w O cs us) : CIs w O (cs.take k) (us.take k) := by
  have e : cs = cs.take k ++ cs.drop k := by simp
  by_cases hk : k ≤ cs.length
  · rw [e] at h
    obtain ⟨v1, v2, rfl, h1, h2⟩ := CIs_append.1 h
    have := h1.len
    rw [List.length_take, Nat.min_eq_left hk] at this
    rw [← this] at h1 ⊢
    simpa using h1
  · rw [List.take_of_length_le (by omega), List.take_of_length_le (by have := h.len; omega)]
    exact h
theorem s_fa (hR : R E A ρ O F s a w) (hd : ∀ k, o.dst = some k → k < E.n) {t : TypeId} {x : Operand} {x' : X} {f k : Nat} {fields : Array Field} {fd : Field} (ho : o.op = .fieldAddr t x f) (hu : P.underlying t = some (.struct fields)) (hf : fields[f]? = some fd) (hz : szOf P fd.type = some k) (hk : k ≠ 0) (hx : opd x = some x')
    (hK : stepK P s n (.fa fd.offset x') K) (hn : NX E A s a n o.dst K next) : o.wp P a w next Q := by
  have hv := ev_ok hR hx
  have hz' := fun w => run_szOf (w := w) hz
  simp only [stepK] at hK
  have fin : ∀ (b q : Nat) (v : T), a.eval x = .pointer (some ⟨b, q, none⟩) → CV w O ρ A v (.pointer (some ⟨b, q + fd.offset, none⟩)) → K v [] [] → o.wp P a w next Q := by
    intro b q v he hv hK
    refine pureOp hR hd (u := .pointer (some ⟨b, q + fd.offset, none⟩)) (v := v) ?_ hv ⟨[], hK⟩ hn
    simp only [execOp, ho, Sem.run_bind, Instr.fieldAt, run_underlying hu, Result.andThen_ok, hf, he, Instr.sureAddr, fieldPlace, hz', hk, if_false, Sem.run_pure, add_none]
  split at hK
  · rename_i t r q hy
    rw [hy] at hv; simp only [CV] at hv
    obtain ⟨hA, B, hB, e⟩ := hv
    refine fin _ _ _ e ?_ hK
    simp only [CV]
    exact ⟨hA, B, hB, by rw [Nat.add_assoc]⟩
  · rename_i cs hy
    rw [hy] at hv; simp only [CV, CI] at hv
    obtain ⟨b, q, us, e, hb, hc, hm⟩ := hv
    refine fin _ _ _ e ?_ hK.2
    simp only [CV, CI]
    exact ⟨b, q + fd.offset, us.drop fd.offset, rfl, hb, CIs_drop _ hc, hm.drop⟩
  · exact hK.elim
theorem s_ia (hR : R E A ρ O F s a w) (hd : ∀ k, o.dst = some k → k < E.n) {t e : TypeId} {sz : Nat} {x i : Operand} {x' i' : X} (ho : o.op = .indexAddr t x i) (hu : P.underlying t = some (.slice e)) (hz : szOf P e = some sz) (hx : opd x = some x') (hi : opd i = some i')
    (hK : stepK P s n (.ia sz x' i') K) (hn : NX E A s a n o.dst K next) : o.wp P a w next Q := by
  have hv := ev_ok hR hx
  have hw := ev_ok hR hi
  have hz' := fun w => run_szOf (w := w) hz
  simp only [stepK] at hK
  have fin : ∀ (b q len cap : Nat) (k : Int) (kd : IntKind) (v : T), a.eval x = .slice (some ⟨b, q, none⟩) len cap → a.eval i = .int kd k → 0 ≤ k ∧ k < len → CV w O ρ A v (.pointer (some ⟨b, q + k.toNat * sz, none⟩)) → (∃ rd, K v [] rd) → o.wp P a w next Q := by
    intro b q len cap k kd v he hi hk hv hK
    refine pureOp hR hd (u := .pointer (some ⟨b, q + k.toNat * sz, none⟩)) (v := v) ?_ hv hK hn
    simp [execOp, ho, Instr.indexAt, hi, asIntOf, run_underlying hu, he, hk, hz', add_none]
  split at hK
  · rename_i t q len kd k hy hj
    rw [hy] at hv; rw [hj] at hw; simp only [CV, CI] at hv hw
    obtain ⟨hk, hK⟩ := hK
    obtain ⟨hA, hv⟩ := hv
    split at hK
    · rename_i sz' rows hg
      obtain ⟨rfl, hK⟩ := hK
      have hBR := (hR.hp _ _ hg).2
      rcases hv with ⟨_, _, rfl, _⟩ | ⟨B, hB, b', o', c, e', hc, hmc, hbo⟩
      · omega
      · have hsz : sz' = B.sz := by
          simp only [BR, hB] at hBR
          rcases hBR with ⟨_, _, h | ⟨B', h, _, h'⟩⟩ | ⟨B', h, h', _⟩
          · exact absurd h (by simp)
          · simp only [Option.some.injEq] at h; rw [h', ← h]
          · simp only [Option.some.injEq] at h; rw [h', ← h]
        rcases hbo with h0 | ⟨h3, h4⟩
        · omega
        · refine fin _ _ _ _ _ _ _ e' hw hk ?_ ⟨_, hK⟩
          simp only [CV]
          refine ⟨hA, B, hB, ?_⟩
          rw [h3, h4, hsz, Nat.add_mul]
          simp only [Value.pointer.injEq, Option.some.injEq, Addr.mk.injEq, and_true, true_and]; omega
    · exact hK.elim
  · rename_i rows kd k hy hj
    rw [hy] at hv; rw [hj] at hw; simp only [CV, CI] at hv hw
    obtain ⟨h0, hK⟩ := hK
    split at hK
    · rename_i row hrow
      obtain ⟨hsz, hK⟩ := hK
      obtain ⟨q, cap, e, hlc, hm⟩ := hv
      obtain ⟨l1, l2, rfl, hl1⟩ := split_at hrow
      rcases hm with hnil | ⟨b, qo, sz', us, rfl, hb, hs', hrr, hmm⟩
      · simp at hnil
      · obtain ⟨v1, v2, rfl, h1, h2⟩ := CIr_append.1 hrr
        simp only [CIr] at h2
        obtain ⟨v3, v4, rfl, h3, h4⟩ := h2
        have e1 := h1.len (fun r hr => hs' r (by simp [hr]))
        have e2 := hs' row (by simp)
        refine fin _ _ _ _ _ _ _ e hw ⟨h0, by simp; omega⟩ ?_ ⟨_, hK⟩
        simp only [CV, CI]
        refine ⟨b, qo + k.toNat * sz, v3, rfl, hb, h3, ?_⟩
        intro j u hj
        have hj' : j < v3.length := by
          rcases Nat.lt_or_ge j v3.length with h | h
          · exact h
          · rw [List.getElem?_eq_none h] at hj; exact absurd hj (by simp)
        have := hmm (v1.length + j) u (by rw [List.getElem?_append_right (by omega), Nat.add_sub_cancel_left, List.getElem?_append_left hj']; exact hj)
        rw [show qo + k.toNat * sz + j = qo + (v1.length + j) by rw [e1, hl1, ← hsz, e2]; omega]
        exact this
    · exact hK.elim
  · exact hK.elim
end
end Go.Proofs.Ytcchmhmbjhgfdaa.V
