/- Each step of the machine of trees is a step of the model: all together. -/
import Derived.Test.YtcchmhmbjhgfdaaVo
import Derived.Laws.IdiomStrings
namespace Go.Proofs.Ytcchmhmbjhgfdaa.V
open Go
set_option linter.unusedVariables false
set_option linter.unusedSimpArgs false
section
variable {P : Program} {E : Env} {A A' : Nat → Prop} {ρ ρ' : Nat → Option RB} {O O' O2 : Nat → Prop} {F F' : Nat → List Nat} {s : St} {a : Act} {w w' : World} {o : Oper} {n : Nat}
  {next : Act → World → Prop} {Q : Exit → Act → World → Prop}
theorem bytes_of : ∀ {l : List UInt8} {vs : List Value}, Dr w O ρ A (l.map (fun c => [T.i .u8 (c.toNat : Int)])) vs [] → vs = l.map (fun c => .int .u8 (c.toNat : Int))
  | [], vs, h => by simp only [List.map_nil, Dr] at h; simpa using h.1
  | c :: l, vs, h => by
    simp only [List.map_cons, Dr, Ds] at h
    obtain ⟨v1, v2, F1, F2, rfl, hF, ⟨v, r, F3, F4, rfl, rfl, h1, rfl, rfl⟩, h2⟩ := h
    have h0 := List.append_eq_nil_iff.1 hF.symm
    obtain ⟨h3, h4⟩ := h0
    subst h4
    have h5 : v = .int .u8 (c.toNat : Int) := by
      rcases h1 with h1 | ⟨h1, _⟩
      · simp only [K, CI] at h1; exact h1.1
      · simp only [CV, CI] at h1; exact h1
    rw [h5, bytes_of h2]
    simp
theorem s_tostr (hR : R E A ρ O F s a w) (hd : ∀ k, o.dst = some k → k < E.n) {t1 t2 e : TypeId} {x : Operand} {x' : X} (ho : o.op = .convert t1 t2 x) (h1 : P.underlying t1 = some (.slice e)) (h2 : P.underlying t2 = some .string) (h3 : P.underlying e = some (.int .u8)) (hx : opd x = some x') {K : T → Δ → List Nat → Prop}
    (hK : stepK P s n (.tostr x') K) (hn : NX E A s a n o.dst K next) : o.wp P a w next Q := by
  have hv := ev_ok hR hx
  simp only [stepK] at hK
  split at hK
  case h_2 => exact hK.elim
  rename_i rows ts hy
  obtain ⟨l, rfl, hK⟩ := hK
  obtain ⟨news, n1, n2, n3, q, c, e1, e2, e3⟩ := src_ok hR hv (sz := 1) hy (fun r hr => by
    obtain ⟨b, _, rfl⟩ := List.mem_map.1 hr
    simp [T.cell])
  have hnews := bytes_of n2
  subst hnews
  simp only [List.length_map] at e1
  refine pureOp hR hd (u := .string ⟨l.toArray⟩) (v := .s l) ?_ (by simp [CV, CI]) ⟨ts, hK⟩ hn
  have hrun : (convert t1 t2 (.slice q l.length c)).run P w = .ok (.string ⟨l.toArray⟩) w := by
    cases q with
    | none =>
      have hl : l = [] := by simpa using e2 rfl
      subst hl
      rw [run_convert_bytes_string w t1 t2 e none _ c h1 h3 h2]
      simp [Conv.bytesToString, Sem.run_pure]
      rfl
    | some ad =>
      refine run_convert_bytes_back w t1 t2 e ad c l h1 h3 h2 ?_
      intro j hj
      rcases e3 with ⟨b, off, hq, hl⟩ | hl
      · simp only [Option.some.injEq] at hq
        subst hq
        rcases hl with hl | hl
        · have : l = [] := by simpa using hl
          subst this; simp at hj
        · have := hl j (.int .u8 (l[j].toNat : Int)) (by simp [List.getElem?_eq_getElem hj])
          have e5 : (⟨b, off, none⟩ : Addr).add j = ⟨b, off + j, none⟩ := by
            unfold Addr.add
            split
            · rename_i h0; subst h0; rfl
            · rfl
          rw [e5]; exact this
      · have : l = [] := by simpa using hl
        subst this; simp at hj
  simp [execOp, ho, e1, hrun]
theorem op_sound {M : List (Nat × CM)} {pi : PI} {K' : T → Δ → List Nat → Prop} (hc : compOp P M o.op = some pi) (hR : R E A ρ O F s a w) (hd : ∀ k, o.dst = some k → k < E.n) (hf : FR E A n K') (hK : stepK P s n pi K') (hn : NX E A s a n o.dst K' next) : o.wp P a w next Q := by
  cases hop : o.op <;> rw [hop] at hc
  case move x =>
    simp only [compOp, Option.map_eq_some_iff] at hc
    obtain ⟨y, hy, rfl⟩ := hc
    exact s_mv hR hd (.inl hop) hy hK hn
  case assign x =>
    simp only [compOp, Option.map_eq_some_iff] at hc
    obtain ⟨y, hy, rfl⟩ := hc
    exact s_mv hR hd (.inr hop) hy hK hn
  case pick c x y =>
    simp only [compOp, Option.bind_eq_bind, Option.bind_eq_some_iff, Option.some.injEq] at hc
    obtain ⟨c', h1, x', h2, y', h3, rfl⟩ := hc
    exact s_pick hR hd hop h1 h2 h3 hK hn
  case alloc e =>
    simp only [compOp, Option.map_eq_some_iff] at hc
    obtain ⟨zs, hz, rfl⟩ := hc
    exact s_alloc hR hd hop hz hf hK hn
  case box e x =>
    simp only [compOp, Option.bind_eq_bind, Option.bind_eq_some_iff, Option.some.injEq] at hc
    obtain ⟨sz, h1, x', h2, rfl⟩ := hc
    exact s_box hR hd hop h2 hf hK hn
  case build t ps =>
    simp only [compOp] at hc
    split at hc
    · rename_i fields hu
      split at hc
      · rename_i hall
        simp only [Option.bind_eq_bind, Option.bind_eq_some_iff, Option.some.injEq] at hc
        obtain ⟨zs, h1, qs, h2, rfl⟩ := hc
        exact s_build hR hd hop hu h1 h2 (fun f hf => List.all_eq_true.1 hall f hf) hK hn
      · exact absurd hc (by simp)
    · exact absurd hc (by simp)
  case buildSlice t len ps =>
    simp only [compOp] at hc
    split at hc
    · rename_i e hu
      simp only [Option.bind_eq_bind, Option.bind_eq_some_iff] at hc
      obtain ⟨sz, h1, ys, h2, hc⟩ := hc
      split at hc
      · rename_i hh
        simp only [Option.some.injEq] at hc
        subst hc
        exact s_mksl hR hd hop hu h1 h2 hh.1 hh.2.1 hh.2.2.1 hh.2.2.2 hf hK hn
      · exact absurd hc (by simp)
    · exact absurd hc (by simp)
  case load t x =>
    simp only [compOp, Option.bind_eq_bind, Option.bind_eq_some_iff, Option.some.injEq] at hc
    obtain ⟨m, h1, x', h2, rfl⟩ := hc
    exact s_load hR hd hop h1 h2 hf hK hn
  case store t x v =>
    simp only [compOp, Option.bind_eq_bind, Option.bind_eq_some_iff, Option.some.injEq] at hc
    obtain ⟨m, h1, x', h2, v', h3, rfl⟩ := hc
    exact s_store hR hd hop h1 h2 h3 hf hK hn
  case nilCheck x =>
    simp only [compOp, Option.bind_eq_bind, Option.bind_eq_some_iff, Option.some.injEq] at hc
    obtain ⟨x', h1, rfl⟩ := hc
    exact s_nilchk hR hd hop h1 hK hn
  case binOp op t x y t' =>
    simp only [compOp] at hc
    split at hc
    · simp only [Option.bind_eq_bind, Option.bind_eq_some_iff, Option.some.injEq] at hc
      obtain ⟨x', h1, y', h2, rfl⟩ := hc
      exact s_bin hR hd hop h1 h2 hK hn
    · simp only [Option.bind_eq_bind, Option.bind_eq_some_iff, Option.some.injEq] at hc
      obtain ⟨x', h1, y', h2, rfl⟩ := hc
      exact s_bin hR hd hop h1 h2 hK hn
    · rename_i hu
      simp only [Option.bind_eq_bind, Option.bind_eq_some_iff, Option.some.injEq] at hc
      obtain ⟨x', h1, y', h2, rfl⟩ := hc
      exact s_beq hR hd hop hu h1 h2 hK hn
    · rename_i e hu
      simp only [Option.bind_eq_bind, Option.bind_eq_some_iff, Option.some.injEq] at hc
      obtain ⟨x', h1, y', h2, rfl⟩ := hc
      exact s_peq hR hd hop hu h1 h2 hK hn
    · exact absurd hc (by simp)
  case unOp op t x =>
    simp only [compOp, Option.bind_eq_bind, Option.bind_eq_some_iff, Option.some.injEq] at hc
    obtain ⟨x', h1, rfl⟩ := hc
    exact s_un hR hd hop h1 hK hn
  case convert t1 t2 x =>
    simp only [compOp] at hc
    split at hc
    · rename_i k1 k2 h1 h2
      simp only [Option.bind_eq_bind, Option.bind_eq_some_iff, Option.some.injEq] at hc
      obtain ⟨x', h3, rfl⟩ := hc
      exact s_conv hR hd hop h1 h2 h3 hK hn
    · rename_i h1 h2
      simp only [Option.bind_eq_bind, Option.bind_eq_some_iff, Option.some.injEq] at hc
      obtain ⟨x', h3, rfl⟩ := hc
      exact s_convs hR hd hop h1 h2 h3 hK hn
    · rename_i e h1 h2
      split at hc
      · rename_i h3
        split at hc
        · rename_i h4
          simp only [Option.bind_eq_bind, Option.bind_eq_some_iff, Option.some.injEq] at hc
          obtain ⟨x', h5, rfl⟩ := hc
          exact s_tostr hR hd hop h1 h2 h3 h5 hK hn
        · exact absurd hc (by simp)
      · exact absurd hc (by simp)
    · exact absurd hc (by simp)
  case makeFunc fn first caps =>
    cases fn <;> simp only [compOp] at hc <;> first
      | (split at hc
         · rename_i h1
           simp only [Option.bind_eq_bind, Option.bind_eq_some_iff, Option.some.injEq] at hc
           obtain ⟨ys, h2, rfl⟩ := hc
           have : first = #[] := by simpa using h1
           subst this
           exact s_mkfn hR hd hop h2 hK hn
         · exact absurd hc (by simp))
      | exact absurd hc (by simp)
  case makeSlice t l c =>
    cases l <;> cases c <;> simp only [compOp] at hc <;> try (cases hc; done)
    rename_i j1 j2
    split at hc
    · rename_i e hu
      simp only [Option.bind_eq_bind, Option.bind_eq_some_iff] at hc
      obtain ⟨i, h1, zs, h2, hc⟩ := hc
      split at hc
      · rename_i hh
        obtain ⟨rfl, h3, h4⟩ := hh
        simp only [Option.some.injEq] at hc
        subst hc
        exact s_make hR hd hop hu h1 h2 h3 h4 hf hK hn
      · exact absurd hc (by simp)
    · exact absurd hc (by simp)
  case slice t x lo hi mx =>
    cases mx with
    | some _ => simp only [compOp] at hc; exact absurd hc (by simp)
    | none =>
      simp only [compOp] at hc
      split at hc
      · rename_i hu
        simp only [Option.bind_eq_bind, Option.bind_eq_some_iff, Option.some.injEq] at hc
        obtain ⟨x', h1, lo', h2, hi', h3, rfl⟩ := hc
        exact s_sls hR hd hop hu h1 h2 h3 hK hn
      · rename_i e hu
        simp only [Option.bind_eq_bind, Option.bind_eq_some_iff, Option.some.injEq] at hc
        obtain ⟨sz, h0, x', h1, lo', h2, hi', h3, rfl⟩ := hc
        exact s_sl hR hd hop hu h0 h1 h2 h3 hK hn
      · exact absurd hc (by simp)
  case fieldAddr t x f =>
    simp only [compOp] at hc
    split at hc
    · rename_i fields hu
      simp only [Option.bind_eq_bind, Option.bind_eq_some_iff] at hc
      obtain ⟨fd, h1, k, h2, hc⟩ := hc
      split at hc
      · exact absurd hc (by simp)
      · rename_i h3
        simp only [Option.bind_eq_some_iff, Option.some.injEq] at hc
        obtain ⟨x', h4, rfl⟩ := hc
        exact s_fa hR hd hop hu h1 h2 h3 h4 hK hn
    · exact absurd hc (by simp)
  case field t x f =>
    simp only [compOp] at hc
    split at hc
    · rename_i fields hu
      simp only [Option.bind_eq_bind, Option.bind_eq_some_iff, Option.some.injEq] at hc
      obtain ⟨fd, h1, m, h2, x', h3, rfl⟩ := hc
      exact s_fld hR hd hop hu h1 h2 h3 hK hn
    · exact absurd hc (by simp)
  case indexAddr t x i =>
    simp only [compOp] at hc
    split at hc
    · rename_i e hu
      simp only [Option.bind_eq_bind, Option.bind_eq_some_iff, Option.some.injEq] at hc
      obtain ⟨sz, h1, x', h2, i', h3, rfl⟩ := hc
      exact s_ia hR hd hop hu h1 h2 h3 hK hn
    · exact absurd hc (by simp)
  case index t x i =>
    simp only [compOp] at hc
    split at hc
    · rename_i hu
      simp only [Option.bind_eq_bind, Option.bind_eq_some_iff, Option.some.injEq] at hc
      obtain ⟨x', h2, i', h3, rfl⟩ := hc
      exact s_ix hR hd hop hu h2 h3 hK hn
    · exact absurd hc (by simp)
  case extract x i =>
    simp only [compOp, Option.bind_eq_bind, Option.bind_eq_some_iff, Option.some.injEq] at hc
    obtain ⟨x', h1, rfl⟩ := hc
    exact s_ext hR hd hop h1 hK hn
  case call c =>
    simp only [compOp] at hc
    split at hc
    · rename_i hcal
      split at hc
      · rename_i x h1 h2
        obtain ⟨x', h3, rfl⟩ := Option.map_eq_some_iff.1 hc
        exact s_lens hR hd hop hcal h1 h2 h3 hK hn
      · rename_i e x h1 h2
        obtain ⟨x', h3, rfl⟩ := Option.map_eq_some_iff.1 hc
        exact s_len hR hd hop hcal h1 h2 h3 hK hn
      · exact absurd hc (by simp)
    · rename_i hcal
      split at hc
      · rename_i t t' x y h1 h2
        split at hc
        · rename_i e hu
          simp only [Option.bind_eq_bind, Option.bind_eq_some_iff] at hc
          obtain ⟨i, h3, hc⟩ := hc
          split at hc
          · rename_i hh
            obtain ⟨rfl, h4, h5, h6⟩ := hh
            simp only [Option.bind_eq_some_iff, Option.some.injEq] at hc
            obtain ⟨x', h7, y', h8, rfl⟩ := hc
            exact s_app hR hd hop hcal h1 h2 hu h3 h4 h5 h6 h7 h8 hf hK hn
          · exact absurd hc (by simp)
        · exact absurd hc (by simp)
      · exact absurd hc (by simp)
    · rename_i f hcal
      split at hc
      · rename_i hok
        simp only [Option.bind_eq_bind, Option.bind_eq_some_iff, Option.some.injEq] at hc
        obtain ⟨ys, h1, rfl⟩ := hc
        exact s_call hR hd hop hcal hok.1 h1 hf hK hn
      · exact absurd hc (by simp)
    · rename_i j hcal
      simp only [Option.bind_eq_bind, Option.bind_eq_some_iff, Option.some.injEq] at hc
      obtain ⟨ys, h1, rfl⟩ := hc
      exact s_callv hR hd hop hcal h1 hf hK hn
    · exact absurd hc (by simp)
  all_goals (simp only [compOp] at hc; exact absurd hc (by simp))
theorem opI_sound {M : List (Nat × CM)} {pi : PI} {K' : T → Δ → List Nat → Prop} (hc : compI P M o.op = pi) (hR : R E A ρ O F s a w) (hd : ∀ k, o.dst = some k → k < E.n) (hf : FR E A n K') (hK : stepK P s n pi K') (hn : NX E A s a n o.dst K' next) : o.wp P a w next Q := by
  cases h : compOp P M o.op with
  | none =>
    simp only [compI, h, Option.getD_none, hookOf] at hc
    split at hc
    · rename_i ys hy
      subst hc
      simp only [stepK] at hK
      obtain ⟨hp, v, δ, h1, h2, h3⟩ := hK
      exact h2 E A ρ O F s a w o ys next Q rfl hy rfl hR hd h1 hf.1 (hf.2 _ _ _ h3) (fun u w' hr => hn _ _ _ u w' h3 hr)
    · subst hc
      simp only [stepK] at hK
  | some p =>
    simp only [compI, h, Option.getD_some] at hc
    subst hc
    exact op_sound h hR hd hf hK hn
end
end Go.Proofs.Ytcchmhmbjhgfdaa.V
