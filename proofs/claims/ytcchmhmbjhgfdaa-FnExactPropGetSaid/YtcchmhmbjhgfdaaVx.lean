/- The machine of trees: calls that only look on. -/
import Derived.Test.YtcchmhmbjhgfdaaVt2
namespace Go.Proofs.Ytcchmhmbjhgfdaa.V
open Go
set_option linter.unusedVariables false
set_option linter.unusedSimpArgs false
section
variable {P : Program} {E : Env} {A A' : Nat → Prop} {ρ ρ' : Nat → Option RB} {O O' : Nat → Prop} {F F' : Nat → List Nat} {s s' : St} {a : Act} {w w' : World} {M : List (Nat × CM)}
mutual
theorem CV_at : ∀ {t : T} {v : Value}, (∀ x ∈ t.names, A x → A' x ∧ ρ' x = ρ x) → CV w O ρ A t v → CV w O ρ' A' t v
  | .ref t o n, v, h, hv => by
    simp only [CV] at hv ⊢
    obtain ⟨h1, h2⟩ := h t (by simp [T.names]) hv.1
    exact ⟨h1, by rw [h2]; exact hv.2⟩
  | .ptr t r o, v, h, hv => by
    simp only [CV] at hv ⊢
    obtain ⟨h1, h2⟩ := h t (by simp [T.names]) hv.1
    exact ⟨h1, by rw [h2]; exact hv.2⟩
  | .mp t, v, h, hv => by
    simp only [CV] at hv ⊢
    obtain ⟨h1, h2⟩ := h t (by simp [T.names]) hv.1
    exact ⟨h1, by rw [h2]; exact hv.2⟩
  | .agg cs, v, h, hv => by simp only [CV] at hv ⊢; obtain ⟨us, e, hv⟩ := hv; exact ⟨us, e, CVs_at' (by simpa only [T.names] using h) hv⟩
  | .tup cs, v, h, hv => by simp only [CV] at hv ⊢; obtain ⟨us, e, hv⟩ := hv; exact ⟨us, e, CVs_at' (by simpa only [T.names] using h) hv⟩
  | .fn g cs, v, h, hv => by simp only [CV] at hv ⊢; obtain ⟨us, e, hv⟩ := hv; exact ⟨us, e, CVs_at' (by simpa only [T.names] using h) hv⟩
  | .ifc t x, v, h, hv => by simp only [CV] at hv ⊢; obtain ⟨u, e, hv⟩ := hv; exact ⟨u, e, CV_at (by simpa only [T.names] using h) hv⟩
  | .un, v, h, hv => by simpa only [CV] using hv
  | .dead, v, h, hv => by simpa only [CV] using hv
  | .b _, v, h, hv => by simpa only [CV] using hv
  | .i _ _, v, h, hv => by simpa only [CV] using hv
  | .s _, v, h, hv => by simpa only [CV] using hv
  | .nl, v, h, hv => by simpa only [CV] using hv
  | .imm _, v, h, hv => by simpa only [CV] using hv
  | .own _ _, v, h, hv => by simpa only [CV] using hv
  | .bx _, v, h, hv => by simpa only [CV] using hv
  | .np, v, h, hv => by simpa only [CV] using hv
  | .pim _, v, h, hv => by simpa only [CV] using hv
  | .nif, v, h, hv => by simpa only [CV] using hv
  | .nfn, v, h, hv => by simpa only [CV] using hv
  | .nmp, v, h, hv => by simpa only [CV] using hv
theorem CVs_at' : ∀ {ts : List T} {vs : List Value}, (∀ x ∈ namess ts, A x → A' x ∧ ρ' x = ρ x) → CVs w O ρ A ts vs → CVs w O ρ' A' ts vs
  | [], vs, h, hv => by simpa only [CVs] using hv
  | t :: ts, vs, h, hv => by
    simp only [namess, List.mem_append] at h
    simp only [CVs] at hv ⊢
    obtain ⟨v, r, e, h1, h2⟩ := hv
    exact ⟨v, r, e, CV_at (fun x hx => h x (.inl hx)) h1, CVs_at' (fun x hx => h x (.inr hx)) h2⟩
end
mutual
theorem CV_A : ∀ {t : T} {v : Value}, CV w O ρ A t v → ∀ x ∈ t.names, A x
  | .ref t o n, v, hv, x, hx => by simp only [CV] at hv; simp only [T.names, List.mem_singleton] at hx; subst hx; exact hv.1
  | .ptr t r o, v, hv, x, hx => by simp only [CV] at hv; simp only [T.names, List.mem_singleton] at hx; subst hx; exact hv.1
  | .mp t, v, hv, x, hx => by simp only [CV] at hv; simp only [T.names, List.mem_singleton] at hx; subst hx; exact hv.1
  | .agg cs, v, hv, x, hx => by simp only [CV] at hv; obtain ⟨us, e, hv⟩ := hv; exact CVs_A hv x (by simpa only [T.names] using hx)
  | .tup cs, v, hv, x, hx => by simp only [CV] at hv; obtain ⟨us, e, hv⟩ := hv; exact CVs_A hv x (by simpa only [T.names] using hx)
  | .fn g cs, v, hv, x, hx => by simp only [CV] at hv; obtain ⟨us, e, hv⟩ := hv; exact CVs_A hv x (by simpa only [T.names] using hx)
  | .ifc t y, v, hv, x, hx => by simp only [CV] at hv; obtain ⟨u, e, hv⟩ := hv; exact CV_A hv x (by simpa only [T.names] using hx)
  | .un, v, hv, x, hx => by simp [T.names] at hx
  | .dead, v, hv, x, hx => by simp [T.names] at hx
  | .b _, v, hv, x, hx => by simp [T.names] at hx
  | .i _ _, v, hv, x, hx => by simp [T.names] at hx
  | .s _, v, hv, x, hx => by simp [T.names] at hx
  | .nl, v, hv, x, hx => by simp [T.names] at hx
  | .imm _, v, hv, x, hx => by simp [T.names] at hx
  | .own _ _, v, hv, x, hx => by simp [T.names] at hx
  | .bx _, v, hv, x, hx => by simp [T.names] at hx
  | .np, v, hv, x, hx => by simp [T.names] at hx
  | .pim _, v, hv, x, hx => by simp [T.names] at hx
  | .nif, v, hv, x, hx => by simp [T.names] at hx
  | .nfn, v, hv, x, hx => by simp [T.names] at hx
  | .nmp, v, hv, x, hx => by simp [T.names] at hx
theorem CVs_A : ∀ {ts : List T} {vs : List Value}, CVs w O ρ A ts vs → ∀ x ∈ namess ts, A x
  | [], vs, hv, x, hx => by simp [namess] at hx
  | t :: ts, vs, hv, x, hx => by
    simp only [CVs] at hv
    obtain ⟨v, r, e, h1, h2⟩ := hv
    simp only [namess, List.mem_append] at hx
    rcases hx with hx | hx
    · exact CV_A h1 x hx
    · exact CVs_A h2 x hx
end
/-- A block of closed cells says nothing of names. -/
theorem D_clean {t : T} (ht : t.clean = true) {v : Value} {G : List Nat} (h : D w O ρ A t v G) : D w O ρ' A' t v G := by
  refine h.imp id fun h => ⟨CV_at (fun x hx => ?_) h.1, h.2⟩
  rw [names_clean ht] at hx; simp at hx
theorem Ds_clean : ∀ {ts : List T} {vs : List Value} {G : List Nat}, ts.all T.clean = true → Ds w O ρ A ts vs G → Ds w O ρ' A' ts vs G
  | [], vs, G, hc, h => by simpa only [Ds] using h
  | t :: ts, vs, G, hc, h => by
    simp only [List.all_cons, Bool.and_eq_true] at hc
    simp only [Ds] at h ⊢
    obtain ⟨v, r, F1, F2, e, e', h1, h2⟩ := h
    exact ⟨v, r, F1, F2, e, e', D_clean hc.1 h1, Ds_clean hc.2 h2⟩
theorem Dr_clean : ∀ {rs : List (List T)} {vs : List Value} {G : List Nat}, cleanR rs = true → Dr w O ρ A rs vs G → Dr w O ρ' A' rs vs G
  | [], vs, G, hc, h => by simpa only [Dr] using h
  | r :: rs, vs, G, hc, h => by
    simp only [cleanR, List.all_cons, Bool.and_eq_true] at hc
    simp only [Dr] at h ⊢
    obtain ⟨v1, v2, F1, F2, e, e', h1, h2⟩ := h
    exact ⟨v1, v2, F1, F2, e, e', Ds_clean hc.1 h1, Dr_clean (by simpa only [cleanR] using hc.2) h2⟩
def Blk.cl : Blk → Bool | .arr _ rows => cleanR rows | .mb _ => false
theorem BR_clean {t : Nat} {k : Blk} {G : List Nat} (hc : k.cl = true) (hρ : ρ' t = ρ t) (h : BR w O ρ A t k G) : BR w O ρ' A' t k G := by
  cases k with
  | arr sz rows =>
    simp only [BR] at h ⊢
    rw [hρ]
    refine h.imp id ?_
    rintro ⟨B, e1, e2, h1, h2, c, e, cs, F', hb, h3, hr, hm, rfl⟩
    exact ⟨B, e1, e2, h1, h2, c, e, cs, F', hb, h3, Dr_clean hc hr, hm, rfl⟩
  | mb es => simp only [BR] at h
/-- A call that only looks on: at trees that may name blocks of the caller's; these stay as they are. -/
def Vw (P : Program) (f : Nat) (args : List T) (hp : List (Nat × Blk)) (r : T) : Prop :=
  ∀ (E : Env) (A : Nat → Prop) (ρ : Nat → Option RB) (O : Nat → Prop) (F : Nat → List Nat) (s : St) (a : Act) (w : World) (vs : List Value), R E A ρ O F s a w → (∀ p ∈ hp, hget s.hp p.1 = some p.2) → CVs w O ρ A args vs →
    Calls P f vs.toArray w fun e w' => ∃ v O' F', e = .returned v ∧ R E A ρ O' F' s a w' ∧ CV w' O' ρ A r v
/-- What the end of such a call must show. -/
def finV (P : Program) (rs : List ResultVar) (hp : List (Nat × Blk)) (r : T) : Exit → St → Prop := fun e s => (e = .normal ∨ e = .ret) ∧ ∃ xs, resK P s rs = some xs ∧ res1 xs = r ∧ ∀ p ∈ hp, hget s.hp p.1 = some p.2
theorem Vw.intro {f N : Nat} {fn : Func} {c : Code} {pc : PC} {args : List T} {r : T} {hp : List (Nat × Blk)} (hf : P.funcs[f]? = some fn) (hb : fn.body = some c) (hc : comp P M fn.ntmps c = some pc) (ha : args.length ≤ fn.ntmps)
    (hN : ∀ x ∈ namess args, x < N) (hr : ∀ x ∈ r.names, x ∈ namess args) (hhp : ∀ p ∈ hp, p.1 < N ∧ p.2.cl = true) (hnd : (hp.map (·.1)).Nodup)
    (h : W P M fn.ntmps pc ⟨slotsOf 0 args, hp, N, N⟩ (finV P fn.results.toList hp r)) : Vw P f args hp r := by
  intro E A ρ O F s a w vs hR hg hv
  have hlen := hv.len
  have hAa := CVs_A hv
  let mine : List Nat := hp.flatMap fun p => F p.1
  have hmem : ∀ b, b ∈ mine ↔ ∃ p ∈ hp, b ∈ F p.1 := fun b => by simp only [mine, List.mem_flatMap]
  let E' : Env := { w0 := w, mine := mine, O0 := O, ρ0 := ρ, n := fn.ntmps, fb := N }
  have hget_hp : ∀ t k, hget hp t = some k → (t, k) ∈ hp := fun t k h => hget_mem h
  have hr0 : R E' (· < N) ρ O F { tm := slotsOf 0 args, hp := hp, nx := N, fb := N } { tmps := vs.toArray ++ Array.replicate (fn.ntmps - vs.toArray.size) undef, defers := [] } w := by
    refine ⟨by simp [E']; omega, rfl, rfl, fun _ _ => rfl, fun _ h => h, hR.Olt, fun b hb => .inl hb, ?_, ?_, ?_, ?_, ?_, Keep.refl _ _⟩
    · intro j
      have hv' : CVs w O ρ (· < N) args vs := CVs_at' (fun x hx _ => ⟨hN x hx, rfl⟩) hv
      simp only [tget_slots, Nat.zero_le, if_true, Nat.sub_zero]
      have := CVs_at hv' j
      have e : (vs.toArray ++ Array.replicate (fn.ntmps - vs.toArray.size) undef).getD j undef = vs.getD j undef := by
        simp only [Array.getD_eq_getD_getElem?, List.getD_eq_getElem?_getD]
        by_cases hj : j < vs.length
        · rw [Array.getElem?_append_left (by simpa using hj)]; simp
        · rw [Array.getElem?_append_right (by simp; omega), List.getElem?_eq_none (by omega)]
          simp only [Array.getElem?_replicate]
          split <;> rfl
      rw [e]; exact this
    · intro t k hk
      have hm := hget_hp t k hk
      exact ⟨(hhp _ hm).1, BR_clean (hhp _ hm).2 rfl (hR.hp t k (hg _ hm)).2⟩
    · intro t k hk; exact hR.nodup t k (hg _ (hget_hp t k hk))
    · intro t k t' k' h1 h2; exact hR.apart t k t' k' (hg _ (hget_hp t k h1)) (hg _ (hget_hp t' k' h2))
    · intro t k hk b hb'
      have hm := hget_hp t k hk
      obtain ⟨h1, h2, _⟩ := hR.mine t k (hg _ hm) b hb'
      exact ⟨h1, h2, .inr ((hmem b).2 ⟨_, hm, hb'⟩)⟩
  refine calls_of_wp hf hb (wp_mono (W_sound hc h (E := E') rfl ⟨⟨ρ, O, F, hr0⟩, Nat.le_refl _⟩) ?_)
  rintro e a' w' ⟨s2, ⟨he, xs, hres, rfl, hkeep⟩, ⟨⟨ρ2, O2, F2, hR2⟩, hfb⟩⟩
  obtain ⟨u, hu, hcu⟩ := results_ok hR2 hres
  have hmine : ∀ b ∈ mine, ¬ O b ∧ b < w.heap.size ∧ (E.w0.heap.size ≤ b ∨ b ∈ E.mine) := by
    intro b hb'
    obtain ⟨p, hp', hin⟩ := (hmem b).1 hb'
    exact hR.mine _ _ (hg p hp') b hin
  have hO2 : ∀ b, O2 b → O b ∨ (w.heap.size ≤ b ∨ b ∈ mine) := hR2.Onew
  have hρ2 : ∀ t, t < N → ρ2 t = ρ t := fun t ht => hR2.ρ0 t ht
  have hOw : ∀ b, O b → w'.heap[b]? = w.heap[b]? := fun b hb' => hR2.keep.block b (hR.Olt b hb') (fun hin => (hmine b hin).1 hb')
  have isd : ∀ t, (∃ k, (t, k) ∈ hp) ∨ ¬ ∃ k, (t, k) ∈ hp := fun t => Classical.em _
  let F3 : Nat → List Nat := fun t => if t ∈ hp.map (·.1) then F2 t else F t
  have hin3 : ∀ {t : Nat} {k : Blk}, hget s.hp t = some k → t ∈ hp.map (·.1) → (t, k) ∈ hp ∧ hget s2.hp t = some k := by
    intro t k h1 h2
    obtain ⟨p, hp', rfl⟩ := List.mem_map.1 h2
    have := hg p hp'
    rw [this] at h1
    simp only [Option.some.injEq] at h1
    subst h1
    exact ⟨hp', hkeep p hp'⟩
  have hold : ∀ {t : Nat} {k : Blk}, hget s.hp t = some k → t ∉ hp.map (·.1) → ∀ b ∈ F t, b ∉ mine := by
    intro t k h1 h2 b hb' hin
    obtain ⟨p, hp', hb2⟩ := (hmem b).1 hin
    exact hR.apart _ _ _ _ h1 (hg p hp') (fun e => h2 (List.mem_map.2 ⟨p, hp', e.symm⟩)) b hb' hb2
  have hF2 : ∀ {t : Nat} {k : Blk}, hget s2.hp t = some k → ∀ b ∈ F2 t, ¬ O2 b ∧ b < w'.heap.size ∧ (w.heap.size ≤ b ∨ b ∈ mine) := fun h b hb' => hR2.mine _ _ h b hb'
  have hR3 : R E A ρ O2 F3 s a w' := by
    refine ⟨hR.size, hR.defers, hR.fb, hR.ρ0, fun b hb' => hR2.O0 b (hR.O0 b hb'), hR2.Olt, ?_, fun j => (hR.tm j).cong hR2.O0 hOw (fun _ h => h) (fun _ _ => rfl), ?_, ?_, ?_, ?_, ?_⟩
    · intro b hb'
      rcases hO2 b hb' with h1 | h1 | h1
      · exact hR.Onew b h1
      · exact .inr (.inl (Nat.le_trans hR.keep.size h1))
      · exact .inr (hmine b h1).2.2
    · intro t k hk
      refine ⟨(hR.hp t k hk).1, ?_⟩
      by_cases ht : t ∈ hp.map (·.1)
      · obtain ⟨h1, h2⟩ := hin3 hk ht
        simp only [F3, if_pos ht]
        exact BR_clean (hhp _ h1).2 (hρ2 t (hhp _ h1).1).symm (hR2.hp t k h2).2
      · simp only [F3, if_neg ht]
        exact (hR.hp t k hk).2.cong hR2.O0 hOw (fun _ h => h) (fun _ _ => rfl) (hR.hp t k hk).1 (fun b hb' => hR2.keep.block b (hR.mine t k hk b hb').2.1 (hold hk ht b hb'))
    · intro t k hk
      by_cases ht : t ∈ hp.map (·.1)
      · simp only [F3, if_pos ht]; exact hR2.nodup t k (hin3 hk ht).2
      · simp only [F3, if_neg ht]; exact hR.nodup t k hk
    · intro t k t' k' h1 h2 hne b hb'
      by_cases ht : t ∈ hp.map (·.1) <;> by_cases ht' : t' ∈ hp.map (·.1) <;> simp only [F3, ht, ht', if_true, if_false] at hb' ⊢
      · exact hR2.apart _ _ _ _ (hin3 h1 ht).2 (hin3 h2 ht').2 hne b hb'
      · intro hin
        rcases (hF2 (hin3 h1 ht).2 b hb').2.2 with h3 | h3
        · have := (hR.mine _ _ h2 b hin).2.1; omega
        · exact hold h2 ht' b hin h3
      · intro hin
        rcases (hF2 (hin3 h2 ht').2 b hin).2.2 with h3 | h3
        · have := (hR.mine _ _ h1 b hb').2.1; omega
        · exact hold h1 ht b hb' h3
      · exact hR.apart _ _ _ _ h1 h2 hne b hb'
    · intro t k hk b hb'
      by_cases ht : t ∈ hp.map (·.1) <;> simp only [F3, ht, if_true, if_false] at hb'
      · obtain ⟨h1, h2, h3⟩ := hF2 (hin3 hk ht).2 b hb'
        refine ⟨h1, h2, ?_⟩
        rcases h3 with h3 | h3
        · exact .inl (Nat.le_trans hR.keep.size h3)
        · exact (hmine b h3).2.2
      · obtain ⟨h1, h2, h3⟩ := hR.mine t k hk b hb'
        refine ⟨fun ho => ?_, Nat.lt_of_lt_of_le h2 hR2.keep.size, h3⟩
        rcases hO2 b ho with h4 | h4 | h4
        · exact h1 h4
        · omega
        · exact hold hk ht b hb' h4
    · exact hR.keep.trans hR2.keep (fun b hb' hlt => ((hmine b hb').2.2).elim (fun h => by omega) id)
  have hcr : CV w' O2 ρ A (res1 xs) u := CV_at (fun x hx _ => ⟨hAa x (hr x hx), (hρ2 x (hN x (hr x hx))).symm⟩) hcu
  have hfin : a'.defers = [] ∧ ∃ v, (results fn a'.tmps).run P w' = .ok v w' ∧ (∃ v_1 O' F', Ending.returned v = .returned v_1 ∧ R E A ρ O' F' s a w' ∧ CV w' O' ρ A (res1 xs) v_1) := ⟨hR2.defers, u, hu, u, O2, F3, rfl, hR3, hcr⟩
  rcases he with rfl | rfl
  · exact hfin
  · exact hfin
theorem Vw.of {f n : Nat} (N : Nat) {fn : Func} {pc : PC} {args : List T} {r : T} {hp : List (Nat × Blk)} {rs : List ResultVar} (hf : P.funcs[f]? = some fn) (hc : (fn.body).bind (comp P M fn.ntmps) = some pc) (hrs : fn.results = rs.toArray) (hn : fn.ntmps = n) (ha : args.length ≤ n)
    (hN : ∀ x ∈ namess args, x < N) (hr : ∀ x ∈ r.names, x ∈ namess args) (hhp : ∀ p ∈ hp, p.1 < N ∧ p.2.cl = true) (hnd : (hp.map (·.1)).Nodup) (h : W P M n pc ⟨slotsOf 0 args, hp, N, N⟩ (finV P rs hp r)) : Vw P f args hp r := by
  obtain ⟨c, hb, hc⟩ := bodyOf hc
  subst hn
  exact Vw.intro hf hb hc ha hN hr hhp hnd (by rw [hrs]; simpa using h)
theorem fin_view {rs : List ResultVar} {hp : List (Nat × Blk)} {r : T} {xs : List T} {st : St} (h1 : resK P st rs = some xs) (h2 : res1 xs = r) (h3 : ∀ p ∈ hp, hget st.hp p.1 = some p.2) : finV P rs hp r .ret st := ⟨.inr rfl, xs, h1, h2, h3⟩
/-- Such a call as an operation of its own. -/
theorem hook_view {c : Call} {f n : Nat} {args : List T} {hp : List (Nat × Blk)} {r : T} (hc : c.callee = .value (.func f)) (hok : okCall P f = true) (h : Vw P f args hp r) : HookOk P (.call c) (.fn f [] :: args) hp n r [] := by
  intro E A ρ O F s a w o ys next Q hop hys hxs hR hd hg hfb hfr hn
  have hops : (Op.call c).operands.toList = .func f :: c.args.toList := by
    simp [Op.operands, Call.operands, hc]
  rw [hops] at hys
  simp only [List.mapM_cons, opd, Option.pure_def, Option.bind_eq_bind, Option.bind_some, Option.bind_eq_some_iff, Option.some.injEq] at hys
  obtain ⟨zs, hz, rfl⟩ := hys
  simp only [List.map_cons, List.cons.injEq] at hxs
  obtain ⟨_, rfl⟩ := hxs
  have hvs := evs_ok hR hz
  have hrun : (execOp a.eval o).run P w = .ok (.enter f (c.args.toList.map a.eval).toArray) w := by
    simp only [execOp, hop, resolve, hc, Act.eval, Deferred.ofValue, Sem.run_bind, Sem.run_pure, Result.andThen_ok, invoke]
    rw [run_enter hok]
    congr 2
    apply Array.ext'
    simp
  unfold Oper.wp
  rw [hrun, Oper.upon_enter]
  refine (h E A ρ O F s a w _ hR hg hvs).mono ?_
  rintro e w' ⟨v, O', F', rfl, hR', hv⟩
  simp only
  refine hn v w' ⟨ρ, O', F', ?_⟩
  have := (hR'.monoA (A' := Aext A n 0) (fun _ h => .inl h)).put hd (v := r) (u := v) (hv.cong (fun _ h => h) (fun _ _ => rfl) (fun _ h => .inl h) (fun _ _ => rfl))
  simpa [St.app] using this
theorem hookH_view {c : Call} {f n : Nat} {args : List T} {hp : List (Nat × Blk)} {r : T} {K : T → Δ → List Nat → Prop} (h : Vw P f args hp r) (hc : c.callee = .value (.func f)) (hok : okCall P f = true) (h1 : ∀ p ∈ hp, hget s.hp p.1 = some p.2) (h2 : K r [] (hp.map (·.1))) : @hookH P s n ⟨.call c⟩ (.fn f [] :: args) ⟨K⟩ :=
  hookH_of hp (hook_view hc hok h) h1 h2
end
end Go.Proofs.Ytcchmhmbjhgfdaa.V
