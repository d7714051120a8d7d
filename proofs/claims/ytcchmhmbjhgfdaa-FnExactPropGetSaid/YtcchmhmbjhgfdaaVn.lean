/- Each step of the machine of trees is a step of the model: a call, its arguments and what comes back. -/
import Derived.Test.YtcchmhmbjhgfdaaVm
namespace Go.Proofs.Ytcchmhmbjhgfdaa.V
open Go
set_option linter.unusedVariables false
set_option linter.unusedSimpArgs false
section
variable {P : Program} {E : Env} {A A' : Nat → Prop} {ρ ρ' : Nat → Option RB} {O O' O2 : Nat → Prop} {F F' : Nat → List Nat} {s : St} {a : Act} {w w' : World} {o : Oper} {n : Nat}
  {next : Act → World → Prop} {Q : Exit → Act → World → Prop}
theorem toIr_len : ∀ (l : List (List T)), (toIr l).length = l.length
  | [] => rfl
  | x :: l => by simp [toIr, toIr_len l]
theorem toIs_len : ∀ (l : List T), (toIs l).length = l.length
  | [] => rfl
  | x :: l => by simp [toIs, toIs_len l]
theorem toIr_mem : ∀ (l : List (List T)) (r : List T), r ∈ toIr l → ∃ r', r' ∈ l ∧ r = toIs r'
  | [], r, h => by simp [toIr] at h
  | x :: l, r, h => by
    simp only [toIr, List.mem_cons] at h
    rcases h with rfl | h
    · exact ⟨x, by simp, rfl⟩
    · obtain ⟨r', h1, h2⟩ := toIr_mem l r h
      exact ⟨r', by simp [h1], h2⟩
mutual
/-- An argument that is read. -/
theorem argI_ok (hR : R E A ρ O F s a w) (hO : ∀ b, O b → O2 b) : ∀ {t x : T} {v : Value}, CV w O ρ A t v → argI s t = some x → (∀ tk ∈ t.names, ∀ k, hget s.hp tk = some k → ∀ b ∈ F tk, O2 b) → CI w O2 x v
  | .ref tk p m, x, v, hv, h, hF => by
    simp only [argI] at h
    split at h
    · rename_i sz rows hg
      split at h
      · rename_i hc
        simp only [Option.some.injEq] at h
        subst h
        simp only [CV] at hv
        obtain ⟨hA, hv⟩ := hv
        have hlen : ((rows.drop p).take m).length = m := by simp; omega
        have hF' := hF tk (by simp [T.names]) _ hg
        simp only [CI]
        rcases (hR.hp _ _ hg).2.seg hc.1 with ⟨rfl, _, hn⟩ | ⟨B, c, e, us1, us, us2, F1, Fm, F2, hB, hsz, hcap, hsr, hb, hcs, hd, hm, l1, l2, hFt⟩
        · have hc1 := hc.1
          simp only [List.length_nil] at hc1
          obtain ⟨q1, e⟩ := ref_empty (by omega) (by omega) hv hn
          exact ⟨q1, 0, by simpa [toIr] using e, by simp [toIr], .inl (by simp [toIr])⟩
        · rcases hv with ⟨hn, _⟩ | ⟨B', hB', b', o', c', e', hc', hmc, hbo⟩
          · rw [hn] at hB; exact absurd hB (by simp)
          obtain rfl : B = B' := Option.some.inj (hB.symm.trans hB')
          rw [toIr_len, hlen]
          refine ⟨_, c', e', hmc, ?_⟩
          rcases hbo with h00 | ⟨rfl, rfl⟩
          · left
            rw [show m = 0 by omega]; simp [toIr]
          · right
            have hcI := Dr_toI (O2 := O2) hO (fun b hb => hF' b (by rw [hFt]; simp [hb])) hd hc.2
            refine ⟨B.b, B.o + p * B.sz, sz, us, rfl, hF' _ (by rw [hFt]; simp), ?_, hcI, Lies.of_block hb ?_⟩
            · intro r hr
              obtain ⟨r', h1, rfl⟩ := toIr_mem _ _ hr
              rw [toIs_len]
              exact hsr r' (List.mem_of_mem_drop (List.mem_of_mem_take h1))
            · intro j u hj
              have := hm (us1.length + j) u (by
                rw [List.append_assoc, List.getElem?_append_right (by omega), Nat.add_sub_cancel_left, List.getElem?_append_left (getElem?_len hj)]; exact hj)
              rw [l1, hsz] at this
              rw [← this]; congr 1; omega
      · exact absurd h (by simp)
    · exact absurd h (by simp)
  | .ptr tk r q, x, v, hv, h, hF => by
    simp only [argI] at h
    split at h
    · rename_i sz rows hg
      split at h
      · rename_i row hrow
        split at h
        · rename_i hc
          simp only [Option.some.injEq] at h
          subst h
          simp only [CV] at hv
          obtain ⟨hA, B', hB', e⟩ := hv
          have hF' := hF tk (by simp [T.names]) _ hg
          obtain ⟨B, c, et, rs1, rs2, us1, us, us2, F1, Fr, F2, hB, hsz, hrows, hl1, hrl, hz1, hz2, hcap, hheap, hcs, hd1, hdr, hd2, hlie, hlu1, hlu, hFt⟩ := (hR.hp _ _ hg).2.row hrow
          obtain rfl : B = B' := Option.some.inj (hB.symm.trans hB')
          have hci := Ds_toI (O2 := O2) hO (fun b hb => hF' b (by rw [hFt]; simp [hb])) hdr hc.2
          have hdrop : ∀ (l : List T) (k : Nat), toIs (l.drop k) = (toIs l).drop k := by
            intro l
            induction l with
            | nil => intro k; simp [toIs]
            | cons x l ih =>
              intro k
              cases k with
              | zero => rfl
              | succ k => simp [toIs, ih]
          simp only [CI]
          refine ⟨B.b, B.o + r * B.sz + q, us.drop q, e, hF' _ (by rw [hFt]; simp), by rw [hdrop]; exact CIs_drop _ hci, ?_⟩
          have : Lies w B.b (B.o + r * B.sz) us := by
            refine Lies.of_block hheap ?_
            intro j u hj
            have := hlie (us1.length + j) u (by
              rw [List.append_assoc, List.getElem?_append_right (by omega), Nat.add_sub_cancel_left, List.getElem?_append_left (getElem?_len hj)]; exact hj)
            rw [hlu1, hsz] at this
            rw [← this]; congr 1; omega
          exact this.drop
        · exact absurd h (by simp)
      · exact absurd h (by simp)
    · exact absurd h (by simp)
  | .nl, x, v, hv, h, hF => by
    simp only [argI, Option.some.injEq] at h
    subst h
    simp only [CV, CI] at hv ⊢
    exact ⟨none, 0, hv, by simp, .inl trivial⟩
  | .agg cs, x, v, hv, h, hF => by
    simp only [argI, Option.map_eq_some_iff] at h
    obtain ⟨xs, hxs, rfl⟩ := h
    simp only [CV] at hv; simp only [CI]
    obtain ⟨us, e, hv⟩ := hv
    exact ⟨us, e, argIs_ok hR hO hv hxs (by simpa [T.names] using hF)⟩
  | .fn f cs, x, v, hv, h, hF => by
    simp only [argI, Option.map_eq_some_iff] at h
    obtain ⟨xs, hxs, rfl⟩ := h
    simp only [CV] at hv; simp only [CI]
    obtain ⟨us, e, hv⟩ := hv
    exact ⟨us, e, argIs_ok hR hO hv hxs (by simpa [T.names] using hF)⟩
  | .tup cs, x, v, hv, h, hF => by simp only [argI] at h; exact absurd h (by simp)
  | .ifc t y, x, v, hv, h, hF => by
    simp only [argI, Option.map_eq_some_iff] at h
    obtain ⟨xs, hxs, rfl⟩ := h
    simp only [CV] at hv; simp only [CI]
    obtain ⟨u, e, hv⟩ := hv
    exact ⟨u, e, argI_ok hR hO hv hxs (by simpa [T.names] using hF)⟩
  | .mp _, x, v, hv, h, hF => by simp only [argI] at h; exact absurd h (by simp)
  | .un, x, v, hv, h, hF => by simp only [argI] at h; exact absurd h (by simp)
  | .dead, x, v, hv, h, hF => by simp only [argI, Option.some.injEq] at h; subst h; simp only [CV] at hv; exact hv.cong hO (fun _ _ => rfl)
  | .b _, x, v, hv, h, hF => by simp only [argI, Option.some.injEq] at h; subst h; simp only [CV] at hv; exact hv.cong hO (fun _ _ => rfl)
  | .i _ _, x, v, hv, h, hF => by simp only [argI, Option.some.injEq] at h; subst h; simp only [CV] at hv; exact hv.cong hO (fun _ _ => rfl)
  | .s _, x, v, hv, h, hF => by simp only [argI, Option.some.injEq] at h; subst h; simp only [CV] at hv; exact hv.cong hO (fun _ _ => rfl)
  | .imm _, x, v, hv, h, hF => by simp only [argI, Option.some.injEq] at h; subst h; simp only [CV] at hv; exact hv.cong hO (fun _ _ => rfl)
  | .own _ _, x, v, hv, h, hF => by simp only [argI, Option.some.injEq] at h; subst h; simp only [CV] at hv; exact hv.cong hO (fun _ _ => rfl)
  | .bx _, x, v, hv, h, hF => by simp only [argI, Option.some.injEq] at h; subst h; simp only [CV] at hv; exact hv.cong hO (fun _ _ => rfl)
  | .np, x, v, hv, h, hF => by simp only [argI, Option.some.injEq] at h; subst h; simp only [CV] at hv; exact hv.cong hO (fun _ _ => rfl)
  | .pim _, x, v, hv, h, hF => by simp only [argI, Option.some.injEq] at h; subst h; simp only [CV] at hv; exact hv.cong hO (fun _ _ => rfl)
  | .nif, x, v, hv, h, hF => by simp only [argI, Option.some.injEq] at h; subst h; simp only [CV] at hv; exact hv.cong hO (fun _ _ => rfl)
  | .nfn, x, v, hv, h, hF => by simp only [argI, Option.some.injEq] at h; subst h; simp only [CV] at hv; exact hv.cong hO (fun _ _ => rfl)
  | .nmp, x, v, hv, h, hF => by simp only [argI, Option.some.injEq] at h; subst h; simp only [CV] at hv; exact hv.cong hO (fun _ _ => rfl)
theorem argIs_ok (hR : R E A ρ O F s a w) (hO : ∀ b, O b → O2 b) : ∀ {ts xs : List T} {vs : List Value}, CVs w O ρ A ts vs → argIs s ts = some xs → (∀ tk ∈ namess ts, ∀ k, hget s.hp tk = some k → ∀ b ∈ F tk, O2 b) → CIs w O2 xs vs
  | [], xs, vs, hv, h, hF => by
    simp only [argIs, Option.some.injEq] at h
    subst h
    simpa only [CVs, CIs] using hv
  | t :: ts, xs, vs, hv, h, hF => by
    simp only [argIs] at h
    split at h
    · rename_i y ys h1 h2
      simp only [Option.some.injEq] at h
      subst h
      simp only [CVs] at hv; simp only [CIs]
      obtain ⟨v, r, e, g1, g2⟩ := hv
      exact ⟨v, r, e, argI_ok hR hO g1 h1 (fun tk htk => hF tk (by simp [namess, htk])), argIs_ok hR hO g2 h2 (fun tk htk => hF tk (by simp [namess, htk]))⟩
    · exact absurd h (by simp)
end
theorem K_of_CI : ∀ {t : T} {v : Value}, CI w O t v → K w O t v []
  | .own _ _, v, h => by simp only [CI] at h
  | .bx _, v, h => by simp only [CI] at h
  | .agg cs, v, h => by
    simp only [CI] at h; simp only [K]
    obtain ⟨us, e, h⟩ := h
    have : ∀ {ts : List T} {vs : List Value}, (∀ t ∈ ts, ∀ v, CI w O t v → K w O t v []) → CIs w O ts vs → Ks w O ts vs [] := by
      intro ts
      induction ts with
      | nil => intro vs _ h; simp only [CIs] at h; simp [Ks, h]
      | cons t ts ih =>
        intro vs hk h
        simp only [CIs] at h; simp only [Ks]
        obtain ⟨v, r, e, h1, h2⟩ := h
        exact ⟨v, r, [], [], e, rfl, hk t (by simp) v h1, ih (fun t ht => hk t (by simp [ht])) h2⟩
    exact ⟨us, e, this (fun t ht v h => K_of_CI h) h⟩
  | .tup cs, v, h => by
    simp only [CI] at h; simp only [K]
    obtain ⟨us, e, h⟩ := h
    have : ∀ {ts : List T} {vs : List Value}, (∀ t ∈ ts, ∀ v, CI w O t v → K w O t v []) → CIs w O ts vs → Ks w O ts vs [] := by
      intro ts
      induction ts with
      | nil => intro vs _ h; simp only [CIs] at h; simp [Ks, h]
      | cons t ts ih =>
        intro vs hk h
        simp only [CIs] at h; simp only [Ks]
        obtain ⟨v, r, e, h1, h2⟩ := h
        exact ⟨v, r, [], [], e, rfl, hk t (by simp) v h1, ih (fun t ht => hk t (by simp [ht])) h2⟩
    exact ⟨us, e, this (fun t ht v h => K_of_CI h) h⟩
  | .un, v, h => by simp only [K]; exact ⟨h, trivial⟩
  | .dead, v, h => by simp only [K]; exact ⟨h, trivial⟩
  | .b _, v, h => by simp only [K]; exact ⟨h, trivial⟩
  | .i _ _, v, h => by simp only [K]; exact ⟨h, trivial⟩
  | .s _, v, h => by simp only [K]; exact ⟨h, trivial⟩
  | .nl, v, h => by simp only [K]; exact ⟨h, trivial⟩
  | .imm _, v, h => by simp only [K]; exact ⟨h, trivial⟩
  | .ref _ _ _, v, h => by simp only [K]; exact ⟨h, trivial⟩
  | .np, v, h => by simp only [K]; exact ⟨h, trivial⟩
  | .ptr _ _ _, v, h => by simp only [K]; exact ⟨h, trivial⟩
  | .pim _, v, h => by simp only [K]; exact ⟨h, trivial⟩
  | .fn _ _, v, h => by simp only [K]; exact ⟨h, trivial⟩
  | .nif, v, h => by simp only [K]; exact ⟨h, trivial⟩
  | .nfn, v, h => by simp only [K]; exact ⟨h, trivial⟩
  | .ifc _ _, v, h => by simp only [K]; exact ⟨h, trivial⟩
  | .nmp, v, h => by simp only [K]; exact ⟨h, trivial⟩
  | .mp _, v, h => by simp only [K]; exact ⟨h, trivial⟩
/-- Blocks under names. -/
def LB (w : World) (O : Nat → Prop) (ρ : Nat → Option RB) (A : Nat → Prop) : List (Nat × Blk) → List Nat → Prop
  | [], G => G = []
  | (t, k) :: l, G => ∃ G1 G2, G = G1 ++ G2 ∧ BR w O ρ A t k G1 ∧ LB w O ρ A l G2
theorem LB.cong (hO : ∀ b, O b → O' b) (hw : ∀ b, O b → w'.heap[b]? = w.heap[b]?) (hA : ∀ t, A t → A' t) (hρ : ∀ t, A t → ρ' t = ρ t) : ∀ {l : List (Nat × Blk)} {G : List Nat}, (∀ b ∈ G, w'.heap[b]? = w.heap[b]?) → (∀ x ∈ l.map (·.1), A x) → LB w O ρ A l G → LB w' O' ρ' A' l G
  | [], G, hF, hn, h => by simpa only [LB] using h
  | (t, k) :: l, G, hF, hn, h => by
    simp only [LB] at h ⊢
    obtain ⟨F1, F2, rfl, h1, h2⟩ := h
    exact ⟨F1, F2, rfl, h1.cong hO hw hA hρ (hn _ (by simp)) (fun b hb => hF b (by simp [hb])), LB.cong hO hw hA hρ (fun b hb => hF b (by simp [hb])) (fun x hx => hn x (by simp at hx ⊢; exact .inr hx)) h2⟩
theorem R.addL : ∀ {l : List (Nat × Blk)} {G : List Nat} {F : Nat → List Nat} {s : St}, R E A ρ O F s a w → LB w O ρ A l G → (∀ x ∈ l.map (·.1), A x) → (∀ x ∈ l.map (·.1), hget s.hp x = none) → (l.map (·.1)).Nodup → G.Nodup →
    (∀ b ∈ G, ¬ O b ∧ b < w.heap.size ∧ (E.w0.heap.size ≤ b ∨ b ∈ E.mine)) → (∀ t k, hget s.hp t = some k → ∀ b ∈ G, b ∉ F t) → ∃ F', R E A ρ O F' { s with hp := hap s.hp (news l) } a w ∧ (∀ t k, hget s.hp t = some k → F' t = F t) ∧ (∀ t k, hget (hap s.hp (news l)) t = some k → ∀ b ∈ F' t, b ∈ G ∨ (∃ k', hget s.hp t = some k' ∧ b ∈ F t))
  | [], G, F, s, h, hb, hA, hg, hnn, hnd, hm, hap' => ⟨F, h, fun _ _ _ => rfl, fun t k hk b hb => .inr ⟨k, hk, hb⟩⟩
  | (t, k) :: l, G, F, s, h, hb, hA, hg, hnn, hnd, hm, hap' => by
    simp only [LB] at hb
    obtain ⟨G1, G2, rfl, hb1, hb2⟩ := hb
    have hnd' := List.nodup_append.1 hnd
    simp only [List.map_cons, List.nodup_cons] at hnn
    have h1 := h.set1 (t := t) (k := k) (Ft := G1) (M := []) (A' := A) (ρ' := ρ) (w' := w) (hp0 := s.hp) (fun _ h => h) (fun _ _ => rfl) h.ρ0 (fun _ _ => rfl) (fun _ _ h => h) (fun _ _ _ _ _ _ => rfl) (Keep.refl _ _) (by simp)
      (hA t (by simp)) hb1 hnd'.1 (fun b hb => hm b (by simp [hb])) (fun t' k' _ hk b hb => hap' t' k' hk b (by simp [hb]))
    have hne : ∀ x ∈ l.map (·.1), t ≠ x := fun x hx e => hnn.1 (e ▸ hx)
    obtain ⟨F', h2, h3, h4⟩ := R.addL h1 hb2 (fun x hx => hA x (by simp only [List.map_cons, List.mem_cons]; exact .inr hx)) (fun x hx => by
        simp only [hget_hset]; rw [if_neg (hne x hx)]; exact hg x (by simp only [List.map_cons, List.mem_cons]; exact .inr hx)) hnn.2 hnd'.2.1 (fun b hb => hm b (by simp [hb])) (fun t' k' hk b hb => by
        simp only [hget_hset] at hk
        by_cases e : t = t'
        · subst e; simp only [if_true]; intro hb1; exact hnd'.2.2 b hb1 b hb rfl
        · rw [if_neg e] at hk; rw [if_neg (fun h => e h.symm)]; exact hap' t' k' hk b (by simp [hb]))
    have htn : hget s.hp t = none := hg t (by simp)
    refine ⟨F', h2, ?_, ?_⟩
    · intro t' k' hk'
      have e : t ≠ t' := by rintro rfl; rw [htn] at hk'; exact absurd hk' (by simp)
      have := h3 t' k' (by simp only [hget_hset]; rw [if_neg e]; exact hk')
      rw [this, if_neg (fun h => e h.symm)]
    · intro t' k' hk' b hb
      rcases h4 t' k' hk' b hb with h5 | ⟨k2, h5, h6⟩
      · exact .inl (by simp [h5])
      · simp only [hget_hset] at h5
        by_cases e : t = t'
        · subst e
          simp only [if_true] at h6
          exact .inl (by simp [h6])
        · rw [if_neg e] at h5
          rw [if_neg (fun h => e h.symm)] at h6
          exact .inr ⟨k2, h5, h6⟩
theorem handed1_ok (hR : R E A ρ O F s a w) (hO : ∀ b, O b → O2 b) {t x : T} {v : Value} (hv : CV w O ρ A t v) (hx : handed1 s t = some x) : ∃ G, K w O2 x v G ∧ G.Nodup ∧ (∀ b ∈ G, ∃ tk k, tk ∈ t.names ∧ hget s.hp tk = some k ∧ b ∈ F tk) ∧ (∀ tk ∈ t.names, ∃ k, hget s.hp tk = some k) := by
  unfold handed1 at hx
  split at hx
  · rename_i tk m
    split at hx
    · rename_i sz rows hg
      split at hx
      · rename_i hc
        simp only [Option.some.injEq] at hx
        subst hx
        simp only [CV] at hv
        obtain ⟨hA, hv⟩ := hv
        obtain ⟨rfl, hcl⟩ := hc
        refine (hR.hp _ _ hg).2.elim (fun h => ?_) (fun h => ?_)
        · obtain ⟨rfl, _, hn⟩ := h
          obtain ⟨q1, e⟩ := ref_empty (p := 0) (m := 0) (v := v) rfl rfl (by simpa using hv) hn
          exact ⟨[], (by simp only [K]; exact .inl ⟨trivial, ⟨q1, e⟩, trivial⟩), by simp, by simp, by simp [T.names, hg]⟩
        · obtain ⟨B, hB, hsz, hs, hcap, c, e, cs, F', hb, hcs, hd, hm, hFt⟩ := h
          rcases hv with ⟨hn, _⟩ | ⟨B', hB', b', o', c', e', hc', hmc, hbo⟩
          · rw [hn] at hB; exact absurd hB (by simp)
          obtain rfl : B = B' := Option.some.inj (hB.symm.trans hB')
          rcases hbo with h00 | ⟨rfl, rfl⟩
          · have hr0 : rows = [] := List.length_eq_zero_iff.1 (by omega)
            subst hr0
            subst h00
            exact ⟨[], (by simp only [K]; exact .inl ⟨trivial, ⟨_, e'⟩, trivial⟩), by simp, by simp, by simp [T.names, hg]⟩
          · refine ⟨F tk, ?_, hR.nodup _ _ hg, fun b hb => ⟨tk, _, by simp [T.names], hg, hb⟩, by simp [T.names, hg]⟩
            simp only [K]
            refine .inr ⟨B.b, B.o + 0 * B.sz, c', c, e, cs, F', e', hb, hmc, ?_, hs, hFt, ?_, ?_⟩
            · rw [hsz]; rw [show c' = B.cap by omega]; omega
            · exact (Dr_K hd hcl).cong hO (fun _ _ => rfl) (fun _ _ => rfl)
            · intro j u hj; simpa using hm j u hj
      · exact absurd hx (by simp)
    · exact absurd hx (by simp)
  · rename_i tk
    split at hx
    · rename_i sz cs hg
      split at hx
      · rename_i hcl
        simp only [Option.some.injEq] at hx
        subst hx
        simp only [CV] at hv
        obtain ⟨hA, B', hB', e'⟩ := hv
        obtain ⟨B, c, et, rs1, rs2, us1, us, us2, F1, Fr, F2, hB, hsz, hrows, hl1, hrl, hz1, hz2, hcap, hheap, hcs, hd1, hdr, hd2, hlie, hlu1, hlu, hFt⟩ := (hR.hp _ _ hg).2.row (r := 0) (row := cs) (by simp)
        obtain rfl : B = B' := Option.some.inj (hB.symm.trans hB')
        have hr1 : rs1 = [] := List.length_eq_zero_iff.1 hl1
        subst hr1
        simp only [List.nil_append, List.cons.injEq, true_and] at hrows
        subst hrows
        simp only [Dr] at hd1 hd2
        obtain ⟨rfl, rfl⟩ := hd1
        obtain ⟨rfl, rfl⟩ := hd2
        simp only [List.nil_append, List.append_nil] at hlie hFt
        refine ⟨F tk, ?_, hR.nodup _ _ hg, fun b hb => ⟨tk, _, by simp [T.names], hg, hb⟩, by simp [T.names, hg]⟩
        simp only [K]
        refine ⟨B.b, B.o, c, et, us, Fr, by simpa using e', hheap, ?_, hFt, (Ds_K hdr hcl).cong hO (fun _ _ => rfl) (fun _ _ => rfl), hlie⟩
        simp only [List.length_singleton] at hcap
        have : 1 * B.sz ≤ B.cap * B.sz := Nat.mul_le_mul_right _ hcap
        rw [hrl, hsz]; omega
      · exact absurd hx (by simp)
    · exact absurd hx (by simp)
  · exact absurd hx (by simp)
theorem handedCs_ok (hR : R E A ρ O F s a w) (hO : ∀ b, O b → O2 b) : ∀ {cs xs : List T} {vs : List Value}, CVs w O ρ A cs vs → handedCs s cs = some xs → (namess cs).Nodup → ∃ G, Ks w O2 xs vs G ∧ G.Nodup ∧ (∀ b ∈ G, ∃ tk k, tk ∈ namess cs ∧ hget s.hp tk = some k ∧ b ∈ F tk) ∧ (∀ tk ∈ namess cs, ∃ k, hget s.hp tk = some k)
  | [], xs, vs, hv, h, hnd => by
    simp only [handedCs, Option.some.injEq] at h
    subst h
    simp only [CVs] at hv
    exact ⟨[], by simp [Ks, hv], by simp, by simp, by simp [namess]⟩
  | c :: cs, xs, vs, hv, h, hnd => by
    simp only [handedCs] at h
    split at h
    case h_2 => exact absurd h (by simp)
    rename_i x ys hx hys
    simp only [Option.some.injEq] at h
    subst h
    simp only [CVs] at hv
    obtain ⟨v, r, rfl, hv1, hv2⟩ := hv
    simp only [namess] at hnd ⊢
    have hnd' := List.nodup_append.1 hnd
    obtain ⟨G2, g1, g2, g3, g4⟩ := handedCs_ok hR hO hv2 hys hnd'.2.1
    have one : ∃ G1, K w O2 x v G1 ∧ G1.Nodup ∧ (∀ b ∈ G1, ∃ tk k, tk ∈ c.names ∧ hget s.hp tk = some k ∧ b ∈ F tk) ∧ (∀ tk ∈ c.names, ∃ k, hget s.hp tk = some k) := by
      split at hx
      · rename_i hc
        simp only [Option.some.injEq] at hx
        subst hx
        have hn : c.names = [] := by cases c <;> simp [T.clean] at hc <;> simp [T.names]
        refine ⟨[], ?_, by simp, by simp, by simp [hn]⟩
        have : CI w O c v := by cases c <;> simp [T.clean] at hc <;> simpa only [CV] using hv1
        exact K_of_CI (this.cong hO (fun _ _ => rfl))
      · exact handed1_ok hR hO hv1 hx
    obtain ⟨G1, k1, k2, k3, k4⟩ := one
    refine ⟨G1 ++ G2, by simp only [Ks]; exact ⟨v, r, G1, G2, rfl, rfl, k1, g1⟩, List.nodup_append.2 ⟨k2, g2, ?_⟩, ?_, ?_⟩
    · rintro b hb b' hb' rfl
      obtain ⟨tk, k, h1, h2, h3⟩ := k3 b hb
      obtain ⟨tk', k', h4, h5, h6⟩ := g3 b hb'
      exact hR.apart _ _ _ _ h2 h5 (hnd'.2.2 tk h1 tk' h4) b h3 h6
    · intro b hb
      rcases List.mem_append.1 hb with hb | hb
      · obtain ⟨tk, k, h1, h2, h3⟩ := k3 b hb
        exact ⟨tk, k, List.mem_append.2 (.inl h1), h2, h3⟩
      · obtain ⟨tk, k, h1, h2, h3⟩ := g3 b hb
        exact ⟨tk, k, List.mem_append.2 (.inr h1), h2, h3⟩
    · intro tk htk
      rcases List.mem_append.1 htk with h | h
      · exact k4 tk h
      · exact g4 tk h
theorem handedA_ok (hR : R E A ρ O F s a w) (hO : ∀ b, O b → O2 b) {t x : T} {v : Value} (hv : CV w O ρ A t v) (hx : handedA s t = some x) (hnd : t.names.Nodup) : ∃ G, K w O2 x v G ∧ G.Nodup ∧ (∀ b ∈ G, ∃ tk k, tk ∈ t.names ∧ hget s.hp tk = some k ∧ b ∈ F tk) ∧ (∀ tk ∈ t.names, ∃ k, hget s.hp tk = some k) := by
  cases t <;> first
    | (simp only [handedA] at hx
       exact handed1_ok hR hO hv hx)
    | skip
  rename_i cs
  simp only [handedA, Option.map_eq_some_iff] at hx
  obtain ⟨xs, hxs, rfl⟩ := hx
  simp only [CV] at hv
  obtain ⟨us, e, hv⟩ := hv
  simp only [T.names] at hnd ⊢
  obtain ⟨G, g1, g2, g3, g4⟩ := handedCs_ok hR hO hv hxs hnd
  exact ⟨G, by simp only [K]; exact ⟨us, e, g1⟩, g2, g3, g4⟩
/-- What is handed over. -/
theorem handed_ok (hR : R E A ρ O F s a w) (hO : ∀ b, O b → O2 b) {mu : List Nat} : ∀ {args xs : List T} {vs : List Value} {j : Nat}, CVs w O ρ A args vs → handed s mu j args = some xs → (named mu true j args).Nodup →
    (∀ tk ∈ named mu false j args, ∀ k, hget s.hp tk = some k → ∀ b ∈ F tk, O2 b) →
    ∃ G, Ks w O2 xs vs G ∧ G.Nodup ∧ (∀ b ∈ G, ∃ tk k, tk ∈ named mu true j args ∧ hget s.hp tk = some k ∧ b ∈ F tk) ∧ (∀ tk ∈ named mu true j args, ∃ k, hget s.hp tk = some k)
  | [], xs, vs, j, hv, h, hnd, hF => by
    simp only [handed, Option.some.injEq] at h
    subst h
    simp only [CVs] at hv
    exact ⟨[], by simp [Ks, hv], by simp, by simp, by simp [named]⟩
  | t :: args, xs, vs, j, hv, h, hnd, hF => by
    simp only [handed] at h
    split at h
    case h_2 => exact absurd h (by simp)
    rename_i x ys hx hys
    simp only [Option.some.injEq] at h
    subst h
    simp only [CVs] at hv
    obtain ⟨v, r, rfl, hv1, hv2⟩ := hv
    simp only [named] at hnd hF
    have hnd' := List.nodup_append.1 hnd
    obtain ⟨G2, g1, g2, g3, g4⟩ := handed_ok hR hO hv2 hys hnd'.2.1 (fun tk htk => hF tk (by simp [htk]))
    have base : ∀ G1, K w O2 x v G1 → G1.Nodup → (∀ b ∈ G1, ∃ tk k, tk ∈ (if mu.contains j = true then t.names else []) ∧ hget s.hp tk = some k ∧ b ∈ F tk) → (∀ tk ∈ (if mu.contains j = true then t.names else []), ∃ k, hget s.hp tk = some k) →
        ∃ G, Ks w O2 (x :: ys) (v :: r) G ∧ G.Nodup ∧ (∀ b ∈ G, ∃ tk k, tk ∈ named mu true j (t :: args) ∧ hget s.hp tk = some k ∧ b ∈ F tk) ∧ (∀ tk ∈ named mu true j (t :: args), ∃ k, hget s.hp tk = some k) := by
      intro G1 k1 k2 k3 k4
      refine ⟨G1 ++ G2, ?_, ?_, ?_, ?_⟩
      · simp only [Ks]; exact ⟨v, r, G1, G2, rfl, rfl, k1, g1⟩
      · refine List.nodup_append.2 ⟨k2, g2, ?_⟩
        rintro b hb b' hb' rfl
        obtain ⟨tk, k, h1, h2, h3⟩ := k3 b hb
        obtain ⟨tk', k', h4, h5, h6⟩ := g3 b hb'
        exact hR.apart _ _ _ _ h2 h5 (hnd'.2.2 tk h1 tk' h4) b h3 h6
      · intro b hb
        simp only [named]
        rcases List.mem_append.1 hb with hb | hb
        · obtain ⟨tk, k, h1, h2, h3⟩ := k3 b hb
          exact ⟨tk, k, List.mem_append.2 (.inl h1), h2, h3⟩
        · obtain ⟨tk, k, h1, h2, h3⟩ := g3 b hb
          exact ⟨tk, k, List.mem_append.2 (.inr h1), h2, h3⟩
      · intro tk htk
        simp only [named] at htk
        rcases List.mem_append.1 htk with h | h
        · exact k4 tk h
        · exact g4 tk h
    by_cases hmu : mu.contains j = true
    · rw [if_pos hmu] at hx
      rw [hmu] at hnd' base
      simp only [if_true] at base
      obtain ⟨G1, k1, k2, k3, k4⟩ := handedA_ok hR hO hv1 hx hnd'.1
      exact base G1 k1 k2 k3 k4
    · rw [if_neg hmu] at hx
      simp only [hmu, if_false, Bool.false_eq_true] at base
      have hmu' : mu.contains j = false := by simpa using hmu
      refine base [] (K_of_CI (argI_ok hR hO hv1 hx (fun tk htk => hF tk (by rw [hmu']; simp [htk])))) (by simp) (by simp) (by simp)
theorem handed1_names {t x : T} (h : handed1 s t = some x) : ∃ tk, t.names = [tk] := by
  unfold handed1 at h
  split at h
  · exact ⟨_, rfl⟩
  · exact ⟨_, rfl⟩
  · exact absurd h (by simp)
theorem back1_ref {t q m sz : Nat} {r0 : List (List T)} {out : T} {p : Nat × Blk} (h : back1 (.ref t q m) (.own sz r0) out = some p) : ∃ rows, out = .own sz rows ∧ rows.length = m ∧ p = (t, .arr sz rows) := by
  cases out <;> simp only [back1] at h <;> first
    | (split at h
       · rename_i hc
         obtain ⟨rfl, h2⟩ := hc
         simp only [Option.some.injEq] at h
         exact ⟨_, rfl, h2, h.symm⟩
       · exact absurd h (by simp))
    | exact absurd h (by simp)
theorem back1_ptr {t q m : Nat} {cs : List T} {out : T} {p : Nat × Blk} (h : back1 (.ptr t q m) (.bx cs) out = some p) : ∃ cs', out = .bx cs' ∧ cs'.length = cs.length ∧ p = (t, .arr cs.length [cs']) := by
  cases out <;> simp only [back1] at h <;> first
    | (split at h
       · rename_i hc
         simp only [Option.some.injEq] at h
         exact ⟨_, rfl, hc, h.symm⟩
       · exact absurd h (by simp))
    | exact absurd h (by simp)
theorem back1_ok (hR : R E A ρ O F s a w) {M : List Nat} (hkeep : Keep w M w') {t x out : T} {v : Value} {p : Nat × Blk} {F1 : List Nat} (hv1 : CV w O ρ A t v) (hx1 : handed1 s t = some x) (hp : back1 t x out = some p) (ho1 : K w' O' out v F1) : ∃ G1, BR w' O' ρ A p.1 p.2 G1 ∧ G1.Sublist F1 ∧ t.names = [p.1] := by
  unfold handed1 at hx1
  split at hx1
  · rename_i tk m
    split at hx1
    · rename_i sz rows hg
      split at hx1
      · rename_i hc
        obtain ⟨rfl, hcl⟩ := hc
        simp only [Option.some.injEq] at hx1
        subst hx1
        obtain ⟨rows', rfl, hlen, rfl⟩ := back1_ref hp
        simp only [T.names]
        simp only [CV] at hv1
        obtain ⟨hA, hv1⟩ := hv1
        have hBR := (hR.hp _ _ hg).2
        simp only [K] at ho1
        have empty : rows' = [] → (ρ tk = none ∨ ∃ B, ρ tk = some B ∧ B.cap = 0 ∧ sz = B.sz) → ∃ G1, BR w' O' ρ A tk (.arr sz rows') G1 ∧ G1.Sublist F1 ∧ True := by
          intro h1 h2
          exact ⟨[], by simp only [BR]; exact .inl ⟨h1, trivial, h2⟩, by simp, trivial⟩
        rcases hBR with ⟨rfl, _, hn⟩ | ⟨B, hB, hsz, hs, hcap, c, e, cs, F', hb, hcs, hd, hm, hFt⟩
        · exact empty (List.length_eq_zero_iff.1 (by simpa using hlen)) hn
        · rcases hv1 with ⟨hn, _⟩ | ⟨B', hB', b', o', c', e', hc', hmc, hbo⟩
          · rw [hn] at hB; exact absurd hB (by simp)
          obtain rfl : B = B' := Option.some.inj (hB.symm.trans hB')
          by_cases h00 : c' = 0
          · exact empty (List.length_eq_zero_iff.1 (by omega)) (.inr ⟨B, hB, by omega, hsz⟩)
          · obtain ⟨rfl, rfl⟩ := hbo.resolve_left h00
            rcases ho1 with ⟨_, ⟨q, e2⟩, _⟩ | ⟨b2, o2, cap2, c2, et2, cs2, F2', e2, hb2, hl2, hc2, hs2, hF2, hk2, hm2⟩
            · rw [e'] at e2
              simp only [Value.slice.injEq] at e2
              exact absurd e2.2.2 h00
            · rw [e'] at e2
              simp only [Value.slice.injEq, Option.some.injEq, Addr.mk.injEq] at e2
              obtain ⟨⟨rfl, rfl, _⟩, _, rfl⟩ := e2
              refine ⟨F1, ?_, List.Sublist.refl _, by simp⟩
              simp only [BR]
              refine .inr ⟨B, hB, hsz, hs2, by omega, c2, et2, cs2, F2', hb2, ?_, Dr_of_Kr hk2, ?_, hF2⟩
              · rw [← hsz, show B.cap = c' by omega]
                simpa using hc2
              · intro j u hj; simpa using hm2 j u hj
      · exact absurd hx1 (by simp)
    · exact absurd hx1 (by simp)
  · rename_i tk
    split at hx1
    · rename_i sz cs hg
      split at hx1
      · rename_i hcl
        simp only [Option.some.injEq] at hx1
        subst hx1
        obtain ⟨cs', rfl, hlen, rfl⟩ := back1_ptr hp
        simp only [T.names]
        simp only [CV] at hv1
        obtain ⟨hA, B', hB', e'⟩ := hv1
        obtain ⟨B, c, et, rs1, rs2, us1, us, us2, G1, Gr, G2, hB, hsz, hrows, hl1, hrl, hz1, hz2, hcap, hheap, hcs, hd1, hdr, hd2, hlie, hlu1, hlu, hFt⟩ := (hR.hp _ _ hg).2.row (r := 0) (row := cs) (by simp)
        obtain rfl : B = B' := Option.some.inj (hB.symm.trans hB')
        simp only [K] at ho1
        obtain ⟨b2, o2, c2, et2, us2', F2', e2, hb2, hc2, hF2, hk2, hm2⟩ := ho1
        rw [e'] at e2
        simp only [Value.pointer.injEq, Option.some.injEq, Addr.mk.injEq, Nat.zero_mul, Nat.add_zero, and_true] at e2
        obtain ⟨rfl, rfl⟩ := e2
        refine ⟨F1, ?_, List.Sublist.refl _, by simp⟩
        simp only [BR]
        obtain ⟨c3, e3, f3, hb3, hs3⟩ := hkeep.cells _ _ _ _ hheap
        rw [hb2] at hb3
        simp only [Option.some.injEq, Obj.cells.injEq] at hb3
        obtain ⟨rfl, rfl, rfl⟩ := hb3
        refine .inr ⟨B, hB, by rw [hrl, hsz], by simpa using hlen, by simpa using hcap, c2, et2, us2', F2', hb2, by rw [hs3]; exact hcs, ?_, hm2, hF2⟩
        simp only [Dr]
        exact ⟨us2', [], F2', [], by simp, by simp, Ds_of_Ks hk2, rfl, rfl⟩
      · exact absurd hx1 (by simp)
    · exact absurd hx1 (by simp)
  · exact absurd hx1 (by simp)
theorem LB_append : ∀ {l l' : List (Nat × Blk)} {G G' : List Nat}, LB w O ρ A l G → LB w O ρ A l' G' → LB w O ρ A (l ++ l') (G ++ G')
  | [], l', G, G', h, h' => by simp only [LB] at h; subst h; simpa using h'
  | (t, k) :: l, l', G, G', h, h' => by
    simp only [LB] at h
    obtain ⟨G1, G2, rfl, h1, h2⟩ := h
    simp only [List.cons_append, LB]
    exact ⟨G1, G2 ++ G', by simp, h1, LB_append h2 h'⟩
theorem backCs_ok (hR : R E A ρ O F s a w) {M : List Nat} (hkeep : Keep w M w') : ∀ {cs xs os : List T} {vs : List Value} {ps : List (Nat × Blk)} {F1 : List Nat}, CVs w O ρ A cs vs → handedCs s cs = some xs → backCs cs xs os = some ps → Ks w' O' os vs F1 → ∃ G1, LB w' O' ρ A ps G1 ∧ G1.Sublist F1 ∧ ps.map (·.1) = namess cs
  | [], xs, os, vs, ps, F1, hv, hx, hp, ho => by
    cases xs <;> cases os <;> simp only [backCs] at hp <;> first
      | (simp only [Option.some.injEq] at hp
         subst hp
         exact ⟨[], by simp [LB], by simp, by simp [namess]⟩)
      | exact absurd hp (by simp)
  | c :: cs, [], os, vs, ps, F1, hv, hx, hp, ho => by cases os <;> simp [backCs] at hp
  | c :: cs, x :: xs, [], vs, ps, F1, hv, hx, hp, ho => by simp [backCs] at hp
  | c :: cs, x :: xs, o :: os, vs, ps, F1, hv, hx, hp, ho => by
    simp only [handedCs] at hx
    split at hx
    case h_2 => exact absurd hx (by simp)
    rename_i x' ys' hx1 hys
    simp only [Option.some.injEq, List.cons.injEq] at hx
    obtain ⟨rfl, rfl⟩ := hx
    simp only [CVs] at hv
    obtain ⟨v, r, rfl, hv1, hv2⟩ := hv
    simp only [Ks] at ho
    obtain ⟨v', r', Fa, Fb, e, rfl, ho1, ho2⟩ := ho
    simp only [List.cons.injEq] at e
    obtain ⟨rfl, rfl⟩ := e
    simp only [backCs] at hp
    split at hp
    case h_2 => exact absurd hp (by simp)
    rename_i bk' hbk
    obtain ⟨G, g1, g2, g3⟩ := backCs_ok hR hkeep hv2 hys hbk ho2
    simp only [namess]
    split at hp
    · rename_i hc
      simp only [Option.some.injEq] at hp
      subst hp
      have hn : c.names = [] := by cases c <;> simp [T.clean] at hc <;> simp [T.names]
      exact ⟨G, g1, g2.trans (List.sublist_append_right _ _), by simpa [hn] using g3⟩
    · rename_i hc
      rw [if_neg hc] at hx1
      split at hp
      case h_2 => exact absurd hp (by simp)
      rename_i p hp1
      simp only [Option.some.injEq] at hp
      subst hp
      obtain ⟨G1, k1, k2, k3⟩ := back1_ok hR hkeep hv1 hx1 hp1 ho1
      refine ⟨G1 ++ G, ?_, List.Sublist.append k2 g2, by simp [k3, g3]⟩
      obtain ⟨p1, p2⟩ := p
      simp only [LB]
      exact ⟨G1, G, rfl, k1, g1⟩
theorem backA_ok (hR : R E A ρ O F s a w) {M : List Nat} (hkeep : Keep w M w') {t x out : T} {v : Value} {ps : List (Nat × Blk)} {F1 : List Nat} (hv1 : CV w O ρ A t v) (hx1 : handedA s t = some x) (hp : backA t x out = some ps) (ho1 : K w' O' out v F1) : ∃ G1, LB w' O' ρ A ps G1 ∧ G1.Sublist F1 ∧ ps.map (·.1) = t.names := by
  have one : handed1 s t = some x → (match back1 t x out with | some p => some [p] | none => none) = some ps → ∃ G1, LB w' O' ρ A ps G1 ∧ G1.Sublist F1 ∧ ps.map (·.1) = t.names := by
    intro h1 h2
    split at h2
    case h_2 => exact absurd h2 (by simp)
    rename_i p hp1
    simp only [Option.some.injEq] at h2
    subst h2
    obtain ⟨G1, k1, k2, k3⟩ := back1_ok hR hkeep hv1 h1 hp1 ho1
    obtain ⟨p1, p2⟩ := p
    exact ⟨G1, by simp only [LB]; exact ⟨G1, [], by simp, k1, rfl⟩, k2, by simp [k3]⟩
  cases t <;> first
    | (simp only [handedA] at hx1
       simp only [backA] at hp
       exact one hx1 hp)
    | skip
  rename_i cs
  simp only [handedA, Option.map_eq_some_iff] at hx1
  obtain ⟨xs, hxs, rfl⟩ := hx1
  cases out <;> simp only [backA] at hp <;> first
    | exact absurd hp (by simp)
    | skip
  simp only [CV] at hv1
  obtain ⟨us, e, hv1⟩ := hv1
  simp only [K] at ho1
  obtain ⟨us', e', ho1⟩ := ho1
  rw [e] at e'
  simp only [Value.agg.injEq, List.toArray_inj] at e'
  have e2 : us = us' := by simpa using e'
  subst e2
  simp only [T.names]
  exact backCs_ok hR hkeep hv1 hxs hp ho1
/-- What comes back: under the same names, at the same places. -/
theorem back_ok (hR : R E A ρ O F s a w) {mu M : List Nat} (hkeep : Keep w M w') : ∀ {args xs outs : List T} {vs : List Value} {j : Nat} {bk : List (Nat × Blk)} {Fo : List Nat}, CVs w O ρ A args vs → handed s mu j args = some xs → back mu j args xs outs = some bk → Ks w' O' outs vs Fo →
    ∃ G, LB w' O' ρ A bk G ∧ G.Sublist Fo ∧ bk.map (·.1) = named mu true j args
  | [], [], [], vs, j, bk, Fo, hv, hx, hb, ho => by
    simp only [back, Option.some.injEq] at hb
    subst hb
    exact ⟨[], by simp [LB], by simp, by simp [named]⟩
  | t :: args, x :: xs, out :: outs, vs, j, bk, Fo, hv, hx, hb, ho => by
    simp only [handed] at hx
    split at hx
    case h_2 => exact absurd hx (by simp)
    rename_i x' ys' hx1 hys
    simp only [Option.some.injEq, List.cons.injEq] at hx
    obtain ⟨rfl, rfl⟩ := hx
    simp only [CVs] at hv
    obtain ⟨v, r, rfl, hv1, hv2⟩ := hv
    simp only [Ks] at ho
    obtain ⟨v', r', F1, F2, e, rfl, ho1, ho2⟩ := ho
    simp only [List.cons.injEq] at e
    obtain ⟨rfl, rfl⟩ := e
    simp only [back] at hb
    split at hb
    case h_2 => exact absurd hb (by simp)
    rename_i bk' hbk
    obtain ⟨G, g1, g2, g3⟩ := back_ok hR hkeep hv2 hys hbk ho2
    simp only [named]
    by_cases hmu : mu.contains j = true
    · rw [if_pos hmu] at hb hx1
      rw [if_pos (by rw [hmu])]
      split at hb
      case h_2 => exact absurd hb (by simp)
      rename_i p hp
      simp only [Option.some.injEq] at hb
      subst hb
      have key := backA_ok hR hkeep hv1 hx1 hp ho1
      obtain ⟨G1, k1, k2, k3⟩ := key
      exact ⟨G1 ++ G, LB_append k1 g1, List.Sublist.append k2 g2, by simp [k3, g3]⟩
    · rw [if_neg hmu] at hb
      simp only [Option.some.injEq] at hb
      subst hb
      rw [if_neg hmu]
      exact ⟨G, g1, g2.trans (List.sublist_append_right _ _), by simpa using g3⟩
  | [], [], _ :: _, vs, j, bk, Fo, hv, hx, hb, ho => by simp [back] at hb
  | [], _ :: _, _, vs, j, bk, Fo, hv, hx, hb, ho => by simp [back] at hb
  | _ :: _, [], _, vs, j, bk, Fo, hv, hx, hb, ho => by simp [back] at hb
  | _ :: _, _ :: _, [], vs, j, bk, Fo, hv, hx, hb, ho => by simp [back] at hb
end
end Go.Proofs.Ytcchmhmbjhgfdaa.V
