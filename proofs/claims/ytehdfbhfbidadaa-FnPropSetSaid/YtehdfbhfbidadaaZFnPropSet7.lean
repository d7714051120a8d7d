/- The law FnPropSet of the given program holds of every input (theorem fnPropSet_holds, the last of these texts): part 7 of 8. -/
import Derived.Test.YtehdfbhfbidadaaZFnPropSet6
/- A call that eats a list and a row, and only looks on what some cells refer to. -/
namespace Go.Proofs.Ytehdfbhfbidadaa.V
open Go
set_option linter.unusedVariables false
set_option linter.unusedSimpArgs false
set_option maxHeartbeats 4000000
/-- Cells as they are lent: what they refer to is looked on. -/
def lendC (s : St) : T → Option T
  | .ref t o m => argI s (.ref t o m)
  | c => if c.clean = true then some c else none
def lendCs (s : St) : List T → Option (List T)
  | [] => some []
  | c :: cs => match lendC s c, lendCs s cs with
    | some x, some xs => some (x :: xs)
    | _, _ => none
def lendR (s : St) : List (List T) → Option (List (List T))
  | [] => some []
  | r :: rs => match lendCs s r, lendR s rs with
    | some x, some xs => some (x :: xs)
    | _, _ => none
section
variable {P : Program} {E : Env} {A A' : Nat → Prop} {ρ ρ' : Nat → Option RB} {O O2 O' : Nat → Prop} {F : Nat → List Nat} {s : St} {a : Act} {w w' : World} {n : Nat}
theorem lendC_clean {c x : T} (h : lendC s c = some x) : (∃ t o m, c = .ref t o m) ∨ (c.clean = true ∧ x = c) := by
  cases c <;> simp [lendC, T.clean] at h <;> first
    | exact .inl ⟨_, _, _, rfl⟩
    | exact .inr ⟨rfl, h.symm⟩
theorem lendC_ok (hR : R E A ρ O F s a w) (hO : ∀ b, O b → O2 b) {c x : T} {v : Value} {G : List Nat} (hd : D w O ρ A c v G) (h : lendC s c = some x) (hF : ∀ tk ∈ c.names, ∀ k, hget s.hp tk = some k → ∀ b ∈ F tk, O2 b) : K w O2 x v G := by
  rcases lendC_clean h with ⟨t, o, m, rfl⟩ | ⟨hc, rfl⟩
  · have hcv : CV w O ρ A (.ref t o m) v ∧ G = [] := by
      rcases hd with hk | hk
      · simp only [K, CI] at hk; exact hk.1.elim
      · exact hk
    obtain ⟨hcv, rfl⟩ := hcv
    exact K_of_CI (argI_ok hR hO hcv h hF)
  · exact (D_K hd hc).cong hO (fun _ _ => rfl) (fun _ _ => rfl)
theorem lendCs_ok (hR : R E A ρ O F s a w) (hO : ∀ b, O b → O2 b) : ∀ {cs xs : List T} {vs : List Value} {G : List Nat}, Ds w O ρ A cs vs G → lendCs s cs = some xs → (∀ tk ∈ namess cs, ∀ k, hget s.hp tk = some k → ∀ b ∈ F tk, O2 b) → Ks w O2 xs vs G
  | [], xs, vs, G, hd, h, hF => by
    simp only [lendCs, Option.some.injEq] at h
    subst h
    simpa only [Ds, Ks] using hd
  | c :: cs, xs, vs, G, hd, h, hF => by
    simp only [lendCs] at h
    split at h
    case h_2 => exact absurd h (by simp)
    rename_i x ys h1 h2
    simp only [Option.some.injEq] at h
    subst h
    simp only [Ds] at hd
    obtain ⟨v, r, F1, F2, rfl, rfl, d1, d2⟩ := hd
    simp only [Ks]
    exact ⟨v, r, F1, F2, rfl, rfl, lendC_ok hR hO d1 h1 (fun tk ht => hF tk (by simp [namess, ht])), lendCs_ok hR hO d2 h2 (fun tk ht => hF tk (by simp [namess, ht]))⟩
theorem lendR_ok (hR : R E A ρ O F s a w) (hO : ∀ b, O b → O2 b) : ∀ {rs xs : List (List T)} {vs : List Value} {G : List Nat}, Dr w O ρ A rs vs G → lendR s rs = some xs → (∀ r ∈ rs, ∀ tk ∈ namess r, ∀ k, hget s.hp tk = some k → ∀ b ∈ F tk, O2 b) → Kr w O2 xs vs G
  | [], xs, vs, G, hd, h, hF => by
    simp only [lendR, Option.some.injEq] at h
    subst h
    simpa only [Dr, Kr] using hd
  | r :: rs, xs, vs, G, hd, h, hF => by
    simp only [lendR] at h
    split at h
    case h_2 => exact absurd h (by simp)
    rename_i x ys h1 h2
    simp only [Option.some.injEq] at h
    subst h
    simp only [Dr] at hd
    obtain ⟨v, q, F1, F2, rfl, rfl, d1, d2⟩ := hd
    simp only [Kr]
    exact ⟨v, q, F1, F2, rfl, rfl, lendCs_ok hR hO d1 h1 (fun tk ht => hF r (by simp) tk ht), lendR_ok hR hO d2 h2 (fun r' hr => hF r' (by simp [hr]))⟩
theorem lendCs_len : ∀ {cs xs : List T}, lendCs s cs = some xs → xs.length = cs.length
  | [], xs, h => by simp only [lendCs, Option.some.injEq] at h; subst h; rfl
  | c :: cs, xs, h => by
    simp only [lendCs] at h
    split at h
    case h_2 => exact absurd h (by simp)
    rename_i x ys h1 h2
    simp only [Option.some.injEq] at h
    subst h
    simp [lendCs_len h2]
theorem lendR_len : ∀ {rs xs : List (List T)}, lendR s rs = some xs → xs.length = rs.length ∧ ∀ sz, (∀ r ∈ rs, r.length = sz) → ∀ r ∈ xs, r.length = sz
  | [], xs, h => by simp only [lendR, Option.some.injEq] at h; subst h; simp
  | r :: rs, xs, h => by
    simp only [lendR] at h
    split at h
    case h_2 => exact absurd h (by simp)
    rename_i x ys h1 h2
    simp only [Option.some.injEq] at h
    subst h
    obtain ⟨q1, q2⟩ := lendR_len h2
    refine ⟨by simp [q1], fun sz hs r' hr => ?_⟩
    rcases List.mem_cons.1 hr with rfl | hr
    · rw [lendCs_len h1]; exact hs r (by simp)
    · exact q2 sz (fun r hr => hs r (by simp [hr])) r' hr
/-- Rows of which nothing is told. -/
def deadR (sz n : Nat) : List (List T) := List.replicate n (List.replicate sz .dead)
theorem Ds_dead : ∀ (us : List Value), Ds w O ρ A (List.replicate us.length .dead) us []
  | [] => by simp [Ds]
  | u :: us => by
    simp only [List.length_cons, List.replicate_succ, Ds]
    exact ⟨u, us, [], [], rfl, rfl, .inr ⟨CV.dead u, rfl⟩, Ds_dead us⟩
theorem Dr_dead {sz : Nat} : ∀ {rs : List (List T)} {vs : List Value} {G : List Nat}, (∀ r ∈ rs, r.length = sz) → Kr w' O' rs vs G → Dr w O ρ A (deadR sz rs.length) vs []
  | [], vs, G, _, h => by simp only [Kr] at h; simp [deadR, Dr, h.1]
  | r :: rs, vs, G, hs, h => by
    simp only [Kr] at h
    obtain ⟨v1, v2, F1, F2, rfl, rfl, h1, h2⟩ := h
    simp only [deadR, List.length_cons, List.replicate_succ, Dr]
    have hl : v1.length = sz := by rw [Ks.len h1]; exact hs r (by simp)
    exact ⟨v1, v2, [], [], rfl, rfl, by rw [← hl]; exact Ds_dead v1, Dr_dead (fun r hr => hs r (by simp [hr])) h2⟩
theorem D_CV {c : T} {v : Value} {G : List Nat} (hc : c.cell = true) (h : D w O ρ A c v G) : CV w O ρ A c v ∧ G = [] := by
  rcases h with h | h
  · cases c <;> simp only [T.cell, Bool.false_eq_true] at hc <;> simp only [K] at h <;> first
      | exact ⟨CV.ofCI h.1, h.2⟩
      | (simp only [CI] at h; exact h.1.elim)
  · exact h
theorem Ds_CV : ∀ {cs : List T} {vs : List Value} {G : List Nat}, (cs.all T.cell) = true → Ds w O ρ A cs vs G → CVs w O ρ A cs vs ∧ G = []
  | [], vs, G, _, h => by simp only [Ds] at h; simp only [CVs]; exact h
  | c :: cs, vs, G, hc, h => by
    simp only [List.all_cons, Bool.and_eq_true] at hc
    simp only [Ds] at h
    obtain ⟨v, r, F1, F2, rfl, rfl, h1, h2⟩ := h
    obtain ⟨q1, rfl⟩ := D_CV hc.1 h1
    obtain ⟨q2, rfl⟩ := Ds_CV hc.2 h2
    simp only [CVs]
    exact ⟨⟨v, r, rfl, q1, q2⟩, rfl⟩
theorem lendC_mono {s' : St} (hs : ∀ t k, hget s.hp t = some k → hget s'.hp t = some k) {c x : T} (h : lendC s c = some x) : lendC s' c = some x := by
  cases c <;> simp only [lendC] at h ⊢ <;> first
    | exact h
    | exact argI_mono hs h
theorem lendCs_mono {s' : St} (hs : ∀ t k, hget s.hp t = some k → hget s'.hp t = some k) : ∀ {cs xs : List T}, lendCs s cs = some xs → lendCs s' cs = some xs
  | [], xs, h => h
  | c :: cs, xs, h => by
    simp only [lendCs] at h ⊢
    split at h
    case h_2 => exact absurd h (by simp)
    rename_i x ys h1 h2
    rw [lendC_mono hs h1, lendCs_mono hs h2]; exact h
theorem lendR_mono {s' : St} (hs : ∀ t k, hget s.hp t = some k → hget s'.hp t = some k) : ∀ {rs xs : List (List T)}, lendR s rs = some xs → lendR s' rs = some xs
  | [], xs, h => h
  | r :: rs, xs, h => by
    simp only [lendR] at h ⊢
    split at h
    case h_2 => exact absurd h (by simp)
    rename_i x ys h1 h2
    rw [lendCs_mono hs h1, lendR_mono hs h2]; exact h
/-- What is left of the result: all of it, or nothing but its size. -/
def leftR (sz : Nat) (R R2 : List (List T)) : Prop := (R2 = R ∧ noImr R = true) ∨ R2 = deadR sz R.length
theorem leftR_ok {sz : Nat} {R R2 : List (List T)} {vs : List Value} {G : List Nat} (h : leftR sz R R2) (hs : ∀ r ∈ R, r.length = sz) (hk : Kr w' O' R vs G) : ∃ G2, Dr w' O ρ A R2 vs G2 ∧ G2.Sublist G := by
  rcases h with ⟨rfl, h⟩ | rfl
  · exact ⟨G, Dr_of_Kr (Kr_noImm h hk), List.Sublist.refl _⟩
  · exact ⟨[], Dr_dead hs hk, List.nil_sublist _⟩
theorem hook_ins {c : Call} {f sz t t2 : Nat} {i : Int} {rows rows' : List (List T)} {row rowO : List T} {R R2 : List (List T)} {hp : List (Nat × Blk)} (hc : c.callee = .value (.func f)) (hok : okCall P f = true)
    (hg1 : hget hp t = some (.arr sz rows)) (hg2 : hget hp t2 = some (.arr sz [row])) (hne : t ≠ t2) (hl : lendR ⟨[], hp, 0, 0⟩ rows = some rows') (hrow : handedXs ⟨[], hp, 0, 0⟩ row = some rowO) (hcell : (row.all T.cell) = true)
    (hnl : ∀ r ∈ rows, ∀ tk ∈ namess r, tk ≠ t ∧ tk ≠ t2 ∧ tk ∉ namess row) (hnr : (namess row).Nodup) (hnr2 : ∀ tk ∈ namess row, tk ≠ t ∧ tk ≠ t2)
    (hret : Ret P f [.own sz rows', .i .i64 i, .own sz [rowO]] (.own sz R) [.dead, .dead, .dead]) (hRs : ∀ r ∈ R, r.length = sz) (hR0 : R ≠ []) (hleft : leftR sz R R2) (hR2 : R2.length = R.length) (hR2s : ∀ r ∈ R2, r.length = sz) :
    HookOk P (.call c) [.fn f [], .ref t 0 rows.length, .i .i64 i, .ref t2 0 1] hp n (.ref n 0 R.length) ((t :: t2 :: namess row).map (fun x => (x, none)) ++ [(n, some (.arr sz R2))]) := by
  intro E A ρ O F s a w o ys next Q hop hys hxs hR hd hg hfb hFR hn
  obtain ⟨vs, hv, hrun⟩ := enters_call hc hok E A ρ O F s a w o ys hop hys hxs hR
  have hmono : ∀ x k, hget hp x = some k → hget s.hp x = some k := fun x k h => hg _ (hget_mem h)
  have hl' := lendR_mono (s := ⟨[], hp, 0, 0⟩) (s' := s) hmono hl
  have hrow' := handedXs_mono (s := ⟨[], hp, 0, 0⟩) (s' := s) hmono hrow
  have hgt := hmono _ _ hg1
  have hgt2 := hmono _ _ hg2
  simp only [CVs] at hv
  obtain ⟨v1, r1, rfl, hv1, v2, r2, rfl, hv2, v3, r3, rfl, hv3, rfl⟩ := hv
  unfold Oper.wp
  rw [hrun, Oper.upon_enter]
  let O2 : Nat → Prop := fun b => O b ∨ ∃ tk k, (∃ r ∈ rows, tk ∈ namess r) ∧ hget s.hp tk = some k ∧ b ∈ F tk
  have hO2 : ∀ b, O b → O2 b := fun b h => .inl h
  have hO2lt : ∀ b, O2 b → b < w.heap.size := by
    rintro b (hb | ⟨tk, k, _, h1, h2⟩)
    · exact hR.Olt b hb
    · exact (hR.mine _ _ h1 b h2).2.1
  have hnO2 : ∀ x k b, hget s.hp x = some k → b ∈ F x → (∀ r ∈ rows, x ∉ namess r) → ¬ O2 b := by
    rintro x k b hx hb hnot (h | ⟨tk, k', ⟨r, hr, htk⟩, h1, h2⟩)
    · exact (hR.mine _ _ hx b hb).1 h
    · exact hR.apart _ _ _ _ hx h1 (fun e => hnot r hr (e ▸ htk)) b hb h2
  -- the row
  obtain ⟨hA2, hBR2⟩ := hR.hp _ _ hgt2
  simp only [BR] at hBR2
  rcases hBR2 with ⟨h, _⟩ | ⟨B2, hB2, hsz2, hsr2, hcap2, cc2, et2, us2, FU, hheap2, hfit2, hdr2, hlie2, hF2⟩
  · simp at h
  simp only [Dr] at hdr2
  obtain ⟨u1, u2, FU1, FU2, rfl, rfl, hds2, rfl, rfl⟩ := hdr2
  obtain ⟨hcv2, rfl⟩ := Ds_CV hcell hds2
  obtain ⟨G2, kg2, ng2, mg2, _⟩ := handedXs_ok hR hO2 hcv2 hrow' hnr
  simp only [List.append_nil] at hF2 hlie2
  simp only [CV] at hv3
  obtain ⟨_, hv3⟩ := hv3
  rcases hv3 with ⟨hnone, _⟩ | ⟨B2', hB2', b2, o2, c2, rfl, hc2, hm2, hbo2⟩
  · rw [hnone] at hB2; exact absurd hB2 (by simp)
  obtain rfl : B2 = B2' := Option.some.inj (hB2.symm.trans hB2')
  simp only [List.length_singleton] at hcap2
  obtain ⟨rfl, rfl⟩ := hbo2.resolve_left (by omega)
  have k3 : K w O2 (.own sz [rowO]) (.slice (some ⟨B2.b, B2.o + 0 * B2.sz, none⟩) 1 c2) (B2.b :: G2) := by
    simp only [K]
    refine .inr ⟨B2.b, B2.o + 0 * B2.sz, c2, cc2, et2, u1, G2, rfl, hheap2, by simpa using hm2, ?_, ?_, rfl, ?_, ?_⟩
    · have : c2 = B2.cap := by omega
      rw [this, hsz2]; omega
    · intro r hr
      simp only [List.mem_singleton] at hr
      subst hr
      have h1 := Ks.len kg2
      have h2 := (Ds.len hds2)
      have h3 := hsr2 row (by simp)
      omega
    · simp only [Kr]; exact ⟨u1, [], G2, [], by simp, by simp, kg2, rfl, rfl⟩
    · intro j u hj
      rw [Nat.zero_mul, Nat.add_zero]; exact hlie2 j u hj
  -- the list
  obtain ⟨hA1, hBR1⟩ := hR.hp _ _ hgt
  have hndt := hR.nodup _ _ hgt
  simp only [CV] at hv1
  obtain ⟨_, hv1⟩ := hv1
  obtain ⟨hl1, hl2⟩ := lendR_len hl'
  obtain ⟨G1, k1, ng1, mg1⟩ : ∃ G1, K w O2 (.own sz rows') v1 G1 ∧ G1.Nodup ∧ ∀ b ∈ G1, b ∈ F t := by
    simp only [BR] at hBR1
    rcases hBR1 with ⟨rfl, hF0, hn0⟩ | ⟨B, hB, hsz, hsr, hcap, cc, et, us, FT, hheap, hfit, hdr, hlie, hFt⟩
    · obtain ⟨q, e⟩ : ∃ q, v1 = .slice q 0 0 := by
        rcases hv1 with ⟨_, _, _, q, e⟩ | ⟨B, hB, b', o', c', e, hc', _, _⟩
        · exact ⟨q, e⟩
        · rcases hn0 with h | ⟨B', h, h0, _⟩
          · rw [h] at hB; exact absurd hB (by simp)
          · obtain rfl : B = B' := Option.some.inj (hB.symm.trans h)
            have : c' = 0 := by omega
            subst this
            exact ⟨_, e⟩
      have : rows' = [] := List.eq_nil_of_length_eq_zero (by simpa using hl1)
      subst this
      exact ⟨[], by simp only [K]; exact .inl ⟨trivial, ⟨q, e⟩, trivial⟩, by simp, by simp⟩
    · have hkr : Kr w O2 rows' us FT := lendR_ok hR hO2 hdr hl' (fun r hr tk htk k hk b hb => .inr ⟨tk, k, ⟨r, hr, htk⟩, hk, hb⟩)
      rcases hv1 with ⟨hnone, _⟩ | ⟨B', hB', b', o', c', e, hc', hmc, hbo⟩
      · rw [hnone] at hB; exact absurd hB (by simp)
      obtain rfl : B = B' := Option.some.inj (hB.symm.trans hB')
      rcases hbo with h00 | ⟨rfl, rfl⟩
      · subst h00
        have hr0 : rows' = [] := List.eq_nil_of_length_eq_zero (by omega)
        subst hr0
        refine ⟨[], ?_, by simp, by simp⟩
        simp only [K]
        have : rows.length = 0 := by omega
        rw [this] at e
        exact .inl ⟨trivial, ⟨_, e⟩, trivial⟩
      · refine ⟨B.b :: FT, ?_, by rw [← hFt]; exact hndt, by rw [hFt]; exact fun b h => h⟩
        simp only [K]
        refine .inr ⟨B.b, B.o + 0 * B.sz, c', cc, et, us, FT, by rw [hl1]; exact e, hheap, by omega, ?_, hl2 _ hsr, rfl, hkr, ?_⟩
        · have : c' = B.cap := by omega
          rw [this, hsz]; omega
        · intro j u hj
          rw [Nat.zero_mul, Nat.add_zero]; exact hlie j u hj
  -- the call
  simp only [CV, CI] at hv2
  subst hv2
  have hb2 : ∀ b ∈ B2.b :: G2, ∃ tk k, (tk = t2 ∨ tk ∈ namess row) ∧ hget s.hp tk = some k ∧ b ∈ F tk := by
    intro b hb
    rcases List.mem_cons.1 hb with rfl | hb
    · exact ⟨t2, _, .inl rfl, hgt2, by rw [hF2]; simp⟩
    · obtain ⟨tk, k, h1, h2, h3⟩ := mg2 b hb
      exact ⟨tk, k, .inr h1, h2, h3⟩
  have ht2 : ∀ tk, (tk = t2 ∨ tk ∈ namess row) → tk ≠ t ∧ ∀ r ∈ rows, tk ∉ namess r := by
    rintro tk (rfl | h)
    · exact ⟨fun e => hne e.symm, fun r hr hx => (hnl r hr _ hx).2.1 rfl⟩
    · exact ⟨(hnr2 tk h).1, fun r hr hx => (hnl r hr _ hx).2.2 h⟩
  have ht1 : ∀ r ∈ rows, t ∉ namess r := fun r hr hx => (hnl r hr _ hx).1 rfl
  have hG : ∀ b ∈ G1 ++ (B2.b :: G2), ∃ tk k, (tk = t ∨ tk = t2 ∨ tk ∈ namess row) ∧ hget s.hp tk = some k ∧ b ∈ F tk := by
    intro b hb
    rcases List.mem_append.1 hb with h | h
    · exact ⟨t, _, .inl rfl, hgt, mg1 b h⟩
    · obtain ⟨tk, k, h1, h2, h3⟩ := hb2 b h
      exact ⟨tk, k, .inr h1, h2, h3⟩
  have hGO2 : ∀ b ∈ G1 ++ (B2.b :: G2), ¬ O2 b ∧ b < w.heap.size ∧ (E.w0.heap.size ≤ b ∨ b ∈ E.mine) := by
    intro b hb
    obtain ⟨tk, k, h1, h2, h3⟩ := hG b hb
    have hm := hR.mine _ _ h2 b h3
    refine ⟨hnO2 tk k b h2 h3 ?_, hm.2.1, hm.2.2⟩
    rcases h1 with rfl | h1
    · exact ht1
    · exact (ht2 tk h1).2
  have hnd2 : (B2.b :: G2).Nodup := by
    refine List.nodup_cons.2 ⟨fun h => ?_, ng2⟩
    obtain ⟨tk, k, h1, h2, h3⟩ := mg2 _ h
    exact hR.apart _ _ _ _ h2 hgt2 (hnr2 tk h1).2 _ h3 (by rw [hF2]; simp)
  have hnd : (G1 ++ (B2.b :: G2)).Nodup := by
    refine List.nodup_append.2 ⟨ng1, hnd2, fun b hb b' hb' e => ?_⟩
    subst e
    obtain ⟨tk, k, h1, h2, h3⟩ := hb2 b hb'
    exact hR.apart _ _ _ _ hgt h2 (fun e => (ht2 tk h1).1 e.symm) b (mg1 b hb) h3
  refine (hret w _ O2 (G1 ++ (B2.b :: G2)) hO2lt ?_ hnd (fun b hb => ⟨(hGO2 b hb).1, (hGO2 b hb).2.1⟩)).mono ?_
  · simp only [Ks]
    exact ⟨_, _, G1, B2.b :: G2, rfl, rfl, k1, _, _, [], B2.b :: G2, rfl, rfl, by simp only [K, CI]; exact ⟨trivial, trivial⟩, _, _, B2.b :: G2, [], rfl, by simp, k3, rfl, rfl⟩
  rintro e w' ⟨v, O', Fr, Fo, rfl, h1, h2, h3, hr, ho, hnd3, hm3, hkeep⟩
  simp only
  simp only [K] at hr
  rcases hr with ⟨h, _⟩ | ⟨bR, oR, capR, cR, eR, csR, FR', rfl, hhR, hlR, hfR, _, rfl, hkR, hlieR⟩
  · exact absurd h hR0
  generalize hδ : ((t :: t2 :: namess row).map (fun x => (x, (none : Option Blk))) ++ [(n, some (Blk.arr sz R2))]) = δ at *
  have hδl : n < n + δ.length := by rw [← hδ]; simp
  have hAn : ¬ A n := hFR n (Nat.le_refl _) hδl
  have hAm : ∀ x, A x → Aext A n δ.length x := fun x h => .inl h
  have hρ : ∀ x, A x → (fun x => if x = n then some (⟨bR, oR, capR, sz⟩ : RB) else ρ x) x = ρ x := fun x hx => if_neg (fun (h : x = n) => hAn (by rw [← h]; exact hx))
  obtain ⟨G3, hdR, hsub3⟩ := leftR_ok (A := Aext A n δ.length) (ρ := fun x => if x = n then some (⟨bR, oR, capR, sz⟩ : RB) else ρ x) (O := O) hleft hRs hkR
  have hOw : ∀ b, O b → w'.heap[b]? = w.heap[b]? := fun b hb => hkeep.block b (hR.Olt b hb) (fun hG' => (hGO2 b hG').1 (.inl hb))
  have hsub : ∀ t' k, hget (hdels s.hp (t :: t2 :: namess row)) t' = some k → (t' ≠ t ∧ t' ≠ t2 ∧ t' ∉ namess row) ∧ hget s.hp t' = some k := by
    intro t' k h
    rw [hget_hdels] at h
    split at h
    · exact absurd h (by simp)
    · rename_i hni
      simp only [List.mem_cons, not_or] at hni
      exact ⟨hni, h⟩
  have hGF : ∀ t' k, hget (hdels s.hp (t :: t2 :: namess row)) t' = some k → ∀ b ∈ F t', b ∉ G1 ++ (B2.b :: G2) := by
    intro t' k hk b hb hbG
    obtain ⟨⟨n1, n2, n3⟩, h5⟩ := hsub _ _ hk
    obtain ⟨tk, k', h6, h7, h8⟩ := hG b hbG
    refine hR.apart _ _ _ _ h5 h7 ?_ b hb h8
    rintro rfl
    rcases h6 with h | h | h
    · exact n1 h
    · exact n2 h
    · exact n3 h
  have hmF : ∀ b ∈ bR :: G3, ¬ O b ∧ b < w'.heap.size ∧ (w.heap.size ≤ b ∨ b ∈ G1 ++ (B2.b :: G2)) := by
    intro b hb
    have hb' : b ∈ (bR :: FR') ++ Fo := by
      refine List.mem_append.2 (.inl ?_)
      rcases List.mem_cons.1 hb with rfl | h
      · simp
      · exact List.mem_cons_of_mem _ (hsub3.subset h)
    have := hm3 b hb'
    exact ⟨fun ho => this.1 (h1 b (.inl ho)), this.2.1, this.2.2⟩
  have hR1 := hR.set1 (t := n) (k := .arr sz R2) (Ft := bR :: G3) (M := G1 ++ (B2.b :: G2)) (A' := Aext A n δ.length) (ρ' := fun x => if x = n then some (⟨bR, oR, capR, sz⟩ : RB) else ρ x) (w' := w') (hp0 := hdels s.hp (t :: t2 :: namess row))
    hAm hρ (fun x hx => by rw [if_neg (by omega)]; exact hR.ρ0 x hx) hOw (fun t' k h => (hsub t' k h).2) (fun t' k _ hk b hb => hkeep.block b (hR.mine _ _ (hsub _ _ hk).2 b hb).2.1 (hGF t' k hk b hb)) hkeep (fun b hb => (hGO2 b hb).2.2) (.inr ⟨Nat.le_refl _, hδl⟩) ?_ ?_ ?_ ?_
  · have h4 := hR1.put hd (v := .ref n 0 R.length) (u := .slice (some ⟨bR, oR, none⟩) R.length capR) (by
      simp only [CV]
      exact ⟨.inr ⟨Nat.le_refl _, hδl⟩, .inr ⟨⟨bR, oR, capR, sz⟩, by simp, bR, oR, capR, rfl, by simp, hlR, .inr ⟨rfl, by simp⟩⟩⟩)
    have h5 : Rel E (Aext A n δ.length) (s.app o.dst (.ref n 0 R.length) δ) (a.put o.dst (.slice (some ⟨bR, oR, none⟩) R.length capR)) w' := by
      have hh : hap s.hp δ = hset (hdels s.hp (t :: t2 :: namess row)) n (.arr sz R2) := by
        rw [← hδ, hap_append, hap_kills]; rfl
      rw [St.app, hh]
      exact ⟨_, _, _, h4⟩
    exact hn _ _ h5
  · simp only [BR]
    refine .inr ⟨⟨bR, oR, capR, sz⟩, by simp, rfl, hR2s, by simp only; omega, cR, eR, csR, G3, hhR, hfR, hdR, hlieR, rfl⟩
  · have := (List.nodup_append.1 hnd3).1
    have hn3 := List.nodup_cons.1 this
    exact List.nodup_cons.2 ⟨fun h => hn3.1 (hsub3.subset h), hn3.2.sublist hsub3⟩
  · intro b hb
    obtain ⟨q1, q2, q3⟩ := hmF b hb
    refine ⟨q1, q2, ?_⟩
    rcases q3 with h | h
    · exact .inl (Nat.le_trans hR.keep.size h)
    · exact (hGO2 b h).2.2
  · intro t' k _ hk b hb hin
    rcases (hmF b hb).2.2 with h | h
    · have := (hR.mine _ _ (hsub _ _ hk).2 b hin).2.1; omega
    · exact hGF t' k hk b hin h
end
end Go.Proofs.Ytehdfbhfbidadaa.V
/- Props set, by the program: where they are. -/
namespace Go.Proofs.Ytehdfbhfbidadaa.V
open Go
set_option linter.unusedVariables false
set_option linter.unusedSimpArgs false
set_option maxHeartbeats 4000000
/-- Where the props of a value are kept in a graph of one's own (nodes behind 4, edges behind 5). -/
def ptAt (g : Gr) (v : Vl) : T := match propsOf g v with
  | some _ => if v.k = 5 then .ptr 4 (posOf Nd.id v.n g.nodes).toNat 2 else .ptr 5 (posOf Eg.id v.n g.edges).toNat 4
  | none => .np
theorem propsAt_w (g : Gr) (hf : g.nodes.length ≤ 2 ^ 20 ∧ g.edges.length ≤ 2 ^ 20) (v : Vl) : Vw Try.prog 110 [.agg [.ref 4 0 g.nodes.length, .ref 5 0 g.edges.length, .i .i64 g.nn, .i .i64 g.ne], .agg (sV.I v)] [(4, .arr 3 (g.nodes.map sN.O)), (5, .arr 5 (g.edges.map sE.O))] (ptAt g v) := by
  have ok1 : okCall Try.prog 97 = true := by kernel_rfl
  have ok2 : okCall Try.prog 116 = true := by kernel_rfl
  have cN := sN.crO g.nodes
  have cE := sE.crO g.edges
  obtain ⟨l, es, nn, ne⟩ := g
  obtain ⟨k, n, s, vl⟩ := v
  obtain ⟨hf1, hf2⟩ := hf
  simp only at hf1 hf2 cN cE
  have hr : ∀ x ∈ (ptAt ⟨l, es, nn, ne⟩ (.mk k n s vl)).names, x = 4 ∨ x = 5 := by
    intro x hx
    unfold ptAt at hx
    split at hx
    · split at hx <;> simp at hx <;> simp [hx]
    · simp at hx
  refine see_impl_propsAt 6 (by simp) (by simp) (by intro x hx; have := hr x hx; simp; exact this) (by simp [Blk.cl, cN, cE]) (by simp) ?_
  by_cases k5 : k = 5
  · subst k5
    simp [pc_impl_propsAt]
    refine hookH_view (nodesOf_v (.ref 4 0 l.length) (.ref 5 0 es.length) rfl rfl nn ne) rfl ok1 (by simp) ?_
    simp
    refine callK_val (by simp [cN]) (placeN_c l (by omega) n) rfl ?_
    rcases find_pos (f := Nd.id) (id := n) (l := l) with ⟨i, ⟨a, b, c⟩, h1, h2, h3⟩ | ⟨h1, h3⟩
    · have hp : propsOf ⟨l, es, nn, ne⟩ (.mk 5 n s vl) = some c := by unfold propsOf; simp only [Vl.k, Vl.n, if_true]; exact congrArg (Option.map Nd.props) h3
      have q4 := (List.getElem?_eq_some_iff.1 h2).1
      simp [-getElem?_pos, h1, h2, q4]
      exact fin_view rfl (by simp [ptAt, hp, h1]) (by simp)
    · have hp : propsOf ⟨l, es, nn, ne⟩ (.mk 5 n s vl) = none := by unfold propsOf; simp only [Vl.k, Vl.n, if_true]; exact congrArg (Option.map Nd.props) h3
      simp [-getElem?_pos, h1]
      exact fin_view rfl (by simp [ptAt, hp]) (by simp)
  · by_cases k6 : k = 6
    · subst k6
      simp [pc_impl_propsAt]
      refine hookH_view (edgesIn_v (.ref 4 0 l.length) (.ref 5 0 es.length) rfl rfl nn ne) rfl ok2 (by simp) ?_
      simp
      refine callK_val (by simp [cE]) (placeE_c es (by omega) n) rfl ?_
      rcases find_pos (f := Eg.id) (id := n) (l := es) with ⟨i, ⟨a, b, c, d, e⟩, h1, h2, h3⟩ | ⟨h1, h3⟩
      · have hp : propsOf ⟨l, es, nn, ne⟩ (.mk 6 n s vl) = some e := by unfold propsOf; simp only [Vl.k, Vl.n, if_true, show ¬ (6 : Int) = 5 by omega, if_false]; exact congrArg (Option.map Eg.props) h3
        have q4 := (List.getElem?_eq_some_iff.1 h2).1
        simp [-getElem?_pos, h1, h2, q4]
        exact fin_view rfl (by simp [ptAt, hp, h1]) (by simp)
      · have hp : propsOf ⟨l, es, nn, ne⟩ (.mk 6 n s vl) = none := by unfold propsOf; simp only [Vl.k, Vl.n, if_true, show ¬ (6 : Int) = 5 by omega, if_false]; exact congrArg (Option.map Eg.props) h3
        simp [-getElem?_pos, h1]
        exact fin_view rfl (by simp [ptAt, hp]) (by simp)
    · have hp : propsOf ⟨l, es, nn, ne⟩ (.mk k n s vl) = none := by simp only [propsOf, Vl.k, Vl.n, k5, k6, if_false]
      simp [pc_impl_propsAt, k5, k6]
      exact fin_view rfl (by simp [ptAt, hp]) (by simp)
theorem valueEmpty_c (v : Vl) : Rv Try.prog 109 [.agg (sV.I v)] (.b (emptyV v)) := by
  obtain ⟨k, n, s, l⟩ := v
  refine via_impl_valueEmpty (by simp) ?_
  by_cases c1 : k = 0 <;> by_cases c2 : n = 0 <;> by_cases c3 : s = [] <;> by_cases c4 : l = []
  all_goals
    simp [pc_impl_valueEmpty, c1, c2, c3, c4]
    exact fin_val rfl (by simp [emptyV, c1, c2, c3, c4]) (by simp)
/-- Too many: whatever they are. -/
theorem propsOk_many (rows : List (List T)) (h : 4 < rows.length) : Rv Try.prog 112 [.imm rows] (.b false) := by
  have h4' : (4 : Int) < rows.length := by omega
  refine via_impl_propsOk (by simp) ?_
  simp [pc_impl_propsOk, h4']
  exact fin_val rfl (by simp) (by simp)
end Go.Proofs.Ytehdfbhfbidadaa.V
/- Props set, by the program: where it is not done early. -/
namespace Go.Proofs.Ytehdfbhfbidadaa.V
open Go
set_option linter.unusedVariables false
set_option linter.unusedSimpArgs false
set_option maxHeartbeats 4000000
theorem PropSet_no1 (g : Gr) (hf : g.fit) (v : Vl) (nm : Tx) (to : Vl) (g1 : ¬ GOk g) : Rv Try.prog 47 [.agg (sG.I g), .agg (sV.I v), .s nm, .agg (sV.I to)] (.tup [.agg (sG.O zG), .b false]) := by
  have h1 := GraphOk_c g hf
  obtain ⟨l, es, nn, ne⟩ := g
  obtain ⟨k, n, s, vl⟩ := v
  obtain ⟨k', n', s', vl'⟩ := to
  refine via_impl_PropSet (by simp) ?_
  simp [pc_impl_PropSet]
  refine callK_val (by simp) h1 rfl ?_
  simp [g1]
  exact fin_own (by simp; rfl) (by simp [zG]) (by simp) (by simp [zG])
theorem PropSet_no2 (g : Gr) (hf : g.fit) (hc : g.cnt ≤ 2 ^ 20) (v : Vl) (hv : v.fit) (nm : Tx) (hnm : ln nm) (to : Vl) (hto : to.fit) (g1 : GOk g) (g2 : ¬ setOk v nm to) : Rv Try.prog 47 [.agg (sG.I g), .agg (sV.I v), .s nm, .agg (sV.I to)] (.tup [.agg (sG.O g), .b false]) := by
  have h1 := GraphOk_c g hf
  have h2 := cloneOk hf hc g1
  have h3 := ValueOk_c v hv
  have h4 := NameOk_c nm hnm
  have h5 := storable_c to hto
  have h6 := valueEmpty_c to
  cases c1 : vOk v with
  | false =>
    rw [c1] at h3
    obtain ⟨l, es, nn, ne⟩ := g
    obtain ⟨k, n, s, vl⟩ := v
    obtain ⟨k', n', s', vl'⟩ := to
    refine via_impl_PropSet (by simp) ?_
    simp [pc_impl_PropSet]
    refine callK_val (by simp) h1 rfl ?_
    simp [g1]
    refine callK_val (by simp) h2 (by simp [T.noImm]) ?_
    simp
    refine callK_val (by simp) h3 rfl ?_
    simp
    exact fin_own (by simp; rfl) (by simp) (by simp) (by simp)
  | true =>
    rw [c1] at h3
    cases c2 : nameOk nm with
    | false =>
      rw [c2] at h4
      obtain ⟨l, es, nn, ne⟩ := g
      obtain ⟨k, n, s, vl⟩ := v
      obtain ⟨k', n', s', vl'⟩ := to
      refine via_impl_PropSet (by simp) ?_
      simp [pc_impl_PropSet]
      refine callK_val (by simp) h1 rfl ?_
      simp [g1]
      refine callK_val (by simp) h2 (by simp [T.noImm]) ?_
      simp
      refine callK_val (by simp) h3 rfl ?_
      simp
      refine callK_val (by simp) h4 rfl ?_
      simp
      exact fin_own (by simp; rfl) (by simp) (by simp) (by simp)
    | true =>
      have c3 : sto to = false := by
        cases h : sto to with
        | false => rfl
        | true => exact absurd ⟨c1, c2, .inl h⟩ g2
      have c4 : emptyV to = false := by
        cases h : emptyV to with
        | false => rfl
        | true => exact absurd ⟨c1, c2, .inr h⟩ g2
      rw [c2] at h4
      rw [c3] at h5
      rw [c4] at h6
      obtain ⟨l, es, nn, ne⟩ := g
      obtain ⟨k, n, s, vl⟩ := v
      obtain ⟨k', n', s', vl'⟩ := to
      refine via_impl_PropSet (by simp) ?_
      simp [pc_impl_PropSet]
      refine callK_val (by simp) h1 rfl ?_
      simp [g1]
      refine callK_val (by simp) h2 (by simp [T.noImm]) ?_
      simp
      refine callK_val (by simp) h3 rfl ?_
      simp
      refine callK_val (by simp) h4 rfl ?_
      simp
      refine callK_val (by simp) h5 rfl ?_
      simp
      refine callK_val (by simp) h6 rfl ?_
      simp
      exact fin_own (by simp; rfl) (by simp) (by simp) (by simp)
theorem PropSet_no3 (g : Gr) (hf : g.fit) (hc : g.cnt ≤ 2 ^ 20) (v : Vl) (hv : v.fit) (nm : Tx) (hnm : ln nm) (to : Vl) (hto : to.fit) (g1 : GOk g) (g2 : setOk v nm to) (g3 : propsOf g v = none) : Rv Try.prog 47 [.agg (sG.I g), .agg (sV.I v), .s nm, .agg (sV.I to)] (.tup [.agg (sG.O g), .b false]) := by
  have ok1 : okCall Try.prog 110 = true := by kernel_rfl
  have h1 := GraphOk_c g hf
  have h2 := cloneOk hf hc g1
  have h3 := ValueOk_c v hv
  have h4 := NameOk_c nm hnm
  have h5 := storable_c to hto
  have h6 := valueEmpty_c to
  have hln : g.nodes.length ≤ 2 ^ 20 ∧ g.edges.length ≤ 2 ^ 20 := by unfold Gr.cnt cl at hc; omega
  have h7 := propsAt_w g hln v
  rw [show ptAt g v = .np by unfold ptAt; rw [g3]] at h7
  obtain ⟨c1, c2, c3⟩ := g2
  rw [c1] at h3
  rw [c2] at h4
  have hcN := sN.crO g.nodes
  have hcE := sE.crO g.edges
  obtain ⟨l, es, nn, ne⟩ := g
  obtain ⟨k, n, s, vl⟩ := v
  obtain ⟨k', n', s', vl'⟩ := to
  simp only [sV_I] at h7
  cases c4 : sto (.mk k' n' s' vl') with
  | true =>
    rw [c4] at h5
    refine Ret.ofS Try.func47 ok_impl_PropSet rfl rfl (by simp) ?_
    refine WW_seq (WW_of_W ?_)
    simp
    refine WW_seq (WW_of_W ?_)
    simp
    refine callK_val (by simp) h1 rfl ?_
    simp [g1]
    refine WW_seq (WW_of_W ?_)
    simp
    refine callK_val (by simp) h2 (by simp [T.noImm]) ?_
    simp
    refine WW_seq (WW_of_W ?_)
    simp
    refine callK_val (by simp) h3 rfl ?_
    simp
    refine callK_val (by simp) h4 rfl ?_
    simp
    refine callK_val (by simp) h5 rfl ?_
    simp
    refine WW_seq (WW_of_W ?_)
    simp
    refine hookH_view h7 rfl ok1 (by simp) ?_
    simp
    refine WW_of_W ?_
    simp
    exact fin_own (by simp; rfl) (by simp) (by simp) (by simp)
  | false =>
    have c5 : emptyV (.mk k' n' s' vl') = true := by
      rcases c3 with c3 | c3
      · rw [c4] at c3; exact absurd c3 (by simp)
      · exact c3
    rw [c4] at h5
    rw [c5] at h6
    refine Ret.ofS Try.func47 ok_impl_PropSet rfl rfl (by simp) ?_
    refine WW_seq (WW_of_W ?_)
    simp
    refine WW_seq (WW_of_W ?_)
    simp
    refine callK_val (by simp) h1 rfl ?_
    simp [g1]
    refine WW_seq (WW_of_W ?_)
    simp
    refine callK_val (by simp) h2 (by simp [T.noImm]) ?_
    simp
    refine WW_seq (WW_of_W ?_)
    simp
    refine callK_val (by simp) h3 rfl ?_
    simp
    refine callK_val (by simp) h4 rfl ?_
    simp
    refine callK_val (by simp) h5 rfl ?_
    simp
    refine callK_val (by simp) h6 rfl ?_
    simp
    refine WW_seq (WW_of_W ?_)
    simp
    refine hookH_view h7 rfl ok1 (by simp) ?_
    simp
    refine WW_of_W ?_
    simp
    exact fin_own (by simp; rfl) (by simp) (by simp) (by simp)
end Go.Proofs.Ytehdfbhfbidadaa.V
/- Props set, by the program: where it is done. -/
namespace Go.Proofs.Ytehdfbhfbidadaa.V
open Go
set_option linter.unusedVariables false
set_option linter.unusedSimpArgs false
set_option maxHeartbeats 4000000
theorem lendCs_clean {s : St} : ∀ {r : List T}, r.all T.clean = true → lendCs s r = some r
  | [], _ => rfl
  | c :: r, h => by
    simp only [List.all_cons, Bool.and_eq_true] at h
    have h2 := lendCs_clean (s := s) h.2
    have h1 : lendC s c = some c := by
      have hc := h.1
      cases c <;> simp [lendC, T.clean] at hc ⊢
    simp only [lendCs, h1, h2]
theorem lendR_clean {s : St} : ∀ {rs : List (List T)}, cleanR rs = true → lendR s rs = some rs
  | [], _ => rfl
  | r :: rs, h => by
    simp only [cleanR, List.all_cons, Bool.and_eq_true] at h
    have h2 := lendR_clean (s := s) (rs := rs) (by simpa [cleanR] using h.2)
    simp only [lendR, lendCs_clean h.1, h2]
/-- A prop put among props of one's own. -/
theorem hookH_insP {s : St} {n : Nat} {c : Call} {t t2 V : Nat} {i : Int} {j : Nat} {nm x : Tx} {k m : Int} {vl : List Vl} {B : List Pr} {K : T → Δ → List Nat → Prop} (hc : c.callee = .value (.func 111)) (hi : i = j) (hj : j ≤ B.length) (hB : B.length ≤ 2 ^ 20)
    (hg1 : hget s.hp t = some (.arr 5 (B.map sP.O))) (hg2 : hget s.hp t2 = some (.arr 5 [[.s nm, .i .i64 k, .i .i64 m, .s x, .ref V 0 vl.length]])) (hg3 : hget s.hp V = some (.arr 4 (vl.map sV.O))) (h12 : t ≠ t2) (h13 : V ≠ t) (h23 : V ≠ t2)
    (h : K (.ref n 0 (B.length + 1)) [(t, none), (t2, none), (V, none), (n, some (.arr 5 ((B.take j ++ ⟨nm, .mk k m x vl⟩ :: B.drop j).map sP.O)))] [t, t2, V]) :
    @hookH Try.prog s n ⟨.call c⟩ [.fn 111 [], .ref t 0 B.length, .i .i64 i, .ref t2 0 1] ⟨K⟩ := by
  have ok : okCall Try.prog 111 = true := by kernel_rfl
  subst hi
  have hlen : (B.take j ++ ⟨nm, .mk k m x vl⟩ :: B.drop j).length = B.length + 1 := by simp; omega
  have hcB := sP.crO B
  have hcV := sV.crO vl
  have hret := Insert_prop_c B ⟨nm, .mk k m x vl⟩ j hj hB
  have hnr : noImr ((B.take j ++ ⟨nm, .mk k m x vl⟩ :: B.drop j).map sP.O) = true := sP.nrO _
  have hl5 : ∀ r ∈ (B.take j ++ ⟨nm, .mk k m x vl⟩ :: B.drop j).map sP.O, r.length = 5 := by intro r hr; obtain ⟨a, _, rfl⟩ := List.mem_map.1 hr; exact sP.lO a
  have e0 : (B.take j ++ ⟨nm, .mk k m x vl⟩ :: B.drop j).map sP.O ≠ [] := by intro h; have := congrArg List.length h; simp at this
  generalize B.take j ++ ⟨nm, .mk k m x vl⟩ :: B.drop j = L at *
  have key := hook_ins (P := Try.prog) (n := n) (c := c) (t := t) (t2 := t2) (i := (j : Int)) (rows := B.map sP.O) (rows' := B.map sP.O) (row := [.s nm, .i .i64 k, .i .i64 m, .s x, .ref V 0 vl.length]) (rowO := sP.O ⟨nm, .mk k m x vl⟩) (R := L.map sP.O) (R2 := L.map sP.O) (hp := [(t, .arr 5 (B.map sP.O)), (t2, .arr 5 [[.s nm, .i .i64 k, .i .i64 m, .s x, .ref V 0 vl.length]]), (V, .arr 4 (vl.map sV.O))]) hc ok
    (by simp) (by simp [h12]) h12 (lendR_clean hcB) (by simp [handedXs, handedX1, handed1, T.closed, hcV, Ne.symm h13, Ne.symm h23]) (by simp [T.cell])
    (by
      intro r hr tk htk
      obtain ⟨a, _, rfl⟩ := List.mem_map.1 hr
      have : (sP.O a).all T.clean = true := by
        obtain ⟨n1, k1, m1, s1, l1⟩ := a
        simp [T.clean, sV.crO]
      rw [namess_clean this] at htk; exact absurd htk (by simp))
    (by simp [namess]) (by simp [namess, h13, h23]) hret hl5 e0 (.inl ⟨rfl, hnr⟩) rfl hl5
  have e1 : (List.map sP.O B).length = B.length := by simp
  have e2 : (List.map sP.O L).length = B.length + 1 := by simp [hlen]
  rw [e1, e2] at key
  refine hookH_of _ key (by simp [hg1, hg2, hg3]) ?_
  simp [namess]; exact h
def dP (p : Pr) : List T := [.s p.name, .i .i64 p.val.k, .i .i64 p.val.n, .s p.val.s, .dead]
set_option maxRecDepth 20000 in
theorem PropSet_yN (g : Gr) (hf : g.fit) (hc : g.cnt ≤ 2 ^ 20) (v : Vl) (hv : v.fit) (nm : Tx) (hnm : ln nm) (to : Vl) (hto : to.fit) (htc : to.cnt ≤ 2 ^ 20) (g1 : GOk g) (g2 : setOk v nm to) (ps : List Pr) (g3 : propsOf g v = some ps) (g4 : PropsOk (propNext nm to ps))
    (hk5 : v.k = 5) (id : Int) (lb : List Tx) (i0 : Nat) (q1 : posOf Nd.id v.n g.nodes = i0) (q2 : g.nodes[i0]? = some ⟨id, lb, ps⟩) (q3 : ∀ L, gSetP g v L = { g with nodes := g.nodes.set i0 ⟨id, lb, L⟩ }) : Rv Try.prog 47 [.agg (sG.I g), .agg (sV.I v), .s nm, .agg (sV.I to)] (.tup [.agg (sG.O (gSetP g v (propNext nm to ps))), .b true]) := by
  have ok1 : okCall Try.prog 110 = true := by kernel_rfl
  have h1 := GraphOk_c g hf
  have h2 := cloneOk hf hc g1
  have h3 := ValueOk_c v hv
  have h4 := NameOk_c nm hnm
  have h5 := storable_c to hto
  have h6 := valueEmpty_c to
  have hln : g.nodes.length ≤ 2 ^ 20 ∧ g.edges.length ≤ 2 ^ 20 := by unfold Gr.cnt cl at hc; omega
  have h7 := propsAt_w g hln v
  rw [show ptAt g v = .ptr 4 i0 2 by unfold ptAt; rw [g3]; simp only [hk5, if_true, q1, Int.toNat_natCast]] at h7
  have hPok := props_ok g1 g3
  have hpl : ps.length ≤ 4 := hPok.2
  have hpf := props_fit hf g3
  have hto2 : vOk to = true := by
    rcases g2.2.2 with c | c
    · exact sto_ok c
    · exact (emptyV_iff.1 c).2
  have hcv := cloneValue_c to hto htc hto2
  have hNf : ∀ p ∈ propNext nm to ps, p.fit := propNext_mem hpf (fun _ => ⟨hnm, hto⟩)
  have hNl := propNext_len nm to ps
  have hpk := propsOk_c (propNext nm to ps) (by simp only [ln]; omega) hNf
  have hins := propNext_ins hPok.1 nm to
  have hout := propNext_out (ps := ps) nm to
  rw [q3]
  obtain ⟨c1, c2, c3⟩ := g2
  rw [c1] at h3
  rw [c2] at h4
  have hcN := sN.crO g.nodes
  have hcE := sE.crO g.edges
  have hcS := sN.crO (g.nodes.set i0 ⟨id, lb, propNext nm to ps⟩)
  rw [List.map_set] at hcS
  simp only [sN_O] at hcS
  obtain ⟨D4, hD4⟩ : ∃ D4, D4 = (g.nodes.map sN.O).set i0 [.i .i64 id, .own 1 (lb.map sS.O), .dead] := ⟨_, rfl⟩
  have cD4 : cleanR D4 = true := by
    rw [hD4]
    simp only [cleanR, List.all_eq_true] at hcN ⊢
    intro r hr
    rcases List.mem_or_eq_of_mem_set hr with h | rfl
    · exact hcN r h
    · have := sS.crO lb; intro x hx; simp at hx; rcases hx with rfl | rfl | rfl <;> simp [T.clean, this]
  have q4 := (List.getElem?_eq_some_iff.1 q2).1
  obtain ⟨l, es, nn, ne⟩ := g
  obtain ⟨k, n, s, vl⟩ := v
  obtain ⟨k', n', s', vl'⟩ := to
  simp only [sV_I] at h7
  simp only at q2 q4 hD4 hcN hcE hcS
  simp only [Vl.k] at hins hout
  refine Ret.ofS Try.func47 ok_impl_PropSet rfl rfl (by simp) ?_
  refine WW_seq (WW_of_W ?_)
  simp
  refine WW_seq (WW_of_W ?_)
  simp
  refine callK_val (by simp) h1 rfl ?_
  simp [g1]
  refine WW_seq (WW_of_W ?_)
  simp
  refine callK_val (by simp) h2 (by simp [T.noImm]) ?_
  simp
  refine WW_seq (thn_cut (s2 := ⟨[(2, .s nm), (4, .ptr 0 0 0), (5, .ptr 1 0 0), (7, .ptr 2 0 0), (8, .ptr 3 0 0), (10, .ptr 6 0 0)], [(0, .arr 4 [[.imm (l.map sN.I), .imm (es.map sE.I), .i .i64 nn, .i .i64 ne]]), (1, .arr 4 [[.i .i64 k, .i .i64 n, .s s, .imm (vl.map sV.I)]]), (2, .arr 4 [[.i .i64 k', .i .i64 n', .s s', .imm (vl'.map sV.I)]]), (3, .arr 4 [[.nl, .nl, .i .i64 0, .i .i64 0]]), (4, .arr 3 (l.map sN.O)), (5, .arr 5 (es.map sE.O)), (6, .arr 4 [[.ref 4 0 l.length, .ref 5 0 es.length, .i .i64 nn, .i .i64 ne]])], 20, 0⟩) ?_ ?_)
  · skip
    cases c4 : sto (.mk k' n' s' vl') with
    | true =>
      rw [c4] at h5
      simp
      refine callK_val (by simp) h3 rfl ?_
      simp
      refine callK_val (by simp) h4 rfl ?_
      simp
      refine callK_val (by simp) h5 rfl ?_
      simp
      exact Wk.to rfl (by simp) (by simp) (by simp [Blk.names, namesr_clean hcN, namesr_clean hcE]) (by simp)
    | false =>
      have c5 : emptyV (.mk k' n' s' vl') = true := by
        rcases c3 with c3 | c3
        · rw [c4] at c3; exact absurd c3 (by simp)
        · exact c3
      rw [c4] at h5
      rw [c5] at h6
      simp
      refine callK_val (by simp) h3 rfl ?_
      simp
      refine callK_val (by simp) h4 rfl ?_
      simp
      refine callK_val (by simp) h5 rfl ?_
      simp
      refine callK_val (by simp) h6 rfl ?_
      simp
      exact Wk.to rfl (by simp) (by simp) (by simp [Blk.names, namesr_clean hcN, namesr_clean hcE]) (by simp)
  clear h1 h2 h3 h4 h5 h6
  refine WW_seq (WW_of_W ?_)
  simp
  refine hookH_view h7 rfl ok1 (by simp) ?_
  simp
  refine WW_seq (WW_of_W ?_)
  simp
  refine WW_seq (thn_cut (s2 := ⟨[(12, .ref 7 0 0), (2, .s nm), (4, .ptr 0 0 0), (5, .ptr 1 0 0), (7, .ptr 2 0 0), (8, .ptr 3 0 0), (10, .ptr 6 0 0), (11, .ptr 4 i0 2)], [(7, .arr 5 []), (2, .arr 4 [[.i .i64 k', .i .i64 n', .s s', .imm (vl'.map sV.I)]]), (3, .arr 4 [[.nl, .nl, .i .i64 0, .i .i64 0]]), (4, .arr 3 (l.map sN.O)), (5, .arr 5 (es.map sE.O)), (6, .arr 4 [[.ref 4 0 l.length, .ref 5 0 es.length, .i .i64 nn, .i .i64 ne]])], 60, 0⟩) ?_ ?_)
  · simp
    refine Wk.trans (Wk.nil (j := 12) (k := 1000) (sz := 5) (by simp) (by simp)) ?_
    refine Wk.ren (fun t => if t = 7 then 1000 else t) rfl (by simp) (by simp) (by simp) ?_ (by simp)
    simp [Blk.rn, Blk.names, namesr_clean hcN, rnr_cl hcN, namesr_clean hcE, rnr_cl hcE]
  refine WW_seq (thn_cut (s2 := ⟨[(12, .ref 7 0 (prOut nm ps).length), (2, .s nm), (4, .ptr 0 0 0), (5, .ptr 1 0 0), (7, .ptr 2 0 0), (8, .ptr 3 0 0), (10, .ptr 6 0 0), (11, .ptr 4 i0 2)], [(7, .arr 5 ((prOut nm ps).map sP.O)), (2, .arr 4 [[.i .i64 k', .i .i64 n', .s s', .imm (vl'.map sV.I)]]), (3, .arr 4 [[.nl, .nl, .i .i64 0, .i .i64 0]]), (4, .arr 3 D4), (5, .arr 5 (es.map sE.O)), (6, .arr 4 [[.ref 4 0 l.length, .ref 5 0 es.length, .i .i64 nn, .i .i64 ne]])], 100, 0⟩) ?_ ?_)
  · simp [-getElem?_pos, q2, q4]
    refine W_for (fun i => ⟨[(51, .i .i64 i), (50, .i .i64 ps.length), (49, .ref 20 0 ps.length), (12, .ref 7 0 (prOut nm (ps.take i)).length), (2, .s nm), (4, .ptr 0 0 0), (5, .ptr 1 0 0), (7, .ptr 2 0 0), (8, .ptr 3 0 0), (10, .ptr 6 0 0), (11, .ptr 4 i0 2)], [(20, .arr 5 ((ps.map dP).take i ++ (ps.map sP.O).drop i)), (7, .arr 5 ((prOut nm (ps.take i)).map sP.O)), (2, .arr 4 [[.i .i64 k', .i .i64 n', .s s', .imm (vl'.map sV.I)]]), (3, .arr 4 [[.nl, .nl, .i .i64 0, .i .i64 0]]), (4, .arr 3 D4), (5, .arr 5 (es.map sE.O)), (6, .arr 4 [[.ref 4 0 l.length, .ref 5 0 es.length, .i .i64 nn, .i .i64 ne]])], 100, 0⟩) ps.length (fun _ => True) ?_ trivial ?_
    · refine Wk.trans (Wk.join (b := 4) (r := i0) (cs := [.i .i64 id, .own 1 (lb.map sS.O), .dead]) rfl (by simp [q4]; rfl) (by simp) (by simp)) ?_
      simp only [List.set_set, ← hD4]
      refine Wk.ren (fun t => if t = 20 then 60 else t) rfl (by simp) (by simp) (by simp [prOut]) ?_ (by simp)
      simp [Blk.rn, Blk.names, prOut, namesr_clean cD4, rnr_cl cD4, namesr_clean hcE, rnr_cl hcE, namesr_clean (sP.crO ps), rnr_cl (sP.crO ps), ← hD4]
    intro i hi _
    rcases Nat.lt_or_ge i ps.length with w1 | w1
    · obtain ⟨x, hx⟩ : ∃ x, ps[i]? = some x := ⟨_, List.getElem?_eq_getElem w1⟩
      have hw : IntKind.i64.wrap ((i : Int) + 1) = (i : Int) + 1 := wrap1 (by omega)
      have hsu := prOut_succ (nm := nm) hx
      have hle := prOut_len nm (ps.take i)
      rw [hsu]
      generalize prOut nm (ps.take i) = A at *
      have hal : A.length ≤ 4 := by rw [List.length_take] at hle; omega
      have hbig : (A.length + 1) * 72 ≤ 35184372088832 := by omega
      have hrow : ((ps.map dP).take i ++ (ps.map sP.O).drop i)[i]? = some (sP.O x) := by
        have hlen : ((ps.map dP).take i).length = i := by simp; omega
        rw [List.getElem?_append_right (by omega), hlen]; simp [hx]
      have hla : ((ps.map dP).take i).length = i := by simp; omega
      have hset : ∀ r, ((ps.map dP).take i ++ (ps.map sP.O).drop i).set i r = (ps.map dP).take i ++ r :: (ps.map sP.O).drop (i + 1) := by
        intro r
        rw [List.drop_eq_getElem_cons (by simpa using w1), List.set_append_right _ _ (by omega), hla]; simp
      have hset2 : ∀ r r', ((ps.map dP).take i ++ r :: (ps.map sP.O).drop (i + 1)).set i r' = (ps.map dP).take i ++ r' :: (ps.map sP.O).drop (i + 1) := by
        intro r r'
        rw [List.set_append_right _ _ (by omega), hla]; simp
      have hgt : ∀ r, ((ps.map dP).take i ++ r :: (ps.map sP.O).drop (i + 1))[i]? = some r := by
        intro r
        rw [List.getElem?_append_right (by omega), hla]; simp
      have hnew : (ps.map dP).take (i + 1) ++ (ps.map sP.O).drop (i + 1) = (ps.map dP).take i ++ dP x :: (ps.map sP.O).drop (i + 1) := by
        rw [fill_new dP hx]; simp
      have hc0 : cleanR ((ps.map dP).take i ++ dP x :: (ps.map sP.O).drop (i + 1)) = true := by
        have h3 := sP.crO (ps.drop (i + 1))
        simp only [cleanR, List.map_drop] at h3
        simp only [cleanR, List.all_append, List.all_cons, Bool.and_eq_true]
        refine ⟨?_, by simp [dP, T.clean], h3⟩
        have h4 : ∀ m : List Pr, ((m.map dP).all fun r => r.all T.clean) = true := by intro m; simp [dP, T.clean]
        rw [← List.map_take]; exact h4 _
      have hcA := sP.crO A
      obtain ⟨n1, k1, m1, s1, l1⟩ := x
      have hdP : dP ⟨n1, .mk k1 m1 s1 l1⟩ = [.s n1, .i .i64 k1, .i .i64 m1, .s s1, .dead] := rfl
      rw [hdP] at hnew hc0
      by_cases e : n1 = nm
      · subst e
        simp [-getElem?_pos, hx, hw, w1, hrow, hset]
        refine Wk.trans (Wk.join (b := 20) (r := i) (cs := [.s n1, .i .i64 k1, .i .i64 m1, .s s1, .dead]) rfl (by simp [hgt]; rfl) (by simp) (by simp)) ?_
        simp only [hnew]
        exact Wk.to rfl (by simp) (by simp) (by simp [Blk.names, namesr_clean hc0, namesr_clean hcA, namesr_clean cD4, namesr_clean hcE, hset2]) (by simp)
      · simp [-getElem?_pos, hx, hw, w1, hrow, hset, e, hbig]
        have hA : (A.map sP.O).length = A.length := by simp
        have hg2 := app1_get hA
        have hs3 := app1_set hA
        have hcB : cleanR (A.map sP.O ++ [[.s n1, .i .i64 k1, .i .i64 m1, .s s1, .own 4 (l1.map sV.O)]]) = true := by
          have := sP.crO (A ++ [⟨n1, .mk k1 m1 s1 l1⟩])
          rw [List.map_append] at this
          simpa only [List.map_cons, List.map_nil, sP_O, sV_O] using this
        refine Wk.trans (Wk.join (b := 20) (r := i) (cs := [.s n1, .i .i64 k1, .i .i64 m1, .s s1, .dead]) rfl (by simp [hgt]; rfl) (by simp) (by simp)) ?_
        refine Wk.trans (Wk.join (b := 105) (r := A.length) (cs := [.s n1, .i .i64 k1, .i .i64 m1, .s s1, .own 4 (l1.map sV.O)]) rfl (by simp [hg2]; rfl) (by simp) (by simp)) ?_
        simp only [hnew]
        refine Wk.ren (fun t => if t = 7 then 105 else t) rfl (by simp) (by simp) (by simp) ?_ (by simp)
        simp [Blk.rn, Blk.names, namesr_clean hc0, rnr_cl hc0, namesr_clean hcB, rnr_cl hcB, namesr_clean cD4, rnr_cl cD4, namesr_clean hcE, rnr_cl hcE, hset2, hs3]
    · obtain rfl : i = ps.length := by omega
      simp
      exact Wk.to rfl (by simp) (by simp) (by simp [Blk.names, namesr_clean cD4, namesr_clean hcE, namesr_clean (sP.crO (prOut nm ps))]) (by simp)
  refine WW_seq (thn_cut (s2 := ⟨[(12, .ref 7 0 (propNext nm (.mk k' n' s' vl') ps).length), (2, .s nm), (4, .ptr 0 0 0), (5, .ptr 1 0 0), (7, .ptr 2 0 0), (8, .ptr 3 0 0), (10, .ptr 6 0 0), (11, .ptr 4 i0 2)], [(7, .arr 5 ((propNext nm (.mk k' n' s' vl') ps).map sP.O)), (3, .arr 4 [[.nl, .nl, .i .i64 0, .i .i64 0]]), (4, .arr 3 D4), (5, .arr 5 (es.map sE.O)), (6, .arr 4 [[.ref 4 0 l.length, .ref 5 0 es.length, .i .i64 nn, .i .i64 ne]])], 300, 0⟩) ?_ ?_)
  · by_cases hk : k' = 0
    · rw [hout hk]
      simp [hk]
      exact Wk.to rfl (by simp) (by simp) (by simp [Blk.names, namesr_clean (sP.crO (prOut nm ps)), namesr_clean cD4, namesr_clean hcE]) (by simp)
    · have hN := hins hk
      have hle := prOut_len nm ps
      have hK := nmK_le nm (prOut nm ps)
      have hKlt := fun i p => nmK_lt (nm := nm) (ps := prOut nm ps) (i := i) (p := p)
      have hKat := fun p => nmK_at (nm := nm) (ps := prOut nm ps) (p := p)
      clear hins hout
      have hBN : (propNext nm (.mk k' n' s' vl') ps).length = (prOut nm ps).length + 1 := by rw [hN]; simp; omega
      rw [hBN]
      generalize prOut nm ps = B at *
      generalize nmK nm B = K at *
      have hcB := sP.crO B
      have hcL := sP.crO (propNext nm (.mk k' n' s' vl') ps)
      generalize propNext nm (.mk k' n' s' vl') ps = L at *
      simp [hk]
      refine W_for (fun i => ⟨[(15, .i .i64 i), (12, .ref 7 0 B.length), (2, .s nm), (4, .ptr 0 0 0), (5, .ptr 1 0 0), (7, .ptr 2 0 0), (8, .ptr 3 0 0), (10, .ptr 6 0 0), (11, .ptr 4 i0 2)], [(7, .arr 5 (B.map sP.O)), (2, .arr 4 [[.i .i64 k', .i .i64 n', .s s', .imm (vl'.map sV.I)]]), (3, .arr 4 [[.nl, .nl, .i .i64 0, .i .i64 0]]), (4, .arr 3 D4), (5, .arr 5 (es.map sE.O)), (6, .arr 4 [[.ref 4 0 l.length, .ref 5 0 es.length, .i .i64 nn, .i .i64 ne]])], 200, 0⟩) K (fun _ => True) (Wk.to rfl (by simp) (by simp) (by simp [Blk.names, namesr_clean hcB, namesr_clean cD4, namesr_clean hcE]) (by simp)) trivial ?_
      intro i hi _
      rcases Nat.lt_or_ge i K with w1 | w1
      · obtain ⟨x, hx⟩ : ∃ x, B[i]? = some x := ⟨_, List.getElem?_eq_getElem (by omega)⟩
        have hw : IntKind.i64.wrap ((i : Int) + 1) = (i : Int) + 1 := wrap1 (by omega)
        have hlt := hKlt i x w1 hx
        have w2 : i < B.length := by omega
        obtain ⟨n1, k1, m1, s1, l1⟩ := x
        simp only at hlt
        simp [-getElem?_pos, hx, hw, w1, w2, hlt]
        exact Wk.to rfl (by simp) (by simp) (by simp [Blk.names, namesr_clean hcB, namesr_clean cD4, namesr_clean hcE]) (by simp)
      · obtain rfl : i = K := by omega
        by_cases w2 : i < B.length
        · obtain ⟨x, hx⟩ : ∃ x, B[i]? = some x := ⟨_, List.getElem?_eq_getElem w2⟩
          have hlt := hKat x hx
          obtain ⟨n1, k1, m1, s1, l1⟩ := x
          simp only at hlt
          simp [-getElem?_pos, hx, w2, hlt]
          refine callK_val (by simp) hcv (by simp [T.noImm]) ?_
          simp
          refine hookH_insP (j := i) (V := 200) (nm := nm) (x := s') (k := k') (m := n') (vl := vl') (B := B) rfl rfl (by omega) (by omega) (by simp) (by simp) (by simp) (by simp) (by simp) (by simp) ?_
          rw [← hN]
          simp
          refine Wk.ren (fun t => if t = 7 then 202 else t) rfl (by simp) (by simp) (by simp) ?_ (by simp)
          simp [Blk.rn, Blk.names, namesr_clean hcL, rnr_cl hcL, namesr_clean cD4, rnr_cl cD4, namesr_clean hcE, rnr_cl hcE]
        · simp [w2]
          refine callK_val (by simp) hcv (by simp [T.noImm]) ?_
          simp
          refine hookH_insP (j := i) (V := 200) (nm := nm) (x := s') (k := k') (m := n') (vl := vl') (B := B) rfl rfl (by omega) (by omega) (by simp) (by simp) (by simp) (by simp) (by simp) (by simp) ?_
          rw [← hN]
          simp
          refine Wk.ren (fun t => if t = 7 then 202 else t) rfl (by simp) (by simp) (by simp) ?_ (by simp)
          simp [Blk.rn, Blk.names, namesr_clean hcL, rnr_cl hcL, namesr_clean cD4, rnr_cl cD4, namesr_clean hcE, rnr_cl hcE]
  have hcL := sP.crO (propNext nm (.mk k' n' s' vl') ps)
  clear hins hout hNf hNl hpf hcv
  generalize propNext nm (.mk k' n' s' vl') ps = L at *
  refine WW_seq (WW_of_W ?_)
  simp
  refine callK_val (by simp) hpk rfl ?_
  simp [g4]
  refine WW_of_W ?_
  subst hD4
  simp [-getElem?_pos, q4]
  refine fin_wk (Wk.join (b := 4) (r := i0) (cs := sN.O ⟨id, lb, L⟩) rfl (by simp [q4]; rfl) (by simp [hcL]) (by simp)) ?_
  simp
  exact fin_own (by simp; rfl) (by simp [hcS, List.take_of_length_le]) (by simp) (by simp)
end Go.Proofs.Ytehdfbhfbidadaa.V
/- Props set, by the program: where there are too many: the call. -/
namespace Go.Proofs.Ytehdfbhfbidadaa.V
open Go
set_option linter.unusedVariables false
set_option linter.unusedSimpArgs false
set_option maxHeartbeats 4000000
theorem sP_on (p : Pr) : (sP.I p).all T.on = true := by
  obtain ⟨n, k, m, s, l⟩ := p
  simp [T.on]
theorem Insert_prop_i (l : List Pr) (x : Pr) (i : Nat) (hi : i ≤ l.length) (hl : l.length ≤ 2 ^ 20) : Ret Try.prog 111 [.own 5 (l.map sP.I), .i .i64 (i : Int), .own 5 [sP.O x]] (.own 5 ((l.map sP.I).take i ++ sP.O x :: (l.map sP.I).drop i)) [.dead, .dead, .dead] := by
  obtain ⟨I, z, h1, h2, h3, h4, h5⟩ := infoOk_of (P := Try.prog) (t := 126) (sz := 5) (by kernel_rfl)
  rcases Nat.lt_or_ge i l.length with h | h
  · exact ins_ret (by omega) (by kernel_rfl) (by kernel_rfl) h1 h2 h3 h4 h5 insRuns_prop (l.map sP.I) (sP.O x) i (by simpa using h) (by simpa using hl) (sP.lO x) (fun r hr => by obtain ⟨a, _, rfl⟩ := List.mem_map.1 hr; exact sP_on a) (ow_on (sP.ow x))
  · obtain rfl : i = l.length := by omega
    have := ins_tail (by omega) (by kernel_rfl) h1 h2 h3 h4 h5 insRuns_prop (l.map sP.I) (sP.O x) (by simpa using hl) (sP.lO x) (ow_on (sP.ow x))
    rw [List.length_map] at this
    rw [List.take_of_length_le (by simp), List.drop_of_length_le (by simp)]
    exact this
/-- A prop put among four others, whose lists stay where they are. -/
theorem hookH_insD {s : St} {c : Call} {i : Int} {j : Nat} {nm x : Tx} {k m : Int} {vl : List Vl} {a0 a1 a2 a3 : Tx} {k0 k1 k2 k3 m0 m1 m2 m3 : Int} {b0 b1 b2 b3 : Tx} {l0 l1 l2 l3 : List Vl} {K : T → Δ → List Nat → Prop} (hc : c.callee = .value (.func 111)) (hi : i = j) (hj : j ≤ 4)
    (hg1 : hget s.hp 805 = some (.arr 5 [[.s a0, .i .i64 k0, .i .i64 m0, .s b0, .ref 200 0 l0.length], [.s a1, .i .i64 k1, .i .i64 m1, .s b1, .ref 400 0 l1.length], [.s a2, .i .i64 k2, .i .i64 m2, .s b2, .ref 600 0 l2.length], [.s a3, .i .i64 k3, .i .i64 m3, .s b3, .ref 800 0 l3.length]]))
    (hg2 : hget s.hp 1001 = some (.arr 5 [[.s nm, .i .i64 k, .i .i64 m, .s x, .ref 1000 0 vl.length]])) (hg3 : hget s.hp 1000 = some (.arr 4 (vl.map sV.O)))
    (z0 : hget s.hp 200 = some (.arr 4 (l0.map sV.O))) (z1 : hget s.hp 400 = some (.arr 4 (l1.map sV.O))) (z2 : hget s.hp 600 = some (.arr 4 (l2.map sV.O))) (z3 : hget s.hp 800 = some (.arr 4 (l3.map sV.O)))
    (h : K (.ref 1002 0 5) [(805, none), (1001, none), (1000, none), (1002, some (.arr 5 (deadR 5 5)))] [805, 1001, 1000, 200, 400, 600, 800]) :
    @hookH Try.prog s 1002 ⟨.call c⟩ [.fn 111 [], .ref 805 0 4, .i .i64 i, .ref 1001 0 1] ⟨K⟩ := by
  have ok : okCall Try.prog 111 = true := by kernel_rfl
  subst hi
  have c0 := sV.crO l0
  have c1 := sV.crO l1
  have c2 := sV.crO l2
  have c3 := sV.crO l3
  have cV := sV.crO vl
  have r0 := sV.rO l0
  have r1 := sV.rO l1
  have r2 := sV.rO l2
  have r3 := sV.rO l3
  let P4 : List Pr := [⟨a0, .mk k0 m0 b0 l0⟩, ⟨a1, .mk k1 m1 b1 l1⟩, ⟨a2, .mk k2 m2 b2 l2⟩, ⟨a3, .mk k3 m3 b3 l3⟩]
  have hret := Insert_prop_i P4 ⟨nm, .mk k m x vl⟩ j hj (by show 4 ≤ _; omega)
  have hlen : ((P4.map sP.I).take j ++ sP.O ⟨nm, .mk k m x vl⟩ :: (P4.map sP.I).drop j).length = 5 := by
    simp [P4]; omega
  have hl5 : ∀ r ∈ (P4.map sP.I).take j ++ sP.O ⟨nm, .mk k m x vl⟩ :: (P4.map sP.I).drop j, r.length = 5 := by
    intro r hr
    simp only [List.mem_append, List.mem_cons] at hr
    have hI : ∀ r ∈ P4.map sP.I, r.length = 5 := by intro r hr; obtain ⟨a, _, rfl⟩ := List.mem_map.1 hr; exact sP.lI a
    rcases hr with hr | rfl | hr
    · exact hI r (List.mem_of_mem_take hr)
    · exact sP.lO _
    · exact hI r (List.mem_of_mem_drop hr)
  generalize hR : (P4.map sP.I).take j ++ sP.O ⟨nm, .mk k m x vl⟩ :: (P4.map sP.I).drop j = R at *
  have e0 : R ≠ [] := by intro h; rw [h] at hlen; simp at hlen
  have key := hook_ins (P := Try.prog) (n := 1002) (c := c) (t := 805) (t2 := 1001) (i := (j : Int)) (rows := [[.s a0, .i .i64 k0, .i .i64 m0, .s b0, .ref 200 0 l0.length], [.s a1, .i .i64 k1, .i .i64 m1, .s b1, .ref 400 0 l1.length], [.s a2, .i .i64 k2, .i .i64 m2, .s b2, .ref 600 0 l2.length], [.s a3, .i .i64 k3, .i .i64 m3, .s b3, .ref 800 0 l3.length]]) (rows' := P4.map sP.I) (row := [.s nm, .i .i64 k, .i .i64 m, .s x, .ref 1000 0 vl.length]) (rowO := sP.O ⟨nm, .mk k m x vl⟩) (R := R) (R2 := deadR 5 5)
    (hp := [(805, .arr 5 [[.s a0, .i .i64 k0, .i .i64 m0, .s b0, .ref 200 0 l0.length], [.s a1, .i .i64 k1, .i .i64 m1, .s b1, .ref 400 0 l1.length], [.s a2, .i .i64 k2, .i .i64 m2, .s b2, .ref 600 0 l2.length], [.s a3, .i .i64 k3, .i .i64 m3, .s b3, .ref 800 0 l3.length]]), (1001, .arr 5 [[.s nm, .i .i64 k, .i .i64 m, .s x, .ref 1000 0 vl.length]]), (1000, .arr 4 (vl.map sV.O)), (200, .arr 4 (l0.map sV.O)), (400, .arr 4 (l1.map sV.O)), (600, .arr 4 (l2.map sV.O)), (800, .arr 4 (l3.map sV.O))]) hc ok
    (by simp) (by simp) (by omega) (by simp [lendR, lendCs, lendC, argI, T.clean, c0, c1, c2, c3, r0, r1, r2, r3, P4]) (by simp [handedXs, handedX1, handed1, T.closed, cV]) (by simp [T.cell])
    (by simp [namess]) (by simp [namess]) (by simp [namess]) hret hl5 e0 (.inr (by rw [hlen])) (by rw [hlen]; rfl) (by simp [deadR])
  rw [hlen] at key
  refine hookH_of _ key (by simp [hg1, hg2, hg3, z0, z1, z2, z3]) ?_
  simp [namess]
  exact h
/-- Too many, of which nothing is known. -/
theorem deadR_im : toIr (deadR 5 5) = deadR 5 5 := by simp [deadR, toIr, toIs, List.replicate]
end Go.Proofs.Ytehdfbhfbidadaa.V
/- Props set, by the program: where there are too many. -/
namespace Go.Proofs.Ytehdfbhfbidadaa.V
open Go
set_option linter.unusedVariables false
set_option linter.unusedSimpArgs false
set_option maxHeartbeats 4000000
theorem four {α : Type} : ∀ {l : List α}, l.length = 4 → ∃ a b c d, l = [a, b, c, d]
  | [a, b, c, d], _ => ⟨a, b, c, d, rfl⟩
theorem set_self {α : Type} {l : List α} {i : Nat} {x : α} (h : l[i]? = some x) : l.set i x = l := by
  obtain ⟨h1, rfl⟩ := List.getElem?_eq_some_iff.1 h
  exact List.set_getElem_self h1
theorem namesr_set {rs : List (List T)} {i : Nat} {row : List T} {p : Nat → Prop} (hc : cleanR rs = true) (h : ∀ x ∈ namess row, p x) : ∀ r ∈ rs.set i row, ∀ x ∈ namess r, p x := by
  intro r h1 x h2
  rcases List.mem_or_eq_of_mem_set h1 with h3 | rfl
  · simp only [cleanR, List.all_eq_true] at hc
    rw [namess_clean (List.all_eq_true.2 (hc r h3))] at h2
    exact absurd h2 (by simp)
  · exact h x h2
set_option maxRecDepth 20000 in
theorem PropSet_nN (g : Gr) (hf : g.fit) (hc : g.cnt ≤ 2 ^ 20) (v : Vl) (hv : v.fit) (nm : Tx) (hnm : ln nm) (to : Vl) (hto : to.fit) (htc : to.cnt ≤ 2 ^ 20) (g1 : GOk g) (g2 : setOk v nm to) (ps : List Pr) (g3 : propsOf g v = some ps) (hk : to.k ≠ 0) (h40 : ps.length = 4) (hne : ∀ p ∈ ps, p.name ≠ nm)
    (hk5 : v.k = 5) (id : Int) (lb : List Tx) (i0 : Nat) (q1 : posOf Nd.id v.n g.nodes = i0) (q2 : g.nodes[i0]? = some ⟨id, lb, ps⟩) : Rv Try.prog 47 [.agg (sG.I g), .agg (sV.I v), .s nm, .agg (sV.I to)] (.tup [.agg (sG.O g), .b false]) := by
  have ok1 : okCall Try.prog 110 = true := by kernel_rfl
  have h1 := GraphOk_c g hf
  have h2 := cloneOk hf hc g1
  have h3 := ValueOk_c v hv
  have h4 := NameOk_c nm hnm
  have h5 := storable_c to hto
  have h6 := valueEmpty_c to
  have hln : g.nodes.length ≤ 2 ^ 20 ∧ g.edges.length ≤ 2 ^ 20 := by unfold Gr.cnt cl at hc; omega
  have h7 := propsAt_w g hln v
  rw [show ptAt g v = .ptr 4 i0 2 by unfold ptAt; rw [g3]; simp only [hk5, if_true, q1, Int.toNat_natCast]] at h7
  have hto2 : vOk to = true := by
    rcases g2.2.2 with c | c
    · exact sto_ok c
    · exact (emptyV_iff.1 c).2
  have hcv := cloneValue_c to hto htc hto2
  have c5 : sto to = true := by
    rcases g2.2.2 with c | c
    · exact c
    · exact absurd (emptyV_iff.1 c).1 hk
  rw [c5] at h5
  obtain ⟨c1, c2, _⟩ := g2
  rw [c1] at h3
  rw [c2] at h4
  have hcN := sN.crO g.nodes
  have hcE := sE.crO g.edges
  have hcP := sP.crO ps
  have hself : (g.nodes.map sN.O).set i0 (sN.O ⟨id, lb, ps⟩) = g.nodes.map sN.O := by
    rw [← List.map_set]
    congr 1
    exact set_self q2
  obtain ⟨D4, hD⟩ : ∃ D, D = (g.nodes.map sN.O).set i0 [.i .i64 id, .own 1 (lb.map sS.O), .ref 60 0 4] := ⟨_, rfl⟩
  have hDn : ∀ r ∈ D4, ∀ x ∈ namess r, x = 60 := by
    rw [hD]
    exact namesr_set hcN (by simp [namess])
  have q4 := (List.getElem?_eq_some_iff.1 q2).1
  obtain ⟨l, es, nn, ne⟩ := g
  obtain ⟨k, n, s, vl⟩ := v
  obtain ⟨k', n', s', vl'⟩ := to
  simp only [sV_I] at h7
  simp only at q2 q4 hD hcN hcE hself
  simp only [Vl.k] at hk
  obtain ⟨p0, p1, p2, p3, rfl⟩ := four h40
  obtain ⟨a0, k0, m0, b0, l0⟩ := p0
  obtain ⟨a1, k1, m1, b1, l1⟩ := p1
  obtain ⟨a2, k2, m2, b2, l2⟩ := p2
  obtain ⟨a3, k3, m3, b3, l3⟩ := p3
  have e0 : ¬ a0 = nm := hne ⟨a0, .mk k0 m0 b0 l0⟩ (by simp)
  have e1 : ¬ a1 = nm := hne ⟨a1, .mk k1 m1 b1 l1⟩ (by simp)
  have e2 : ¬ a2 = nm := hne ⟨a2, .mk k2 m2 b2 l2⟩ (by simp)
  have e3 : ¬ a3 = nm := hne ⟨a3, .mk k3 m3 b3 l3⟩ (by simp)
  have c0 := sV.crO l0
  have c1 := sV.crO l1
  have c2 := sV.crO l2
  have c3 := sV.crO l3
  have w1 : IntKind.i64.wrap 1 = 1 := by decide
  have w2 : IntKind.i64.wrap 2 = 2 := by decide
  have w3 : IntKind.i64.wrap 3 = 3 := by decide
  have w4 : IntKind.i64.wrap 4 = 4 := by decide
  refine Ret.ofS Try.func47 ok_impl_PropSet rfl rfl (by simp) ?_
  refine WW_seq (WW_of_W ?_)
  simp
  refine WW_seq (WW_of_W ?_)
  simp
  refine callK_val (by simp) h1 rfl ?_
  simp [g1]
  refine WW_seq (WW_of_W ?_)
  simp
  refine callK_val (by simp) h2 (by simp [T.noImm]) ?_
  simp
  refine WW_seq (WW_of_W ?_)
  simp
  refine callK_val (by simp) h3 rfl ?_
  simp
  refine callK_val (by simp) h4 rfl ?_
  simp
  refine callK_val (by simp) h5 rfl ?_
  simp
  clear h1 h2 h3 h4 h5 h6
  refine WW_seq (WW_of_W ?_)
  simp
  refine hookH_view h7 rfl ok1 (by simp) ?_
  simp
  refine WW_seq (WW_of_W ?_)
  simp
  refine WW_seq (thn_cut (s2 := ⟨[(12, .ref 7 0 0), (2, .s nm), (4, .ptr 0 0 0), (5, .ptr 1 0 0), (7, .ptr 2 0 0), (8, .ptr 3 0 0), (10, .ptr 6 0 0), (11, .ptr 4 i0 2)], [(7, .arr 5 []), (2, .arr 4 [[.i .i64 k', .i .i64 n', .s s', .imm (vl'.map sV.I)]]), (3, .arr 4 [[.nl, .nl, .i .i64 0, .i .i64 0]]), (4, .arr 3 (l.map sN.O)), (5, .arr 5 (es.map sE.O)), (6, .arr 4 [[.ref 4 0 l.length, .ref 5 0 es.length, .i .i64 nn, .i .i64 ne]])], 60, 0⟩) ?_ ?_)
  · simp
    refine Wk.trans (Wk.nil (j := 12) (k := 1000) (sz := 5) (by simp) (by simp)) ?_
    refine Wk.ren (fun t => if t = 7 then 1000 else t) rfl (by simp) (by simp) (by simp) ?_ (by simp)
    simp [Blk.rn, Blk.names, namesr_clean hcN, rnr_cl hcN, namesr_clean hcE, rnr_cl hcE]
  refine WW_seq (thn_cut (s2 := ⟨[(12, .ref 805 0 4), (2, .s nm), (4, .ptr 0 0 0), (5, .ptr 1 0 0), (7, .ptr 2 0 0), (8, .ptr 3 0 0), (10, .ptr 6 0 0), (11, .ptr 4 i0 2)], [(60, .arr 5 [[.s a0, .i .i64 k0, .i .i64 m0, .s b0, .ref 200 0 l0.length], [.s a1, .i .i64 k1, .i .i64 m1, .s b1, .ref 400 0 l1.length], [.s a2, .i .i64 k2, .i .i64 m2, .s b2, .ref 600 0 l2.length], [.s a3, .i .i64 k3, .i .i64 m3, .s b3, .ref 800 0 l3.length]]), (805, .arr 5 [[.s a0, .i .i64 k0, .i .i64 m0, .s b0, .ref 200 0 l0.length], [.s a1, .i .i64 k1, .i .i64 m1, .s b1, .ref 400 0 l1.length], [.s a2, .i .i64 k2, .i .i64 m2, .s b2, .ref 600 0 l2.length], [.s a3, .i .i64 k3, .i .i64 m3, .s b3, .ref 800 0 l3.length]]), (200, .arr 4 (l0.map sV.O)), (400, .arr 4 (l1.map sV.O)), (600, .arr 4 (l2.map sV.O)), (800, .arr 4 (l3.map sV.O)), (2, .arr 4 [[.i .i64 k', .i .i64 n', .s s', .imm (vl'.map sV.I)]]), (3, .arr 4 [[.nl, .nl, .i .i64 0, .i .i64 0]]), (4, .arr 3 D4), (5, .arr 5 (es.map sE.O)), (6, .arr 4 [[.ref 4 0 l.length, .ref 5 0 es.length, .i .i64 nn, .i .i64 ne]])], 1000, 0⟩) ?_ ?_)
  · simp [-getElem?_pos, q2, q4]
    refine W_for (fun i => if i = 0 then ⟨[(51, .i .i64 0), (50, .i .i64 4), (49, .ref 60 0 4), (12, .ref 7 0 0), (2, .s nm), (4, .ptr 0 0 0), (5, .ptr 1 0 0), (7, .ptr 2 0 0), (8, .ptr 3 0 0), (10, .ptr 6 0 0), (11, .ptr 4 i0 2)], [(60, .arr 5 [[.s a0, .i .i64 k0, .i .i64 m0, .s b0, .own 4 (l0.map sV.O)], [.s a1, .i .i64 k1, .i .i64 m1, .s b1, .own 4 (l1.map sV.O)], [.s a2, .i .i64 k2, .i .i64 m2, .s b2, .own 4 (l2.map sV.O)], [.s a3, .i .i64 k3, .i .i64 m3, .s b3, .own 4 (l3.map sV.O)]]), (7, .arr 5 []), (2, .arr 4 [[.i .i64 k', .i .i64 n', .s s', .imm (vl'.map sV.I)]]), (3, .arr 4 [[.nl, .nl, .i .i64 0, .i .i64 0]]), (4, .arr 3 D4), (5, .arr 5 (es.map sE.O)), (6, .arr 4 [[.ref 4 0 l.length, .ref 5 0 es.length, .i .i64 nn, .i .i64 ne]])], 200, 0⟩ else if i = 1 then ⟨[(51, .i .i64 1), (50, .i .i64 4), (49, .ref 60 0 4), (12, .ref 205 0 1), (2, .s nm), (4, .ptr 0 0 0), (5, .ptr 1 0 0), (7, .ptr 2 0 0), (8, .ptr 3 0 0), (10, .ptr 6 0 0), (11, .ptr 4 i0 2)], [(60, .arr 5 [[.s a0, .i .i64 k0, .i .i64 m0, .s b0, .ref 200 0 l0.length], [.s a1, .i .i64 k1, .i .i64 m1, .s b1, .own 4 (l1.map sV.O)], [.s a2, .i .i64 k2, .i .i64 m2, .s b2, .own 4 (l2.map sV.O)], [.s a3, .i .i64 k3, .i .i64 m3, .s b3, .own 4 (l3.map sV.O)]]), (205, .arr 5 [[.s a0, .i .i64 k0, .i .i64 m0, .s b0, .ref 200 0 l0.length]]), (200, .arr 4 (l0.map sV.O)), (2, .arr 4 [[.i .i64 k', .i .i64 n', .s s', .imm (vl'.map sV.I)]]), (3, .arr 4 [[.nl, .nl, .i .i64 0, .i .i64 0]]), (4, .arr 3 D4), (5, .arr 5 (es.map sE.O)), (6, .arr 4 [[.ref 4 0 l.length, .ref 5 0 es.length, .i .i64 nn, .i .i64 ne]])], 400, 0⟩ else if i = 2 then ⟨[(51, .i .i64 2), (50, .i .i64 4), (49, .ref 60 0 4), (12, .ref 405 0 2), (2, .s nm), (4, .ptr 0 0 0), (5, .ptr 1 0 0), (7, .ptr 2 0 0), (8, .ptr 3 0 0), (10, .ptr 6 0 0), (11, .ptr 4 i0 2)], [(60, .arr 5 [[.s a0, .i .i64 k0, .i .i64 m0, .s b0, .ref 200 0 l0.length], [.s a1, .i .i64 k1, .i .i64 m1, .s b1, .ref 400 0 l1.length], [.s a2, .i .i64 k2, .i .i64 m2, .s b2, .own 4 (l2.map sV.O)], [.s a3, .i .i64 k3, .i .i64 m3, .s b3, .own 4 (l3.map sV.O)]]), (405, .arr 5 [[.s a0, .i .i64 k0, .i .i64 m0, .s b0, .ref 200 0 l0.length], [.s a1, .i .i64 k1, .i .i64 m1, .s b1, .ref 400 0 l1.length]]), (200, .arr 4 (l0.map sV.O)), (400, .arr 4 (l1.map sV.O)), (2, .arr 4 [[.i .i64 k', .i .i64 n', .s s', .imm (vl'.map sV.I)]]), (3, .arr 4 [[.nl, .nl, .i .i64 0, .i .i64 0]]), (4, .arr 3 D4), (5, .arr 5 (es.map sE.O)), (6, .arr 4 [[.ref 4 0 l.length, .ref 5 0 es.length, .i .i64 nn, .i .i64 ne]])], 600, 0⟩ else if i = 3 then ⟨[(51, .i .i64 3), (50, .i .i64 4), (49, .ref 60 0 4), (12, .ref 605 0 3), (2, .s nm), (4, .ptr 0 0 0), (5, .ptr 1 0 0), (7, .ptr 2 0 0), (8, .ptr 3 0 0), (10, .ptr 6 0 0), (11, .ptr 4 i0 2)], [(60, .arr 5 [[.s a0, .i .i64 k0, .i .i64 m0, .s b0, .ref 200 0 l0.length], [.s a1, .i .i64 k1, .i .i64 m1, .s b1, .ref 400 0 l1.length], [.s a2, .i .i64 k2, .i .i64 m2, .s b2, .ref 600 0 l2.length], [.s a3, .i .i64 k3, .i .i64 m3, .s b3, .own 4 (l3.map sV.O)]]), (605, .arr 5 [[.s a0, .i .i64 k0, .i .i64 m0, .s b0, .ref 200 0 l0.length], [.s a1, .i .i64 k1, .i .i64 m1, .s b1, .ref 400 0 l1.length], [.s a2, .i .i64 k2, .i .i64 m2, .s b2, .ref 600 0 l2.length]]), (200, .arr 4 (l0.map sV.O)), (400, .arr 4 (l1.map sV.O)), (600, .arr 4 (l2.map sV.O)), (2, .arr 4 [[.i .i64 k', .i .i64 n', .s s', .imm (vl'.map sV.I)]]), (3, .arr 4 [[.nl, .nl, .i .i64 0, .i .i64 0]]), (4, .arr 3 D4), (5, .arr 5 (es.map sE.O)), (6, .arr 4 [[.ref 4 0 l.length, .ref 5 0 es.length, .i .i64 nn, .i .i64 ne]])], 800, 0⟩ else ⟨[(51, .i .i64 4), (50, .i .i64 4), (49, .ref 60 0 4), (12, .ref 805 0 4), (2, .s nm), (4, .ptr 0 0 0), (5, .ptr 1 0 0), (7, .ptr 2 0 0), (8, .ptr 3 0 0), (10, .ptr 6 0 0), (11, .ptr 4 i0 2)], [(60, .arr 5 [[.s a0, .i .i64 k0, .i .i64 m0, .s b0, .ref 200 0 l0.length], [.s a1, .i .i64 k1, .i .i64 m1, .s b1, .ref 400 0 l1.length], [.s a2, .i .i64 k2, .i .i64 m2, .s b2, .ref 600 0 l2.length], [.s a3, .i .i64 k3, .i .i64 m3, .s b3, .ref 800 0 l3.length]]), (805, .arr 5 [[.s a0, .i .i64 k0, .i .i64 m0, .s b0, .ref 200 0 l0.length], [.s a1, .i .i64 k1, .i .i64 m1, .s b1, .ref 400 0 l1.length], [.s a2, .i .i64 k2, .i .i64 m2, .s b2, .ref 600 0 l2.length], [.s a3, .i .i64 k3, .i .i64 m3, .s b3, .ref 800 0 l3.length]]), (200, .arr 4 (l0.map sV.O)), (400, .arr 4 (l1.map sV.O)), (600, .arr 4 (l2.map sV.O)), (800, .arr 4 (l3.map sV.O)), (2, .arr 4 [[.i .i64 k', .i .i64 n', .s s', .imm (vl'.map sV.I)]]), (3, .arr 4 [[.nl, .nl, .i .i64 0, .i .i64 0]]), (4, .arr 3 D4), (5, .arr 5 (es.map sE.O)), (6, .arr 4 [[.ref 4 0 l.length, .ref 5 0 es.length, .i .i64 nn, .i .i64 ne]])], 1000, 0⟩) 4 (fun _ => True) ?_ trivial ?_
    · simp only [if_true]
      refine Wk.to rfl (by simp) (by simp) ?_ (by simp)
      simp [Blk.names, namesr_clean c0, namesr_clean c1, namesr_clean c2, namesr_clean c3, namesr_clean hcE, ← hD]
      intros; have := hDn _ (by assumption) _ (by assumption); omega
    intro i hi _
    obtain rfl | rfl | rfl | rfl | rfl : i = 0 ∨ i = 1 ∨ i = 2 ∨ i = 3 ∨ i = 4 := by omega
    · simp [w1, e0]
      refine Wk.to rfl (by simp) (by simp) ?_ (by simp)
      simp [Blk.names, deadR, namesr_clean c0, namesr_clean c1, namesr_clean c2, namesr_clean c3, namesr_clean hcE]
      intros; have := hDn _ (by assumption) _ (by assumption); omega
    · simp [w2, e1]
      refine Wk.to rfl (by simp) (by simp) ?_ (by simp)
      simp [Blk.names, deadR, namesr_clean c0, namesr_clean c1, namesr_clean c2, namesr_clean c3, namesr_clean hcE]
      intros; have := hDn _ (by assumption) _ (by assumption); omega
    · simp [w3, e2]
      refine Wk.to rfl (by simp) (by simp) ?_ (by simp)
      simp [Blk.names, deadR, namesr_clean c0, namesr_clean c1, namesr_clean c2, namesr_clean c3, namesr_clean hcE]
      intros; have := hDn _ (by assumption) _ (by assumption); omega
    · simp [w4, e3]
      refine Wk.to rfl (by simp) (by simp) ?_ (by simp)
      simp [Blk.names, deadR, namesr_clean c0, namesr_clean c1, namesr_clean c2, namesr_clean c3, namesr_clean hcE]
      intros; have := hDn _ (by assumption) _ (by assumption); omega
    · simp
      refine Wk.to rfl (by simp) (by simp) ?_ (by simp)
      simp [Blk.names, deadR, namesr_clean c0, namesr_clean c1, namesr_clean c2, namesr_clean c3, namesr_clean hcE]
      intros; have := hDn _ (by assumption) _ (by assumption); omega
  refine WW_seq (thn_cut (s2 := ⟨[(12, .ref 1002 0 5), (2, .s nm), (4, .ptr 0 0 0), (5, .ptr 1 0 0), (7, .ptr 2 0 0), (8, .ptr 3 0 0), (10, .ptr 6 0 0), (11, .ptr 4 i0 2)], [(1002, .arr 5 (deadR 5 5)), (60, .arr 5 [[.s a0, .i .i64 k0, .i .i64 m0, .s b0, .ref 200 0 l0.length], [.s a1, .i .i64 k1, .i .i64 m1, .s b1, .ref 400 0 l1.length], [.s a2, .i .i64 k2, .i .i64 m2, .s b2, .ref 600 0 l2.length], [.s a3, .i .i64 k3, .i .i64 m3, .s b3, .ref 800 0 l3.length]]), (200, .arr 4 (l0.map sV.O)), (400, .arr 4 (l1.map sV.O)), (600, .arr 4 (l2.map sV.O)), (800, .arr 4 (l3.map sV.O)), (3, .arr 4 [[.nl, .nl, .i .i64 0, .i .i64 0]]), (4, .arr 3 D4), (5, .arr 5 (es.map sE.O)), (6, .arr 4 [[.ref 4 0 l.length, .ref 5 0 es.length, .i .i64 nn, .i .i64 ne]])], 2000, 0⟩) ?_ ?_)
  · have hK := nmK_le nm [⟨a0, .mk k0 m0 b0 l0⟩, ⟨a1, .mk k1 m1 b1 l1⟩, ⟨a2, .mk k2 m2 b2 l2⟩, ⟨a3, .mk k3 m3 b3 l3⟩]
    have hKlt := fun i p => nmK_lt (nm := nm) (ps := [⟨a0, .mk k0 m0 b0 l0⟩, ⟨a1, .mk k1 m1 b1 l1⟩, ⟨a2, .mk k2 m2 b2 l2⟩, ⟨a3, .mk k3 m3 b3 l3⟩]) (i := i) (p := p)
    have hKat := fun p => nmK_at (nm := nm) (ps := [⟨a0, .mk k0 m0 b0 l0⟩, ⟨a1, .mk k1 m1 b1 l1⟩, ⟨a2, .mk k2 m2 b2 l2⟩, ⟨a3, .mk k3 m3 b3 l3⟩]) (p := p)
    generalize nmK nm [⟨a0, .mk k0 m0 b0 l0⟩, ⟨a1, .mk k1 m1 b1 l1⟩, ⟨a2, .mk k2 m2 b2 l2⟩, ⟨a3, .mk k3 m3 b3 l3⟩] = K at *
    simp only [List.length_cons, List.length_nil, Nat.reduceAdd] at hK
    simp [hk]
    refine W_for (fun i => ⟨[(15, .i .i64 i), (12, .ref 805 0 4), (2, .s nm), (4, .ptr 0 0 0), (5, .ptr 1 0 0), (7, .ptr 2 0 0), (8, .ptr 3 0 0), (10, .ptr 6 0 0), (11, .ptr 4 i0 2)], [(60, .arr 5 [[.s a0, .i .i64 k0, .i .i64 m0, .s b0, .ref 200 0 l0.length], [.s a1, .i .i64 k1, .i .i64 m1, .s b1, .ref 400 0 l1.length], [.s a2, .i .i64 k2, .i .i64 m2, .s b2, .ref 600 0 l2.length], [.s a3, .i .i64 k3, .i .i64 m3, .s b3, .ref 800 0 l3.length]]), (805, .arr 5 [[.s a0, .i .i64 k0, .i .i64 m0, .s b0, .ref 200 0 l0.length], [.s a1, .i .i64 k1, .i .i64 m1, .s b1, .ref 400 0 l1.length], [.s a2, .i .i64 k2, .i .i64 m2, .s b2, .ref 600 0 l2.length], [.s a3, .i .i64 k3, .i .i64 m3, .s b3, .ref 800 0 l3.length]]), (200, .arr 4 (l0.map sV.O)), (400, .arr 4 (l1.map sV.O)), (600, .arr 4 (l2.map sV.O)), (800, .arr 4 (l3.map sV.O)), (2, .arr 4 [[.i .i64 k', .i .i64 n', .s s', .imm (vl'.map sV.I)]]), (3, .arr 4 [[.nl, .nl, .i .i64 0, .i .i64 0]]), (4, .arr 3 D4), (5, .arr 5 (es.map sE.O)), (6, .arr 4 [[.ref 4 0 l.length, .ref 5 0 es.length, .i .i64 nn, .i .i64 ne]])], 1000, 0⟩) K (fun _ => True) ?_ trivial ?_
    · refine Wk.to rfl (by simp) (by simp) ?_ (by simp)
      simp [Blk.names, deadR, namesr_clean c0, namesr_clean c1, namesr_clean c2, namesr_clean c3, namesr_clean hcE]
      intros; have := hDn _ (by assumption) _ (by assumption); omega

    intro i hi _
    obtain rfl | rfl | rfl | rfl | rfl : i = 0 ∨ i = 1 ∨ i = 2 ∨ i = 3 ∨ i = 4 := by omega
    · rcases Nat.lt_or_ge 0 K with u1 | u1
      · have hlt := hKlt 0 _ u1 rfl
        simp only at hlt
        simp [w1, hlt, u1]
        refine Wk.to rfl (by simp) (by simp) ?_ (by simp)
        simp [Blk.names, deadR, namesr_clean c0, namesr_clean c1, namesr_clean c2, namesr_clean c3, namesr_clean hcE]
        intros; have := hDn _ (by assumption) _ (by assumption); omega

      · obtain rfl : K = 0 := by omega
        have hlt := hKat _ rfl
        simp only at hlt
        simp [hlt]
        refine callK_val (by simp) hcv (by simp [T.noImm]) ?_
        simp
        refine hookH_insD (j := 0) (nm := nm) (x := s') (k := k') (m := n') (vl := vl') (a0 := a0) (a1 := a1) (a2 := a2) (a3 := a3) (k0 := k0) (k1 := k1) (k2 := k2) (k3 := k3) (m0 := m0) (m1 := m1) (m2 := m2) (m3 := m3) (b0 := b0) (b1 := b1) (b2 := b2) (b3 := b3) (l0 := l0) (l1 := l1) (l2 := l2) (l3 := l3) rfl rfl (by omega) (by simp) (by simp) (by simp) (by simp) (by simp) (by simp) (by simp) ?_
        simp
        refine Wk.to rfl (by simp) (by simp) ?_ (by simp)
        simp [Blk.names, deadR, namesr_clean c0, namesr_clean c1, namesr_clean c2, namesr_clean c3, namesr_clean hcE]
        intros; have := hDn _ (by assumption) _ (by assumption); omega
    · rcases Nat.lt_or_ge 1 K with u1 | u1
      · have hlt := hKlt 1 _ u1 rfl
        simp only at hlt
        simp [w2, hlt, u1]
        refine Wk.to rfl (by simp) (by simp) ?_ (by simp)
        simp [Blk.names, deadR, namesr_clean c0, namesr_clean c1, namesr_clean c2, namesr_clean c3, namesr_clean hcE]
        intros; have := hDn _ (by assumption) _ (by assumption); omega

      · obtain rfl : K = 1 := by omega
        have hlt := hKat _ rfl
        simp only at hlt
        simp [hlt]
        refine callK_val (by simp) hcv (by simp [T.noImm]) ?_
        simp
        refine hookH_insD (j := 1) (nm := nm) (x := s') (k := k') (m := n') (vl := vl') (a0 := a0) (a1 := a1) (a2 := a2) (a3 := a3) (k0 := k0) (k1 := k1) (k2 := k2) (k3 := k3) (m0 := m0) (m1 := m1) (m2 := m2) (m3 := m3) (b0 := b0) (b1 := b1) (b2 := b2) (b3 := b3) (l0 := l0) (l1 := l1) (l2 := l2) (l3 := l3) rfl rfl (by omega) (by simp) (by simp) (by simp) (by simp) (by simp) (by simp) (by simp) ?_
        simp
        refine Wk.to rfl (by simp) (by simp) ?_ (by simp)
        simp [Blk.names, deadR, namesr_clean c0, namesr_clean c1, namesr_clean c2, namesr_clean c3, namesr_clean hcE]
        intros; have := hDn _ (by assumption) _ (by assumption); omega
    · rcases Nat.lt_or_ge 2 K with u1 | u1
      · have hlt := hKlt 2 _ u1 rfl
        simp only at hlt
        simp [w3, hlt, u1]
        refine Wk.to rfl (by simp) (by simp) ?_ (by simp)
        simp [Blk.names, deadR, namesr_clean c0, namesr_clean c1, namesr_clean c2, namesr_clean c3, namesr_clean hcE]
        intros; have := hDn _ (by assumption) _ (by assumption); omega

      · obtain rfl : K = 2 := by omega
        have hlt := hKat _ rfl
        simp only at hlt
        simp [hlt]
        refine callK_val (by simp) hcv (by simp [T.noImm]) ?_
        simp
        refine hookH_insD (j := 2) (nm := nm) (x := s') (k := k') (m := n') (vl := vl') (a0 := a0) (a1 := a1) (a2 := a2) (a3 := a3) (k0 := k0) (k1 := k1) (k2 := k2) (k3 := k3) (m0 := m0) (m1 := m1) (m2 := m2) (m3 := m3) (b0 := b0) (b1 := b1) (b2 := b2) (b3 := b3) (l0 := l0) (l1 := l1) (l2 := l2) (l3 := l3) rfl rfl (by omega) (by simp) (by simp) (by simp) (by simp) (by simp) (by simp) (by simp) ?_
        simp
        refine Wk.to rfl (by simp) (by simp) ?_ (by simp)
        simp [Blk.names, deadR, namesr_clean c0, namesr_clean c1, namesr_clean c2, namesr_clean c3, namesr_clean hcE]
        intros; have := hDn _ (by assumption) _ (by assumption); omega
    · rcases Nat.lt_or_ge 3 K with u1 | u1
      · have hlt := hKlt 3 _ u1 rfl
        simp only at hlt
        simp [w4, hlt, u1]
        refine Wk.to rfl (by simp) (by simp) ?_ (by simp)
        simp [Blk.names, deadR, namesr_clean c0, namesr_clean c1, namesr_clean c2, namesr_clean c3, namesr_clean hcE]
        intros; have := hDn _ (by assumption) _ (by assumption); omega

      · obtain rfl : K = 3 := by omega
        have hlt := hKat _ rfl
        simp only at hlt
        simp [hlt]
        refine callK_val (by simp) hcv (by simp [T.noImm]) ?_
        simp
        refine hookH_insD (j := 3) (nm := nm) (x := s') (k := k') (m := n') (vl := vl') (a0 := a0) (a1 := a1) (a2 := a2) (a3 := a3) (k0 := k0) (k1 := k1) (k2 := k2) (k3 := k3) (m0 := m0) (m1 := m1) (m2 := m2) (m3 := m3) (b0 := b0) (b1 := b1) (b2 := b2) (b3 := b3) (l0 := l0) (l1 := l1) (l2 := l2) (l3 := l3) rfl rfl (by omega) (by simp) (by simp) (by simp) (by simp) (by simp) (by simp) (by simp) ?_
        simp
        refine Wk.to rfl (by simp) (by simp) ?_ (by simp)
        simp [Blk.names, deadR, namesr_clean c0, namesr_clean c1, namesr_clean c2, namesr_clean c3, namesr_clean hcE]
        intros; have := hDn _ (by assumption) _ (by assumption); omega
    · obtain rfl : K = 4 := by omega
      simp
      refine callK_val (by simp) hcv (by simp [T.noImm]) ?_
      simp
      refine hookH_insD (j := 4) (nm := nm) (x := s') (k := k') (m := n') (vl := vl') (a0 := a0) (a1 := a1) (a2 := a2) (a3 := a3) (k0 := k0) (k1 := k1) (k2 := k2) (k3 := k3) (m0 := m0) (m1 := m1) (m2 := m2) (m3 := m3) (b0 := b0) (b1 := b1) (b2 := b2) (b3 := b3) (l0 := l0) (l1 := l1) (l2 := l2) (l3 := l3) rfl rfl (by omega) (by simp) (by simp) (by simp) (by simp) (by simp) (by simp) (by simp) ?_
      simp
      refine Wk.to rfl (by simp) (by simp) ?_ (by simp)
      simp [Blk.names, deadR, namesr_clean c0, namesr_clean c1, namesr_clean c2, namesr_clean c3, namesr_clean hcE]
      intros; have := hDn _ (by assumption) _ (by assumption); omega
  have hcd : cleanR (deadR 5 5) = true := by simp [deadR, cleanR, T.clean, List.replicate]
  have hdl : (deadR 5 5).length = 5 := by simp [deadR]
  have hdt : List.take 5 (deadR 5 5) = deadR 5 5 := List.take_of_length_le (by omega)
  have hmany := propsOk_many (deadR 5 5) (by simp [deadR])
  refine WW_seq (WW_of_W ?_)
  simp
  refine callK_val (by simp [hcd, hdl, hdt, deadR_im]) hmany rfl ?_
  simp
  subst hD
  refine fin_wk (Wk.join (b := 60) (r := 0) (cs := [.s a0, .i .i64 k0, .i .i64 m0, .s b0, .own 4 (l0.map sV.O)]) rfl (by simp; rfl) (by simp [c0]) (by simp)) ?_
  simp
  refine fin_wk (Wk.join (b := 60) (r := 1) (cs := [.s a1, .i .i64 k1, .i .i64 m1, .s b1, .own 4 (l1.map sV.O)]) rfl (by simp; rfl) (by simp [c1]) (by simp)) ?_
  simp
  refine fin_wk (Wk.join (b := 60) (r := 2) (cs := [.s a2, .i .i64 k2, .i .i64 m2, .s b2, .own 4 (l2.map sV.O)]) rfl (by simp; rfl) (by simp [c2]) (by simp)) ?_
  simp
  refine fin_wk (Wk.join (b := 60) (r := 3) (cs := [.s a3, .i .i64 k3, .i .i64 m3, .s b3, .own 4 (l3.map sV.O)]) rfl (by simp; rfl) (by simp [c3]) (by simp)) ?_
  simp
  refine fin_wk (Wk.join (b := 4) (r := i0) (cs := sN.O ⟨id, lb, [⟨a0, .mk k0 m0 b0 l0⟩, ⟨a1, .mk k1 m1 b1 l1⟩, ⟨a2, .mk k2 m2 b2 l2⟩, ⟨a3, .mk k3 m3 b3 l3⟩]⟩) rfl (by simp [q4]; rfl) (by simp) (by simp)) ?_
  simp at hself
  simp [hself]
  exact fin_own (by simp; rfl) (by simp [hcN, hcE]) (by simp) (by simp)
end Go.Proofs.Ytehdfbhfbidadaa.V
/- Props of an edge set, by the program: where there are too many. -/
namespace Go.Proofs.Ytehdfbhfbidadaa.V
open Go
set_option linter.unusedVariables false
set_option linter.unusedSimpArgs false
set_option maxHeartbeats 4000000
set_option maxRecDepth 20000 in
theorem PropSet_nE (g : Gr) (hf : g.fit) (hc : g.cnt ≤ 2 ^ 20) (v : Vl) (hv : v.fit) (nm : Tx) (hnm : ln nm) (to : Vl) (hto : to.fit) (htc : to.cnt ≤ 2 ^ 20) (g1 : GOk g) (g2 : setOk v nm to) (ps : List Pr) (g3 : propsOf g v = some ps) (hk : to.k ≠ 0) (h40 : ps.length = 4) (hne : ∀ p ∈ ps, p.name ≠ nm)
    (hk5 : v.k ≠ 5) (id : Int) (kd : Tx) (fr tt : Int) (i0 : Nat) (q1 : posOf Eg.id v.n g.edges = i0) (q2 : g.edges[i0]? = some ⟨id, kd, fr, tt, ps⟩) : Rv Try.prog 47 [.agg (sG.I g), .agg (sV.I v), .s nm, .agg (sV.I to)] (.tup [.agg (sG.O g), .b false]) := by
  have ok1 : okCall Try.prog 110 = true := by kernel_rfl
  have h1 := GraphOk_c g hf
  have h2 := cloneOk hf hc g1
  have h3 := ValueOk_c v hv
  have h4 := NameOk_c nm hnm
  have h5 := storable_c to hto
  have h6 := valueEmpty_c to
  have hln : g.nodes.length ≤ 2 ^ 20 ∧ g.edges.length ≤ 2 ^ 20 := by unfold Gr.cnt cl at hc; omega
  have h7 := propsAt_w g hln v
  rw [show ptAt g v = .ptr 5 i0 4 by unfold ptAt; rw [g3]; simp only [hk5, if_false, q1, Int.toNat_natCast]] at h7
  have hto2 : vOk to = true := by
    rcases g2.2.2 with c | c
    · exact sto_ok c
    · exact (emptyV_iff.1 c).2
  have hcv := cloneValue_c to hto htc hto2
  have c5 : sto to = true := by
    rcases g2.2.2 with c | c
    · exact c
    · exact absurd (emptyV_iff.1 c).1 hk
  rw [c5] at h5
  obtain ⟨c1, c2, _⟩ := g2
  rw [c1] at h3
  rw [c2] at h4
  have hcN := sN.crO g.nodes
  have hcE := sE.crO g.edges
  have hcP := sP.crO ps
  have hself : (g.edges.map sE.O).set i0 (sE.O ⟨id, kd, fr, tt, ps⟩) = g.edges.map sE.O := by
    rw [← List.map_set]
    congr 1
    exact set_self q2
  obtain ⟨D5, hD⟩ : ∃ D, D = (g.edges.map sE.O).set i0 [.i .i64 id, .s kd, .i .i64 fr, .i .i64 tt, .ref 60 0 4] := ⟨_, rfl⟩
  have hDn : ∀ r ∈ D5, ∀ x ∈ namess r, x = 60 := by
    rw [hD]
    exact namesr_set hcE (by simp [namess])
  have q4 := (List.getElem?_eq_some_iff.1 q2).1
  obtain ⟨l, es, nn, ne⟩ := g
  obtain ⟨k, n, s, vl⟩ := v
  obtain ⟨k', n', s', vl'⟩ := to
  simp only [sV_I] at h7
  simp only at q2 q4 hD hcN hcE hself
  simp only [Vl.k] at hk
  obtain ⟨p0, p1, p2, p3, rfl⟩ := four h40
  obtain ⟨a0, k0, m0, b0, l0⟩ := p0
  obtain ⟨a1, k1, m1, b1, l1⟩ := p1
  obtain ⟨a2, k2, m2, b2, l2⟩ := p2
  obtain ⟨a3, k3, m3, b3, l3⟩ := p3
  have e0 : ¬ a0 = nm := hne ⟨a0, .mk k0 m0 b0 l0⟩ (by simp)
  have e1 : ¬ a1 = nm := hne ⟨a1, .mk k1 m1 b1 l1⟩ (by simp)
  have e2 : ¬ a2 = nm := hne ⟨a2, .mk k2 m2 b2 l2⟩ (by simp)
  have e3 : ¬ a3 = nm := hne ⟨a3, .mk k3 m3 b3 l3⟩ (by simp)
  have c0 := sV.crO l0
  have c1 := sV.crO l1
  have c2 := sV.crO l2
  have c3 := sV.crO l3
  have w1 : IntKind.i64.wrap 1 = 1 := by decide
  have w2 : IntKind.i64.wrap 2 = 2 := by decide
  have w3 : IntKind.i64.wrap 3 = 3 := by decide
  have w4 : IntKind.i64.wrap 4 = 4 := by decide
  refine Ret.ofS Try.func47 ok_impl_PropSet rfl rfl (by simp) ?_
  refine WW_seq (WW_of_W ?_)
  simp
  refine WW_seq (WW_of_W ?_)
  simp
  refine callK_val (by simp) h1 rfl ?_
  simp [g1]
  refine WW_seq (WW_of_W ?_)
  simp
  refine callK_val (by simp) h2 (by simp [T.noImm]) ?_
  simp
  refine WW_seq (WW_of_W ?_)
  simp
  refine callK_val (by simp) h3 rfl ?_
  simp
  refine callK_val (by simp) h4 rfl ?_
  simp
  refine callK_val (by simp) h5 rfl ?_
  simp
  clear h1 h2 h3 h4 h5 h6
  refine WW_seq (WW_of_W ?_)
  simp
  refine hookH_view h7 rfl ok1 (by simp) ?_
  simp
  refine WW_seq (WW_of_W ?_)
  simp
  refine WW_seq (thn_cut (s2 := ⟨[(12, .ref 7 0 0), (2, .s nm), (4, .ptr 0 0 0), (5, .ptr 1 0 0), (7, .ptr 2 0 0), (8, .ptr 3 0 0), (10, .ptr 6 0 0), (11, .ptr 5 i0 4)], [(7, .arr 5 []), (2, .arr 4 [[.i .i64 k', .i .i64 n', .s s', .imm (vl'.map sV.I)]]), (3, .arr 4 [[.nl, .nl, .i .i64 0, .i .i64 0]]), (4, .arr 3 (l.map sN.O)), (5, .arr 5 (es.map sE.O)), (6, .arr 4 [[.ref 4 0 l.length, .ref 5 0 es.length, .i .i64 nn, .i .i64 ne]])], 60, 0⟩) ?_ ?_)
  · simp
    refine Wk.trans (Wk.nil (j := 12) (k := 1000) (sz := 5) (by simp) (by simp)) ?_
    refine Wk.ren (fun t => if t = 7 then 1000 else t) rfl (by simp) (by simp) (by simp) ?_ (by simp)
    simp [Blk.rn, Blk.names, namesr_clean hcN, rnr_cl hcN, namesr_clean hcE, rnr_cl hcE]
  refine WW_seq (thn_cut (s2 := ⟨[(12, .ref 805 0 4), (2, .s nm), (4, .ptr 0 0 0), (5, .ptr 1 0 0), (7, .ptr 2 0 0), (8, .ptr 3 0 0), (10, .ptr 6 0 0), (11, .ptr 5 i0 4)], [(60, .arr 5 [[.s a0, .i .i64 k0, .i .i64 m0, .s b0, .ref 200 0 l0.length], [.s a1, .i .i64 k1, .i .i64 m1, .s b1, .ref 400 0 l1.length], [.s a2, .i .i64 k2, .i .i64 m2, .s b2, .ref 600 0 l2.length], [.s a3, .i .i64 k3, .i .i64 m3, .s b3, .ref 800 0 l3.length]]), (805, .arr 5 [[.s a0, .i .i64 k0, .i .i64 m0, .s b0, .ref 200 0 l0.length], [.s a1, .i .i64 k1, .i .i64 m1, .s b1, .ref 400 0 l1.length], [.s a2, .i .i64 k2, .i .i64 m2, .s b2, .ref 600 0 l2.length], [.s a3, .i .i64 k3, .i .i64 m3, .s b3, .ref 800 0 l3.length]]), (200, .arr 4 (l0.map sV.O)), (400, .arr 4 (l1.map sV.O)), (600, .arr 4 (l2.map sV.O)), (800, .arr 4 (l3.map sV.O)), (2, .arr 4 [[.i .i64 k', .i .i64 n', .s s', .imm (vl'.map sV.I)]]), (3, .arr 4 [[.nl, .nl, .i .i64 0, .i .i64 0]]), (4, .arr 3 (l.map sN.O)), (5, .arr 5 D5), (6, .arr 4 [[.ref 4 0 l.length, .ref 5 0 es.length, .i .i64 nn, .i .i64 ne]])], 1000, 0⟩) ?_ ?_)
  · simp [-getElem?_pos, q2, q4]
    refine W_for (fun i => if i = 0 then ⟨[(51, .i .i64 0), (50, .i .i64 4), (49, .ref 60 0 4), (12, .ref 7 0 0), (2, .s nm), (4, .ptr 0 0 0), (5, .ptr 1 0 0), (7, .ptr 2 0 0), (8, .ptr 3 0 0), (10, .ptr 6 0 0), (11, .ptr 5 i0 4)], [(60, .arr 5 [[.s a0, .i .i64 k0, .i .i64 m0, .s b0, .own 4 (l0.map sV.O)], [.s a1, .i .i64 k1, .i .i64 m1, .s b1, .own 4 (l1.map sV.O)], [.s a2, .i .i64 k2, .i .i64 m2, .s b2, .own 4 (l2.map sV.O)], [.s a3, .i .i64 k3, .i .i64 m3, .s b3, .own 4 (l3.map sV.O)]]), (7, .arr 5 []), (2, .arr 4 [[.i .i64 k', .i .i64 n', .s s', .imm (vl'.map sV.I)]]), (3, .arr 4 [[.nl, .nl, .i .i64 0, .i .i64 0]]), (4, .arr 3 (l.map sN.O)), (5, .arr 5 D5), (6, .arr 4 [[.ref 4 0 l.length, .ref 5 0 es.length, .i .i64 nn, .i .i64 ne]])], 200, 0⟩ else if i = 1 then ⟨[(51, .i .i64 1), (50, .i .i64 4), (49, .ref 60 0 4), (12, .ref 205 0 1), (2, .s nm), (4, .ptr 0 0 0), (5, .ptr 1 0 0), (7, .ptr 2 0 0), (8, .ptr 3 0 0), (10, .ptr 6 0 0), (11, .ptr 5 i0 4)], [(60, .arr 5 [[.s a0, .i .i64 k0, .i .i64 m0, .s b0, .ref 200 0 l0.length], [.s a1, .i .i64 k1, .i .i64 m1, .s b1, .own 4 (l1.map sV.O)], [.s a2, .i .i64 k2, .i .i64 m2, .s b2, .own 4 (l2.map sV.O)], [.s a3, .i .i64 k3, .i .i64 m3, .s b3, .own 4 (l3.map sV.O)]]), (205, .arr 5 [[.s a0, .i .i64 k0, .i .i64 m0, .s b0, .ref 200 0 l0.length]]), (200, .arr 4 (l0.map sV.O)), (2, .arr 4 [[.i .i64 k', .i .i64 n', .s s', .imm (vl'.map sV.I)]]), (3, .arr 4 [[.nl, .nl, .i .i64 0, .i .i64 0]]), (4, .arr 3 (l.map sN.O)), (5, .arr 5 D5), (6, .arr 4 [[.ref 4 0 l.length, .ref 5 0 es.length, .i .i64 nn, .i .i64 ne]])], 400, 0⟩ else if i = 2 then ⟨[(51, .i .i64 2), (50, .i .i64 4), (49, .ref 60 0 4), (12, .ref 405 0 2), (2, .s nm), (4, .ptr 0 0 0), (5, .ptr 1 0 0), (7, .ptr 2 0 0), (8, .ptr 3 0 0), (10, .ptr 6 0 0), (11, .ptr 5 i0 4)], [(60, .arr 5 [[.s a0, .i .i64 k0, .i .i64 m0, .s b0, .ref 200 0 l0.length], [.s a1, .i .i64 k1, .i .i64 m1, .s b1, .ref 400 0 l1.length], [.s a2, .i .i64 k2, .i .i64 m2, .s b2, .own 4 (l2.map sV.O)], [.s a3, .i .i64 k3, .i .i64 m3, .s b3, .own 4 (l3.map sV.O)]]), (405, .arr 5 [[.s a0, .i .i64 k0, .i .i64 m0, .s b0, .ref 200 0 l0.length], [.s a1, .i .i64 k1, .i .i64 m1, .s b1, .ref 400 0 l1.length]]), (200, .arr 4 (l0.map sV.O)), (400, .arr 4 (l1.map sV.O)), (2, .arr 4 [[.i .i64 k', .i .i64 n', .s s', .imm (vl'.map sV.I)]]), (3, .arr 4 [[.nl, .nl, .i .i64 0, .i .i64 0]]), (4, .arr 3 (l.map sN.O)), (5, .arr 5 D5), (6, .arr 4 [[.ref 4 0 l.length, .ref 5 0 es.length, .i .i64 nn, .i .i64 ne]])], 600, 0⟩ else if i = 3 then ⟨[(51, .i .i64 3), (50, .i .i64 4), (49, .ref 60 0 4), (12, .ref 605 0 3), (2, .s nm), (4, .ptr 0 0 0), (5, .ptr 1 0 0), (7, .ptr 2 0 0), (8, .ptr 3 0 0), (10, .ptr 6 0 0), (11, .ptr 5 i0 4)], [(60, .arr 5 [[.s a0, .i .i64 k0, .i .i64 m0, .s b0, .ref 200 0 l0.length], [.s a1, .i .i64 k1, .i .i64 m1, .s b1, .ref 400 0 l1.length], [.s a2, .i .i64 k2, .i .i64 m2, .s b2, .ref 600 0 l2.length], [.s a3, .i .i64 k3, .i .i64 m3, .s b3, .own 4 (l3.map sV.O)]]), (605, .arr 5 [[.s a0, .i .i64 k0, .i .i64 m0, .s b0, .ref 200 0 l0.length], [.s a1, .i .i64 k1, .i .i64 m1, .s b1, .ref 400 0 l1.length], [.s a2, .i .i64 k2, .i .i64 m2, .s b2, .ref 600 0 l2.length]]), (200, .arr 4 (l0.map sV.O)), (400, .arr 4 (l1.map sV.O)), (600, .arr 4 (l2.map sV.O)), (2, .arr 4 [[.i .i64 k', .i .i64 n', .s s', .imm (vl'.map sV.I)]]), (3, .arr 4 [[.nl, .nl, .i .i64 0, .i .i64 0]]), (4, .arr 3 (l.map sN.O)), (5, .arr 5 D5), (6, .arr 4 [[.ref 4 0 l.length, .ref 5 0 es.length, .i .i64 nn, .i .i64 ne]])], 800, 0⟩ else ⟨[(51, .i .i64 4), (50, .i .i64 4), (49, .ref 60 0 4), (12, .ref 805 0 4), (2, .s nm), (4, .ptr 0 0 0), (5, .ptr 1 0 0), (7, .ptr 2 0 0), (8, .ptr 3 0 0), (10, .ptr 6 0 0), (11, .ptr 5 i0 4)], [(60, .arr 5 [[.s a0, .i .i64 k0, .i .i64 m0, .s b0, .ref 200 0 l0.length], [.s a1, .i .i64 k1, .i .i64 m1, .s b1, .ref 400 0 l1.length], [.s a2, .i .i64 k2, .i .i64 m2, .s b2, .ref 600 0 l2.length], [.s a3, .i .i64 k3, .i .i64 m3, .s b3, .ref 800 0 l3.length]]), (805, .arr 5 [[.s a0, .i .i64 k0, .i .i64 m0, .s b0, .ref 200 0 l0.length], [.s a1, .i .i64 k1, .i .i64 m1, .s b1, .ref 400 0 l1.length], [.s a2, .i .i64 k2, .i .i64 m2, .s b2, .ref 600 0 l2.length], [.s a3, .i .i64 k3, .i .i64 m3, .s b3, .ref 800 0 l3.length]]), (200, .arr 4 (l0.map sV.O)), (400, .arr 4 (l1.map sV.O)), (600, .arr 4 (l2.map sV.O)), (800, .arr 4 (l3.map sV.O)), (2, .arr 4 [[.i .i64 k', .i .i64 n', .s s', .imm (vl'.map sV.I)]]), (3, .arr 4 [[.nl, .nl, .i .i64 0, .i .i64 0]]), (4, .arr 3 (l.map sN.O)), (5, .arr 5 D5), (6, .arr 4 [[.ref 4 0 l.length, .ref 5 0 es.length, .i .i64 nn, .i .i64 ne]])], 1000, 0⟩) 4 (fun _ => True) ?_ trivial ?_
    · simp only [if_true]
      refine Wk.to rfl (by simp) (by simp) ?_ (by simp)
      simp [Blk.names, namesr_clean c0, namesr_clean c1, namesr_clean c2, namesr_clean c3, namesr_clean hcN, ← hD]
      intros; have := hDn _ (by assumption) _ (by assumption); omega
    intro i hi _
    obtain rfl | rfl | rfl | rfl | rfl : i = 0 ∨ i = 1 ∨ i = 2 ∨ i = 3 ∨ i = 4 := by omega
    · simp [w1, e0]
      refine Wk.to rfl (by simp) (by simp) ?_ (by simp)
      simp [Blk.names, deadR, namesr_clean c0, namesr_clean c1, namesr_clean c2, namesr_clean c3, namesr_clean hcN]
      intros; have := hDn _ (by assumption) _ (by assumption); omega
    · simp [w2, e1]
      refine Wk.to rfl (by simp) (by simp) ?_ (by simp)
      simp [Blk.names, deadR, namesr_clean c0, namesr_clean c1, namesr_clean c2, namesr_clean c3, namesr_clean hcN]
      intros; have := hDn _ (by assumption) _ (by assumption); omega
    · simp [w3, e2]
      refine Wk.to rfl (by simp) (by simp) ?_ (by simp)
      simp [Blk.names, deadR, namesr_clean c0, namesr_clean c1, namesr_clean c2, namesr_clean c3, namesr_clean hcN]
      intros; have := hDn _ (by assumption) _ (by assumption); omega
    · simp [w4, e3]
      refine Wk.to rfl (by simp) (by simp) ?_ (by simp)
      simp [Blk.names, deadR, namesr_clean c0, namesr_clean c1, namesr_clean c2, namesr_clean c3, namesr_clean hcN]
      intros; have := hDn _ (by assumption) _ (by assumption); omega
    · simp
      refine Wk.to rfl (by simp) (by simp) ?_ (by simp)
      simp [Blk.names, deadR, namesr_clean c0, namesr_clean c1, namesr_clean c2, namesr_clean c3, namesr_clean hcN]
      intros; have := hDn _ (by assumption) _ (by assumption); omega
  refine WW_seq (thn_cut (s2 := ⟨[(12, .ref 1002 0 5), (2, .s nm), (4, .ptr 0 0 0), (5, .ptr 1 0 0), (7, .ptr 2 0 0), (8, .ptr 3 0 0), (10, .ptr 6 0 0), (11, .ptr 5 i0 4)], [(1002, .arr 5 (deadR 5 5)), (60, .arr 5 [[.s a0, .i .i64 k0, .i .i64 m0, .s b0, .ref 200 0 l0.length], [.s a1, .i .i64 k1, .i .i64 m1, .s b1, .ref 400 0 l1.length], [.s a2, .i .i64 k2, .i .i64 m2, .s b2, .ref 600 0 l2.length], [.s a3, .i .i64 k3, .i .i64 m3, .s b3, .ref 800 0 l3.length]]), (200, .arr 4 (l0.map sV.O)), (400, .arr 4 (l1.map sV.O)), (600, .arr 4 (l2.map sV.O)), (800, .arr 4 (l3.map sV.O)), (3, .arr 4 [[.nl, .nl, .i .i64 0, .i .i64 0]]), (4, .arr 3 (l.map sN.O)), (5, .arr 5 D5), (6, .arr 4 [[.ref 4 0 l.length, .ref 5 0 es.length, .i .i64 nn, .i .i64 ne]])], 2000, 0⟩) ?_ ?_)
  · have hK := nmK_le nm [⟨a0, .mk k0 m0 b0 l0⟩, ⟨a1, .mk k1 m1 b1 l1⟩, ⟨a2, .mk k2 m2 b2 l2⟩, ⟨a3, .mk k3 m3 b3 l3⟩]
    have hKlt := fun i p => nmK_lt (nm := nm) (ps := [⟨a0, .mk k0 m0 b0 l0⟩, ⟨a1, .mk k1 m1 b1 l1⟩, ⟨a2, .mk k2 m2 b2 l2⟩, ⟨a3, .mk k3 m3 b3 l3⟩]) (i := i) (p := p)
    have hKat := fun p => nmK_at (nm := nm) (ps := [⟨a0, .mk k0 m0 b0 l0⟩, ⟨a1, .mk k1 m1 b1 l1⟩, ⟨a2, .mk k2 m2 b2 l2⟩, ⟨a3, .mk k3 m3 b3 l3⟩]) (p := p)
    generalize nmK nm [⟨a0, .mk k0 m0 b0 l0⟩, ⟨a1, .mk k1 m1 b1 l1⟩, ⟨a2, .mk k2 m2 b2 l2⟩, ⟨a3, .mk k3 m3 b3 l3⟩] = K at *
    simp only [List.length_cons, List.length_nil, Nat.reduceAdd] at hK
    simp [hk]
    refine W_for (fun i => ⟨[(15, .i .i64 i), (12, .ref 805 0 4), (2, .s nm), (4, .ptr 0 0 0), (5, .ptr 1 0 0), (7, .ptr 2 0 0), (8, .ptr 3 0 0), (10, .ptr 6 0 0), (11, .ptr 5 i0 4)], [(60, .arr 5 [[.s a0, .i .i64 k0, .i .i64 m0, .s b0, .ref 200 0 l0.length], [.s a1, .i .i64 k1, .i .i64 m1, .s b1, .ref 400 0 l1.length], [.s a2, .i .i64 k2, .i .i64 m2, .s b2, .ref 600 0 l2.length], [.s a3, .i .i64 k3, .i .i64 m3, .s b3, .ref 800 0 l3.length]]), (805, .arr 5 [[.s a0, .i .i64 k0, .i .i64 m0, .s b0, .ref 200 0 l0.length], [.s a1, .i .i64 k1, .i .i64 m1, .s b1, .ref 400 0 l1.length], [.s a2, .i .i64 k2, .i .i64 m2, .s b2, .ref 600 0 l2.length], [.s a3, .i .i64 k3, .i .i64 m3, .s b3, .ref 800 0 l3.length]]), (200, .arr 4 (l0.map sV.O)), (400, .arr 4 (l1.map sV.O)), (600, .arr 4 (l2.map sV.O)), (800, .arr 4 (l3.map sV.O)), (2, .arr 4 [[.i .i64 k', .i .i64 n', .s s', .imm (vl'.map sV.I)]]), (3, .arr 4 [[.nl, .nl, .i .i64 0, .i .i64 0]]), (4, .arr 3 (l.map sN.O)), (5, .arr 5 D5), (6, .arr 4 [[.ref 4 0 l.length, .ref 5 0 es.length, .i .i64 nn, .i .i64 ne]])], 1000, 0⟩) K (fun _ => True) ?_ trivial ?_
    · refine Wk.to rfl (by simp) (by simp) ?_ (by simp)
      simp [Blk.names, deadR, namesr_clean c0, namesr_clean c1, namesr_clean c2, namesr_clean c3, namesr_clean hcN]
      intros; have := hDn _ (by assumption) _ (by assumption); omega

    intro i hi _
    obtain rfl | rfl | rfl | rfl | rfl : i = 0 ∨ i = 1 ∨ i = 2 ∨ i = 3 ∨ i = 4 := by omega
    · rcases Nat.lt_or_ge 0 K with u1 | u1
      · have hlt := hKlt 0 _ u1 rfl
        simp only at hlt
        simp [w1, hlt, u1]
        refine Wk.to rfl (by simp) (by simp) ?_ (by simp)
        simp [Blk.names, deadR, namesr_clean c0, namesr_clean c1, namesr_clean c2, namesr_clean c3, namesr_clean hcN]
        intros; have := hDn _ (by assumption) _ (by assumption); omega

      · obtain rfl : K = 0 := by omega
        have hlt := hKat _ rfl
        simp only at hlt
        simp [hlt]
        refine callK_val (by simp) hcv (by simp [T.noImm]) ?_
        simp
        refine hookH_insD (j := 0) (nm := nm) (x := s') (k := k') (m := n') (vl := vl') (a0 := a0) (a1 := a1) (a2 := a2) (a3 := a3) (k0 := k0) (k1 := k1) (k2 := k2) (k3 := k3) (m0 := m0) (m1 := m1) (m2 := m2) (m3 := m3) (b0 := b0) (b1 := b1) (b2 := b2) (b3 := b3) (l0 := l0) (l1 := l1) (l2 := l2) (l3 := l3) rfl rfl (by omega) (by simp) (by simp) (by simp) (by simp) (by simp) (by simp) (by simp) ?_
        simp
        refine Wk.to rfl (by simp) (by simp) ?_ (by simp)
        simp [Blk.names, deadR, namesr_clean c0, namesr_clean c1, namesr_clean c2, namesr_clean c3, namesr_clean hcN]
        intros; have := hDn _ (by assumption) _ (by assumption); omega
    · rcases Nat.lt_or_ge 1 K with u1 | u1
      · have hlt := hKlt 1 _ u1 rfl
        simp only at hlt
        simp [w2, hlt, u1]
        refine Wk.to rfl (by simp) (by simp) ?_ (by simp)
        simp [Blk.names, deadR, namesr_clean c0, namesr_clean c1, namesr_clean c2, namesr_clean c3, namesr_clean hcN]
        intros; have := hDn _ (by assumption) _ (by assumption); omega

      · obtain rfl : K = 1 := by omega
        have hlt := hKat _ rfl
        simp only at hlt
        simp [hlt]
        refine callK_val (by simp) hcv (by simp [T.noImm]) ?_
        simp
        refine hookH_insD (j := 1) (nm := nm) (x := s') (k := k') (m := n') (vl := vl') (a0 := a0) (a1 := a1) (a2 := a2) (a3 := a3) (k0 := k0) (k1 := k1) (k2 := k2) (k3 := k3) (m0 := m0) (m1 := m1) (m2 := m2) (m3 := m3) (b0 := b0) (b1 := b1) (b2 := b2) (b3 := b3) (l0 := l0) (l1 := l1) (l2 := l2) (l3 := l3) rfl rfl (by omega) (by simp) (by simp) (by simp) (by simp) (by simp) (by simp) (by simp) ?_
        simp
        refine Wk.to rfl (by simp) (by simp) ?_ (by simp)
        simp [Blk.names, deadR, namesr_clean c0, namesr_clean c1, namesr_clean c2, namesr_clean c3, namesr_clean hcN]
        intros; have := hDn _ (by assumption) _ (by assumption); omega
    · rcases Nat.lt_or_ge 2 K with u1 | u1
      · have hlt := hKlt 2 _ u1 rfl
        simp only at hlt
        simp [w3, hlt, u1]
        refine Wk.to rfl (by simp) (by simp) ?_ (by simp)
        simp [Blk.names, deadR, namesr_clean c0, namesr_clean c1, namesr_clean c2, namesr_clean c3, namesr_clean hcN]
        intros; have := hDn _ (by assumption) _ (by assumption); omega

      · obtain rfl : K = 2 := by omega
        have hlt := hKat _ rfl
        simp only at hlt
        simp [hlt]
        refine callK_val (by simp) hcv (by simp [T.noImm]) ?_
        simp
        refine hookH_insD (j := 2) (nm := nm) (x := s') (k := k') (m := n') (vl := vl') (a0 := a0) (a1 := a1) (a2 := a2) (a3 := a3) (k0 := k0) (k1 := k1) (k2 := k2) (k3 := k3) (m0 := m0) (m1 := m1) (m2 := m2) (m3 := m3) (b0 := b0) (b1 := b1) (b2 := b2) (b3 := b3) (l0 := l0) (l1 := l1) (l2 := l2) (l3 := l3) rfl rfl (by omega) (by simp) (by simp) (by simp) (by simp) (by simp) (by simp) (by simp) ?_
        simp
        refine Wk.to rfl (by simp) (by simp) ?_ (by simp)
        simp [Blk.names, deadR, namesr_clean c0, namesr_clean c1, namesr_clean c2, namesr_clean c3, namesr_clean hcN]
        intros; have := hDn _ (by assumption) _ (by assumption); omega
    · rcases Nat.lt_or_ge 3 K with u1 | u1
      · have hlt := hKlt 3 _ u1 rfl
        simp only at hlt
        simp [w4, hlt, u1]
        refine Wk.to rfl (by simp) (by simp) ?_ (by simp)
        simp [Blk.names, deadR, namesr_clean c0, namesr_clean c1, namesr_clean c2, namesr_clean c3, namesr_clean hcN]
        intros; have := hDn _ (by assumption) _ (by assumption); omega

      · obtain rfl : K = 3 := by omega
        have hlt := hKat _ rfl
        simp only at hlt
        simp [hlt]
        refine callK_val (by simp) hcv (by simp [T.noImm]) ?_
        simp
        refine hookH_insD (j := 3) (nm := nm) (x := s') (k := k') (m := n') (vl := vl') (a0 := a0) (a1 := a1) (a2 := a2) (a3 := a3) (k0 := k0) (k1 := k1) (k2 := k2) (k3 := k3) (m0 := m0) (m1 := m1) (m2 := m2) (m3 := m3) (b0 := b0) (b1 := b1) (b2 := b2) (b3 := b3) (l0 := l0) (l1 := l1) (l2 := l2) (l3 := l3) rfl rfl (by omega) (by simp) (by simp) (by simp) (by simp) (by simp) (by simp) (by simp) ?_
        simp
        refine Wk.to rfl (by simp) (by simp) ?_ (by simp)
        simp [Blk.names, deadR, namesr_clean c0, namesr_clean c1, namesr_clean c2, namesr_clean c3, namesr_clean hcN]
        intros; have := hDn _ (by assumption) _ (by assumption); omega
    · obtain rfl : K = 4 := by omega
      simp
      refine callK_val (by simp) hcv (by simp [T.noImm]) ?_
      simp
      refine hookH_insD (j := 4) (nm := nm) (x := s') (k := k') (m := n') (vl := vl') (a0 := a0) (a1 := a1) (a2 := a2) (a3 := a3) (k0 := k0) (k1 := k1) (k2 := k2) (k3 := k3) (m0 := m0) (m1 := m1) (m2 := m2) (m3 := m3) (b0 := b0) (b1 := b1) (b2 := b2) (b3 := b3) (l0 := l0) (l1 := l1) (l2 := l2) (l3 := l3) rfl rfl (by omega) (by simp) (by simp) (by simp) (by simp) (by simp) (by simp) (by simp) ?_
      simp
      refine Wk.to rfl (by simp) (by simp) ?_ (by simp)
      simp [Blk.names, deadR, namesr_clean c0, namesr_clean c1, namesr_clean c2, namesr_clean c3, namesr_clean hcN]
      intros; have := hDn _ (by assumption) _ (by assumption); omega
  have hcd : cleanR (deadR 5 5) = true := by simp [deadR, cleanR, T.clean, List.replicate]
  have hdl : (deadR 5 5).length = 5 := by simp [deadR]
  have hdt : List.take 5 (deadR 5 5) = deadR 5 5 := List.take_of_length_le (by omega)
  have hmany := propsOk_many (deadR 5 5) (by simp [deadR])
  refine WW_seq (WW_of_W ?_)
  simp
  refine callK_val (by simp [hcd, hdl, hdt, deadR_im]) hmany rfl ?_
  simp
  subst hD
  refine fin_wk (Wk.join (b := 60) (r := 0) (cs := [.s a0, .i .i64 k0, .i .i64 m0, .s b0, .own 4 (l0.map sV.O)]) rfl (by simp; rfl) (by simp [c0]) (by simp)) ?_
  simp
  refine fin_wk (Wk.join (b := 60) (r := 1) (cs := [.s a1, .i .i64 k1, .i .i64 m1, .s b1, .own 4 (l1.map sV.O)]) rfl (by simp; rfl) (by simp [c1]) (by simp)) ?_
  simp
  refine fin_wk (Wk.join (b := 60) (r := 2) (cs := [.s a2, .i .i64 k2, .i .i64 m2, .s b2, .own 4 (l2.map sV.O)]) rfl (by simp; rfl) (by simp [c2]) (by simp)) ?_
  simp
  refine fin_wk (Wk.join (b := 60) (r := 3) (cs := [.s a3, .i .i64 k3, .i .i64 m3, .s b3, .own 4 (l3.map sV.O)]) rfl (by simp; rfl) (by simp [c3]) (by simp)) ?_
  simp
  refine fin_wk (Wk.join (b := 5) (r := i0) (cs := sE.O ⟨id, kd, fr, tt, [⟨a0, .mk k0 m0 b0 l0⟩, ⟨a1, .mk k1 m1 b1 l1⟩, ⟨a2, .mk k2 m2 b2 l2⟩, ⟨a3, .mk k3 m3 b3 l3⟩]⟩) rfl (by simp [q4]; rfl) (by simp) (by simp)) ?_
  simp at hself
  simp [hself]
  exact fin_own (by simp; rfl) (by simp [hcN, hcE]) (by simp) (by simp)
end Go.Proofs.Ytehdfbhfbidadaa.V
/- Props of an edge set, by the program: where it is done. -/
namespace Go.Proofs.Ytehdfbhfbidadaa.V
open Go
set_option linter.unusedVariables false
set_option linter.unusedSimpArgs false
set_option maxHeartbeats 4000000
set_option maxRecDepth 20000 in
theorem PropSet_yE (g : Gr) (hf : g.fit) (hc : g.cnt ≤ 2 ^ 20) (v : Vl) (hv : v.fit) (nm : Tx) (hnm : ln nm) (to : Vl) (hto : to.fit) (htc : to.cnt ≤ 2 ^ 20) (g1 : GOk g) (g2 : setOk v nm to) (ps : List Pr) (g3 : propsOf g v = some ps) (g4 : PropsOk (propNext nm to ps))
    (hk5 : v.k ≠ 5) (id : Int) (kd : Tx) (fr tt : Int) (i0 : Nat) (q1 : posOf Eg.id v.n g.edges = i0) (q2 : g.edges[i0]? = some ⟨id, kd, fr, tt, ps⟩) (q3 : ∀ L, gSetP g v L = { g with edges := g.edges.set i0 ⟨id, kd, fr, tt, L⟩ }) : Rv Try.prog 47 [.agg (sG.I g), .agg (sV.I v), .s nm, .agg (sV.I to)] (.tup [.agg (sG.O (gSetP g v (propNext nm to ps))), .b true]) := by
  have ok1 : okCall Try.prog 110 = true := by kernel_rfl
  have h1 := GraphOk_c g hf
  have h2 := cloneOk hf hc g1
  have h3 := ValueOk_c v hv
  have h4 := NameOk_c nm hnm
  have h5 := storable_c to hto
  have h6 := valueEmpty_c to
  have hln : g.nodes.length ≤ 2 ^ 20 ∧ g.edges.length ≤ 2 ^ 20 := by unfold Gr.cnt cl at hc; omega
  have h7 := propsAt_w g hln v
  rw [show ptAt g v = .ptr 5 i0 4 by unfold ptAt; rw [g3]; simp only [hk5, if_false, q1, Int.toNat_natCast]] at h7
  have hPok := props_ok g1 g3
  have hpl : ps.length ≤ 4 := hPok.2
  have hpf := props_fit hf g3
  have hto2 : vOk to = true := by
    rcases g2.2.2 with c | c
    · exact sto_ok c
    · exact (emptyV_iff.1 c).2
  have hcv := cloneValue_c to hto htc hto2
  have hNf : ∀ p ∈ propNext nm to ps, p.fit := propNext_mem hpf (fun _ => ⟨hnm, hto⟩)
  have hNl := propNext_len nm to ps
  have hpk := propsOk_c (propNext nm to ps) (by simp only [ln]; omega) hNf
  have hins := propNext_ins hPok.1 nm to
  have hout := propNext_out (ps := ps) nm to
  rw [q3]
  obtain ⟨c1, c2, c3⟩ := g2
  rw [c1] at h3
  rw [c2] at h4
  have hcN := sN.crO g.nodes
  have hcE := sE.crO g.edges
  have hcS := sE.crO (g.edges.set i0 ⟨id, kd, fr, tt, propNext nm to ps⟩)
  rw [List.map_set] at hcS
  simp only [sE_O] at hcS
  obtain ⟨D5, hD4⟩ : ∃ D5, D5 = (g.edges.map sE.O).set i0 [.i .i64 id, .s kd, .i .i64 fr, .i .i64 tt, .dead] := ⟨_, rfl⟩
  have cD5 : cleanR D5 = true := by
    rw [hD4]
    simp only [cleanR, List.all_eq_true] at hcE ⊢
    intro r hr
    rcases List.mem_or_eq_of_mem_set hr with h | rfl
    · exact hcE r h
    · intro x hx; simp at hx; rcases hx with rfl | rfl | rfl | rfl | rfl <;> simp [T.clean]
  have q4 := (List.getElem?_eq_some_iff.1 q2).1
  obtain ⟨l, es, nn, ne⟩ := g
  obtain ⟨k, n, s, vl⟩ := v
  obtain ⟨k', n', s', vl'⟩ := to
  simp only [sV_I] at h7
  simp only at q2 q4 hD4 hcN hcE hcS
  simp only [Vl.k] at hins hout
  refine Ret.ofS Try.func47 ok_impl_PropSet rfl rfl (by simp) ?_
  refine WW_seq (WW_of_W ?_)
  simp
  refine WW_seq (WW_of_W ?_)
  simp
  refine callK_val (by simp) h1 rfl ?_
  simp [g1]
  refine WW_seq (WW_of_W ?_)
  simp
  refine callK_val (by simp) h2 (by simp [T.noImm]) ?_
  simp
  refine WW_seq (thn_cut (s2 := ⟨[(2, .s nm), (4, .ptr 0 0 0), (5, .ptr 1 0 0), (7, .ptr 2 0 0), (8, .ptr 3 0 0), (10, .ptr 6 0 0)], [(0, .arr 4 [[.imm (l.map sN.I), .imm (es.map sE.I), .i .i64 nn, .i .i64 ne]]), (1, .arr 4 [[.i .i64 k, .i .i64 n, .s s, .imm (vl.map sV.I)]]), (2, .arr 4 [[.i .i64 k', .i .i64 n', .s s', .imm (vl'.map sV.I)]]), (3, .arr 4 [[.nl, .nl, .i .i64 0, .i .i64 0]]), (4, .arr 3 (l.map sN.O)), (5, .arr 5 (es.map sE.O)), (6, .arr 4 [[.ref 4 0 l.length, .ref 5 0 es.length, .i .i64 nn, .i .i64 ne]])], 20, 0⟩) ?_ ?_)
  · skip
    cases c4 : sto (.mk k' n' s' vl') with
    | true =>
      rw [c4] at h5
      simp
      refine callK_val (by simp) h3 rfl ?_
      simp
      refine callK_val (by simp) h4 rfl ?_
      simp
      refine callK_val (by simp) h5 rfl ?_
      simp
      exact Wk.to rfl (by simp) (by simp) (by simp [Blk.names, namesr_clean hcN, namesr_clean hcE]) (by simp)
    | false =>
      have c5 : emptyV (.mk k' n' s' vl') = true := by
        rcases c3 with c3 | c3
        · rw [c4] at c3; exact absurd c3 (by simp)
        · exact c3
      rw [c4] at h5
      rw [c5] at h6
      simp
      refine callK_val (by simp) h3 rfl ?_
      simp
      refine callK_val (by simp) h4 rfl ?_
      simp
      refine callK_val (by simp) h5 rfl ?_
      simp
      refine callK_val (by simp) h6 rfl ?_
      simp
      exact Wk.to rfl (by simp) (by simp) (by simp [Blk.names, namesr_clean hcN, namesr_clean hcE]) (by simp)
  clear h1 h2 h3 h4 h5 h6
  refine WW_seq (WW_of_W ?_)
  simp
  refine hookH_view h7 rfl ok1 (by simp) ?_
  simp
  refine WW_seq (WW_of_W ?_)
  simp
  refine WW_seq (thn_cut (s2 := ⟨[(12, .ref 7 0 0), (2, .s nm), (4, .ptr 0 0 0), (5, .ptr 1 0 0), (7, .ptr 2 0 0), (8, .ptr 3 0 0), (10, .ptr 6 0 0), (11, .ptr 5 i0 4)], [(7, .arr 5 []), (2, .arr 4 [[.i .i64 k', .i .i64 n', .s s', .imm (vl'.map sV.I)]]), (3, .arr 4 [[.nl, .nl, .i .i64 0, .i .i64 0]]), (4, .arr 3 (l.map sN.O)), (5, .arr 5 (es.map sE.O)), (6, .arr 4 [[.ref 4 0 l.length, .ref 5 0 es.length, .i .i64 nn, .i .i64 ne]])], 60, 0⟩) ?_ ?_)
  · simp
    refine Wk.trans (Wk.nil (j := 12) (k := 1000) (sz := 5) (by simp) (by simp)) ?_
    refine Wk.ren (fun t => if t = 7 then 1000 else t) rfl (by simp) (by simp) (by simp) ?_ (by simp)
    simp [Blk.rn, Blk.names, namesr_clean hcN, rnr_cl hcN, namesr_clean hcE, rnr_cl hcE]
  refine WW_seq (thn_cut (s2 := ⟨[(12, .ref 7 0 (prOut nm ps).length), (2, .s nm), (4, .ptr 0 0 0), (5, .ptr 1 0 0), (7, .ptr 2 0 0), (8, .ptr 3 0 0), (10, .ptr 6 0 0), (11, .ptr 5 i0 4)], [(7, .arr 5 ((prOut nm ps).map sP.O)), (2, .arr 4 [[.i .i64 k', .i .i64 n', .s s', .imm (vl'.map sV.I)]]), (3, .arr 4 [[.nl, .nl, .i .i64 0, .i .i64 0]]), (4, .arr 3 (l.map sN.O)), (5, .arr 5 D5), (6, .arr 4 [[.ref 4 0 l.length, .ref 5 0 es.length, .i .i64 nn, .i .i64 ne]])], 100, 0⟩) ?_ ?_)
  · simp [-getElem?_pos, q2, q4]
    refine W_for (fun i => ⟨[(51, .i .i64 i), (50, .i .i64 ps.length), (49, .ref 20 0 ps.length), (12, .ref 7 0 (prOut nm (ps.take i)).length), (2, .s nm), (4, .ptr 0 0 0), (5, .ptr 1 0 0), (7, .ptr 2 0 0), (8, .ptr 3 0 0), (10, .ptr 6 0 0), (11, .ptr 5 i0 4)], [(20, .arr 5 ((ps.map dP).take i ++ (ps.map sP.O).drop i)), (7, .arr 5 ((prOut nm (ps.take i)).map sP.O)), (2, .arr 4 [[.i .i64 k', .i .i64 n', .s s', .imm (vl'.map sV.I)]]), (3, .arr 4 [[.nl, .nl, .i .i64 0, .i .i64 0]]), (4, .arr 3 (l.map sN.O)), (5, .arr 5 D5), (6, .arr 4 [[.ref 4 0 l.length, .ref 5 0 es.length, .i .i64 nn, .i .i64 ne]])], 100, 0⟩) ps.length (fun _ => True) ?_ trivial ?_
    · refine Wk.trans (Wk.join (b := 5) (r := i0) (cs := [.i .i64 id, .s kd, .i .i64 fr, .i .i64 tt, .dead]) rfl (by simp [q4]; rfl) (by simp) (by simp)) ?_
      simp only [List.set_set, ← hD4]
      refine Wk.ren (fun t => if t = 20 then 60 else t) rfl (by simp) (by simp) (by simp [prOut]) ?_ (by simp)
      simp [Blk.rn, Blk.names, prOut, namesr_clean cD5, rnr_cl cD5, namesr_clean hcN, rnr_cl hcN, namesr_clean (sP.crO ps), rnr_cl (sP.crO ps), ← hD4]
    intro i hi _
    rcases Nat.lt_or_ge i ps.length with w1 | w1
    · obtain ⟨x, hx⟩ : ∃ x, ps[i]? = some x := ⟨_, List.getElem?_eq_getElem w1⟩
      have hw : IntKind.i64.wrap ((i : Int) + 1) = (i : Int) + 1 := wrap1 (by omega)
      have hsu := prOut_succ (nm := nm) hx
      have hle := prOut_len nm (ps.take i)
      rw [hsu]
      generalize prOut nm (ps.take i) = A at *
      have hal : A.length ≤ 4 := by rw [List.length_take] at hle; omega
      have hbig : (A.length + 1) * 72 ≤ 35184372088832 := by omega
      have hrow : ((ps.map dP).take i ++ (ps.map sP.O).drop i)[i]? = some (sP.O x) := by
        have hlen : ((ps.map dP).take i).length = i := by simp; omega
        rw [List.getElem?_append_right (by omega), hlen]; simp [hx]
      have hla : ((ps.map dP).take i).length = i := by simp; omega
      have hset : ∀ r, ((ps.map dP).take i ++ (ps.map sP.O).drop i).set i r = (ps.map dP).take i ++ r :: (ps.map sP.O).drop (i + 1) := by
        intro r
        rw [List.drop_eq_getElem_cons (by simpa using w1), List.set_append_right _ _ (by omega), hla]; simp
      have hset2 : ∀ r r', ((ps.map dP).take i ++ r :: (ps.map sP.O).drop (i + 1)).set i r' = (ps.map dP).take i ++ r' :: (ps.map sP.O).drop (i + 1) := by
        intro r r'
        rw [List.set_append_right _ _ (by omega), hla]; simp
      have hgt : ∀ r, ((ps.map dP).take i ++ r :: (ps.map sP.O).drop (i + 1))[i]? = some r := by
        intro r
        rw [List.getElem?_append_right (by omega), hla]; simp
      have hnew : (ps.map dP).take (i + 1) ++ (ps.map sP.O).drop (i + 1) = (ps.map dP).take i ++ dP x :: (ps.map sP.O).drop (i + 1) := by
        rw [fill_new dP hx]; simp
      have hc0 : cleanR ((ps.map dP).take i ++ dP x :: (ps.map sP.O).drop (i + 1)) = true := by
        have h3 := sP.crO (ps.drop (i + 1))
        simp only [cleanR, List.map_drop] at h3
        simp only [cleanR, List.all_append, List.all_cons, Bool.and_eq_true]
        refine ⟨?_, by simp [dP, T.clean], h3⟩
        have h4 : ∀ m : List Pr, ((m.map dP).all fun r => r.all T.clean) = true := by intro m; simp [dP, T.clean]
        rw [← List.map_take]; exact h4 _
      have hcA := sP.crO A
      obtain ⟨n1, k1, m1, s1, l1⟩ := x
      have hdP : dP ⟨n1, .mk k1 m1 s1 l1⟩ = [.s n1, .i .i64 k1, .i .i64 m1, .s s1, .dead] := rfl
      rw [hdP] at hnew hc0
      by_cases e : n1 = nm
      · subst e
        simp [-getElem?_pos, hx, hw, w1, hrow, hset]
        refine Wk.trans (Wk.join (b := 20) (r := i) (cs := [.s n1, .i .i64 k1, .i .i64 m1, .s s1, .dead]) rfl (by simp [hgt]; rfl) (by simp) (by simp)) ?_
        simp only [hnew]
        exact Wk.to rfl (by simp) (by simp) (by simp [Blk.names, namesr_clean hc0, namesr_clean hcA, namesr_clean cD5, namesr_clean hcN, hset2]) (by simp)
      · simp [-getElem?_pos, hx, hw, w1, hrow, hset, e, hbig]
        have hA : (A.map sP.O).length = A.length := by simp
        have hg2 := app1_get hA
        have hs3 := app1_set hA
        have hcB : cleanR (A.map sP.O ++ [[.s n1, .i .i64 k1, .i .i64 m1, .s s1, .own 4 (l1.map sV.O)]]) = true := by
          have := sP.crO (A ++ [⟨n1, .mk k1 m1 s1 l1⟩])
          rw [List.map_append] at this
          simpa only [List.map_cons, List.map_nil, sP_O, sV_O] using this
        refine Wk.trans (Wk.join (b := 20) (r := i) (cs := [.s n1, .i .i64 k1, .i .i64 m1, .s s1, .dead]) rfl (by simp [hgt]; rfl) (by simp) (by simp)) ?_
        refine Wk.trans (Wk.join (b := 105) (r := A.length) (cs := [.s n1, .i .i64 k1, .i .i64 m1, .s s1, .own 4 (l1.map sV.O)]) rfl (by simp [hg2]; rfl) (by simp) (by simp)) ?_
        simp only [hnew]
        refine Wk.ren (fun t => if t = 7 then 105 else t) rfl (by simp) (by simp) (by simp) ?_ (by simp)
        simp [Blk.rn, Blk.names, namesr_clean hc0, rnr_cl hc0, namesr_clean hcB, rnr_cl hcB, namesr_clean cD5, rnr_cl cD5, namesr_clean hcN, rnr_cl hcN, hset2, hs3]
    · obtain rfl : i = ps.length := by omega
      simp
      exact Wk.to rfl (by simp) (by simp) (by simp [Blk.names, namesr_clean cD5, namesr_clean hcN, namesr_clean (sP.crO (prOut nm ps))]) (by simp)
  refine WW_seq (thn_cut (s2 := ⟨[(12, .ref 7 0 (propNext nm (.mk k' n' s' vl') ps).length), (2, .s nm), (4, .ptr 0 0 0), (5, .ptr 1 0 0), (7, .ptr 2 0 0), (8, .ptr 3 0 0), (10, .ptr 6 0 0), (11, .ptr 5 i0 4)], [(7, .arr 5 ((propNext nm (.mk k' n' s' vl') ps).map sP.O)), (3, .arr 4 [[.nl, .nl, .i .i64 0, .i .i64 0]]), (4, .arr 3 (l.map sN.O)), (5, .arr 5 D5), (6, .arr 4 [[.ref 4 0 l.length, .ref 5 0 es.length, .i .i64 nn, .i .i64 ne]])], 300, 0⟩) ?_ ?_)
  · by_cases hk : k' = 0
    · rw [hout hk]
      simp [hk]
      exact Wk.to rfl (by simp) (by simp) (by simp [Blk.names, namesr_clean (sP.crO (prOut nm ps)), namesr_clean cD5, namesr_clean hcN]) (by simp)
    · have hN := hins hk
      have hle := prOut_len nm ps
      have hK := nmK_le nm (prOut nm ps)
      have hKlt := fun i p => nmK_lt (nm := nm) (ps := prOut nm ps) (i := i) (p := p)
      have hKat := fun p => nmK_at (nm := nm) (ps := prOut nm ps) (p := p)
      clear hins hout
      have hBN : (propNext nm (.mk k' n' s' vl') ps).length = (prOut nm ps).length + 1 := by rw [hN]; simp; omega
      rw [hBN]
      generalize prOut nm ps = B at *
      generalize nmK nm B = K at *
      have hcB := sP.crO B
      have hcL := sP.crO (propNext nm (.mk k' n' s' vl') ps)
      generalize propNext nm (.mk k' n' s' vl') ps = L at *
      simp [hk]
      refine W_for (fun i => ⟨[(15, .i .i64 i), (12, .ref 7 0 B.length), (2, .s nm), (4, .ptr 0 0 0), (5, .ptr 1 0 0), (7, .ptr 2 0 0), (8, .ptr 3 0 0), (10, .ptr 6 0 0), (11, .ptr 5 i0 4)], [(7, .arr 5 (B.map sP.O)), (2, .arr 4 [[.i .i64 k', .i .i64 n', .s s', .imm (vl'.map sV.I)]]), (3, .arr 4 [[.nl, .nl, .i .i64 0, .i .i64 0]]), (4, .arr 3 (l.map sN.O)), (5, .arr 5 D5), (6, .arr 4 [[.ref 4 0 l.length, .ref 5 0 es.length, .i .i64 nn, .i .i64 ne]])], 200, 0⟩) K (fun _ => True) (Wk.to rfl (by simp) (by simp) (by simp [Blk.names, namesr_clean hcB, namesr_clean cD5, namesr_clean hcN]) (by simp)) trivial ?_
      intro i hi _
      rcases Nat.lt_or_ge i K with w1 | w1
      · obtain ⟨x, hx⟩ : ∃ x, B[i]? = some x := ⟨_, List.getElem?_eq_getElem (by omega)⟩
        have hw : IntKind.i64.wrap ((i : Int) + 1) = (i : Int) + 1 := wrap1 (by omega)
        have hlt := hKlt i x w1 hx
        have w2 : i < B.length := by omega
        obtain ⟨n1, k1, m1, s1, l1⟩ := x
        simp only at hlt
        simp [-getElem?_pos, hx, hw, w1, w2, hlt]
        exact Wk.to rfl (by simp) (by simp) (by simp [Blk.names, namesr_clean hcB, namesr_clean cD5, namesr_clean hcN]) (by simp)
      · obtain rfl : i = K := by omega
        by_cases w2 : i < B.length
        · obtain ⟨x, hx⟩ : ∃ x, B[i]? = some x := ⟨_, List.getElem?_eq_getElem w2⟩
          have hlt := hKat x hx
          obtain ⟨n1, k1, m1, s1, l1⟩ := x
          simp only at hlt
          simp [-getElem?_pos, hx, w2, hlt]
          refine callK_val (by simp) hcv (by simp [T.noImm]) ?_
          simp
          refine hookH_insP (j := i) (V := 200) (nm := nm) (x := s') (k := k') (m := n') (vl := vl') (B := B) rfl rfl (by omega) (by omega) (by simp) (by simp) (by simp) (by simp) (by simp) (by simp) ?_
          rw [← hN]
          simp
          refine Wk.ren (fun t => if t = 7 then 202 else t) rfl (by simp) (by simp) (by simp) ?_ (by simp)
          simp [Blk.rn, Blk.names, namesr_clean hcL, rnr_cl hcL, namesr_clean cD5, rnr_cl cD5, namesr_clean hcN, rnr_cl hcN]
        · simp [w2]
          refine callK_val (by simp) hcv (by simp [T.noImm]) ?_
          simp
          refine hookH_insP (j := i) (V := 200) (nm := nm) (x := s') (k := k') (m := n') (vl := vl') (B := B) rfl rfl (by omega) (by omega) (by simp) (by simp) (by simp) (by simp) (by simp) (by simp) ?_
          rw [← hN]
          simp
          refine Wk.ren (fun t => if t = 7 then 202 else t) rfl (by simp) (by simp) (by simp) ?_ (by simp)
          simp [Blk.rn, Blk.names, namesr_clean hcL, rnr_cl hcL, namesr_clean cD5, rnr_cl cD5, namesr_clean hcN, rnr_cl hcN]
  have hcL := sP.crO (propNext nm (.mk k' n' s' vl') ps)
  clear hins hout hNf hNl hpf hcv
  generalize propNext nm (.mk k' n' s' vl') ps = L at *
  refine WW_seq (WW_of_W ?_)
  simp
  refine callK_val (by simp) hpk rfl ?_
  simp [g4]
  refine WW_of_W ?_
  subst hD4
  simp [-getElem?_pos, q4]
  refine fin_wk (Wk.join (b := 5) (r := i0) (cs := sE.O ⟨id, kd, fr, tt, L⟩) rfl (by simp [q4]; rfl) (by simp [hcL]) (by simp)) ?_
  simp
  exact fin_own (by simp; rfl) (by simp [hcS, List.take_of_length_le]) (by simp) (by simp)
end Go.Proofs.Ytehdfbhfbidadaa.V
/- Props set, by the program. -/
namespace Go.Proofs.Ytehdfbhfbidadaa.V
open Go
set_option linter.unusedVariables false
set_option linter.unusedSimpArgs false
theorem PropSet_c (g : Gr) (hf : g.fit) (hc : g.cnt ≤ 2 ^ 20) (v : Vl) (hv : v.fit) (nm : Tx) (hnm : ln nm) (to : Vl) (hto : to.fit) (htc : to.cnt ≤ 2 ^ 20) : Rv Try.prog 47 [.agg (sG.I g), .agg (sV.I v), .s nm, .agg (sV.I to)] (.tup [.agg (sG.O (propSet g v nm to).1), .b (propSet g v nm to).2]) := by
  by_cases g1 : GOk g
  · by_cases g2 : setOk v nm to
    · cases g3 : propsOf g v with
      | none =>
        have e : propSet g v nm to = (g, false) := by unfold propSet; rw [if_pos g1, if_pos g2, g3]
        rw [e]
        exact PropSet_no3 g hf hc v hv nm hnm to hto g1 g2 g3
      | some ps =>
        have hat := props_at g3
        by_cases g4 : PropsOk (propNext nm to ps)
        · have e : propSet g v nm to = (gSetP g v (propNext nm to ps), true) := by
            unfold propSet; rw [if_pos g1, if_pos g2, g3]; simp only; rw [if_pos g4]
          rw [e]
          rcases hat with ⟨hk, i, id, lb, q1, q2, q3⟩ | ⟨hk5, hk, i, id, kd, fr, tt, q1, q2, q3⟩
          · exact PropSet_yN g hf hc v hv nm hnm to hto htc g1 g2 ps g3 g4 hk id lb i q1 q2 q3
          · exact PropSet_yE g hf hc v hv nm hnm to hto htc g1 g2 ps g3 g4 hk5 id kd fr tt i q1 q2 q3
        · have e : propSet g v nm to = (g, false) := by
            unfold propSet; rw [if_pos g1, if_pos g2, g3]; simp only; rw [if_neg g4]
          rw [e]
          obtain ⟨hk0, h4, hne⟩ := propNext_bad (props_ok g1 g3) g2 g4
          rcases hat with ⟨hk, i, id, lb, q1, q2, q3⟩ | ⟨hk5, hk, i, id, kd, fr, tt, q1, q2, q3⟩
          · exact PropSet_nN g hf hc v hv nm hnm to hto htc g1 g2 ps g3 hk0 h4 hne hk id lb i q1 q2
          · exact PropSet_nE g hf hc v hv nm hnm to hto htc g1 g2 ps g3 hk0 h4 hne hk5 id kd fr tt i q1 q2
    · have e : propSet g v nm to = (g, false) := by unfold propSet; rw [if_pos g1, if_neg g2]
      rw [e]
      exact PropSet_no2 g hf hc v hv nm hnm to hto g1 g2
  · have e : propSet g v nm to = (zG, false) := by unfold propSet; rw [if_neg g1]
    rw [e]
    exact PropSet_no1 g hf v nm to g1
end Go.Proofs.Ytehdfbhfbidadaa.V
/- The functions' code, as the machine of trees has it: printed by a program of this claim's writer (wip/gen/pcode.py), held by Lean. -/
namespace Go.Proofs.Ytehdfbhfbidadaa.V
open Go
def pc_laws_FnPropSet : PC :=
  .seq (.reg [⟨(some 2), .mv (.c (.b false)), none, []⟩] false) (.seq (.seq (.reg [⟨(some 16), .mv (.t 0), none, []⟩, ⟨(some 17), .len (.t 16), none, []⟩, ⟨(some 18), .bin .gtr (.t 17) (.c (.i .i64 1048576)), none, []⟩] false) (.cond (.t 18) (.seq (.reg [⟨(some 2), .mv (.c (.b true)), none, []⟩] false) (.ret)) (.skip))) (.seq (.reg [⟨(some 20), .mv (.t 0), none, []⟩, ⟨(some 21), .call (.ev [] .imm) 51 [(.t 20)], none, []⟩, ⟨(some 19), .mv (.t 21), none, []⟩, ⟨(some 22), .ext 0 (.t 19), none, []⟩, ⟨(some 23), .ext 1 (.t 19), none, []⟩, ⟨(some 24), .ext 2 (.t 19), none, []⟩, ⟨(some 25), .ext 3 (.t 19), none, []⟩, ⟨(some 3), .alloc [.nl, .nl, .i .i64 0, .i .i64 0], none, []⟩, ⟨(some 4), .alloc [.i .i64 0, .i .i64 0, .s [], .nl], none, []⟩, ⟨(some 6), .alloc [.i .i64 0, .i .i64 0, .s [], .nl], none, []⟩, ⟨none, .store (some 4) (.t 3) (.t 22), none, []⟩, ⟨none, .store (some 4) (.t 4) (.t 23), none, []⟩, ⟨(some 5), .mv (.t 24), none, []⟩, ⟨none, .store (some 4) (.t 6) (.t 25), none, []⟩] false) (.seq (.reg [⟨(some 27), .load (some 4) (.t 3), none, []⟩, ⟨(some 28), .load (some 4) (.t 4), none, []⟩, ⟨(some 29), .mv (.t 5), none, []⟩, ⟨(some 30), .load (some 4) (.t 6), none, []⟩, ⟨(some 31), .call (.ev [] .own) 47 [(.t 27), (.t 28), (.t 29), (.t 30)], none, []⟩, ⟨(some 26), .mv (.t 31), none, []⟩, ⟨(some 32), .ext 0 (.t 26), none, []⟩, ⟨(some 33), .ext 1 (.t 26), none, []⟩, ⟨(some 7), .alloc [.nl, .nl, .i .i64 0, .i .i64 0], none, []⟩, ⟨none, .store (some 4) (.t 7) (.t 32), none, []⟩, ⟨(some 8), .mv (.t 33), none, []⟩] false) (.seq (.reg [⟨(some 35), .load (some 4) (.t 3), none, []⟩, ⟨(some 36), .load (some 4) (.t 4), none, []⟩, ⟨(some 37), .mv (.t 5), none, []⟩, ⟨(some 38), .load (some 4) (.t 6), none, []⟩, ⟨(some 39), .call (.ev [] .imm) 46 [(.t 35), (.t 36), (.t 37), (.t 38)], none, []⟩, ⟨(some 34), .mv (.t 39), none, []⟩, ⟨(some 40), .ext 0 (.t 34), none, []⟩, ⟨(some 41), .ext 1 (.t 34), none, []⟩, ⟨(some 9), .alloc [.nl, .nl, .i .i64 0, .i .i64 0], none, []⟩, ⟨none, .store (some 4) (.t 9) (.t 40), none, []⟩, ⟨(some 10), .mv (.t 41), none, []⟩] false) (.seq (.reg [⟨(some 42), .load (some 4) (.t 3), none, []⟩, ⟨(some 43), .load (some 4) (.t 4), none, []⟩, ⟨(some 44), .mv (.t 5), none, []⟩, ⟨(some 45), .call (.ev [] .own) 37 [(.t 42), (.t 43), (.t 44)], none, []⟩, ⟨(some 11), .alloc [.i .i64 0, .i .i64 0, .s [], .nl], none, []⟩, ⟨none, .store (some 4) (.t 11) (.t 45), none, []⟩] false) (.seq (.seq (.reg [⟨(some 46), .mv (.t 8), none, []⟩, ⟨(some 47), .mv (.t 10), none, []⟩, ⟨(some 48), .beq .neq (.t 46) (.t 47), none, [0, 1]⟩, ⟨(some 49), .mv (.t 48), none, [2]⟩, ⟨(some 50), .load (some 4) (.t 7), (some (49, false)), [3]⟩, ⟨(some 51), .load (some 4) (.t 9), (some (49, false)), [3]⟩, ⟨(some 52), .call (.ev [] .own) 49 [(.t 50), (.t 51)], (some (49, false)), [4, 5, 3, 3]⟩, ⟨(some 53), .un .not (.t 52), (some (49, false)), [6, 3]⟩, ⟨(some 54), .pick (.t 49) (.c (.b true)) (.t 53), none, [3, 7]⟩, ⟨(some 55), .mv (.t 54), none, [8, 6]⟩, ⟨(some 56), .load (some 4) (.t 11), (some (55, false)), [9]⟩, ⟨(some 57), .load (some 4) (.t 3), (some (55, false)), [9]⟩, ⟨(some 58), .load (some 4) (.t 4), (some (55, false)), [9]⟩, ⟨(some 59), .mv (.t 5), (some (55, false)), [9]⟩, ⟨(some 60), .call (.ev [] .own) 52 [(.t 57), (.t 58), (.t 59)], (some (55, false)), [11, 12, 13, 9, 9]⟩, ⟨(some 61), .call (.ev [] .own) 38 [(.t 56), (.t 60)], (some (55, false)), [10, 14, 14, 9]⟩, ⟨(some 62), .un .not (.t 61), (some (55, false)), [15, 9]⟩, ⟨(some 63), .pick (.t 55) (.c (.b true)) (.t 62), none, [9, 16]⟩, ⟨(some 64), .mv (.t 63), none, [17, 15]⟩, ⟨(some 65), .load (some 4) (.t 3), (some (64, false)), [18]⟩, ⟨(some 66), .call (.ev [] .own) 34 [(.t 65)], (some (64, false)), [19, 18, 18]⟩, ⟨(some 67), .un .not (.t 66), (some (64, false)), [20, 18]⟩, ⟨(some 68), .pick (.t 64) (.c (.b true)) (.t 67), none, [18, 21]⟩] true) (.cond (.t 68) (.seq (.reg [⟨(some 69), .mv (.t 8), none, []⟩, ⟨(some 70), .mv (.t 10), none, []⟩, ⟨(some 71), .beq .eql (.t 69) (.t 70), none, [0, 1]⟩, ⟨(some 72), .mv (.t 71), none, [2]⟩, ⟨(some 73), .load (some 4) (.t 7), (some (72, true)), [3]⟩, ⟨(some 74), .load (some 4) (.t 9), (some (72, true)), [3]⟩, ⟨(some 75), .call (.ev [] .own) 49 [(.t 73), (.t 74)], (some (72, true)), [4, 5, 3, 3]⟩, ⟨(some 76), .pick (.t 72) (.t 75) (.c (.b false)), none, [3, 6]⟩, ⟨(some 77), .mv (.t 76), none, [7, 6]⟩, ⟨(some 78), .load (some 4) (.t 11), (some (77, true)), [8]⟩, ⟨(some 79), .load (some 4) (.t 3), (some (77, true)), [8]⟩, ⟨(some 80), .load (some 4) (.t 4), (some (77, true)), [8]⟩, ⟨(some 81), .mv (.t 5), (some (77, true)), [8]⟩, ⟨(some 82), .call (.ev [] .own) 52 [(.t 79), (.t 80), (.t 81)], (some (77, true)), [10, 11, 12, 8, 8]⟩, ⟨(some 83), .call (.ev [] .own) 38 [(.t 78), (.t 82)], (some (77, true)), [9, 13, 13, 8]⟩, ⟨(some 84), .pick (.t 77) (.t 83) (.c (.b false)), none, [8, 14]⟩, ⟨(some 2), .mv (.t 84), none, [15, 14, 0, 1, 2, 3, 4, 5, 6, 7, 8, 9, 10, 11, 12, 13, 14, 15]⟩] true) (.ret)) (.skip))) (.seq (.seq (.reg [⟨(some 85), .mv (.t 8), none, []⟩, ⟨(some 86), .un .not (.t 85), none, []⟩] false) (.cond (.t 86) (.seq (.reg [⟨(some 87), .load (some 4) (.t 7), none, []⟩, ⟨(some 88), .load (some 4) (.t 3), none, []⟩, ⟨(some 89), .call (.ev [] .own) 49 [(.t 87), (.t 88)], none, []⟩, ⟨(some 2), .mv (.t 89), none, []⟩] false) (.ret)) (.skip))) (.seq (.reg [⟨(some 90), .mksl 1 [(.c (.s [110])), (.c (.s [110, 97, 109, 101])), (.c (.s [120])), (.c (.s [121])), (.c (.s [122]))], none, []⟩, ⟨(some 12), .mv (.t 90), none, []⟩] false) (.seq (.seq (.reg [⟨(some 13), .mv (.c (.i .i64 0)), none, []⟩] false) (.block 0 (.loop (.seq (.seq (.reg [⟨(some 91), .mv (.t 13), none, []⟩, ⟨(some 92), .mv (.t 12), none, []⟩, ⟨(some 93), .len (.t 92), none, []⟩, ⟨(some 94), .bin .lss (.t 91) (.t 93), none, []⟩] false) (.cond (.t 94) (.skip) (.exit 0))) (.seq (.block 1 (.seq (.reg [⟨(some 97), .mv (.t 12), none, []⟩, ⟨(some 98), .mv (.t 13), none, []⟩, ⟨(some 99), .ia 1 (.t 97) (.t 98), none, [0, 1]⟩, ⟨(some 100), .load none (.t 99), none, [2]⟩, ⟨(some 101), .mv (.t 5), none, []⟩, ⟨(some 102), .bin .neq (.t 100) (.t 101), none, [3, 4]⟩, ⟨(some 103), .mv (.t 102), none, [5]⟩, ⟨(some 104), .load (some 4) (.t 7), (some (103, true)), [6]⟩, ⟨(some 105), .load (some 4) (.t 4), (some (103, true)), [6]⟩, ⟨(some 106), .mv (.t 12), (some (103, true)), [6]⟩, ⟨(some 107), .mv (.t 13), (some (103, true)), [6]⟩, ⟨(some 108), .ia 1 (.t 106) (.t 107), (some (103, true)), [9, 10, 6]⟩, ⟨(some 109), .load none (.t 108), (some (103, true)), [11, 6]⟩, ⟨(some 110), .call (.ev [] .own) 37 [(.t 104), (.t 105), (.t 109)], (some (103, true)), [7, 8, 12, 6, 6]⟩, ⟨(some 111), .load (some 4) (.t 3), (some (103, true)), [6]⟩, ⟨(some 112), .load (some 4) (.t 4), (some (103, true)), [6]⟩, ⟨(some 113), .mv (.t 12), (some (103, true)), [6]⟩, ⟨(some 114), .mv (.t 13), (some (103, true)), [6]⟩, ⟨(some 115), .ia 1 (.t 113) (.t 114), (some (103, true)), [16, 17, 6]⟩, ⟨(some 116), .load none (.t 115), (some (103, true)), [18, 6]⟩, ⟨(some 117), .call (.ev [] .own) 37 [(.t 111), (.t 112), (.t 116)], (some (103, true)), [14, 15, 19, 13, 6]⟩, ⟨(some 118), .call (.ev [] .own) 38 [(.t 110), (.t 117)], (some (103, true)), [13, 20, 20, 6]⟩, ⟨(some 119), .un .not (.t 118), (some (103, true)), [21, 6]⟩, ⟨(some 120), .pick (.t 103) (.t 119) (.c (.b false)), none, [6, 22]⟩] true) (.cond (.t 120) (.seq (.reg [⟨(some 2), .mv (.c (.b false)), none, []⟩] false) (.ret)) (.skip)))) (.reg [⟨(some 95), .mv (.t 13), none, []⟩, ⟨(some 96), .bin .add (.t 95) (.c (.i .i64 1)), none, []⟩, ⟨(some 13), .mv (.t 96), none, []⟩] false)))))) (.seq (.reg [⟨(some 122), .load (some 4) (.t 7), none, []⟩, ⟨(some 123), .load (some 4) (.t 4), none, []⟩, ⟨(some 124), .mv (.t 5), none, []⟩, ⟨(some 125), .load (some 4) (.t 11), none, []⟩, ⟨(some 126), .call (.ev [] .own) 47 [(.t 122), (.t 123), (.t 124), (.t 125)], none, []⟩, ⟨(some 121), .mv (.t 126), none, []⟩, ⟨(some 127), .ext 0 (.t 121), none, []⟩, ⟨(some 128), .ext 1 (.t 121), none, []⟩, ⟨(some 14), .alloc [.nl, .nl, .i .i64 0, .i .i64 0], none, []⟩, ⟨none, .store (some 4) (.t 14) (.t 127), none, []⟩, ⟨(some 15), .mv (.t 128), none, []⟩] false) (.seq (.reg [⟨(some 129), .load (some 4) (.t 7), none, []⟩, ⟨(some 130), .call (.ev [] .own) 50 [(.t 129)], none, [0]⟩, ⟨(some 131), .mv (.t 130), none, [1, 1]⟩, ⟨(some 132), .load (some 4) (.t 7), (some (131, true)), [2]⟩, ⟨(some 133), .load (some 4) (.t 4), (some (131, true)), [2]⟩, ⟨(some 134), .mv (.t 5), (some (131, true)), [2]⟩, ⟨(some 135), .call (.ev [] .own) 37 [(.t 132), (.t 133), (.t 134)], (some (131, true)), [3, 4, 5, 2, 2]⟩, ⟨(some 136), .load (some 4) (.t 6), (some (131, true)), [2]⟩, ⟨(some 137), .call (.ev [] .own) 38 [(.t 135), (.t 136)], (some (131, true)), [6, 7, 6, 2]⟩, ⟨(some 138), .pick (.t 131) (.t 137) (.c (.b false)), none, [2, 8]⟩, ⟨(some 139), .mv (.t 138), none, [9, 8]⟩, ⟨(some 140), .mv (.t 15), (some (139, true)), [10]⟩, ⟨(some 141), .pick (.t 139) (.t 140) (.c (.b false)), none, [10, 11]⟩, ⟨(some 142), .mv (.t 141), none, [12, 10]⟩, ⟨(some 143), .load (some 4) (.t 14), (some (142, true)), [13]⟩, ⟨(some 144), .load (some 4) (.t 3), (some (142, true)), [13]⟩, ⟨(some 145), .call (.ev [] .own) 49 [(.t 143), (.t 144)], (some (142, true)), [14, 15, 13, 13]⟩, ⟨(some 146), .pick (.t 142) (.t 145) (.c (.b false)), none, [13, 16]⟩, ⟨(some 2), .mv (.t 146), none, [17, 16, 0, 1, 2, 3, 4, 5, 6, 7, 8, 9, 10, 11, 12, 13, 14, 15, 16, 17]⟩] true) (.ret))))))))))))
theorem ok_laws_FnPropSet : (Try.f11.body).bind (comp Try.prog modes Try.f11.ntmps) = some pc_laws_FnPropSet := by kernel_rfl
theorem via_laws_FnPropSet {args outs : List T} {r : T} (ha : args.length ≤ 147) (h : W Try.prog modes 147 pc_laws_FnPropSet (enter args) (fin Try.prog [.tmp 2] args r outs)) : Ret Try.prog 11 args r outs := Ret.of Try.func11 ok_laws_FnPropSet rfl rfl ha h
end Go.Proofs.Ytehdfbhfbidadaa.V
/- The law PropSet holds of trees. -/
namespace Go.Proofs.Ytehdfbhfbidadaa.V
open Go
set_option linter.unusedVariables false
set_option linter.unusedSimpArgs false
set_option maxHeartbeats 4000000
theorem propGet_cnt' (g : Gr) (v : Vl) (nm : Tx) : (propGet g v nm).cnt ≤ g.cnt := by
  unfold propGet
  cases h : propsOf g v with
  | none => simp [zV, Vl.cnt_mk, cl, sums]
  | some ps =>
    have := cnt_props h
    simp only
    rcases getT_cases ps nm with ⟨p, hm, _, h2⟩ | ⟨_, h2⟩
    · have h3 := sums_mem (c := Pr.cnt) hm
      rw [h2]
      unfold cl at this
      simp only [Pr.cnt] at h3
      omega
    · rw [h2]; simp [zV, Vl.cnt_mk, cl, sums]
open Classical in
noncomputable def pgV (g : Gr) (v : Vl) (nm : Tx) : Vl := if GOk g ∧ vOk v = true then propGet g v nm else zV
theorem pgV_c (g : Gr) (hf : g.fit) (hc : g.cnt ≤ 2 ^ 20) (v : Vl) (hv : v.fit) (nm : Tx) : Rv Try.prog 37 [.agg (sG.I g), .agg (sV.I v), .s nm] (.agg (sV.O (pgV g v nm))) := PropGet_c g hf hc v hv nm
theorem specpgV_c (g : Gr) (hf : g.fit) (hc : g.cnt ≤ 2 ^ 20) (v : Vl) (hv : v.fit) (nm : Tx) : Rv Try.prog 52 [.agg (sG.I g), .agg (sV.I v), .s nm] (.agg (sV.O (pgV g v nm))) := specPropGet_c g hf hc v hv nm
theorem pgV_fit {g : Gr} (hf : g.fit) (v : Vl) (nm : Tx) : (pgV g v nm).fit := by
  unfold pgV
  split
  · exact propGet_fit hf v nm
  · simp [zV, Vl.fit_mk, i64, ln]
theorem pgV_cnt (g : Gr) (v : Vl) (nm : Tx) : (pgV g v nm).cnt ≤ g.cnt := by
  unfold pgV
  split
  · exact propGet_cnt' g v nm
  · simp [zV, Vl.cnt_mk, cl, sums]
theorem pgV_ok {g : Gr} {v : Vl} (h : GOk g) (h2 : vOk v = true) (nm : Tx) : pgV g v nm = propGet g v nm := by
  unfold pgV
  rw [if_pos ⟨h, h2⟩]
set_option maxRecDepth 20000 in
theorem FnPropSet_t (code : List UInt8) (_ : code.length ≤ 9223372036854775807) : Rv Try.prog 11 [.imm (u8T code)] (.b true) := by
  have hl := u8T_len code
  by_cases c : 1048576 < (code.length : Int)
  · refine via_laws_FnPropSet (by simp) ?_
    simp [pc_laws_FnPropSet, hl, c]
    exact fin_val rfl (by simp) (by simp)
  obtain ⟨g, v, nm, to, ⟨hf, hcnt⟩, ⟨hv, hvc⟩, hnm, ⟨hto, htc⟩, hd⟩ := DrawPropSet_d code
  have hbl : ln nm := by simp only [ln]; omega
  have hA := PropSet_c g hf (by omega) v hv nm hbl to hto (by omega)
  have hB := specPropSet_c g hf (by omega) v hv nm hbl to hto (by omega)
  have hG := pgV_c g hf (by omega) v hv nm
  have hS := specpgV_c g hf (by omega) v hv nm
  have hxf := propSet_fit hf hbl hto (v := v)
  have hxc := propSet_cnt' g v nm to
  have hC := asGraph_c _ hxf
  have h2 := specGraphOk_c g hf
  have h3 := GraphOk_c _ hxf
  have hwf := pgV_fit hf v nm
  have hwc := pgV_cnt g v nm
  have hW := asValue_c _ hwf
  by_cases g1 : GOk g
  · cases g2 : (propSet g v nm to).2 with
    | false =>
      have e1 := propSet_no' g1 g2
      rw [g2] at hA hB
      rw [e1] at hA hB hC
      clear hxf hxc e1 h3 hwc
      generalize pgV g v nm = w at *
      obtain ⟨l, es, nn, ne⟩ := g
      obtain ⟨k, n, s, vl⟩ := v
      obtain ⟨k', n', s', vl'⟩ := to
      obtain ⟨k2, n2, s2, vl2⟩ := w
      refine via_laws_FnPropSet (by simp) ?_
      simp [pc_laws_FnPropSet, hl, c]
      refine callK_ri (by simp) hd ?_
      simp
      refine callK_val (by simp) hA (by simp [T.noImm]) ?_
      simp
      refine callK_ri (by simp) hB ?_
      simp
      refine callK_val (by simp) hG (by simp [T.noImm]) ?_
      simp
      repeat with_reducible refine need_mk (by decide +kernel) ?_
      refine callK_val (by simp) hC rfl ?_
      simp
      repeat with_reducible refine need_mk (by decide +kernel) ?_
      refine callK_val (by simp) hS (by simp [T.noImm]) ?_
      simp
      repeat with_reducible refine need_mk (by decide +kernel) ?_
      refine callK_val (by simp) hW rfl ?_
      simp
      repeat with_reducible refine need_mk (by decide +kernel) ?_
      refine callK_val (by simp) h2 rfl ?_
      simp [g1]
      repeat with_reducible refine need_mk (by decide +kernel) ?_
      refine callK_val (by simp) hC rfl ?_
      simp
      repeat with_reducible refine need_mk (by decide +kernel) ?_
      exact fin_val rfl (by simp) (by simp)
    | true =>
      obtain ⟨s1, s2, s3, s4, s5⟩ := propSet_yes' g1 g2
      have hw : pgV g v nm = propGet g v nm := pgV_ok g1 s2 nm
      rw [← hw] at s5
      have hA2 := PropSet_c _ hxf (by omega) v hv nm hbl _ hwf (by omega)
      rw [s5] at hA2
      have hGx := fun q => pgV_c _ hxf (by omega) v hv q
      have hGg := fun q => pgV_c g hf (by omega) v hv q
      have hot : ∀ q, q ≠ nm → pgV (propSet g v nm to).1 v q = pgV g v q := fun q hq => by
        rw [pgV_ok s1 s2, pgV_ok g1 s2]; exact s3 q hq
      have hto2 : pgV (propSet g v nm to).1 v nm = to := by rw [pgV_ok s1 s2]; exact s4
      have hfo := fun q => pgV_fit hf v q
      have hT := asValue_c to hto
      have hCg := asGraph_c g hf
      rw [g2] at hA hB
      clear s5 s3 s4 hw hwc
      generalize (propSet g v nm to).1 = x at *
      generalize pgV g v nm = w at *
      obtain ⟨l, es, nn, ne⟩ := g
      obtain ⟨l', es', nn', ne'⟩ := x
      obtain ⟨k, n, s, vl⟩ := v
      obtain ⟨k', n', s', vl'⟩ := to
      obtain ⟨k2, n2, s2, vl2⟩ := w
      refine via_laws_FnPropSet (by simp) ?_
      simp [pc_laws_FnPropSet, hl, c]
      refine callK_ri (by simp) hd ?_
      simp
      refine callK_val (by simp) hA (by simp [T.noImm]) ?_
      simp
      refine callK_ri (by simp) hB ?_
      simp
      refine callK_val (by simp) hG (by simp [T.noImm]) ?_
      simp
      repeat with_reducible refine need_mk (by decide +kernel) ?_
      refine callK_val (by simp) hC rfl ?_
      simp
      repeat with_reducible refine need_mk (by decide +kernel) ?_
      refine callK_val (by simp) hS (by simp [T.noImm]) ?_
      simp
      repeat with_reducible refine need_mk (by decide +kernel) ?_
      refine callK_val (by simp) hW rfl ?_
      simp
      repeat with_reducible refine need_mk (by decide +kernel) ?_
      refine callK_val (by simp) h2 rfl ?_
      simp [g1]
      repeat with_reducible refine need_mk (by decide +kernel) ?_
      have hcN := sN.crO l'
      have hcE := sE.crO es'
      have hcW := sV.crO vl2
      have w1 : IntKind.i64.wrap 1 = 1 := by decide
      have w2 : IntKind.i64.wrap 2 = 2 := by decide
      have w3 : IntKind.i64.wrap 3 = 3 := by decide
      have w4 : IntKind.i64.wrap 4 = 4 := by decide
      have w5 : IntKind.i64.wrap 5 = 5 := by decide
      refine W_for (fun i => ⟨[(13, .i .i64 i), (12, .ref 199 0 5), (7, .ptr 8 0 0), (11, .ptr 13 0 0), (6, .ptr 2 0 0), (5, .s nm), (4, .ptr 1 0 0), (3, .ptr 0 0 0)], [(0, .arr 4 [[.imm (l.map sN.I), .imm (es.map sE.I), .i .i64 nn, .i .i64 ne]]), (1, .arr 4 [[.i .i64 k, .i .i64 n, .s s, .imm (vl.map sV.I)]]), (2, .arr 4 [[.i .i64 k', .i .i64 n', .s s', .imm (vl'.map sV.I)]]), (6, .arr 3 (l'.map sN.O)), (7, .arr 5 (es'.map sE.O)), (8, .arr 4 [[.ref 6 0 l'.length, .ref 7 0 es'.length, .i .i64 nn', .i .i64 ne']]), (12, .arr 4 (vl2.map sV.O)), (13, .arr 4 [[.i .i64 k2, .i .i64 n2, .s s2, .ref 12 0 vl2.length]]), (199, .arr 1 [[.s [110]], [.s [110, 97, 109, 101]], [.s [120]], [.s [121]], [.s [122]]])], 300, 0⟩) 5 (fun _ => True) ?_ trivial ?_
      · exact Wk.to rfl (by simp) (by simp) (by simp [Blk.names, namesr_clean hcN, namesr_clean hcE, namesr_clean hcW]) (by simp)
      intro i hi _
      obtain rfl | rfl | rfl | rfl | rfl | rfl : i = 0 ∨ i = 1 ∨ i = 2 ∨ i = 3 ∨ i = 4 ∨ i = 5 := by omega
      · by_cases e : [110] = nm
        · simp [w1, e]
          exact Wk.to rfl (by simp) (by simp) (by simp [Blk.names, namesr_clean hcN, namesr_clean hcE, namesr_clean hcW]) (by simp)
        · have hx := hGx [110]
          rw [hot [110] e] at hx
          have hg := hGg [110]
          have hz := asValue_c _ (hfo [110])
          generalize pgV ⟨l, es, nn, ne⟩ (.mk k n s vl) [110] = z at hx hg hz
          obtain ⟨zk, zn, zs, zl⟩ := z
          simp [w1, e]
          repeat with_reducible refine need_mk (by decide +kernel) ?_
          refine callK_val (by simp) hx (by simp [T.noImm]) ?_
          simp [w1, e]
          repeat with_reducible refine need_mk (by decide +kernel) ?_
          refine callK_val (by simp) hg (by simp [T.noImm]) ?_
          simp [w1, e]
          repeat with_reducible refine need_mk (by decide +kernel) ?_
          refine callK_val (by simp) hz rfl ?_
          simp [w1, e]
          repeat with_reducible refine need_mk (by decide +kernel) ?_
          exact Wk.to rfl (by simp) (by simp) (by simp [Blk.names, namesr_clean hcN, namesr_clean hcE, namesr_clean hcW]) (by simp)
      · by_cases e : [110, 97, 109, 101] = nm
        · simp [w2, e]
          exact Wk.to rfl (by simp) (by simp) (by simp [Blk.names, namesr_clean hcN, namesr_clean hcE, namesr_clean hcW]) (by simp)
        · have hx := hGx [110, 97, 109, 101]
          rw [hot [110, 97, 109, 101] e] at hx
          have hg := hGg [110, 97, 109, 101]
          have hz := asValue_c _ (hfo [110, 97, 109, 101])
          generalize pgV ⟨l, es, nn, ne⟩ (.mk k n s vl) [110, 97, 109, 101] = z at hx hg hz
          obtain ⟨zk, zn, zs, zl⟩ := z
          simp [w2, e]
          repeat with_reducible refine need_mk (by decide +kernel) ?_
          refine callK_val (by simp) hx (by simp [T.noImm]) ?_
          simp [w2, e]
          repeat with_reducible refine need_mk (by decide +kernel) ?_
          refine callK_val (by simp) hg (by simp [T.noImm]) ?_
          simp [w2, e]
          repeat with_reducible refine need_mk (by decide +kernel) ?_
          refine callK_val (by simp) hz rfl ?_
          simp [w2, e]
          repeat with_reducible refine need_mk (by decide +kernel) ?_
          exact Wk.to rfl (by simp) (by simp) (by simp [Blk.names, namesr_clean hcN, namesr_clean hcE, namesr_clean hcW]) (by simp)
      · by_cases e : [120] = nm
        · simp [w3, e]
          exact Wk.to rfl (by simp) (by simp) (by simp [Blk.names, namesr_clean hcN, namesr_clean hcE, namesr_clean hcW]) (by simp)
        · have hx := hGx [120]
          rw [hot [120] e] at hx
          have hg := hGg [120]
          have hz := asValue_c _ (hfo [120])
          generalize pgV ⟨l, es, nn, ne⟩ (.mk k n s vl) [120] = z at hx hg hz
          obtain ⟨zk, zn, zs, zl⟩ := z
          simp [w3, e]
          repeat with_reducible refine need_mk (by decide +kernel) ?_
          refine callK_val (by simp) hx (by simp [T.noImm]) ?_
          simp [w3, e]
          repeat with_reducible refine need_mk (by decide +kernel) ?_
          refine callK_val (by simp) hg (by simp [T.noImm]) ?_
          simp [w3, e]
          repeat with_reducible refine need_mk (by decide +kernel) ?_
          refine callK_val (by simp) hz rfl ?_
          simp [w3, e]
          repeat with_reducible refine need_mk (by decide +kernel) ?_
          exact Wk.to rfl (by simp) (by simp) (by simp [Blk.names, namesr_clean hcN, namesr_clean hcE, namesr_clean hcW]) (by simp)
      · by_cases e : [121] = nm
        · simp [w4, e]
          exact Wk.to rfl (by simp) (by simp) (by simp [Blk.names, namesr_clean hcN, namesr_clean hcE, namesr_clean hcW]) (by simp)
        · have hx := hGx [121]
          rw [hot [121] e] at hx
          have hg := hGg [121]
          have hz := asValue_c _ (hfo [121])
          generalize pgV ⟨l, es, nn, ne⟩ (.mk k n s vl) [121] = z at hx hg hz
          obtain ⟨zk, zn, zs, zl⟩ := z
          simp [w4, e]
          repeat with_reducible refine need_mk (by decide +kernel) ?_
          refine callK_val (by simp) hx (by simp [T.noImm]) ?_
          simp [w4, e]
          repeat with_reducible refine need_mk (by decide +kernel) ?_
          refine callK_val (by simp) hg (by simp [T.noImm]) ?_
          simp [w4, e]
          repeat with_reducible refine need_mk (by decide +kernel) ?_
          refine callK_val (by simp) hz rfl ?_
          simp [w4, e]
          repeat with_reducible refine need_mk (by decide +kernel) ?_
          exact Wk.to rfl (by simp) (by simp) (by simp [Blk.names, namesr_clean hcN, namesr_clean hcE, namesr_clean hcW]) (by simp)
      · by_cases e : [122] = nm
        · simp [w5, e]
          exact Wk.to rfl (by simp) (by simp) (by simp [Blk.names, namesr_clean hcN, namesr_clean hcE, namesr_clean hcW]) (by simp)
        · have hx := hGx [122]
          rw [hot [122] e] at hx
          have hg := hGg [122]
          have hz := asValue_c _ (hfo [122])
          generalize pgV ⟨l, es, nn, ne⟩ (.mk k n s vl) [122] = z at hx hg hz
          obtain ⟨zk, zn, zs, zl⟩ := z
          simp [w5, e]
          repeat with_reducible refine need_mk (by decide +kernel) ?_
          refine callK_val (by simp) hx (by simp [T.noImm]) ?_
          simp [w5, e]
          repeat with_reducible refine need_mk (by decide +kernel) ?_
          refine callK_val (by simp) hg (by simp [T.noImm]) ?_
          simp [w5, e]
          repeat with_reducible refine need_mk (by decide +kernel) ?_
          refine callK_val (by simp) hz rfl ?_
          simp [w5, e]
          repeat with_reducible refine need_mk (by decide +kernel) ?_
          exact Wk.to rfl (by simp) (by simp) (by simp [Blk.names, namesr_clean hcN, namesr_clean hcE, namesr_clean hcW]) (by simp)
      · have hx := hGx nm
        rw [hto2] at hx
        simp [s1]
        refine callK_val (by simp) hA2 (by simp [T.noImm]) ?_
        simp [s1]
        repeat with_reducible refine need_mk (by decide +kernel) ?_
        refine callK_val (by simp) h3 rfl ?_
        simp [s1]
        repeat with_reducible refine need_mk (by decide +kernel) ?_
        refine callK_val (by simp) hx (by simp [T.noImm]) ?_
        simp [s1]
        repeat with_reducible refine need_mk (by decide +kernel) ?_
        refine callK_val (by simp) hT rfl ?_
        simp [s1]
        repeat with_reducible refine need_mk (by decide +kernel) ?_
        refine callK_val (by simp) hCg rfl ?_
        simp [s1]
        repeat with_reducible refine need_mk (by decide +kernel) ?_
        exact fin_val rfl (by simp) (by simp)
  · have e1 : propSet g v nm to = (zG, false) := by unfold propSet; rw [if_neg g1]
    rw [e1] at hA hB hC
    simp only [zG] at hA hB hC
    clear hxf hxc h3 hwc
    generalize pgV g v nm = w at *
    obtain ⟨l, es, nn, ne⟩ := g
    obtain ⟨k, n, s, vl⟩ := v
    obtain ⟨k', n', s', vl'⟩ := to
    obtain ⟨k2, n2, s2, vl2⟩ := w
    refine via_laws_FnPropSet (by simp) ?_
    simp [pc_laws_FnPropSet, hl, c]
    refine callK_ri (by simp) hd ?_
    simp
    refine callK_val (by simp) hA (by simp [T.noImm]) ?_
    simp
    refine callK_ri (by simp) hB ?_
    simp
    refine callK_val (by simp) hG (by simp [T.noImm]) ?_
    simp
    repeat with_reducible refine need_mk (by decide +kernel) ?_
    refine callK_val (by simp) hC rfl ?_
    simp
    repeat with_reducible refine need_mk (by decide +kernel) ?_
    refine callK_val (by simp) hS (by simp [T.noImm]) ?_
    simp
    repeat with_reducible refine need_mk (by decide +kernel) ?_
    refine callK_val (by simp) hW rfl ?_
    simp
    repeat with_reducible refine need_mk (by decide +kernel) ?_
    refine callK_val (by simp) h2 rfl ?_
    simp [g1]
    repeat with_reducible refine need_mk (by decide +kernel) ?_
    refine callK_val (by simp) hC rfl ?_
    simp
    repeat with_reducible refine need_mk (by decide +kernel) ?_
    refine callK_val (by simp) hS (by simp [T.noImm]) ?_
    simp
    repeat with_reducible refine need_mk (by decide +kernel) ?_
    refine callK_val (by simp) hW rfl ?_
    simp
    repeat with_reducible refine need_mk (by decide +kernel) ?_
    exact fin_val rfl (by simp) (by simp)
end Go.Proofs.Ytehdfbhfbidadaa.V
