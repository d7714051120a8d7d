/- Each step of the machine of trees is a step of the model: calls. -/
import Derived.Test.YtcchmhmbjhgfdaaVl
namespace Go.Proofs.Ytcchmhmbjhgfdaa.V
open Go
set_option linter.unusedVariables false
set_option linter.unusedSimpArgs false
section
variable {P : Program} {E : Env} {A A' : Nat → Prop} {ρ ρ' : Nat → Option RB} {O O' O2 : Nat → Prop} {F F' : Nat → List Nat} {s : St} {a : Act} {w w' : World} {o : Oper} {n : Nat}
  {K' : T → Δ → List Nat → Prop} {next : Act → World → Prop} {Q : Exit → Act → World → Prop}
mutual
theorem K_toI (hO : ∀ b, O b → O2 b) : ∀ {t : T} {v : Value} {F : List Nat}, (∀ b ∈ F, O2 b) → K w O t v F → CI w O2 t.toI v
  | .own sz rows, v, F, hF, h => by
    simp only [K] at h
    simp only [T.toI, CI]
    rcases h with ⟨rfl, ⟨q, rfl⟩, rfl⟩ | ⟨b, q, cap, c, e, cs, F', rfl, hb, hl, hc, hs, rfl, hr, hm⟩
    · exact ⟨q, 0, rfl, Nat.le_refl _, .inl rfl⟩
    · have hlen : ∀ (l : List (List T)), (toIr l).length = l.length := by
        intro l
        induction l with
        | nil => rfl
        | cons x l ih => simp [toIr, ih]
      have hlen2 : ∀ (l : List T), (toIs l).length = l.length := by
        intro l
        induction l with
        | nil => rfl
        | cons x l ih => simp [toIs, ih]
      have hmem : ∀ (l : List (List T)) (r : List T), r ∈ toIr l → ∃ r', r' ∈ l ∧ r = toIs r' := by
        intro l
        induction l with
        | nil => intro r h; simp [toIr] at h
        | cons x l ih =>
          intro r h
          simp only [toIr, List.mem_cons] at h
          rcases h with rfl | h
          · exact ⟨x, by simp, rfl⟩
          · obtain ⟨r', h1, h2⟩ := ih r h
            exact ⟨r', by simp [h1], h2⟩
      refine ⟨_, cap, by rw [hlen], by rw [hlen]; exact hl, .inr ⟨b, q, sz, cs, rfl, hF b (by simp), ?_, Kr_toI hO (fun x hx => hF x (by simp [hx])) hr, Lies.of_block hb hm⟩⟩
      intro r hr
      obtain ⟨r', h1, rfl⟩ := hmem _ _ hr
      rw [hlen2]; exact hs r' h1
  | .bx cs, v, F, hF, h => by
    simp only [K] at h
    simp only [T.toI, CI]
    obtain ⟨b, q, c, e, us, F', rfl, hb, hcs, rfl, hk, hm⟩ := h
    exact ⟨b, q, us, rfl, hF b (by simp), Ks_toI hO (fun x hx => hF x (by simp [hx])) hk, Lies.of_block hb hm⟩
  | .agg cs, v, F, hF, h => by
    simp only [K] at h; simp only [T.toI, CI]
    obtain ⟨us, e, h⟩ := h
    exact ⟨us, e, Ks_toI hO hF h⟩
  | .tup cs, v, F, hF, h => by
    simp only [K] at h; simp only [T.toI, CI]
    obtain ⟨us, e, h⟩ := h
    exact ⟨us, e, Ks_toI hO hF h⟩
  | .un, v, F, hF, h => by simp only [K] at h; simp only [T.toI]; exact h.1.cong hO (fun _ _ => rfl)
  | .dead, v, F, hF, h => by simp only [K] at h; simp only [T.toI]; exact h.1.cong hO (fun _ _ => rfl)
  | .b _, v, F, hF, h => by simp only [K] at h; simp only [T.toI]; exact h.1.cong hO (fun _ _ => rfl)
  | .i _ _, v, F, hF, h => by simp only [K] at h; simp only [T.toI]; exact h.1.cong hO (fun _ _ => rfl)
  | .s _, v, F, hF, h => by simp only [K] at h; simp only [T.toI]; exact h.1.cong hO (fun _ _ => rfl)
  | .nl, v, F, hF, h => by simp only [K] at h; simp only [T.toI]; exact h.1.cong hO (fun _ _ => rfl)
  | .imm _, v, F, hF, h => by simp only [K] at h; simp only [T.toI]; exact h.1.cong hO (fun _ _ => rfl)
  | .ref _ _ _, v, F, hF, h => by simp only [K] at h; simp only [T.toI]; exact h.1.cong hO (fun _ _ => rfl)
  | .np, v, F, hF, h => by simp only [K] at h; simp only [T.toI]; exact h.1.cong hO (fun _ _ => rfl)
  | .ptr _ _ _, v, F, hF, h => by simp only [K] at h; simp only [T.toI]; exact h.1.cong hO (fun _ _ => rfl)
  | .pim _, v, F, hF, h => by simp only [K] at h; simp only [T.toI]; exact h.1.cong hO (fun _ _ => rfl)
  | .fn _ _, v, F, hF, h => by simp only [K] at h; simp only [T.toI]; exact h.1.cong hO (fun _ _ => rfl)
  | .nif, v, F, hF, h => by simp only [K] at h; simp only [T.toI]; exact h.1.cong hO (fun _ _ => rfl)
  | .nfn, v, F, hF, h => by simp only [K] at h; simp only [T.toI]; exact h.1.cong hO (fun _ _ => rfl)
  | .ifc _ _, v, F, hF, h => by simp only [K] at h; simp only [T.toI]; exact h.1.cong hO (fun _ _ => rfl)
  | .nmp, v, F, hF, h => by simp only [K] at h; simp only [T.toI]; exact h.1.cong hO (fun _ _ => rfl)
  | .mp _, v, F, hF, h => by simp only [K] at h; simp only [T.toI]; exact h.1.cong hO (fun _ _ => rfl)
theorem Ks_toI (hO : ∀ b, O b → O2 b) : ∀ {ts : List T} {vs : List Value} {F : List Nat}, (∀ b ∈ F, O2 b) → Ks w O ts vs F → CIs w O2 (toIs ts) vs
  | [], vs, F, hF, h => by simp only [Ks] at h; simp [toIs, CIs, h.1]
  | t :: ts, vs, F, hF, h => by
    simp only [Ks] at h; simp only [toIs, CIs]
    obtain ⟨v, r, F1, F2, e, rfl, h1, h2⟩ := h
    exact ⟨v, r, e, K_toI hO (fun x hx => hF x (by simp [hx])) h1, Ks_toI hO (fun x hx => hF x (by simp [hx])) h2⟩
theorem Kr_toI (hO : ∀ b, O b → O2 b) : ∀ {rs : List (List T)} {vs : List Value} {F : List Nat}, (∀ b ∈ F, O2 b) → Kr w O rs vs F → CIr w O2 (toIr rs) vs
  | [], vs, F, hF, h => by simp only [Kr] at h; simp [toIr, CIr, h.1]
  | r :: rs, vs, F, hF, h => by
    simp only [Kr] at h; simp only [toIr, CIr]
    obtain ⟨v1, v2, F1, F2, e, rfl, h1, h2⟩ := h
    exact ⟨v1, v2, e, Ks_toI hO (fun x hx => hF x (by simp [hx])) h1, Kr_toI hO (fun x hx => hF x (by simp [hx])) h2⟩
end
mutual
theorem K_noImm : ∀ {t : T} {v : Value} {F : List Nat}, t.noImm = true → K w O t v F → K w O2 t v F
  | .own sz rows, v, F, hn, h => by
    simp only [T.noImm] at hn
    simp only [K] at h ⊢
    refine h.imp id ?_
    rintro ⟨b, o, cap, c, e, cs, F', ev, hb, h1, h2, h3, rfl, hr, hm⟩
    exact ⟨b, o, cap, c, e, cs, F', ev, hb, h1, h2, h3, rfl, Kr_noImm hn hr, hm⟩
  | .bx cs, v, F, hn, h => by
    simp only [T.noImm] at hn
    simp only [K] at h ⊢
    obtain ⟨b, q, c, e, us, F', rfl, hb, hcs, rfl, hk, hm⟩ := h
    exact ⟨b, q, c, e, us, F', rfl, hb, hcs, rfl, Ks_noImm hn hk, hm⟩
  | .agg cs, v, F, hn, h => by
    simp only [T.noImm] at hn
    simp only [K] at h ⊢
    obtain ⟨us, e, h⟩ := h
    exact ⟨us, e, Ks_noImm hn h⟩
  | .tup cs, v, F, hn, h => by
    simp only [T.noImm] at hn
    simp only [K] at h ⊢
    obtain ⟨us, e, h⟩ := h
    exact ⟨us, e, Ks_noImm hn h⟩
  | .un, v, F, hn, h => by simpa only [K, CI] using h
  | .dead, v, F, hn, h => by simpa only [K, CI] using h
  | .b _, v, F, hn, h => by simpa only [K, CI] using h
  | .i _ _, v, F, hn, h => by simpa only [K, CI] using h
  | .s _, v, F, hn, h => by simpa only [K, CI] using h
  | .nl, v, F, hn, h => by simpa only [K, CI] using h
  | .imm _, v, F, hn, h => by simp [T.noImm] at hn
  | .ref _ _ _, v, F, hn, h => by simpa only [K, CI] using h
  | .np, v, F, hn, h => by simpa only [K, CI] using h
  | .ptr _ _ _, v, F, hn, h => by simpa only [K, CI] using h
  | .pim _, v, F, hn, h => by simp [T.noImm] at hn
  | .fn _ cs, v, F, hn, h => by
    simp only [T.noImm] at hn
    simp only [K, CI] at h ⊢
    obtain ⟨⟨us, e, h⟩, e'⟩ := h
    exact ⟨⟨us, e, CIs_noImm hn h⟩, e'⟩
  | .nif, v, F, hn, h => by simpa only [K, CI] using h
  | .nfn, v, F, hn, h => by simpa only [K, CI] using h
  | .ifc _ x, v, F, hn, h => by
    simp only [T.noImm] at hn
    simp only [K, CI] at h ⊢
    obtain ⟨⟨us, e, h⟩, e'⟩ := h
    exact ⟨⟨us, e, CI_noImm hn h⟩, e'⟩
  | .nmp, v, F, hn, h => by simpa only [K, CI] using h
  | .mp _, v, F, hn, h => by simpa only [K, CI] using h
theorem Ks_noImm : ∀ {ts : List T} {vs : List Value} {F : List Nat}, noIms ts = true → Ks w O ts vs F → Ks w O2 ts vs F
  | [], vs, F, hn, h => by simpa only [Ks] using h
  | t :: ts, vs, F, hn, h => by
    simp only [noIms, Bool.and_eq_true] at hn
    simp only [Ks] at h ⊢
    obtain ⟨v, r, F1, F2, e, e', h1, h2⟩ := h
    exact ⟨v, r, F1, F2, e, e', K_noImm hn.1 h1, Ks_noImm hn.2 h2⟩
theorem Kr_noImm : ∀ {rs : List (List T)} {vs : List Value} {F : List Nat}, noImr rs = true → Kr w O rs vs F → Kr w O2 rs vs F
  | [], vs, F, hn, h => by simpa only [Kr] using h
  | t :: ts, vs, F, hn, h => by
    simp only [noImr, Bool.and_eq_true] at hn
    simp only [Kr] at h ⊢
    obtain ⟨v, r, F1, F2, e, e', h1, h2⟩ := h
    exact ⟨v, r, F1, F2, e, e', Ks_noImm hn.1 h1, Kr_noImm hn.2 h2⟩
theorem CI_noImm : ∀ {t : T} {v : Value}, t.noImm = true → CI w O t v → CI w O2 t v
  | .own sz rows, v, hn, h => by simp only [CI] at h
  | .bx cs, v, hn, h => by simp only [CI] at h
  | .agg cs, v, hn, h => by
    simp only [T.noImm] at hn
    simp only [CI] at h ⊢
    obtain ⟨us, e, h⟩ := h
    exact ⟨us, e, CIs_noImm hn h⟩
  | .tup cs, v, hn, h => by
    simp only [T.noImm] at hn
    simp only [CI] at h ⊢
    obtain ⟨us, e, h⟩ := h
    exact ⟨us, e, CIs_noImm hn h⟩
  | .un, v, hn, h => by simpa only [CI] using h
  | .dead, v, hn, h => by simp only [CI]
  | .b _, v, hn, h => by simpa only [CI] using h
  | .i _ _, v, hn, h => by simpa only [CI] using h
  | .s _, v, hn, h => by simpa only [CI] using h
  | .nl, v, hn, h => by simpa only [CI] using h
  | .imm _, v, hn, h => by simp [T.noImm] at hn
  | .ref _ _ _, v, hn, h => by simp only [CI] at h
  | .np, v, hn, h => by simpa only [CI] using h
  | .ptr _ _ _, v, hn, h => by simp only [CI] at h
  | .pim _, v, hn, h => by simp [T.noImm] at hn
  | .fn _ cs, v, hn, h => by
    simp only [T.noImm] at hn
    simp only [CI] at h ⊢
    obtain ⟨us, e, h⟩ := h
    exact ⟨us, e, CIs_noImm hn h⟩
  | .nif, v, hn, h => by simpa only [CI] using h
  | .nfn, v, hn, h => by simpa only [CI] using h
  | .ifc _ x, v, hn, h => by
    simp only [T.noImm] at hn
    simp only [CI] at h ⊢
    obtain ⟨us, e, h⟩ := h
    exact ⟨us, e, CI_noImm hn h⟩
  | .nmp, v, hn, h => by simpa only [CI] using h
  | .mp _, v, hn, h => by simp only [CI] at h
theorem CIs_noImm : ∀ {ts : List T} {vs : List Value}, noIms ts = true → CIs w O ts vs → CIs w O2 ts vs
  | [], vs, hn, h => by simpa only [CIs] using h
  | t :: ts, vs, hn, h => by
    simp only [noIms, Bool.and_eq_true] at hn
    simp only [CIs] at h ⊢
    obtain ⟨v, r, e, h1, h2⟩ := h
    exact ⟨v, r, e, CI_noImm hn.1 h1, CIs_noImm hn.2 h2⟩
end
theorem toI_clean {t : T} {v : Value} (h : CV w O ρ A t v) (hc : t.clean = true) : CI w O t.toI v := by
  cases t <;> simp only [T.clean, Bool.false_eq_true] at hc <;> simp only [CV] at h <;> first
    | exact h
    | (simp only [CI] at h)
theorem D_toI (hO : ∀ b, O b → O2 b) {t : T} {v : Value} {G : List Nat} (hF : ∀ b ∈ G, O2 b) (h : D w O ρ A t v G) (hc : t.clean = true) : CI w O2 t.toI v := by
  rcases h with h | ⟨h, _⟩
  · exact K_toI hO hF h
  · exact (toI_clean h hc).cong hO (fun _ _ => rfl)
theorem Ds_toI (hO : ∀ b, O b → O2 b) : ∀ {ts : List T} {vs : List Value} {G : List Nat}, (∀ b ∈ G, O2 b) → Ds w O ρ A ts vs G → (ts.all T.clean) = true → CIs w O2 (toIs ts) vs
  | [], vs, G, hF, h, hc => by simp only [Ds] at h; simp [toIs, CIs, h.1]
  | t :: ts, vs, G, hF, h, hc => by
    simp only [List.all_cons, Bool.and_eq_true] at hc
    simp only [Ds] at h; simp only [toIs, CIs]
    obtain ⟨v, r, F1, F2, e, rfl, h1, h2⟩ := h
    exact ⟨v, r, e, D_toI hO (fun x hx => hF x (by simp [hx])) h1 hc.1, Ds_toI hO (fun x hx => hF x (by simp [hx])) h2 hc.2⟩
theorem Dr_toI (hO : ∀ b, O b → O2 b) : ∀ {rs : List (List T)} {vs : List Value} {G : List Nat}, (∀ b ∈ G, O2 b) → Dr w O ρ A rs vs G → cleanR rs = true → CIr w O2 (toIr rs) vs
  | [], vs, G, hF, h, hc => by simp only [Dr] at h; simp [toIr, CIr, h.1]
  | r :: rs, vs, G, hF, h, hc => by
    simp only [cleanR, List.all_cons, Bool.and_eq_true] at hc
    simp only [Dr] at h; simp only [toIr, CIr]
    obtain ⟨v1, v2, F1, F2, e, rfl, h1, h2⟩ := h
    exact ⟨v1, v2, e, Ds_toI hO (fun x hx => hF x (by simp [hx])) h1 hc.1, Dr_toI hO (fun x hx => hF x (by simp [hx])) h2 hc.2⟩
theorem D_K {t : T} {v : Value} {G : List Nat} (h : D w O ρ A t v G) (hc : t.clean = true) : K w O t v G := by
  rcases h with h | ⟨h, rfl⟩
  · exact h
  · cases t <;> simp only [T.clean, Bool.false_eq_true] at hc <;> simp only [CV] at h <;> simp only [K] <;> first
      | exact ⟨h, trivial⟩
      | (simp only [CI] at h)
theorem Ds_K : ∀ {ts : List T} {vs : List Value} {G : List Nat}, Ds w O ρ A ts vs G → (ts.all T.clean) = true → Ks w O ts vs G
  | [], vs, G, h, hc => by simpa only [Ds, Ks] using h
  | t :: ts, vs, G, h, hc => by
    simp only [List.all_cons, Bool.and_eq_true] at hc
    simp only [Ds] at h; simp only [Ks]
    obtain ⟨v, r, F1, F2, e, e', h1, h2⟩ := h
    exact ⟨v, r, F1, F2, e, e', D_K h1 hc.1, Ds_K h2 hc.2⟩
theorem Dr_K : ∀ {rs : List (List T)} {vs : List Value} {G : List Nat}, Dr w O ρ A rs vs G → cleanR rs = true → Kr w O rs vs G
  | [], vs, G, h, hc => by simpa only [Dr, Kr] using h
  | r :: rs, vs, G, h, hc => by
    simp only [cleanR, List.all_cons, Bool.and_eq_true] at hc
    simp only [Dr] at h; simp only [Kr]
    obtain ⟨v1, v2, F1, F2, e, e', h1, h2⟩ := h
    exact ⟨v1, v2, F1, F2, e, e', Ds_K h1 hc.1, Dr_K h2 hc.2⟩
end
end Go.Proofs.Ytcchmhmbjhgfdaa.V
