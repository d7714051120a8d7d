/- Each step of the machine of trees is a step of the model: the call itself. -/
import Derived.Test.YtcchmhmbjhgfdaaVn
namespace Go.Proofs.Ytcchmhmbjhgfdaa.V
open Go
set_option linter.unusedVariables false
set_option linter.unusedSimpArgs false
theorem hap_append : ∀ (h : List (Nat × Blk)) (d d' : Δ), hap h (d ++ d') = hap (hap h d) d'
  | h, [], d' => rfl
  | h, (t, some x) :: d, d' => by simp only [List.cons_append, hap]; exact hap_append _ d d'
  | h, (t, none) :: d, d' => by simp only [List.cons_append, hap]; exact hap_append _ d d'
theorem hap_ext : ∀ (d : Δ) (h h' : List (Nat × Blk)), (∀ x, x ∈ d.map (·.1) ∨ hget h x = hget h' x) → ∀ x, hget (hap h d) x = hget (hap h' d) x
  | [], h, h', hx, x => by
    rcases hx x with h1 | h1
    · simp at h1
    · exact h1
  | (t, some k) :: d, h, h', hx, x => by
    simp only [hap]
    refine hap_ext d _ _ (fun y => ?_) x
    rcases hx y with h1 | h1
    · simp only [List.map_cons, List.mem_cons] at h1
      rcases h1 with rfl | h1
      · right; simp [hget_hset]
      · exact .inl h1
    · right; simp [hget_hset, h1]
  | (t, none) :: d, h, h', hx, x => by
    simp only [hap]
    refine hap_ext d _ _ (fun y => ?_) x
    rcases hx y with h1 | h1
    · simp only [List.map_cons, List.mem_cons] at h1
      rcases h1 with rfl | h1
      · right; simp [hget_hdel]
      · exact .inl h1
    · right; simp [hget_hdel, h1]
def hdels (h : List (Nat × Blk)) : List Nat → List (Nat × Blk)
  | [] => h
  | t :: ts => hdels (hdel h t) ts
theorem hget_hdels : ∀ (ts : List Nat) (h : List (Nat × Blk)) (x : Nat), hget (hdels h ts) x = if x ∈ ts then none else hget h x
  | [], h, x => by simp [hdels]
  | t :: ts, h, x => by
    simp only [hdels, hget_hdels ts, hget_hdel, List.mem_cons]
    by_cases h1 : x ∈ ts
    · simp [h1]
    · by_cases h2 : t = x
      · subst h2; simp
      · have h3 : ¬ x = t := fun h => h2 h.symm
        simp [h1, h2, h3]
theorem hap_kills : ∀ (ts : List Nat) (h : List (Nat × Blk)), hap h (ts.map fun t => (t, none)) = hdels h ts
  | [], h => rfl
  | t :: ts, h => by simp only [List.map_cons, hap, hdels]; exact hap_kills ts _
theorem hget_news : ∀ (l : List (Nat × Blk)) (h : List (Nat × Blk)) (x : Nat) (k : Blk), hget (hap h (news l)) x = some k → x ∈ l.map (·.1) ∨ hget h x = some k
  | [], h, x, k, hx => .inr hx
  | (t, b) :: l, h, x, k, hx => by
    have hx' : hget (hap (hset h t b) (news l)) x = some k := hx
    rcases hget_news l _ x k hx' with h1 | h1
    · exact .inl (by simp only [List.map_cons, List.mem_cons]; exact .inr h1)
    · rw [hget_hset] at h1
      split at h1
      · rename_i e; exact .inl (by simp [e])
      · exact .inr h1
section
variable {P : Program} {E : Env} {A A' : Nat → Prop} {ρ ρ' : Nat → Option RB} {O O' O2 : Nat → Prop} {F F' : Nat → List Nat} {s : St} {a : Act} {w w' : World} {o : Oper} {n : Nat}
  {next : Act → World → Prop} {Q : Exit → Act → World → Prop}
theorem R.hpext (h : R E A ρ O F s a w) {hp' : List (Nat × Blk)} (he : ∀ x, hget hp' x = hget s.hp x) : R E A ρ O F { s with hp := hp' } a w :=
  h.hpsub (fun t k hk => by rw [← he]; exact hk)
theorem BL.LB : ∀ {l : List (Nat × Blk)} {n : Nat} {G : List Nat}, BL w O ρ A n l G → LB w O ρ A l G ∧ (∀ x ∈ l.map (·.1), n ≤ x ∧ x < n + l.length) ∧ (l.map (·.1)).Nodup
  | [], n, G, h => by simp only [BL] at h; subst h; simp [V.LB]
  | (t, k) :: l, n, G, h => by
    simp only [BL] at h
    obtain ⟨rfl, F1, F2, rfl, h1, h2⟩ := h
    obtain ⟨g1, g2, g3⟩ := BL.LB h2
    refine ⟨?_, ?_, ?_⟩
    · simp only [V.LB]; exact ⟨F1, F2, rfl, h1, g1⟩
    · intro x hx
      simp only [List.map_cons, List.mem_cons] at hx
      rcases hx with rfl | hx
      · simp
      · have := g2 x hx; simp only [List.length_cons]; omega
    · simp only [List.map_cons, List.nodup_cons]
      exact ⟨fun hx => by have := g2 _ hx; omega, g3⟩
theorem s_callK (hR : R E A ρ O F s a w) (hd : ∀ k, o.dst = some k → k < E.n) {mu : List Nat} {q : RK} {f : Nat} {args : List T} {vs : List Value} {K' : T → Δ → List Nat → Prop} (hv : CVs w O ρ A args vs) (hrun : (execOp a.eval o).run P w = .ok (.enter f vs.toArray) w) (hf : FR E A n K')
    (hK : callK P s n mu q f args K') (hn : NX E A s a n o.dst K' next) : o.wp P a w next Q := by
  unfold Oper.wp
  rw [hrun, Oper.upon_enter]
  unfold callK at hK
  split at hK
  case h_1 => exact hK.elim
  rename_i xs hxs
  obtain ⟨hnd, hdis, r, outs, hret, hK⟩ := hK
  have hmt : ∀ tk ∈ named mu true 0 args, ∀ b, (∃ k, hget s.hp tk = some k ∧ b ∈ F tk) → ¬ O b ∧ b < w.heap.size ∧ (E.w0.heap.size ≤ b ∨ b ∈ E.mine) := fun tk _ b ⟨k, h1, h2⟩ => hR.mine _ _ h1 b h2
  split at hK
  · -- what comes back is owned
    rename_i bk hbk
    obtain ⟨hno, hnos, hK⟩ := hK
    have hFR := hf.2 _ _ _ hK
    let O2 : Nat → Prop := fun b => b < w.heap.size ∧ ∀ tk ∈ named mu true 0 args, ∀ k, hget s.hp tk = some k → b ∉ F tk
    have hO2 : ∀ b, O b → O2 b := fun b hb => ⟨hR.Olt b hb, fun tk _ k hk hin => (hR.mine _ _ hk b hin).1 hb⟩
    obtain ⟨G, g1, g2, g3, g4⟩ := handed_ok hR hO2 hv hxs hnd (fun tk htk k hk b hb => ⟨(hR.mine _ _ hk b hb).2.1, fun tk' htk' k' hk' hb' => hR.apart _ _ _ _ hk hk' (fun h => hdis tk htk (h ▸ htk')) b hb hb'⟩)
    refine (hret w vs O2 G (fun b hb => hb.1) g1 g2 (fun b hb => ?_)).mono ?_
    · obtain ⟨tk, k, h1, h2, h3⟩ := g3 b hb
      exact ⟨fun h => h.2 tk h1 k h2 h3, (hR.mine _ _ h2 b h3).2.1⟩
    rintro e w' ⟨v, O', Fr, Fo, rfl, h1, h2, h3, hr, ho, hnd2, hm2, hkeep⟩
    simp only
    have hr' : V.K w' O r v Fr := K_noImm hno hr
    have ho' : Ks w' O outs vs Fo := Ks_noImm hnos ho
    obtain ⟨Gb, b1, b2, b3⟩ := back_ok hR hkeep hv hxs hbk ho'
    have hlen : (news bk ++ news (mat r n).2).length = bk.length + (mat r n).2.length := by simp [news]
    rw [hlen] at hFR
    obtain ⟨ρ1, m1, m2, m3⟩ := mat_K n ρ A hr' (fun x hx hx' => hFR x hx (by omega))
    generalize hL : bk.length + (mat r n).2.length = L at *
    have hAm : ∀ x, A x → Aext A n L x := fun x h => .inl h
    have hAA : ∀ x, Aext A n (mat r n).2.length x → Aext A n L x := fun x h => h.imp id (fun h => ⟨h.1, by omega⟩)
    have hρ : ∀ x, A x → ρ1 x = ρ x := by
      intro x hx
      refine m1 x ?_
      rcases Nat.lt_or_ge x n with h | h
      · exact .inl h
      · rcases Nat.lt_or_ge x (n + (mat r n).2.length) with h' | h'
        · exact absurd hx (hFR x h (by omega))
        · exact .inr h'
    have hfb : ∀ x, x < E.fb → ρ1 x = E.ρ0 x := fun x hx => (m1 x (by have := hf.1; omega)).trans (hR.ρ0 x hx)
    have hsub : ∀ t' k, hget (hdels s.hp (named mu true 0 args)) t' = some k → t' ∉ named mu true 0 args ∧ hget s.hp t' = some k := by
      intro t' k h
      rw [hget_hdels] at h
      split at h
      · exact absurd h (by simp)
      · exact ⟨‹_›, h⟩
    have hGm : ∀ b ∈ G, ¬ O b ∧ b < w.heap.size ∧ (E.w0.heap.size ≤ b ∨ b ∈ E.mine) := by
      intro b hb
      obtain ⟨tk, k, h4, h5, h6⟩ := g3 b hb
      exact hR.mine _ _ h5 b h6
    have hGF : ∀ t' k, hget (hdels s.hp (named mu true 0 args)) t' = some k → ∀ b ∈ F t', b ∉ G := by
      intro t' k hk b hb hbG
      obtain ⟨h4, h5⟩ := hsub _ _ hk
      obtain ⟨tk, k', h6, h7, h8⟩ := g3 b hbG
      exact hR.apart _ _ _ _ h5 h7 (fun h => h4 (h ▸ h6)) b hb h8
    have hOw : ∀ b, O b → w'.heap[b]? = w.heap[b]? := fun b hb => hkeep.block b (hR.Olt b hb) (fun hG => (hGm b hG).1 hb)
    have hr0 := hR.hpsub (hp0 := hdels s.hp (named mu true 0 args)) (fun t' k hk => (hsub t' k hk).2)
    have hr1 := hr0.world (M := G) (A' := Aext A n L) (O' := O) (ρ' := ρ1) (w' := w') hAm (fun _ h => h) hρ hfb hOw (fun t' k hk b hb => hkeep.block b (hR.mine _ _ (hsub _ _ hk).2 b hb).2.1 (hGF t' k hk b hb)) (fun b hb => Nat.lt_of_lt_of_le (hR.Olt b hb) hkeep.size) (fun b hb => .inl hb) hkeep (fun b hb => (hGm b hb).2.2)
    -- what was handed over is there again
    have hFnew : ∀ b ∈ Fr ++ Fo, ¬ O b ∧ b < w'.heap.size ∧ (E.w0.heap.size ≤ b ∨ b ∈ E.mine) := by
      intro b hb
      obtain ⟨h4, h5, h6⟩ := hm2 b hb
      refine ⟨fun h => h4 (h1 b (hO2 b h)), h5, ?_⟩
      rcases h6 with h6 | h6
      · exact .inl (Nat.le_trans hR.keep.size h6)
      · exact (hGm b h6).2.2
    have hFold : ∀ t' k, hget (hdels s.hp (named mu true 0 args)) t' = some k → ∀ b ∈ Fr ++ Fo, b ∉ F t' := by
      intro t' k hk b hb hin
      rcases (hm2 b hb).2.2 with h6 | h6
      · have := (hR.mine _ _ (hsub _ _ hk).2 b hin).2.1; omega
      · exact hGF t' k hk b hin h6
    have hnd3 := List.nodup_append.1 hnd2
    have hmtA : ∀ x ∈ bk.map (·.1), A x := by
      rw [b3]
      intro x hx
      obtain ⟨k, hk⟩ := g4 x hx
      exact (hR.hp x k hk).1
    obtain ⟨F1, hr2, q1, q2⟩ := R.addL hr1 (b1.cong (fun _ h => h) (fun _ _ => rfl) hAm hρ (fun _ _ => rfl) hmtA) (fun x hx => hAm x (hmtA x hx)) (fun x hx => by rw [b3] at hx; simp only [hget_hdels]; rw [if_pos hx]) (by rw [b3]; exact hnd) (hnd3.2.1.sublist b2)
      (fun b hb => hFnew b (List.mem_append.2 (.inr (b2.subset hb)))) (fun t' k hk b hb => hFold t' k hk b (List.mem_append.2 (.inr (b2.subset hb))))
    obtain ⟨c1, c2, c3⟩ := m3.LB
    have hadd := R.addL hr2 (c1.cong (fun _ h => h) (fun _ _ => rfl) hAA (fun _ _ => rfl) (fun _ _ => rfl) (fun x hx => .inr (c2 x hx))) (fun x hx => .inr ⟨(c2 x hx).1, by have := (c2 x hx).2; omega⟩) (fun x hx => ?_) c3 hnd3.1
      (fun b hb => hFnew b (List.mem_append.2 (.inl hb))) (fun t' k hk b hb hin => ?_)
    · obtain ⟨F2, hr3, q3, q4⟩ := hadd
      have hr4 := R.hpext (hp' := hap s.hp (news bk ++ news (mat r n).2)) hr3 (fun x => ?_)
      · have hr5 := hr4.put hd (v := (mat r n).1) (u := v) (m2.cong (fun _ h => h) (fun _ _ => rfl) hAA (fun _ _ => rfl))
        refine hn _ _ _ v w' hK ?_
        rw [hlen]
        exact ⟨_, _, _, hr5⟩
      · rw [hap_append]
        refine hap_ext _ _ _ (fun y => .inr ?_) x
        refine hap_ext _ _ _ (fun z => ?_) y
        by_cases hz : z ∈ named mu true 0 args
        · left
          simp only [news, List.map_map]
          rw [← b3] at hz
          simpa using hz
        · right
          rw [hget_hdels, if_neg hz]
    · -- new names
      have hxA := hFR x (c2 x hx).1 (by have := (c2 x hx).2; omega)
      cases hg : hget (hap (hdels s.hp (named mu true 0 args)) (news bk)) x with
      | none => rfl
      | some k =>
        rcases hget_news _ _ _ _ hg with h4 | h4
        · exact absurd (hmtA x h4) hxA
        · exact absurd (hR.hp x k (hsub _ _ h4).2).1 hxA
    · rcases q2 _ _ hk b hin with h4 | ⟨k', h4, h5⟩
      · exact hnd3.2.2 b hb b (b2.subset h4) rfl
      · exact hFold t' k' h4 b (List.mem_append.2 (.inl hb)) h5
  · -- what comes back is shared for good
    rename_i bk hbk
    have hFR := hf.2 _ _ _ hK
    let O2 : Nat → Prop := fun b => O b ∨ ∃ tk ∈ named mu false 0 args, ∃ k, hget s.hp tk = some k ∧ b ∈ F tk
    have hO2 : ∀ b, O b → O2 b := fun b hb => .inl hb
    obtain ⟨G, g1, g2, g3, g4⟩ := handed_ok hR hO2 hv hxs hnd (fun tk htk k hk b hb => .inr ⟨tk, htk, k, hk, hb⟩)
    have hGm : ∀ b ∈ G, ¬ O b ∧ b < w.heap.size ∧ (E.w0.heap.size ≤ b ∨ b ∈ E.mine) := by
      intro b hb
      obtain ⟨tk, k, h4, h5, h6⟩ := g3 b hb
      exact hR.mine _ _ h5 b h6
    have hO2lt : ∀ b, O2 b → b < w.heap.size := by
      rintro b (hb | ⟨tk, _, k, h1, h2⟩)
      · exact hR.Olt b hb
      · exact (hR.mine _ _ h1 b h2).2.1
    have hGO2 : ∀ b ∈ G, ¬ O2 b := by
      rintro b hb (h | ⟨tk, h1, k, h2, h3⟩)
      · exact (hGm b hb).1 h
      · obtain ⟨tk', k', h4, h5, h6⟩ := g3 b hb
        exact hR.apart _ _ _ _ h2 h5 (fun h => hdis tk h1 (h ▸ h4)) b h3 h6
    refine (hret w vs O2 G hO2lt g1 g2 (fun b hb => ⟨hGO2 b hb, (hGm b hb).2.1⟩)).mono ?_
    rintro e w' ⟨v, O', Fr, Fo, rfl, h1, h2, h3, hr, ho, hnd2, hm2, hkeep⟩
    simp only
    have hr' : CI w' (fun b => O' b ∨ b ∈ Fr) r.toI v := K_toI (fun b hb => .inl hb) (fun b hb => .inr hb) hr
    have ho' : Ks w' (fun b => O' b ∨ b ∈ Fr) outs vs Fo := ho.cong (fun b hb => .inl hb) (fun _ _ => rfl) (fun _ _ => rfl)
    obtain ⟨Gb, b1, b2, b3⟩ := back_ok hR hkeep hv hxs hbk ho'
    have hlen : ((named mu false 0 args).map (fun t => ((t, none) : Nat × Option Blk)) ++ news bk).length = (named mu false 0 args).length + bk.length := by simp [news]
    rw [hlen] at hFR
    generalize hL : (named mu false 0 args).length + bk.length = L at *
    have hAm : ∀ x, A x → Aext A n L x := fun x h => .inl h
    have hsub : ∀ t' k, hget (hdels s.hp (named mu false 0 args ++ named mu true 0 args)) t' = some k → t' ∉ named mu false 0 args ∧ t' ∉ named mu true 0 args ∧ hget s.hp t' = some k := by
      intro t' k h
      rw [hget_hdels] at h
      split at h
      · exact absurd h (by simp)
      · rename_i hni
        simp only [List.mem_append, not_or] at hni
        exact ⟨hni.1, hni.2, h⟩
    have hGF : ∀ t' k, hget (hdels s.hp (named mu false 0 args ++ named mu true 0 args)) t' = some k → ∀ b ∈ F t', b ∉ G := by
      intro t' k hk b hb hbG
      obtain ⟨_, h4, h5⟩ := hsub _ _ hk
      obtain ⟨tk, k', h6, h7, h8⟩ := g3 b hbG
      exact hR.apart _ _ _ _ h5 h7 (fun h => h4 (h ▸ h6)) b hb h8
    have hOw : ∀ b, O b → w'.heap[b]? = w.heap[b]? := fun b hb => hkeep.block b (hR.Olt b hb) (fun hG => (hGm b hG).1 hb)
    have hr0 := hR.hpsub (hp0 := hdels s.hp (named mu false 0 args ++ named mu true 0 args)) (fun t' k hk => (hsub t' k hk).2.2)
    have hFold : ∀ t' k, hget (hdels s.hp (named mu false 0 args ++ named mu true 0 args)) t' = some k → ∀ b ∈ Fr ++ Fo, b ∉ F t' := by
      intro t' k hk b hb hin
      rcases (hm2 b hb).2.2 with h6 | h6
      · have := (hR.mine _ _ (hsub _ _ hk).2.2 b hin).2.1; omega
      · exact hGF t' k hk b hin h6
    have hFwhere : ∀ b ∈ Fr ++ Fo, E.w0.heap.size ≤ b ∨ b ∈ E.mine := by
      intro b hb
      rcases (hm2 b hb).2.2 with h6 | h6
      · exact .inl (Nat.le_trans hR.keep.size h6)
      · exact (hGm b h6).2.2
    have hnewO : ∀ b, (O' b ∨ b ∈ Fr) → O b ∨ ((E.w0.heap.size ≤ b ∨ b ∈ E.mine) ∧ ∀ t k, hget (hdels s.hp (named mu false 0 args ++ named mu true 0 args)) t = some k → b ∉ F t) := by
      rintro b (hb | hb)
      · rcases h3 b hb with h4 | h4 | h4
        · rcases h4 with h4 | ⟨tk, h5, k, h6, h7⟩
          · exact .inl h4
          · refine .inr ⟨(hR.mine _ _ h6 b h7).2.2, fun t k' hk hin => ?_⟩
            obtain ⟨h8, h9, h10⟩ := hsub _ _ hk
            exact hR.apart _ _ _ _ h6 h10 (fun h => h8 (h ▸ h5)) b h7 hin
        · refine .inr ⟨.inl (Nat.le_trans hR.keep.size h4), fun t k hk hin => ?_⟩
          have := (hR.mine _ _ (hsub _ _ hk).2.2 b hin).2.1; omega
        · exact .inr ⟨(hGm b h4).2.2, fun t k hk hin => hGF t k hk b hin h4⟩
      · exact .inr ⟨hFwhere b (List.mem_append.2 (.inl hb)), fun t k hk hin => hFold t k hk b (List.mem_append.2 (.inl hb)) hin⟩
    have hnd3 := List.nodup_append.1 hnd2
    have hr1 := hr0.world (M := G) (A' := Aext A n L) (O' := fun b => O' b ∨ b ∈ Fr) (ρ' := ρ) (w' := w') hAm (fun b hb => .inl (h1 b (hO2 b hb))) (fun _ _ => rfl) hR.ρ0 hOw (fun t' k hk b hb => hkeep.block b (hR.mine _ _ (hsub _ _ hk).2.2 b hb).2.1 (hGF t' k hk b hb))
      (fun b hb => hb.elim (fun h => h2 b h) (fun h => (hm2 b (List.mem_append.2 (.inl h))).2.1)) hnewO hkeep (fun b hb => (hGm b hb).2.2)
    have hmtA : ∀ x ∈ bk.map (·.1), A x := by
      rw [b3]
      intro x hx
      obtain ⟨k, hk⟩ := g4 x hx
      exact (hR.hp x k hk).1
    obtain ⟨F1, hr2, q1, q2⟩ := R.addL hr1 (b1.cong (fun _ h => h) (fun _ _ => rfl) hAm (fun _ _ => rfl) (fun _ _ => rfl) hmtA) (fun x hx => hAm x (hmtA x hx)) (fun x hx => by rw [b3] at hx; simp only [hget_hdels]; rw [if_pos (by simp [hx])]) (by rw [b3]; exact hnd) (hnd3.2.1.sublist b2)
      (fun b hb => ⟨fun h => h.elim (fun h => (hm2 b (List.mem_append.2 (.inr (b2.subset hb)))).1 h) (fun h => hnd3.2.2 b h b (b2.subset hb) rfl), (hm2 b (List.mem_append.2 (.inr (b2.subset hb)))).2.1, hFwhere b (List.mem_append.2 (.inr (b2.subset hb)))⟩) (fun t' k hk b hb => hFold t' k hk b (List.mem_append.2 (.inr (b2.subset hb))))
    have hr4 := R.hpext (hp' := hap s.hp ((named mu false 0 args).map (fun t => ((t, none) : Nat × Option Blk)) ++ news bk)) hr2 (fun x => ?_)
    · have hr5 := hr4.put hd (v := r.toI) (u := v) (CV.ofCI hr')
      refine hn _ _ _ v w' hK ?_
      rw [hlen]
      exact ⟨_, _, _, hr5⟩
    · rw [hap_append, hap_kills]
      refine hap_ext _ _ _ (fun z => ?_) x
      by_cases hz : z ∈ named mu true 0 args
      · left
        simp only [news, List.map_map]
        rw [← b3] at hz
        simpa using hz
      · right
        simp only [hget_hdels, List.mem_append, hz, or_false]
  · exact hK.elim
theorem run_enter {f : Nat} (h : okCall P f = true) (vs : Array Value) : (callFunc f vs).run P w = .ok (.enter f vs) w := by
  unfold okCall at h
  split at h
  · rename_i fn hfn
    simp only [Bool.and_eq_true, bne_iff_ne, ne_eq] at h
    have h2 : fn.body.isNone = false := by
      cases hb : fn.body with
      | none => rw [hb] at h; exact absurd h.2 (by simp)
      | some c => rfl
    have h3 : (fn.name == "runtime.NumGoroutine") = false := by simpa using h.1
    simp only [callFunc, program, Sem.run_bind, Sem.run, Result.andThen_ok, hfn, h3, Bool.false_eq_true, if_false, h2]
    rfl
  · exact absurd h (by simp)
theorem evs_ok (hR : R E A ρ O F s a w) : ∀ {l : List Operand} {ys : List X}, l.mapM opd = some ys → CVs w O ρ A (ys.map (·.ev s)) (l.map a.eval)
  | [], ys, h => by simp at h; subst h; simp [CVs]
  | x :: l, ys, h => by
    simp only [List.mapM_cons, Option.pure_def, Option.bind_eq_bind, Option.bind_eq_some_iff, Option.some.injEq] at h
    obtain ⟨y, hy, zs, hz, rfl⟩ := h
    simp only [List.map_cons, CVs]
    exact ⟨_, _, rfl, ev_ok hR hy, evs_ok hR hz⟩
theorem s_call (hR : R E A ρ O F s a w) (hd : ∀ k, o.dst = some k → k < E.n) {c : Call} {f : Nat} {m : CM} {ys : List X} {K' : T → Δ → List Nat → Prop} (ho : o.op = .call c) (hc : c.callee = .value (.func f)) (hok : okCall P f = true) (hx : c.args.toList.mapM opd = some ys) (hf : FR E A n K')
    (hK : stepK P s n (.call m f ys) K') (hn : NX E A s a n o.dst K' next) : o.wp P a w next Q := by
  cases m with
  | inl => simp only [stepK] at hK
  | ev mu q =>
    simp only [stepK] at hK
    refine s_callK hR hd (evs_ok hR hx) ?_ hf hK hn
    simp only [execOp, ho, resolve, hc, Act.eval, Deferred.ofValue, Sem.run_bind, Sem.run_pure, Result.andThen_ok, invoke]
    rw [run_enter hok]
    congr 2
    apply Array.ext'
    simp
theorem s_callv (hR : R E A ρ O F s a w) (hd : ∀ k, o.dst = some k → k < E.n) {c : Call} {j : Nat} {m : CM} {ys : List X} {K' : T → Δ → List Nat → Prop} (ho : o.op = .call c) (hc : c.callee = .value (.tmp j)) (hx : c.args.toList.mapM opd = some ys) (hf : FR E A n K')
    (hK : stepK P s n (.callv m (.t j) ys) K') (hn : NX E A s a n o.dst K' next) : o.wp P a w next Q := by
  cases m with
  | inl => simp only [stepK] at hK
  | ev mu q =>
    have hv := ev_ok (x := .tmp j) hR rfl
    simp only [stepK] at hK
    split at hK
    · rename_i g caps he
      rw [he] at hv
      simp only [CV] at hv
      obtain ⟨us, hv, hcs⟩ := hv
      obtain ⟨hok, hK⟩ := hK
      refine s_callK hR hd (vs := c.args.toList.map a.eval ++ us) (CVs_append.2 ⟨_, _, rfl, evs_ok hR hx, hcs⟩) ?_ hf hK hn
      simp only [execOp, ho, resolve, hc, hv, Deferred.ofValue, Sem.run_bind, Sem.run_pure, Result.andThen_ok, invoke]
      rw [run_enter hok]
      congr 2
      apply Array.ext'
      simp
    · exact hK.elim
end
end Go.Proofs.Ytcchmhmbjhgfdaa.V
