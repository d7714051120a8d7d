/- The machine of trees: code, loops. -/
import Derived.Test.YtcchmhmbjhgfdaaVq2
namespace Go.Proofs.Ytcchmhmbjhgfdaa.V
open Go
set_option linter.unusedVariables false
set_option linter.unusedSimpArgs false
def thn (k : St → Prop) (Q : Exit → St → Prop) : Exit → St → Prop
  | .normal, s => k s
  | e, s => Q e s
def inb (id : Nat) (Q : Exit → St → Prop) : Exit → St → Prop
  | .exit i, s => if i = id then Q .normal s else Q (.exit i) s
  | e, s => Q e s
/-- What holds where the code has come to. -/
def post (E : Env) (Q : Exit → St → Prop) : Exit → Act → World → Prop := fun e a w => ∃ s, Q e s ∧ RelN E s a w
/-- A loop's round is about to begin. -/
def LoopIn (P : Program) (c : Code) (Q : Exit → Act → World → Prop) (a : Act) (w : World) : Prop :=
  ∀ (b : Frame) (k : List Item) (cs : List Frame), ∃ e a' w', Q e a' w' ∧ Arrives P (lone (b.at a (.code c :: .inLoop c :: k)) cs w) b k cs e a' w'
def W (P : Program) (M : List (Nat × CM)) (n : Nat) : PC → St → (Exit → St → Prop) → Prop
  | .skip, s, Q => Q .normal s
  | .reg ops false, s, Q => wops P ops s (Q .normal)
  | .reg ops true, s, Q => wdraw P ops s (Q .normal)
  | .seq a b, s, Q => W P M n a s (thn (fun s' => W P M n b s' Q) Q)
  | .cond x a b, s, Q => match x.ev s with
    | .b t => if t = true then W P M n a s Q else W P M n b s Q
    | _ => False
  | .block id b, s, Q => W P M n b s (inb id Q)
  | .loop b, s, Q => ∀ (E : Env) (c : Code) (a : Act) (w : World), E.n = n → comp P M n c = some b → RelN E s a w → LoopIn P c (post E Q) a w
  | .exit id, s, Q => Q (.exit id) s
  | .ret, s, Q => Q .ret s
section
variable {P : Program} {E : Env} {M : List (Nat × CM)} {n : Nat}
theorem W_sound : ∀ {c : Code} {pc : PC} {s : St} {Q : Exit → St → Prop} {a : Act} {w : World}, comp P M n c = some pc → W P M n pc s Q → E.n = n → RelN E s a w → c.wp P (post E Q) a w
  | .skip, pc, s, Q, a, w, hc, h, hn, hR => by
    simp only [comp, Option.some.injEq] at hc
    subst hc
    exact wp_skip ⟨s, h, hR⟩
  | .region id ops draw, pc, s, Q, a, w, hc, h, hn, hR => by
    simp only [comp, Option.bind_eq_bind, Option.bind_eq_some_iff] at hc
    obtain ⟨pos, hp, hc⟩ := hc
    cases draw with
    | false =>
      simp only [Bool.false_eq_true, if_false, Option.some.injEq] at hc
      subst hc
      subst hn
      exact region_sound hp h hR (fun s' a' w' hk hr => ⟨s', hk, hr⟩)
    | true =>
      simp only [if_true] at hc
      split at hc
      · rename_i hok
        simp only [Option.some.injEq] at hc
        subst hc
        subst hn
        exact draw_sound hp hok h hR (fun s' a' w' hk hr => ⟨s', hk, hr⟩)
      · exact absurd hc (by simp)
  | .seq x y, pc, s, Q, a, w, hc, h, hn, hR => by
    simp only [comp, Option.bind_eq_bind, Option.bind_eq_some_iff, Option.some.injEq] at hc
    obtain ⟨px, hx, py, hy, rfl⟩ := hc
    refine wp_seq (wp_mono (W_sound hx h hn hR) ?_)
    rintro e a' w' ⟨s', hq, hr⟩
    cases e with
    | normal => exact W_sound hy hq hn hr
    | _ => exact ⟨s', hq, hr⟩
  | .cond x y z, pc, s, Q, a, w, hc, h, hn, hR => by
    simp only [comp, Option.bind_eq_bind, Option.bind_eq_some_iff, Option.some.injEq] at hc
    obtain ⟨x', hx, py, hy, pz, hz, rfl⟩ := hc
    obtain ⟨⟨ρ, O, F, hRR⟩, _⟩ := id hR
    have hv := ev_ok hRR hx
    simp only [W] at h
    split at h
    · rename_i t ht
      rw [ht] at hv
      simp only [CV, CI] at hv
      refine wp_cond hv ?_
      cases t
      · simp only [Bool.false_eq_true, if_false] at h ⊢
        exact W_sound hz h hn hR
      · simp only [if_true] at h ⊢
        exact W_sound hy h hn hR
    · exact h.elim
  | .block id b, pc, s, Q, a, w, hc, h, hn, hR => by
    simp only [comp, Option.bind_eq_bind, Option.bind_eq_some_iff, Option.some.injEq] at hc
    obtain ⟨pb, hb, rfl⟩ := hc
    refine wp_block (wp_mono (W_sound hb h hn hR) ?_)
    rintro e a' w' ⟨s', hq, hr⟩
    cases e with
    | exit i =>
      simp only [inb] at hq
      simp only [Exit.inBlock]
      split at hq
      · rename_i h; rw [if_pos h]; exact ⟨s', hq, hr⟩
      · rename_i h; rw [if_neg h]; exact ⟨s', hq, hr⟩
    | _ => exact ⟨s', hq, hr⟩
  | .loop c, pc, s, Q, a, w, hc, h, hn, hR => by
    simp only [comp, Option.bind_eq_bind, Option.bind_eq_some_iff, Option.some.injEq] at hc
    obtain ⟨pb, hb, rfl⟩ := hc
    simp only [W] at h
    intro b k cs
    obtain ⟨e, a', w', hq, harr⟩ := h E c a w hn hb hR b k cs
    exact ⟨e, a', w', hq, .of_steps (.one step_loop) harr⟩
  | .rangeFunc f ps x b, pc, s, Q, a, w, hc, h, hn, hR => by simp [comp] at hc
  | .exit id, pc, s, Q, a, w, hc, h, hn, hR => by
    simp only [comp, Option.some.injEq] at hc
    subst hc
    exact wp_exit ⟨s, h, hR⟩
  | .scope b, pc, s, Q, a, w, hc, h, hn, hR => by simp [comp] at hc
  | .label l, pc, s, Q, a, w, hc, h, hn, hR => by simp [comp] at hc
  | .goto l, pc, s, Q, a, w, hc, h, hn, hR => by simp [comp] at hc
  | .ret, pc, s, Q, a, w, hc, h, hn, hR => by
    simp only [comp, Option.some.injEq] at hc
    subst hc
    exact wp_ret ⟨s, h, hR⟩
  | .refuse _, pc, s, Q, a, w, hc, h, hn, hR => by simp [comp] at hc
/-- A loop, one round of it. -/
theorem W_loop {b : PC} {s : St} {Q : Exit → St → Prop} (h : W P M n b s (thn (fun s' => ∃ s2, Wk s' s2 ∧ W P M n (.loop b) s2 Q) Q)) : W P M n (.loop b) s Q := by
  simp only [W]
  intro E c a w hn hc hR bf k cs
  obtain ⟨e, a1, w1, ⟨s', hq, hr⟩, harr⟩ := W_sound hc h hn hR bf (.inLoop c :: k) cs
  cases e with
  | normal =>
    simp only [thn] at hq
    obtain ⟨s2, hwk, hl⟩ := hq
    simp only [W] at hl
    obtain ⟨e2, a2, w2, hq2, harr2⟩ := hl E c a1 w1 hn hc (hwk E a1 w1 hr) bf k cs
    exact ⟨e2, a2, w2, hq2, .of_steps (Steps.trans harr (.one step_inLoop)) harr2⟩
  | exit id => exact ⟨_, a1, w1, ⟨s', hq, hr⟩, .pass (x := .inLoop c) rfl (fun _ _ => .inl (by simp)) harr⟩
  | goto l => exact ⟨_, a1, w1, ⟨s', hq, hr⟩, .pass (x := .inLoop c) rfl (fun _ _ => .inl (by simp)) harr⟩
  | ret => exact ⟨_, a1, w1, ⟨s', hq, hr⟩, .pass (x := .inLoop c) rfl (fun _ _ => .inl (by simp)) harr⟩
  | panic ch => exact ⟨_, a1, w1, ⟨s', hq, hr⟩, .pass (x := .inLoop c) rfl (fun _ _ => .inl (by simp)) harr⟩
  | outgrown => exact ⟨_, a1, w1, ⟨s', hq, hr⟩, .pass (x := .inLoop c) rfl (fun _ _ => .inl (by simp)) harr⟩
/-- A state that says less will do. -/
theorem W_wk0 {pc : PC} {s s' : St} {Q : Exit → St → Prop} : Wk s s' → W P M n (.loop pc) s' Q → W P M n (.loop pc) s Q := by
  intro hw h
  simp only [W] at h ⊢
  exact fun E c a w hn hc hR => h E c a w hn hc (hw E a w hR)
end
end Go.Proofs.Ytcchmhmbjhgfdaa.V
