/- The machine of trees: its code runs as the model's does. -/
import Derived.Test.YtcchmhmbjhgfdaaVp
namespace Go.Proofs.Ytcchmhmbjhgfdaa.V
open Go
set_option linter.unusedVariables false
set_option linter.unusedSimpArgs false
def wop (P : Program) (s : St) (po : PO) (k : St → Prop) : Prop :=
  match po.g with
  | none => stepK P s s.nx po.pi fun v δ rd => k { s.app po.d v δ with nx := s.nx + δ.length }
  | some (j, want) => match tget s.tm j with
    | .b x => if x = want then stepK P s s.nx po.pi fun v δ rd => k { s.app po.d v δ with nx := s.nx + δ.length } else k { s with tm := tput s.tm po.d .un }
    | .un => k { s with tm := tput s.tm po.d .un }
    | _ => False
def wops (P : Program) : List PO → St → (St → Prop) → Prop
  | [], s, k => k s
  | po :: r, s, k => wop P s po fun s' => wops P r s' k
/-- What a state says, between steps. -/
def RelN (E : Env) (s : St) (a : Act) (w : World) : Prop := Rel E (· < s.nx) s a w ∧ E.fb ≤ s.nx
/-- A state says no more than another one. -/
def Wk (s s' : St) : Prop := ∀ E a w, RelN E s a w → RelN E s' a w
theorem Wk.refl (s : St) : Wk s s := fun _ _ _ h => h
theorem Wk.trans {s s' s'' : St} (h : Wk s s') (h' : Wk s' s'') : Wk s s'' := fun E a w r => h' E a w (h E a w r)
section
variable {P : Program} {E : Env} {s : St} {a : Act} {w w' : World} {o : Oper} {n : Nat} {Q : Exit → Act → World → Prop}
theorem RelN.un (h : RelN E s a w) {d : Option Nat} (hd : ∀ k, d = some k → k < E.n) : RelN E { s with tm := tput s.tm d .un } (a.put d undef) w := by
  obtain ⟨⟨ρ, O, F, hR⟩, hfb⟩ := h
  exact ⟨⟨ρ, O, F, hR.put hd (v := .un) (u := undef) (by simp [CV, CI])⟩, hfb⟩
theorem yielded_eq {ops : Array Oper} {tmps : Array Value} {j d : Nat} (h : (ops[j]?).bind (·.dst) = some d) : yielded ops tmps j = match tmps.getD d undef with | .bool b => some b | _ => none := by
  unfold yielded
  rw [h]
  simp only [Option.bind_some, Array.getD_eq_getD_getElem?]
  cases h2 : tmps[d]? with
  | none => rfl
  | some v => cases v <;> rfl
theorem wop_sound {M : List (Nat × CM)} {dr : Bool} {ops : Array Oper} {po : PO} {k : St → Prop} {next : Act → World → Prop} (hc : compO P M E.n dr ops o = some po) (hR : RelN E s a w) (hK : wop P s po k) (hn : ∀ s' a' w', k s' → RelN E s' a' w' → next a' w') :
    if Region.wanted o (yielded ops a.tmps) then o.wp P a w next Q else next (a.put o.dst undef) w := by
  simp only [compO] at hc
  split at hc
  case h_2 => exact absurd hc (by simp)
  rename_i g hg
  split at hc
  case isFalse => exact absurd hc (by simp)
  rename_i hdst
  simp only [Option.some.injEq] at hc
  subst hc
  have hd : ∀ k, o.dst = some k → k < E.n := by
    intro k hk
    rw [hk] at hdst
    simpa using hdst
  have run : stepK P s s.nx (compI P M o.op) (fun v δ rd => k { s.app o.dst v δ with nx := s.nx + δ.length }) → o.wp P a w next Q := by
    intro h
    obtain ⟨⟨ρ, O, F, hR⟩, hfb⟩ := hR
    refine opI_sound rfl hR hd ⟨hfb, fun v δ rd _ t h1 h2 h3 => by omega⟩ h ?_
    intro v δ rd u w' hk ⟨ρ', O', F', hr⟩
    refine hn _ _ _ hk ⟨⟨ρ', O', F', ?_⟩, by simp only [St.app]; omega⟩
    have h2 := hr.monoA (A' := fun t => t < s.nx + δ.length) (by rintro t (h | h) <;> omega)
    exact ⟨h2.size, h2.defers, h2.fb, h2.ρ0, h2.O0, h2.Olt, h2.Onew, h2.tm, h2.hp, h2.nodup, h2.apart, h2.mine, h2.keep⟩
  simp only [wop] at hK
  cases hgd : o.guard with
  | none =>
    simp only [grd, hgd, Option.some.injEq] at hg
    subst hg
    simp only [Region.wanted, hgd, if_true]
    exact run hK
  | some jw =>
    obtain ⟨j, want⟩ := jw
    simp only [grd, hgd] at hg
    split at hg
    case h_2 => exact absurd hg (by simp)
    rename_i d hd2
    simp only [Option.some.injEq] at hg
    subst hg
    simp only at hK
    simp only [Region.wanted, hgd, yielded_eq hd2]
    obtain ⟨⟨ρ, O, F, hRR⟩, hfb⟩ := id hR
    have hv := hRR.tm d
    split at hK
    · rename_i x hx
      rw [hx] at hv
      simp only [CV, CI] at hv
      rw [hv]
      split at hK
      · rename_i he
        subst he
        simp only [beq_self_eq_true, if_true]
        exact run hK
      · rename_i he
        rw [if_neg (by simpa using he)]
        exact hn _ _ _ hK (hR.un hd)
    · rename_i hx
      rw [hx] at hv
      simp only [CV, CI] at hv
      rw [hv]
      rw [if_neg (by simp [undef])]
      exact hn _ _ _ hK (hR.un hd)
    · exact hK.elim
theorem wops_sound {M : List (Nat × CM)} {dr : Bool} {ops : Array Oper} : ∀ {l : List Oper} {i : Nat} {pos : List PO} {s : St} {a : Act} {w : World} {k : St → Prop}, ops.toList.drop i = l → l.mapM (compO P M E.n dr ops) = some pos → wops P pos s k → RelN E s a w → (∀ s' a' w', k s' → RelN E s' a' w' → Q .normal a' w') →
    wpOps P ops Q (List.range' i l.length) a w
  | [], i, pos, s, a, w, k, hl, hm, hK, hR, hq => by
    simp at hm
    subst hm
    simp only [List.length_nil, List.range'_zero, wpOps]
    exact hq _ _ _ hK hR
  | o :: l, i, pos, s, a, w, k, hl, hm, hK, hR, hq => by
    simp only [List.mapM_cons, Option.pure_def, Option.bind_eq_bind, Option.bind_eq_some_iff, Option.some.injEq] at hm
    obtain ⟨po, hpo, pos', hm', rfl⟩ := hm
    have ho : ops[i]? = some o := by
      have := congrArg (·[0]?) hl
      simpa using this
    have hl' : ops.toList.drop (i + 1) = l := by
      rw [← List.tail_drop, hl]; rfl
    simp only [List.length_cons, List.range'_succ, wpOps, ho]
    have := wop_sound (Q := Q) (next := wpOps P ops Q (List.range' (i + 1) l.length)) hpo hR hK (fun s' a' w' hk hr => wops_sound hl' hm' hk hr hq)
    split at this
    · rename_i h
      rw [if_pos h]
      exact .inl this
    · rename_i h
      rw [if_neg h]
      exact this
theorem region_sound {M : List (Nat × CM)} {dr : Bool} {id : Nat} {ops : Array Oper} {pos : List PO} {k : St → Prop} (hm : ops.toList.mapM (compO P M E.n dr ops) = some pos) (hK : wops P pos s k) (hR : RelN E s a w) (hq : ∀ s' a' w', k s' → RelN E s' a' w' → Q .normal a' w') : (Code.region id ops false).wp P Q a w := by
  refine wp_region ?_
  rw [List.range_eq_range']
  have := wops_sound (ops := ops) (l := ops.toList) (i := 0) rfl hm hK hR hq
  simpa using this
end
end Go.Proofs.Ytcchmhmbjhgfdaa.V
