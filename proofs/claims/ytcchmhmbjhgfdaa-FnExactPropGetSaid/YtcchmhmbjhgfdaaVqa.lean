/- A step looks only at its slots and at the blocks that it names. -/
import Derived.Test.YtcchmhmbjhgfdaaVq
namespace Go.Proofs.Ytcchmhmbjhgfdaa.V
open Go
set_option linter.unusedVariables false
set_option linter.unusedSimpArgs false
section
variable {P : Program} {s s' : St}
theorem ev_loc {x : X} (h : ∀ j ∈ x.slots, tget s'.tm j = tget s.tm j) : x.ev s' = x.ev s := by
  cases x with
  | t j => exact h j (by simp [X.slots])
  | c v => rfl
theorem evs_loc {l : List X} (h : ∀ j ∈ l.flatMap X.slots, tget s'.tm j = tget s.tm j) : l.map (·.ev s') = l.map (·.ev s) :=
  List.map_congr_left fun x hx => ev_loc fun j hj => h j (List.mem_flatMap.2 ⟨x, hx, hj⟩)
theorem evo_loc {o : Option X} (h : ∀ j ∈ oslots o, tget s'.tm j = tget s.tm j) : o.map (·.ev s') = o.map (·.ev s) := by
  cases o with
  | none => rfl
  | some x => simp only [Option.map_some]; rw [ev_loc h]
theorem parts_loc : ∀ {ps : List (Nat × Nat × X)} {zs : List T}, (∀ j ∈ ps.flatMap (fun p => p.2.2.slots), tget s'.tm j = tget s.tm j) → parts s' zs ps = parts s zs ps
  | [], zs, h => rfl
  | (off, n, x) :: ps, zs, h => by
    have e : x.ev s' = x.ev s := ev_loc fun j hj => h j (by simp [hj])
    simp only [parts, e]
    rw [parts_loc fun j hj => h j (by simp only [List.flatMap_cons, List.mem_append]; exact .inr hj)]
mutual
theorem argI_loc : ∀ {t : T}, (∀ x ∈ t.names, hget s'.hp x = hget s.hp x) → argI s' t = argI s t
  | .ref t o n, h => by simp only [argI]; rw [h t (by simp [T.names])]
  | .ptr t r o, h => by simp only [argI]; rw [h t (by simp [T.names])]
  | .agg cs, h => by simp only [argI]; rw [argIs_loc (by simpa only [T.names] using h)]
  | .fn f cs, h => by simp only [argI]; rw [argIs_loc (by simpa only [T.names] using h)]
  | .ifc t x, h => by simp only [argI]; rw [argI_loc (by simpa only [T.names] using h)]
  | .nl, h => by simp only [argI]
  | .tup _, h => by simp only [argI]
  | .mp _, h => by simp only [argI]
  | .un, h => by simp only [argI]
  | .dead, h => by simp only [argI]
  | .b _, h => by simp only [argI]
  | .i _ _, h => by simp only [argI]
  | .s _, h => by simp only [argI]
  | .imm _, h => by simp only [argI]
  | .own _ _, h => by simp only [argI]
  | .bx _, h => by simp only [argI]
  | .np, h => by simp only [argI]
  | .pim _, h => by simp only [argI]
  | .nif, h => by simp only [argI]
  | .nfn, h => by simp only [argI]
  | .nmp, h => by simp only [argI]
theorem argIs_loc : ∀ {ts : List T}, (∀ x ∈ namess ts, hget s'.hp x = hget s.hp x) → argIs s' ts = argIs s ts
  | [], h => by simp only [argIs]
  | t :: ts, h => by
    simp only [namess, List.mem_append] at h
    simp only [argIs]
    rw [argI_loc fun x hx => h x (.inl hx), argIs_loc fun x hx => h x (.inr hx)]
end
theorem handed1_loc : ∀ {t : T}, (∀ x ∈ t.names, hget s'.hp x = hget s.hp x) → handed1 s' t = handed1 s t := by
  intro t h
  unfold handed1
  split
  · rename_i t m; rw [h t (by simp [T.names])]
  · rename_i t; rw [h t (by simp [T.names])]
  · rfl
theorem handedCs_loc : ∀ {cs : List T}, (∀ x ∈ namess cs, hget s'.hp x = hget s.hp x) → handedCs s' cs = handedCs s cs
  | [], h => rfl
  | c :: cs, h => by
    simp only [namess, List.mem_append] at h
    simp only [handedCs]
    rw [handed1_loc fun x hx => h x (.inl hx), handedCs_loc fun x hx => h x (.inr hx)]
theorem handedA_loc {t : T} (h : ∀ x ∈ t.names, hget s'.hp x = hget s.hp x) : handedA s' t = handedA s t := by
  cases t <;> first
    | (simp only [handedA]; exact handed1_loc h)
    | skip
  simp only [handedA]
  rw [handedCs_loc (by simpa only [T.names] using h)]
theorem handed_loc {mu : List Nat} : ∀ {as : List T} {j : Nat}, (∀ x ∈ named mu true j as, hget s'.hp x = hget s.hp x) → (∀ x ∈ named mu false j as, hget s'.hp x = hget s.hp x) → handed s' mu j as = handed s mu j as
  | [], j, h, h' => rfl
  | a :: as, j, h, h' => by
    simp only [named, List.mem_append] at h h'
    simp only [handed]
    rw [handed_loc (fun x hx => h x (.inr hx)) (fun x hx => h' x (.inr hx))]
    by_cases hc : mu.contains j = true
    · rw [if_pos hc, if_pos hc, handedA_loc fun x hx => h x (.inl (by rw [if_pos hc]; exact hx))]
    · rw [if_neg hc, if_neg hc, argI_loc fun x hx => h' x (.inl (by rw [if_pos (by simpa using hc)]; exact hx))]
theorem rowsAt_loc {t : T} {rows : List (List T)} {ts : List Nat} (h : rowsAt s t = some (rows, ts)) (hh : ∀ x ∈ ts, hget s'.hp x = hget s.hp x) : rowsAt s' t = some (rows, ts) := by
  rw [← h]
  cases t <;> simp only [rowsAt] at h ⊢
  rename_i t o n
  split at h
  · rename_i sz rws hg
    split at h
    · rename_i hc
      simp only [Option.some.injEq, Prod.mk.injEq] at h
      rw [hh t (by rw [← h.2]; simp), hg]
    · exact absurd h (by simp)
  · exact absurd h (by simp)
/-- What a step does is what it does in every state that shows it the same. -/
def Loc (P : Program) (s : St) (n : Nat) (pi : PI) (v : T) (δ : Δ) (rd : List Nat) : Prop :=
  ∀ s' : St, (∀ j ∈ pi.slots, tget s'.tm j = tget s.tm j) → (∀ t ∈ rd, hget s'.hp t = hget s.hp t) → stepK P s' n pi fun v' δ' rd' => v' = v ∧ δ' = δ ∧ rd' = rd
theorem bndLo_loc {lo : Option T} {h : Nat} {K : Nat → Nat → Prop} (hb : bndLo lo h K) : ∃ a b, K a b ∧ ∀ K' : Nat → Nat → Prop, K' a b → bndLo lo h K' := by
  unfold bndLo at hb
  split at hb
  · exact ⟨_, _, hb, fun K' h => h⟩
  · exact ⟨_, _, hb.2, fun K' h => ⟨hb.1, h⟩⟩
  · exact hb.elim
theorem bnd_loc {len : Nat} {lo hi : Option T} {K : Nat → Nat → Prop} (hb : bnd len lo hi K) : ∃ a b, K a b ∧ ∀ K' : Nat → Nat → Prop, K' a b → bnd len lo hi K' := by
  unfold bnd at hb
  split at hb
  · obtain ⟨a, b, h1, h2⟩ := bndLo_loc hb
    exact ⟨a, b, h1, fun K' h => h2 K' h⟩
  · obtain ⟨a, b, h1, h2⟩ := bndLo_loc hb.2
    exact ⟨a, b, h1, fun K' h => ⟨hb.1, h2 K' h⟩⟩
  · exact hb.elim
theorem binK_loc {op : BinOp} {x y : T} {K : T → Prop} (hb : binK op x y K) : ∃ v, K v ∧ ∀ K' : T → Prop, K' v → binK op x y K' := by
  unfold binK at hb
  split at hb
  · obtain ⟨e, hb⟩ := hb
    subst e
    split at hb <;> first
      | exact hb.elim
      | exact ⟨_, hb.2, fun K' h => by simp only [binK]; exact ⟨trivial, hb.1, h⟩⟩
      | exact ⟨_, hb, fun K' h => by simp only [binK]; exact ⟨trivial, h⟩⟩
  · split at hb <;> first
      | exact hb.elim
      | exact ⟨_, hb.2, fun K' h => by simp only [binK]; exact ⟨hb.1, h⟩⟩
      | exact ⟨_, hb, fun K' h => by simp only [binK]; exact h⟩
  · exact hb.elim
theorem beqK_loc {op : BinOp} {x y : T} {K : T → Prop} (hb : beqK op x y K) : ∃ v, K v ∧ ∀ K' : T → Prop, K' v → beqK op x y K' := by
  unfold beqK at hb
  split at hb
  · split at hb <;> first
      | exact hb.elim
      | exact ⟨_, hb, fun K' h => by simp only [beqK]; exact h⟩
  · exact hb.elim
theorem peqK_loc {op : BinOp} {x y : T} {K : T → Prop} (hb : peqK op x y K) : ∃ v, K v ∧ ∀ K' : T → Prop, K' v → peqK op x y K' := by
  unfold peqK at hb
  split at hb
  · rename_i p q h1 h2
    obtain ⟨h3, hb⟩ := hb
    split at hb <;> first
      | exact hb.elim
      | exact ⟨_, hb, fun K' h => by simp only [peqK, h1, h2]; exact ⟨h3, h⟩⟩
  · exact hb.elim
theorem callK_loc {n : Nat} {mu : List Nat} {q : RK} {f : Nat} {args : List T} {K : T → Δ → List Nat → Prop} (h : callK P s n mu q f args K) :
    ∃ v δ rd, K v δ rd ∧ ∀ s' : St, (∀ t ∈ rd, hget s'.hp t = hget s.hp t) → ∀ K' : T → Δ → List Nat → Prop, K' v δ rd → callK P s' n mu q f args K' := by
  unfold callK at h
  split at h
  · exact h.elim
  · rename_i xs hx
    obtain ⟨h1, h2, r, outs, hr, h3⟩ := h
    have hnd : ∀ s' : St, (∀ t ∈ named mu true 0 args ++ named mu false 0 args, hget s'.hp t = hget s.hp t) → handed s' mu 0 args = some xs := by
      intro s' hs
      rw [handed_loc (fun x hx => hs x (by simp [hx])) (fun x hx => hs x (by simp [hx])), hx]
    split at h3
    · rename_i bk hb
      refine ⟨_, _, _, h3.2.2, fun s' hs K' hk => ?_⟩
      unfold callK
      rw [hnd s' hs]
      refine ⟨h1, h2, r, outs, hr, ?_⟩
      rw [hb]
      exact ⟨h3.1, h3.2.1, hk⟩
    · rename_i bk hb
      refine ⟨_, _, _, h3, fun s' hs K' hk => ?_⟩
      unfold callK
      rw [hnd s' hs]
      refine ⟨h1, h2, r, outs, hr, ?_⟩
      rw [hb]
      exact hk
    · exact h3.elim
theorem step_loc {n : Nat} {pi : PI} {K : T → Δ → List Nat → Prop} (h : stepK P s n pi K) :
    ∃ v δ rd, K v δ rd ∧ ∀ s' : St, (∀ j ∈ pi.slots, tget s'.tm j = tget s.tm j) → (∀ t ∈ rd, hget s'.hp t = hget s.hp t) → ∀ K' : T → Δ → List Nat → Prop, K' v δ rd → stepK P s' n pi K' := by
  cases pi with
  | mv x =>
    simp only [stepK] at h
    refine ⟨_, _, _, h, fun s' hs hh K' hk => ?_⟩
    simp only [stepK]; rw [ev_loc hs]; exact hk
  | pick c a b =>
    simp only [stepK] at h
    split at h
    case h_2 => exact h.elim
    rename_i x hx
    have e : ∀ s' : St, (∀ j ∈ (PI.pick c a b).slots, tget s'.tm j = tget s.tm j) → c.ev s' = .b x ∧ a.ev s' = a.ev s ∧ b.ev s' = b.ev s := fun s' hs =>
      ⟨by rw [ev_loc fun j hj => hs j (by simp [PI.slots, hj])]; exact hx, ev_loc fun j hj => hs j (by simp [PI.slots, hj]), ev_loc fun j hj => hs j (by simp [PI.slots, hj])⟩
    split at h
    · rename_i hc
      refine ⟨_, _, _, h, fun s' hs hh K' hk => ?_⟩
      obtain ⟨e1, e2, e3⟩ := e s' hs
      simp only [stepK, e1, e2, e3, if_pos hc]; exact hk
    · rename_i hc
      refine ⟨_, _, _, h, fun s' hs hh K' hk => ?_⟩
      obtain ⟨e1, e2, e3⟩ := e s' hs
      simp only [stepK, e1, e2, e3, if_neg hc]; exact hk
  | alloc zs =>
    simp only [stepK] at h
    exact ⟨_, _, _, h, fun s' hs hh K' hk => by simp only [stepK]; exact hk⟩
  | box sz x =>
    simp only [stepK] at h
    refine ⟨_, _, _, h.2.2, fun s' hs hh K' hk => ?_⟩
    simp only [stepK]; rw [ev_loc hs]; exact ⟨h.1, h.2.1, hk⟩
  | build zs ps =>
    simp only [stepK] at h
    split at h
    case h_2 => exact h.elim
    rename_i cs hc
    refine ⟨_, _, _, h, fun s' hs hh K' hk => ?_⟩
    simp only [stepK]; rw [parts_loc hs, hc]; exact hk
  | mksl sz ps =>
    simp only [stepK] at h
    refine ⟨_, _, _, h.2, fun s' hs hh K' hk => ?_⟩
    have e : ∀ x ∈ ps, x.ev s' = x.ev s := fun x hx => ev_loc fun j hj => hs j (List.mem_flatMap.2 ⟨x, hx, hj⟩)
    simp only [stepK]
    refine ⟨fun x hx => by rw [e x hx]; exact h.1 x hx, ?_⟩
    rw [List.map_congr_left (g := fun x => (x.ev s).cells) fun x hx => by rw [e x hx]]
    exact hk
  | load m x =>
    simp only [stepK] at h
    split at h
    · rename_i t r o hx
      split at h
      case h_2 => exact h.elim
      rename_i sz rows hg
      split at h
      case h_2 => exact h.elim
      rename_i row hrow
      obtain ⟨h1, h⟩ := h
      cases m with
      | some k =>
        refine ⟨_, _, _, h, fun s' hs hh K' hk => ?_⟩
        simp only [stepK]; rw [ev_loc hs, hx]; simp only []; rw [hh t (by simp), hg]; simp only []; rw [hrow]
        exact ⟨h1, hk⟩
      | none =>
        simp only [] at h
        split at h
        case h_2 => exact h.elim
        rename_i v hv
        refine ⟨_, _, _, h, fun s' hs hh K' hk => ?_⟩
        simp only [stepK]; rw [ev_loc hs, hx]; simp only []; rw [hh t (by simp), hg]; simp only []; rw [hrow]
        refine ⟨h1, ?_⟩
        simp only [hv]; exact hk
    · rename_i cs hx
      obtain ⟨h1, h⟩ := h
      split at h
      · refine ⟨_, _, _, h, fun s' hs hh K' hk => ?_⟩
        simp only [stepK]; rw [ev_loc hs, hx]; exact ⟨h1, hk⟩
      · split at h
        case h_2 => exact h.elim
        refine ⟨_, _, _, h, fun s' hs hh K' hk => ?_⟩
        simp only [stepK]; rw [ev_loc hs, hx]; exact ⟨h1, hk⟩
    · exact h.elim
  | store m x v =>
    simp only [stepK] at h
    split at h
    case h_2 => exact h.elim
    rename_i t r o hx
    split at h
    case h_2 => exact h.elim
    rename_i sz rows hg
    split at h
    case h_2 => exact h.elim
    rename_i row hrow
    refine ⟨_, _, _, h.2.2.2, fun s' hs hh K' hk => ?_⟩
    have e1 : x.ev s' = x.ev s := ev_loc fun j hj => hs j (by simp [PI.slots, hj])
    have e2 : v.ev s' = v.ev s := ev_loc fun j hj => hs j (by simp [PI.slots, hj])
    simp only [stepK]; rw [e1, e2, hx]; simp only []; rw [hh t (by simp), hg]; simp only []; rw [hrow]
    exact ⟨h.1, h.2.1, h.2.2.1, hk⟩
  | fa off x =>
    simp only [stepK] at h
    split at h
    · rename_i hx
      refine ⟨_, _, _, h, fun s' hs hh K' hk => ?_⟩
      simp only [stepK]; rw [ev_loc hs, hx]; exact hk
    · rename_i hx
      refine ⟨_, _, _, h.2, fun s' hs hh K' hk => ?_⟩
      simp only [stepK]; rw [ev_loc hs, hx]; exact ⟨h.1, hk⟩
    · exact h.elim
  | fld off m x =>
    simp only [stepK] at h
    split at h
    case h_2 => exact h.elim
    rename_i cs hx
    obtain ⟨h1, h⟩ := h
    split at h
    · refine ⟨_, _, _, h, fun s' hs hh K' hk => ?_⟩
      simp only [stepK]; rw [ev_loc hs, hx]; exact ⟨h1, hk⟩
    · split at h
      case h_2 => exact h.elim
      rename_i c l hcl
      refine ⟨_, _, _, h, fun s' hs hh K' hk => ?_⟩
      simp only [stepK]; rw [ev_loc hs, hx]; refine ⟨h1, ?_⟩
      simp only [hcl]; exact hk
  | ia sz x i =>
    simp only [stepK] at h
    have e : ∀ s' : St, (∀ j ∈ (PI.ia sz x i).slots, tget s'.tm j = tget s.tm j) → x.ev s' = x.ev s ∧ i.ev s' = i.ev s := fun s' hs =>
      ⟨ev_loc fun j hj => hs j (by simp [PI.slots, hj]), ev_loc fun j hj => hs j (by simp [PI.slots, hj])⟩
    split at h
    · rename_i t o len kk k hx hi
      obtain ⟨h1, h⟩ := h
      split at h
      case h_2 => exact h.elim
      rename_i sz' rows hg
      refine ⟨_, _, _, h.2, fun s' hs hh K' hk => ?_⟩
      simp only [stepK]; rw [(e s' hs).1, (e s' hs).2, hx, hi]; refine ⟨h1, ?_⟩; rw [hh t (by simp), hg]
      exact ⟨h.1, hk⟩
    · rename_i rows kk k hx hi
      obtain ⟨h1, h⟩ := h
      split at h
      case h_2 => exact h.elim
      rename_i row hrow
      refine ⟨_, _, _, h.2, fun s' hs hh K' hk => ?_⟩
      simp only [stepK]; rw [(e s' hs).1, (e s' hs).2, hx, hi]; refine ⟨h1, ?_⟩; rw [hrow]
      exact ⟨h.1, hk⟩
    · exact h.elim
  | ix x i =>
    simp only [stepK] at h
    have e : ∀ s' : St, (∀ j ∈ (PI.ix x i).slots, tget s'.tm j = tget s.tm j) → x.ev s' = x.ev s ∧ i.ev s' = i.ev s := fun s' hs =>
      ⟨ev_loc fun j hj => hs j (by simp [PI.slots, hj]), ev_loc fun j hj => hs j (by simp [PI.slots, hj])⟩
    split at h
    case h_2 => exact h.elim
    rename_i l kk k hx hi
    obtain ⟨h1, h⟩ := h
    split at h
    case h_2 => exact h.elim
    rename_i c hc
    refine ⟨_, _, _, h, fun s' hs hh K' hk => ?_⟩
    simp only [stepK]; rw [(e s' hs).1, (e s' hs).2, hx, hi]; refine ⟨h1, ?_⟩; rw [hc]
    exact hk
  | bin op x y =>
    simp only [stepK] at h
    obtain ⟨v, h1, h2⟩ := binK_loc h
    refine ⟨v, _, _, h1, fun s' hs hh K' hk => ?_⟩
    have e1 : x.ev s' = x.ev s := ev_loc fun j hj => hs j (by simp [PI.slots, hj])
    have e2 : y.ev s' = y.ev s := ev_loc fun j hj => hs j (by simp [PI.slots, hj])
    simp only [stepK]; rw [e1, e2]; exact h2 _ hk
  | beq op x y =>
    simp only [stepK] at h
    obtain ⟨v, h1, h2⟩ := beqK_loc h
    refine ⟨v, _, _, h1, fun s' hs hh K' hk => ?_⟩
    have e1 : x.ev s' = x.ev s := ev_loc fun j hj => hs j (by simp [PI.slots, hj])
    have e2 : y.ev s' = y.ev s := ev_loc fun j hj => hs j (by simp [PI.slots, hj])
    simp only [stepK]; rw [e1, e2]; exact h2 _ hk
  | peq op x y =>
    simp only [stepK] at h
    obtain ⟨v, h1, h2⟩ := peqK_loc h
    refine ⟨v, _, _, h1, fun s' hs hh K' hk => ?_⟩
    have e1 : x.ev s' = x.ev s := ev_loc fun j hj => hs j (by simp [PI.slots, hj])
    have e2 : y.ev s' = y.ev s := ev_loc fun j hj => hs j (by simp [PI.slots, hj])
    simp only [stepK]; rw [e1, e2]; exact h2 _ hk
  | un op x =>
    simp only [stepK] at h
    split at h
    · rename_i y hx
      refine ⟨_, _, _, h, fun s' hs hh K' hk => ?_⟩
      simp only [stepK]; rw [ev_loc hs, hx]; exact hk
    · rename_i k a hx
      refine ⟨_, _, _, h, fun s' hs hh K' hk => ?_⟩
      simp only [stepK]; rw [ev_loc hs, hx]; exact hk
    · exact h.elim
  | conv k x =>
    simp only [stepK] at h
    split at h
    case h_2 => exact h.elim
    rename_i hx
    refine ⟨_, _, _, h, fun s' hs hh K' hk => ?_⟩
    simp only [stepK]; rw [ev_loc hs, hx]; exact hk
  | strid x =>
    simp only [stepK] at h
    split at h
    case h_2 => exact h.elim
    rename_i hx
    refine ⟨_, _, _, h, fun s' hs hh K' hk => ?_⟩
    simp only [stepK]; rw [ev_loc hs, hx]; exact hk
  | tostr x =>
    simp only [stepK] at h
    split at h
    case h_2 => exact h.elim
    rename_i rows ts hx
    obtain ⟨l, h1, h⟩ := h
    refine ⟨_, _, _, h, fun s' hs hh K' hk => ?_⟩
    simp only [stepK]; rw [ev_loc hs, rowsAt_loc hx hh]; exact ⟨l, h1, hk⟩
  | sls x lo hi =>
    simp only [stepK] at h
    split at h
    case h_2 => exact h.elim
    rename_i l hx
    obtain ⟨a, b, h1, h2⟩ := bnd_loc h
    refine ⟨_, _, _, h1, fun s' hs hh K' hk => ?_⟩
    have e1 : x.ev s' = x.ev s := ev_loc fun j hj => hs j (by simp [PI.slots, hj])
    have e2 : lo.map (·.ev s') = lo.map (·.ev s) := evo_loc fun j hj => hs j (by simp [PI.slots, hj])
    have e3 : hi.map (·.ev s') = hi.map (·.ev s) := evo_loc fun j hj => hs j (by simp [PI.slots, hj])
    simp only [stepK]; rw [e1, e2, e3, hx]; exact h2 _ hk
  | sl sz x lo hi =>
    simp only [stepK] at h
    have e : ∀ s' : St, (∀ j ∈ (PI.sl sz x lo hi).slots, tget s'.tm j = tget s.tm j) → x.ev s' = x.ev s ∧ lo.map (·.ev s') = lo.map (·.ev s) ∧ hi.map (·.ev s') = hi.map (·.ev s) := fun s' hs =>
      ⟨ev_loc fun j hj => hs j (by simp [PI.slots, hj]), evo_loc fun j hj => hs j (by simp [PI.slots, hj]), evo_loc fun j hj => hs j (by simp [PI.slots, hj])⟩
    split at h
    · rename_i rows hx
      obtain ⟨a, b, h1, h2⟩ := bnd_loc h
      refine ⟨_, _, _, h1.2, fun s' hs hh K' hk => ?_⟩
      obtain ⟨e1, e2, e3⟩ := e s' hs
      simp only [stepK]; rw [e1, e2, e3, hx]; exact h2 _ ⟨h1.1, hk⟩
    · rename_i t o m hx
      obtain ⟨a, b, h1, h2⟩ := bnd_loc h
      split at h1
      case h_2 => exact h1.elim
      rename_i sz' rows hg
      refine ⟨_, _, _, h1.2, fun s' hs hh K' hk => ?_⟩
      obtain ⟨e1, e2, e3⟩ := e s' hs
      simp only [stepK]; rw [e1, e2, e3, hx]
      refine h2 _ ?_
      rw [hh t (by simp), hg]; exact ⟨h1.1, hk⟩
    · rename_i hx
      obtain ⟨a, b, h1, h2⟩ := bnd_loc h
      refine ⟨_, _, _, h1, fun s' hs hh K' hk => ?_⟩
      obtain ⟨e1, e2, e3⟩ := e s' hs
      simp only [stepK]; rw [e1, e2, e3, hx]; exact h2 _ hk
    · exact h.elim
  | lens x =>
    simp only [stepK] at h
    split at h
    case h_2 => exact h.elim
    rename_i hx
    refine ⟨_, _, _, h, fun s' hs hh K' hk => ?_⟩
    simp only [stepK]; rw [ev_loc hs, hx]; exact hk
  | len x =>
    simp only [stepK] at h
    split at h <;> first
      | exact h.elim
      | (rename_i hx
         refine ⟨_, _, _, h, fun s' hs hh K' hk => ?_⟩
         simp only [stepK]; rw [ev_loc hs, hx]; exact hk)
  | app sz bytes x y =>
    simp only [stepK] at h
    have e : ∀ s' : St, (∀ j ∈ (PI.app sz bytes x y).slots, tget s'.tm j = tget s.tm j) → x.ev s' = x.ev s ∧ y.ev s' = y.ev s := fun s' hs =>
      ⟨ev_loc fun j hj => hs j (by simp [PI.slots, hj]), ev_loc fun j hj => hs j (by simp [PI.slots, hj])⟩
    split at h
    case h_2 => exact h.elim
    rename_i src ts hy
    obtain ⟨h1, h⟩ := h
    split at h
    · rename_i hx
      refine ⟨_, _, _, h.2, fun s' hs hh K' hk => ?_⟩
      simp only [stepK]; rw [(e s' hs).1, (e s' hs).2, rowsAt_loc hy hh]; refine ⟨h1, ?_⟩; rw [hx]; exact ⟨h.1, hk⟩
    · rename_i t o m hx
      split at h
      case h_2 => exact h.elim
      rename_i sz' rows hg
      obtain ⟨h2, h3, h4, h5, h⟩ := h
      refine ⟨_, _, _, h, fun s' hs hh K' hk => ?_⟩
      simp only [stepK]; rw [(e s' hs).1, (e s' hs).2, rowsAt_loc hy fun x hx => hh x (by simp [hx])]; refine ⟨h1, ?_⟩; rw [hx]; simp only []; rw [hh t (by simp), hg]
      exact ⟨h2, h3, h4, h5, hk⟩
    · exact h.elim
  | make sz bytes zs x =>
    simp only [stepK] at h
    split at h
    case h_2 => exact h.elim
    rename_i k hx
    refine ⟨_, _, _, h.2.2.2, fun s' hs hh K' hk => ?_⟩
    simp only [stepK]; rw [ev_loc hs, hx]; exact ⟨h.1, h.2.1, h.2.2.1, hk⟩
  | call m f args =>
    cases m with
    | inl => simp only [stepK] at h
    | ev mu q =>
      simp only [stepK] at h
      obtain ⟨v, δ, rd, h1, h2⟩ := callK_loc h
      refine ⟨v, δ, rd, h1, fun s' hs hh K' hk => ?_⟩
      simp only [stepK]; rw [evs_loc hs]; exact h2 s' hh K' hk
  | callv m f args =>
    cases m with
    | inl => simp only [stepK] at h
    | ev mu q =>
      simp only [stepK] at h
      split at h
      case h_2 => exact h.elim
      rename_i g caps hf
      obtain ⟨h0, h⟩ := h
      obtain ⟨v, δ, rd, h1, h2⟩ := callK_loc h
      refine ⟨v, δ, rd, h1, fun s' hs hh K' hk => ?_⟩
      have e1 : f.ev s' = f.ev s := ev_loc fun j hj => hs j (by simp only [PI.slots, List.mem_append]; exact .inl hj)
      have e2 : args.map (·.ev s') = args.map (·.ev s) := evs_loc fun j hj => hs j (by simp only [PI.slots, List.mem_append]; exact .inr hj)
      simp only [stepK]; rw [e1, e2, hf]; exact ⟨h0, h2 s' hh K' hk⟩
  | ext i x =>
    simp only [stepK] at h
    split at h
    case h_2 => exact h.elim
    rename_i xs hx
    split at h
    case h_2 => exact h.elim
    rename_i v hv
    refine ⟨_, _, _, h, fun s' hs hh K' hk => ?_⟩
    simp only [stepK]; rw [ev_loc hs, hx]; simp only []; rw [hv]; exact hk
  | nilchk x =>
    simp only [stepK] at h
    split at h <;> first
      | exact h.elim
      | (rename_i hx
         refine ⟨_, _, _, h, fun s' hs hh K' hk => ?_⟩
         simp only [stepK]; rw [ev_loc hs, hx]; exact hk)
  | hook op ys =>
    simp only [stepK] at h
    obtain ⟨hp, v, δ, h1, h2, h3⟩ := h
    refine ⟨v, δ, _, h3, fun s' hs hh K' hk => ?_⟩
    simp only [stepK]
    refine ⟨hp, v, δ, fun p hp' => ?_, by rw [evs_loc hs]; exact h2, hk⟩
    rw [hh p.1 (List.mem_map.2 ⟨p, hp', rfl⟩)]; exact h1 p hp'
  | stuck => simp only [stepK] at h
  | mkfn f caps =>
    simp only [stepK] at h
    refine ⟨_, _, _, h, fun s' hs hh K' hk => ?_⟩
    simp only [stepK]; rw [evs_loc hs]; exact hk
end
end Go.Proofs.Ytcchmhmbjhgfdaa.V
