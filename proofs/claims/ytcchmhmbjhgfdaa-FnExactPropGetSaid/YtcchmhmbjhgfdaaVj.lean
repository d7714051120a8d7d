/- Each step of the machine of trees is a step of the model: slices made, grown; structs built. -/
import Derived.Test.YtcchmhmbjhgfdaaVi
import Derived.Great.FillDense
namespace Go.Proofs.Ytcchmhmbjhgfdaa.V
open Go
set_option linter.unusedVariables false
set_option linter.unusedSimpArgs false
section
variable {P : Program} {E : Env} {A A' : Nat → Prop} {ρ ρ' : Nat → Option RB} {O O' : Nat → Prop} {F F' : Nat → List Nat} {s : St} {a : Act} {w w' : World} {o : Oper} {n : Nat}
  {K : T → Δ → List Nat → Prop} {next : Act → World → Prop} {Q : Exit → Act → World → Prop}
/-- The cells of a value. -/
theorem CV_cells {x : T} {v : Value} (h : CV w O ρ A x v) (hx : x.cells.length ≠ 1 ∨ x.cell = true ∨ ∃ cs, x = .agg cs) : CVs w O ρ A x.cells v.cells.toList := by
  by_cases hx' : ∃ cs, x = .agg cs
  · obtain ⟨cs, rfl⟩ := hx'
    simp only [CV] at h
    obtain ⟨us, rfl, h⟩ := h
    exact h
  · have e : x.cells = [x] := by cases x <;> first | rfl | exact absurd ⟨_, rfl⟩ hx'
    rcases hx with hx | hx | hx
    · rw [e] at hx; simp at hx
    · exact (CVs_cells h (by rw [e]; simpa using hx)).1
    · exact absurd hx hx'
theorem splice (off : Nat) (l : List Value) (cs : Array Value) (h : off + l.length ≤ cs.size) :
    ((l.zipIdx 0).foldl (fun cs (x : Value × Nat) => cs.setIfInBounds (off + x.2) x.1) cs).toList = cs.toList.take off ++ l ++ cs.toList.drop (off + l.length) := by
  obtain ⟨h1, h2⟩ := Great.foldl_set off l 0 cs
  apply List.ext_getElem?
  intro k
  have e := h2 k
  simp only [Nat.add_zero] at e
  rw [Array.getElem?_toList, e]
  by_cases c1 : k < off
  · rw [if_neg (by omega), List.append_assoc, List.getElem?_append_left (by simp; omega), List.getElem?_take, if_pos c1]
    simp
  · by_cases c2 : k < off + l.length
    · rw [if_pos ⟨by omega, c2, by omega⟩, List.append_assoc, List.getElem?_append_right (by simp; omega), List.getElem?_append_left (by simp; omega)]
      congr 1; simp; omega
    · have e5 : (cs.toList.take off ++ l).length = off + l.length := by simp; omega
      rw [if_neg (by omega), List.getElem?_append_right (by rw [e5]; omega), List.getElem?_drop, e5]
      rw [show off + l.length + (k - (off + l.length)) = k by omega]
      simp
theorem fill_ok {fields : List Field} {pl : Array (Nat × Nat)} (hpl : ∀ (k : Nat) (f : Field) (n : Nat), fields[k]? = some f → szOf P f.type = some n → pl[k]? = some (f.offset, n)) :
    ∀ {ps : List (Nat × Operand)} {qs : List (Nat × Nat × X)} {zs : List T} {cells : Array Value} {ts : List T}, R E A ρ O F s a w →
    places P fields ps = some qs → CVs w O ρ A zs cells.toList → parts s zs qs = some ts →
    ∃ c, Instr.fill (pl[·]?) cells (ps.map fun p => (p.1, a.eval p.2)) = some c ∧ CVs w O ρ A ts c.toList
  | [], qs, zs, cells, ts, hR, hp, hz, hq => by
    simp only [places, Option.some.injEq] at hp
    subst hp
    simp only [parts, Option.some.injEq] at hq
    subst hq
    exact ⟨cells, rfl, hz⟩
  | (k, x) :: ps, qs, zs, cells, ts, hR, hp, hz, hq => by
    simp only [places, Option.bind_eq_bind, Option.bind_eq_some_iff, Option.some.injEq] at hp
    obtain ⟨f, hf, n, hn, y, hy, ys, hys, rfl⟩ := hp
    simp only [parts] at hq
    split at hq
    · rename_i hc
      obtain ⟨⟨hl, hcell⟩, hfit⟩ := hc
      obtain ⟨h1, h2, h3⟩ := CVs_cells (ev_ok hR hy) hcell
      have hlz := hz.len
      simp only [Array.length_toList] at hlz
      have hsp := splice f.offset (a.eval x).cells.toList cells (by simp; omega)
      have hz' : CVs w O ρ A (zs.take f.offset ++ (y.ev s).cells ++ zs.drop (f.offset + n)) (((a.eval x).cells.zipIdx.foldl (fun cs (c, j) => cs.setIfInBounds (f.offset + j) c) cells)).toList := by
        have e : ((a.eval x).cells.zipIdx.foldl (fun cs (c, j) => cs.setIfInBounds (f.offset + j) c) cells) = (((a.eval x).cells.toList.zipIdx 0).foldl (fun cs (x : Value × Nat) => cs.setIfInBounds (f.offset + x.2) x.1) cells) := by
          rw [← Array.foldl_toList, Array.toList_zipIdx]
        rw [e, hsp]
        have hzz := hz
        rw [show zs = zs.take f.offset ++ ((zs.drop f.offset).take n ++ zs.drop (f.offset + n)) by rw [← List.drop_drop, List.take_append_drop, List.take_append_drop]] at hzz
        obtain ⟨v1, v2, e1, g1, g2⟩ := CVs_append.1 hzz
        obtain ⟨v3, v4, rfl, g3, g4⟩ := CVs_append.1 g2
        have l1 := g1.len
        have l3 := g3.len
        simp only [List.length_take, List.length_drop] at l1 l3
        rw [e1]
        refine CVs_append.2 ⟨v1 ++ (a.eval x).cells.toList, v4, ?_, CVs_append.2 ⟨v1, _, rfl, g1, h1⟩, g4⟩
        have l1' : v1.length = f.offset := by omega
        have l3' : v3.length = n := by omega
        have e4 : (a.eval x).cells.toList.length = n := by simp; omega
        rw [e4, List.take_left' l1', ← List.append_assoc, List.drop_left' (by simp; omega)]
      obtain ⟨c, hc, hcv⟩ := fill_ok hpl hR hys hz' hq
      refine ⟨c, ?_, hcv⟩
      simp only [List.map_cons, Instr.fill, hpl _ _ _ hf hn]
      rw [if_neg (by simp; omega)]
      exact hc
    · exact absurd hq (by simp)
theorem s_build (hR : R E A ρ O F s a w) (hd : ∀ k, o.dst = some k → k < E.n) {t : TypeId} {fields : Array Field} {ps : Array (Nat × Operand)} {zs : List T} {qs : List (Nat × Nat × X)} (ho : o.op = .build t ps) (hu : P.underlying t = some (.struct fields)) (hz : zero? P t = some zs) (hp : places P fields.toList ps.toList = some qs)
    (hall : ∀ f ∈ fields.toList, (szOf P f.type).isSome = true) (hK : stepK P s n (.build zs qs) K) (hn : NX E A s a n o.dst K next) : o.wp P a w next Q := by
  obtain ⟨z, hrz, hm⟩ := zero_ok (w := w) hz
  obtain ⟨hci, hcell⟩ := csts_ok (w := w) (O := O) hm
  simp only [stepK] at hK
  split at hK
  · rename_i ts hts
    have hmap : ∀ (l : List Field), (∀ f ∈ l, (szOf P f.type).isSome = true) → ((l.mapM fun f => do pure (f.offset, ← sizeOf f.type)) : Sem (List (Nat × Nat))).run P w = .ok (l.map fun f => (f.offset, (szOf P f.type).getD 0)) w := by
      intro l
      induction l with
      | nil => intro _; rfl
      | cons f l ih =>
        intro h
        obtain ⟨k, hk⟩ := Option.isSome_iff_exists.1 (h f (by simp))
        have ih := ih (fun f hf => h f (by simp [hf]))
        simp only [List.mapM_cons, Sem.run_bind, run_szOf hk, Result.andThen_ok, Sem.run_pure, ih, List.map_cons, hk, Option.getD_some]
    have hmapA : ((fields.mapM fun f => do pure (f.offset, ← sizeOf f.type)) : Sem (Array (Nat × Nat))).run P w = .ok (fields.map fun f => (f.offset, (szOf P f.type).getD 0)) w := by
      rw [Array.mapM_eq_mapM_toList, Sem.run_map, hmap _ hall]
      simp only [Result.andThen_ok]
      congr 1
      apply Array.ext'
      simp
    obtain ⟨c, hc, hcv⟩ := fill_ok (P := P) (fields := fields.toList) (pl := fields.map fun f => (f.offset, (szOf P f.type).getD 0)) (by
      intro k f n hf hn
      rw [Array.getElem?_map]
      rw [Array.getElem?_toList] at hf
      simp [hf, hn]) hR hp (CVs.ofCI hci) hts
    refine pureOp hR hd (u := .agg c) (v := .agg ts) ?_ ?_ ⟨[], hK⟩ hn
    · have : (ps.map fun (i, x) => (i, a.eval x)).toList = ps.toList.map fun p => (p.1, a.eval p.2) := by simp
      simp only [execOp, ho, Sem.run_bind, Instr.build, hrz, Result.andThen_ok, run_underlying hu, hmapA, this, hc, Sem.run_pure]
    · simp only [CV]; exact ⟨c.toList, by simp, hcv⟩
  · exact hK.elim
end
end Go.Proofs.Ytcchmhmbjhgfdaa.V
