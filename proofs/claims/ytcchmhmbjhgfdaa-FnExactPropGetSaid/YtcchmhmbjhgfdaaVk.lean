/- Each step of the machine of trees is a step of the model: slices made, grown, read as text. -/
import Derived.Test.YtcchmhmbjhgfdaaVj
import Derived.Laws.MakeOwn
namespace Go.Proofs.Ytcchmhmbjhgfdaa.V
open Go
set_option linter.unusedVariables false
set_option linter.unusedSimpArgs false
section
variable {P : Program} {E : Env} {A A' : Nat → Prop} {ρ ρ' : Nat → Option RB} {O O' : Nat → Prop} {F F' : Nat → List Nat} {s : St} {a : Act} {w w' : World} {o : Oper} {n : Nat}
  {K : T → Δ → List Nat → Prop} {next : Act → World → Prop} {Q : Exit → Act → World → Prop}
/-- Is it one cell, or several? -/
theorem shp_agg {t : TypeId} {m : Option Nat} (h : shp P t = some m) : (isAgg t).run P w = .ok m.isSome w ∧ (sizeOf t).run P w = .ok (m.getD 1) w := by
  unfold shp at h
  split at h
  · rename_i f k hu hk
    simp only [Option.some.injEq] at h
    subst h
    exact ⟨by simp [isAgg, run_underlying hu], run_szOf hk⟩
  · exact absurd h (by simp)
  · rename_i d h3 h4 h1 h2
    simp only [Option.some.injEq] at h
    subst h
    refine ⟨?_, run_szOf ‹_›⟩
    unfold isAgg
    simp only [Sem.run_bind, run_underlying h1, Result.andThen_ok]
    rfl
  · exact absurd h (by simp)
theorem CVs_drop {cs : List T} {us : List Value} (k : Nat) (h : CVs w O ρ A cs us) : CVs w O ρ A (cs.drop k) (us.drop k) := by
  have e : cs = cs.take k ++ cs.drop k := by simp
  by_cases hk : k ≤ cs.length
  · rw [e] at h
    obtain ⟨v1, v2, rfl, h1, h2⟩ := CVs_append.1 h
    have := h1.len
    rw [List.length_take, Nat.min_eq_left hk] at this
    rw [← this] at h2 ⊢
    simpa using h2
  · rw [List.drop_eq_nil_of_le (by omega), List.drop_eq_nil_of_le (by have := h.len; omega)]
    simp [CVs]
theorem CVs_take {cs : List T} {us : List Value} (k : Nat) (h : CVs w O ρ A cs us) : CVs w O ρ A (cs.take k) (us.take k) := by
  have e : cs = cs.take k ++ cs.drop k := by simp
  by_cases hk : k ≤ cs.length
  · rw [e] at h
    obtain ⟨v1, v2, rfl, h1, h2⟩ := CVs_append.1 h
    have := h1.len
    rw [List.length_take, Nat.min_eq_left hk] at this
    rw [← this] at h1 ⊢
    simpa using h1
  · rw [List.take_of_length_le (by omega), List.take_of_length_le (by have := h.len; omega)]
    exact h
theorem s_fld (hR : R E A ρ O F s a w) (hd : ∀ k, o.dst = some k → k < E.n) {t : TypeId} {m : Option Nat} {x : Operand} {x' : X} {f : Nat} {fields : Array Field} {fd : Field} (ho : o.op = .field t x f) (hu : P.underlying t = some (.struct fields)) (hf : fields[f]? = some fd) (hs : shp P fd.type = some m) (hx : opd x = some x')
    (hK : stepK P s n (.fld fd.offset m x') K) (hn : NX E A s a n o.dst K next) : o.wp P a w next Q := by
  have hv := ev_ok hR hx
  obtain ⟨hg, hz⟩ := shp_agg (w := w) hs
  simp only [stepK] at hK
  split at hK
  · rename_i cs he
    rw [he] at hv; simp only [CV] at hv
    obtain ⟨us, e, hc⟩ := hv
    obtain ⟨hm, hK⟩ := hK
    have hlen := hc.len
    cases m with
    | some k =>
      refine pureOp hR hd (u := .agg ((us.drop fd.offset).take k).toArray) (v := .agg ((cs.drop fd.offset).take k)) ?_ ?_ ⟨[], hK⟩ hn
      · simp [execOp, ho, Instr.field, run_underlying hu, hf, part, hg, hz, e, asAgg, List.extract_eq_take_drop]
      · simp only [CV]; exact ⟨_, rfl, CVs_take _ (CVs_drop _ hc)⟩
    | none =>
      simp only at hK
      split at hK
      · rename_i c r hdr
        have h1 := CVs_drop fd.offset hc
        rw [hdr] at h1
        simp only [CVs] at h1
        obtain ⟨u, r', e1, h2, _⟩ := h1
        have e2 : us[fd.offset]? = some u := by
          have := congrArg (·[0]?) e1
          simpa using this
        refine pureOp hR hd (u := u) (v := c) (by simp [execOp, ho, Instr.field, run_underlying hu, hf, part, hg, hz, e, asAgg, e2]) h2 ⟨[], hK⟩ hn
      · exact hK.elim
  · exact hK.elim
theorem s_mksl (hR : R E A ρ O F s a w) (hd : ∀ k, o.dst = some k → k < E.n) {t e : TypeId} {len sz : Nat} {ps : Array (Nat × Operand)} {ys : List X} (ho : o.op = .buildSlice t len ps) (hu : P.underlying t = some (.slice e)) (hz : szOf P e = some sz) (hp : inOrder 0 ps.toList = some ys) (h1 : ps.size = len) (h2 : len * sz ≤ 16777216) (h3 : sz ≠ 0) (h4 : (zero? P e).isSome = true) (hf : FR E A n K)
    (hK : stepK P s n (.mksl sz ys) K) (hn : NX E A s a n o.dst K next) : o.wp P a w next Q := by
  obtain ⟨zs, hzs⟩ := Option.isSome_iff_exists.1 h4
  obtain ⟨z, hrz, _⟩ := zero_ok (w := w) hzs
  simp only [stepK] at hK
  obtain ⟨hall, hK⟩ := hK
  -- the operands in order
  have key : ∀ (l : List (Nat × Operand)) (k : Nat) (ys : List X), inOrder k l = some ys → l.map (fun p => (p.1, a.eval p.2)) = ((l.map fun p => a.eval p.2).zipIdx k).map (fun x => (x.2, x.1)) ∧ ys.length = l.length ∧
      ((∀ x ∈ ys, (x.ev s).cells.length = sz ∧ ((x.ev s).cells.all T.cell) = true) → (∀ v ∈ l.map (fun p => a.eval p.2), v.cells.size = sz) ∧ Dr w O ρ A (ys.map fun x => (x.ev s).cells) ((l.map fun p => a.eval p.2).flatMap fun v => v.cells.toList) []) := by
    intro l
    induction l with
    | nil =>
      intro k ys h
      simp only [inOrder, Option.some.injEq] at h
      subst h
      simp [Dr]
    | cons p l ih =>
      obtain ⟨i, x⟩ := p
      intro k ys h
      simp only [inOrder] at h
      split at h
      · rename_i hik
        subst hik
        simp only [Option.bind_eq_bind, Option.bind_eq_some_iff, Option.some.injEq] at h
        obtain ⟨y, hy, ys', hys, rfl⟩ := h
        obtain ⟨e1, e2, e3⟩ := ih _ _ hys
        refine ⟨by simp [e1], by simp [e2], ?_⟩
        intro hall
        obtain ⟨g1, g2⟩ := e3 (fun x hx => hall x (by simp [hx]))
        obtain ⟨c1, c2⟩ := hall y (by simp)
        obtain ⟨d1, d2, d3⟩ := CVs_cells (ev_ok hR hy) c2
        refine ⟨?_, ?_⟩
        · intro v hv
          simp only [List.map_cons, List.mem_cons] at hv
          rcases hv with rfl | hv
          · rw [d3, c1]
          · exact g1 v hv
        · simp only [List.map_cons, List.flatMap_cons, Dr]
          exact ⟨_, _, [], [], rfl, rfl, Ds_of_CVs' d1, g2⟩
      · exact absurd h (by simp)
  obtain ⟨e1, e2, e3⟩ := key _ _ _ hp
  obtain ⟨e4, e5⟩ := e3 hall
  generalize hvs : ps.toList.map (fun p => a.eval p.2) = vs at e1 e4 e5
  have hvl : vs.length = len := by rw [← hvs]; simpa using h1
  have hyl : ys.length = len := by rw [e2]; simpa using h1
  have hfl : ∀ (l : List Value), (∀ v ∈ l, v.cells.size = sz) → (l.flatMap fun v => v.cells.toList).length = l.length * sz := by
    intro l
    induction l with
    | nil => simp
    | cons x l ih =>
      intro h
      have := h x (by simp)
      simp only [List.flatMap_cons, List.length_append, Array.length_toList, this, ih (fun v hv => h v (by simp [hv])), List.length_cons, Nat.add_mul]; omega
  refine newOp hR hd hf (u := .slice (some ⟨w.heap.size, 0, none⟩) len len) (v := .ref n 0 ys.length) (cap := len) (sz := sz) (rows := ys.map fun x => (x.ev s).cells) (us := vs.flatMap fun v => v.cells.toList) (c := (vs.flatMap fun v => v.cells.toList).toArray) (e := e) ?_ ?_ (by simp [hyl]) (by simp only [List.size_toArray]; rw [hfl _ e4, hvl]; exact Nat.le_refl _) e5 (by simp) ?_ ⟨[], hK⟩ hn
  · have hmap : (ps.map fun (i, x) => (i, a.eval x)).toList = (vs.zipIdx 0).map fun x => (x.2, x.1) := by
      rw [Array.toList_map]; exact e1
    have hszs := run_szOf (w := w) hz
    have hfill : ∀ cells : Array Value, cells.size = len * sz → Instr.fill (fun i => some (i * sz, sz)) cells ((vs.zipIdx 0).map fun x => (x.2, x.1)) = some (vs.flatMap fun v => v.cells.toList).toArray :=
      fun cells hc => Great.fill_whole (Nat.pos_of_ne_zero h3) vs cells e4 (by rw [hc, hvl])
    have hsm : ¬ len * sz > 2 ^ 24 := by omega
    by_cases h0 : len * sz = 0
    · have hl0 : len = 0 := (Nat.mul_eq_zero.1 h0).resolve_right h3
      subst hl0
      have hv0 : vs = [] := List.length_eq_zero_iff.1 hvl
      subst hv0
      simp only [List.zipIdx_nil, List.map_nil] at hmap
      have hsm : ¬ 0 > 2 ^ 24 := by omega
      simp only [execOp, ho, Instr.buildSlice, Sem.run_bind, run_underlying hu, Result.andThen_ok, hszs, Nat.zero_mul, hsm, if_false, if_true, Sem.run_pure, hmap, Instr.fill]
      simp [newRow, newObj, Sem.run, Array.range_zero']
    · have hf0 := hfill ((Array.range (len * sz)).map (z.cells[· % z.cells.size]!)) (by simp)
      simp only [execOp, ho, Instr.buildSlice, Sem.run_bind, run_underlying hu, Result.andThen_ok, hszs, hsm, if_false, h0, hrz, Sem.run_pure, hmap, hf0, newRow, newObj, Sem.run]
      rfl
  · intro r hr
    obtain ⟨x, hx, rfl⟩ := List.mem_map.1 hr
    exact (hall x hx).1
  · intro ρ' A' g1 g2
    simp only [CV]
    refine ⟨g1, .inr ⟨_, g2, w.heap.size, 0, len, by rw [hyl], by simp, by omega, .inr ⟨rfl, by simp⟩⟩⟩
theorem s_make (hR : R E A ρ O F s a w) (hd : ∀ k, o.dst = some k → k < E.n) {t e : TypeId} {j : Nat} {i : TypeInfo} {zs : List T} (ho : o.op = .makeSlice t (.tmp j) (.tmp j)) (hu : P.underlying t = some (.slice e)) (hi : P.info? e = some i) (hz : zero? P e = some zs) (hl : i.size = zs.length) (h0 : i.size ≠ 0) (hf : FR E A n K)
    (hK : stepK P s n (.make i.size i.bytes zs (.t j)) K) (hn : NX E A s a n o.dst K next) : o.wp P a w next Q := by
  obtain ⟨z, hrz, hm⟩ := zero_ok (w := w) hz
  obtain ⟨hci, hcell⟩ := csts_ok (w := w) (O := O) hm
  have hv := ev_ok (x := .tmp j) hR rfl
  simp only [stepK] at hK
  split at hK
  · rename_i k he
    rw [he] at hv; simp only [CV, CI] at hv
    obtain ⟨g0, gk, g1, hK⟩ := hK
    have hlen := hci.len
    simp only [Array.length_toList] at hlen
    have hzsz : z.cells.size = i.size := by rw [hlen, hl]
    obtain ⟨m, rfl⟩ := Int.eq_ofNat_of_zero_le g0
    simp only [Int.toNat_natCast] at hK
    obtain ⟨z', hz', hzm⟩ : ∃ z', i.zero = some z' ∧ z'.cells.toList.mapM cst = some zs := by
      unfold zero? at hz
      simp only [hi, Option.bind_some] at hz
      cases hh : i.zero with
      | none => rw [hh] at hz; exact absurd hz (by simp)
      | some z' => rw [hh] at hz; exact ⟨z', rfl, hz⟩
    have hci' := (csts_ok (w := w) (O := O) hzm).1
    have hlen' := hci'.len
    simp only [Array.length_toList] at hlen'
    have hzsz' : z'.cells.size = i.size := by rw [hlen', hl]
    have hmade : madeCells z'.cells (m * i.size) = ((List.replicate m z'.cells.toList).flatten).toArray := by
      apply Array.ext_getElem?
      intro j
      simp only [madeCells, Array.getElem?_map, List.getElem?_toArray]
      have hfl : ∀ (k j : Nat), ((List.replicate k z'.cells.toList).flatten)[j]? = if j < k * i.size then z'.cells.toList[j % i.size]? else none := by
        intro k
        induction k with
        | zero => intro j; simp
        | succ k ih =>
          intro j
          simp only [List.replicate_succ, List.flatten_cons]
          by_cases hj : j < i.size
          · rw [List.getElem?_append_left (by simp; omega), if_pos (by rw [Nat.add_mul]; omega), Nat.mod_eq_of_lt hj]
          · rw [List.getElem?_append_right (by simp; omega), ih]
            have e1 : z'.cells.toList.length = i.size := by simpa using hzsz'
            rw [e1]
            by_cases hj2 : j < (k + 1) * i.size
            · rw [if_pos (by rw [Nat.add_mul] at hj2; omega), if_pos hj2]
              rw [Nat.mod_eq_sub_mod (a := j) (by omega)]
            · rw [if_neg (by rw [Nat.add_mul] at hj2; omega), if_neg hj2]
      rw [hfl]
      by_cases hj : j < m * i.size
      · rw [if_pos hj]
        have hlt : j % z'.cells.size < z'.cells.size := Nat.mod_lt _ (by omega)
        rw [Array.getElem?_eq_getElem (by simpa using hj)]
        simp only [Array.getElem_range, Option.map_some]
        rw [← hzsz', getElem!_pos z'.cells _ hlt, Array.getElem?_toList, Array.getElem?_eq_getElem hlt]
      · rw [if_neg hj, Array.getElem?_eq_none (by simpa using hj)]
        rfl
    have hrun := run_make (P := P) w t e i z' hu hi hz' .i64 .i64 m m (by omega) (Int.le_refl _) (by rw [Int.mul_comm]; omega) (by omega)
    simp only [Int.toNat_natCast] at hrun
    rw [hmade] at hrun
    refine newOp hR hd hf (u := .slice (some ⟨w.heap.size, 0, none⟩) m m) (v := .ref n 0 m) (cap := m) (sz := i.size) (rows := List.replicate m zs) (us := (List.replicate m z'.cells.toList).flatten) (c := ((List.replicate m z'.cells.toList).flatten).toArray) (e := e) ?_ ?_ (by simp) ?_ ?_ (by simp) ?_ ⟨[], hK⟩ hn
    · simp only [Act.eval] at hv
      simp [execOp, ho, Act.eval, hv, hrun]
    · intro r hr
      rw [List.mem_replicate] at hr
      rw [hr.2, hl]
    · simp [hzsz']
    · have : ∀ k, Dr w O ρ A (List.replicate k zs) ((List.replicate k z'.cells.toList).flatten) [] := by
        intro k
        induction k with
        | zero => simp [Dr]
        | succ k ih =>
          simp only [List.replicate_succ, List.flatten_cons, Dr]
          exact ⟨_, _, [], [], rfl, rfl, Ds_of_CVs' (CVs.ofCI hci'), ih⟩
      exact this m
    · intro ρ' A' h1 h2
      simp only [CV]
      exact ⟨h1, .inr ⟨_, h2, w.heap.size, 0, m, rfl, by simp, Nat.le_refl _, .inr ⟨rfl, by simp⟩⟩⟩
  · exact hK.elim
end
end Go.Proofs.Ytcchmhmbjhgfdaa.V
