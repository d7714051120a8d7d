/- Each step of the machine of trees is a step of the model: what makes blocks, reads and writes them. -/
import Derived.Test.YtcchmhmbjhgfdaaVh
namespace Go.Proofs.Ytcchmhmbjhgfdaa.V
open Go
set_option linter.unusedVariables false
set_option linter.unusedSimpArgs false
section
variable {P : Program} {E : Env} {A A' : Nat → Prop} {ρ ρ' : Nat → Option RB} {O O' : Nat → Prop} {F F' : Nat → List Nat} {s : St} {a : Act} {w w' : World} {o : Oper} {n : Nat}
  {K : T → Δ → List Nat → Prop} {next : Act → World → Prop} {Q : Exit → Act → World → Prop}
/-- The names that a step gives are new. -/
def FR (E : Env) (A : Nat → Prop) (n : Nat) (K : T → Δ → List Nat → Prop) : Prop := E.fb ≤ n ∧ ∀ v δ rd, K v δ rd → ∀ t, n ≤ t → t < n + δ.length → ¬ A t
theorem Lies.of_block {b q : Nat} {c : Array Value} {e : TypeId} {f : Nat × Nat} (h : w.heap[b]? = some (.cells c e f)) {us : List Value} (hl : ∀ (j : Nat) (u : Value), us[j]? = some u → c[q + j]? = some u) : Lies w b q us := by
  intro j u hj
  simp only [World.cell?, h]
  simpa using hl j u hj
/-- A new block under a new name, and a pointer to it or a slice of it. -/
theorem newOp (hR : R E A ρ O F s a w) (hd : ∀ k, o.dst = some k → k < E.n) (hf : FR E A n K) {v : T} {u : Value} {sz cap : Nat} {rows : List (List T)} {us : List Value} {c : Array Value} {e : TypeId}
    (hrun : (execOp a.eval o).run P w = .ok (.value u) (w.alloc (.cells c e))) (hs : ∀ r ∈ rows, r.length = sz) (hcap : rows.length ≤ cap) (hc : cap * sz ≤ c.size)
    (hr : Dr w O ρ A rows us []) (hl : ∀ (j : Nat) (u : Value), us[j]? = some u → c[j]? = some u)
    (hv : ∀ ρ' A', A' n → ρ' n = some ⟨w.heap.size, 0, cap, sz⟩ → CV (w.alloc (.cells c e)) O ρ' A' v u) (hK : ∃ rd, K v [(n, some (.arr sz rows))] rd) (hn : NX E A s a n o.dst K next) : o.wp P a w next Q := by
  obtain ⟨rd, hK⟩ := hK
  have hA : ¬ A n := hf.2 _ _ _ hK n (Nat.le_refl _) (by simp)
  have h1 := hR.new hA hf.1 (e := e) hs hcap hc hr hl
  have h2 := h1.put hd (v := v) (u := u) (hv _ _ (.inr ⟨Nat.le_refl _, by omega⟩) (by simp))
  exact wp_value hrun (hn v _ rd u _ hK ⟨_, _, _, h2⟩)
theorem zero_ok {t : TypeId} {zs : List T} (h : zero? P t = some zs) : ∃ z, (zeroValue t).run P w = .ok z w ∧ z.cells.toList.mapM cst = some zs := by
  unfold zero? at h
  split at h
  · rename_i z hz
    obtain ⟨i, hi, hz⟩ := Option.bind_eq_some_iff.1 hz
    refine ⟨z, ?_, h⟩
    simp [zeroValue, typeInfo, program, Sem.run, hi, hz]
  · exact absurd h (by simp)
theorem csts_ok : ∀ {vs : List Value} {ts : List T}, vs.mapM cst = some ts → CIs w O ts vs ∧ (ts.all T.cell) = true
  | [], ts, h => by simp at h; subst h; simp [CIs]
  | v :: vs, ts, h => by
    simp only [List.mapM_cons, Option.pure_def, Option.bind_eq_bind, Option.bind_eq_some_iff, Option.some.injEq] at h
    obtain ⟨t, ht, ts', hts, rfl⟩ := h
    have ih := csts_ok hts
    refine ⟨?_, ?_⟩
    · simp only [CIs]
      exact ⟨v, vs, rfl, cst_ok ht, ih.1⟩
    · simp only [List.all_cons, ih.2, Bool.and_true]
      unfold cst at ht
      split at ht <;> first
        | (simp only [Option.some.injEq] at ht; subst ht; rfl)
        | exact absurd ht (by simp)
theorem row1 {ts : List T} {vs : List Value} (h : Ds w O ρ A ts vs []) : Dr w O ρ A [ts] vs [] := by
  simp only [Dr]
  exact ⟨vs, [], [], [], by simp, rfl, h, rfl, rfl⟩
theorem s_alloc (hR : R E A ρ O F s a w) (hd : ∀ k, o.dst = some k → k < E.n) {t : TypeId} {zs : List T} (ho : o.op = .alloc t) (hz : zero? P t = some zs) (hf : FR E A n K)
    (hK : stepK P s n (.alloc zs) K) (hn : NX E A s a n o.dst K next) : o.wp P a w next Q := by
  obtain ⟨z, hrz, hm⟩ := zero_ok (w := w) hz
  obtain ⟨hci, hcell⟩ := csts_ok (w := w) (O := O) hm
  simp only [stepK] at hK
  have hlen := hci.len
  refine newOp hR hd hf (u := .pointer (some ⟨w.heap.size, 0, none⟩)) (v := .ptr n 0 0) (cap := 1) (sz := zs.length) (rows := [zs]) (us := z.cells.toList) (c := z.cells) (e := t) ?_ (by simp) (by simp) (by simp at hlen ⊢; omega) (row1 (Ds_of_CVs (CVs.ofCI hci) hcell)) (by simp) ?_ ⟨[], hK⟩ hn
  · simp [execOp, ho, Instr.alloc, hrz, newVar, newRow, newObj, Sem.run]
  · intro ρ' A' h1 h2
    simp only [CV]
    exact ⟨h1, _, h2, by simp⟩
theorem s_box (hR : R E A ρ O F s a w) (hd : ∀ k, o.dst = some k → k < E.n) {t : TypeId} {sz : Nat} {x : Operand} {x' : X} (ho : o.op = .box t x) (hx : opd x = some x') (hf : FR E A n K)
    (hK : stepK P s n (.box sz x') K) (hn : NX E A s a n o.dst K next) : o.wp P a w next Q := by
  have hv := ev_ok hR hx
  simp only [stepK] at hK
  obtain ⟨hsz, hcell, hK⟩ := hK
  obtain ⟨h1, h2, h3⟩ := CVs_cells hv hcell
  refine newOp hR hd hf (u := .pointer (some ⟨w.heap.size, 0, none⟩)) (v := .ptr n 0 0) (cap := 1) (sz := sz) (rows := [(x'.ev s).cells]) (us := (a.eval x).cells.toList) (c := (a.eval x).cells) (e := t) ?_ (by simpa using hsz) (by simp) (by omega) (row1 (Ds_of_CVs h1 hcell)) (by simp) ?_ ⟨[], hK⟩ hn
  · simp [execOp, ho, Instr.box, newVar, newRow, newObj, Sem.run]
  · intro ρ' A' h1 h2
    simp only [CV]
    exact ⟨h1, _, h2, by simp⟩
/-- A row of a block: where it lies. -/
theorem BR.row {t sz : Nat} {rows : List (List T)} {Ft : List Nat} (h : BR w O ρ A t (.arr sz rows) Ft) {r : Nat} {row : List T} (hr : rows[r]? = some row) :
    ∃ B c e rs1 rs2 us1 us us2 F1 Fr F2, ρ t = some B ∧ sz = B.sz ∧ rows = rs1 ++ row :: rs2 ∧ rs1.length = r ∧ row.length = sz ∧ (∀ x ∈ rs1, x.length = sz) ∧ (∀ x ∈ rs2, x.length = sz) ∧ rows.length ≤ B.cap ∧ w.heap[B.b]? = some (.cells c e (0, 0)) ∧ B.o + B.cap * B.sz ≤ c.size ∧
      Dr w O ρ A rs1 us1 F1 ∧ Ds w O ρ A row us Fr ∧ Dr w O ρ A rs2 us2 F2 ∧ (∀ (j : Nat) (u : Value), (us1 ++ us ++ us2)[j]? = some u → c[B.o + j]? = some u) ∧ us1.length = r * sz ∧ us.length = sz ∧ Ft = B.b :: (F1 ++ Fr ++ F2) := by
  simp only [BR] at h
  rcases h with ⟨rfl, _⟩ | ⟨B, hB, hsz, hs, hcap, c, e, cs, F', hb, hc, hd, hm, hF⟩
  · simp at hr
  · obtain ⟨rs1, rs2, rfl, hl⟩ := split_at hr
    obtain ⟨us1, u2, F1, G2, rfl, rfl, h1, h2⟩ := Dr_append.1 hd
    simp only [Dr] at h2
    obtain ⟨us, us2, Fr, F2, rfl, rfl, h3, h4⟩ := h2
    refine ⟨B, c, e, rs1, rs2, us1, us, us2, F1, Fr, F2, hB, hsz, rfl, hl, hs _ (by simp), fun x hx => hs x (by simp [hx]), fun x hx => hs x (by simp [hx]), hcap, hb, hc, h1, h3, h4, by simpa using hm, ?_, ?_, by simpa using hF⟩
    · rw [h1.len (fun x hx => hs x (by simp [hx])), hl]
    · rw [h3.len]; exact hs _ (by simp)
theorem getElem?_len {α : Type} {l : List α} {j : Nat} {u : α} (h : l[j]? = some u) : j < l.length := by
  rcases Nat.lt_or_ge j l.length with h' | h'
  · exact h'
  · rw [List.getElem?_eq_none h'] at h; exact absurd h (by simp)
def ldv (m : Option Nat) (us : List Value) : Value := match m with | some _ => .agg us.toArray | none => us.getD 0 undef
/-- What a load of cells comes to. -/
theorem run_loadAt {t : TypeId} {m : Option Nat} {b q : Nat} {us : List Value} (hs : shp P t = some m) (hl : Lies w b q us) (hm : us.length = m.getD 1) (v : Value) (hv : v = .pointer (some ⟨b, q, none⟩)) :
    (Instr.loadAt t v).run P w = .ok (ldv m us) w := by
  unfold ldv
  subst hv
  have hcells : ∀ k, us.length = k → (loadCells ⟨b, q, none⟩ k).run P w = .ok us.toArray w := by
    rintro k rfl
    exact run_loadCells_list w _ us (fun j u hj => by rw [add_none]; exact hl j u hj)
  unfold shp at hs
  split at hs
  · rename_i f k hu hk
    simp only [Option.some.injEq] at hs
    subst hs
    simp only [Option.getD_some] at hm
    simp [Instr.loadAt, Instr.sureAddr, loadVar, isAgg, run_underlying hu, run_szOf hk, hcells _ hm]
  · exact absurd hs (by simp)
  · rename_i d h3 h4 h1 h2
    simp only [Option.some.injEq] at hs
    subst hs
    simp only [Option.getD_none] at hm
    obtain ⟨u, rfl⟩ : ∃ u, us = [u] := by
      match us, hm with
      | [u], _ => exact ⟨u, rfl⟩
    have hc : w.cell? ⟨b, q, none⟩ = some u := by simpa using hl 0 u rfl
    have hag : (isAgg t).run P w = .ok false w := by
      unfold isAgg
      simp only [Sem.run_bind, run_underlying h1, Result.andThen_ok]
      rfl
    simp [Instr.loadAt, Instr.sureAddr, loadVar, hag, hc]
  · exact absurd hs (by simp)
theorem s_store (hR : R E A ρ O F s a w) (hd : ∀ k, o.dst = some k → k < E.n) {t : TypeId} {m : Option Nat} {x y : Operand} {x' y' : X} (ho : o.op = .store t x y) (hs : shp P t = some m) (hx : opd x = some x') (hy : opd y = some y') (hf : FR E A n K)
    (hK : stepK P s n (.store m x' y') K) (hn : NX E A s a n o.dst K next) : o.wp P a w next Q := by
  have hv := ev_ok hR hx
  have hw := ev_ok hR hy
  simp only [stepK] at hK
  split at hK
  case h_2 => exact hK.elim
  rename_i tk r q he
  rw [he] at hv; simp only [CV] at hv
  obtain ⟨hA, B, hB, e⟩ := hv
  split at hK
  case h_2 => exact hK.elim
  rename_i sz rows hg
  split at hK
  case h_2 => exact hK.elim
  rename_i row hrow
  obtain ⟨hlen, hqm, hcell, hK⟩ := hK
  obtain ⟨h1, h2, h3⟩ := CVs_cells hw hcell
  obtain ⟨hAt, hBR⟩ := hR.hp _ _ hg
  obtain ⟨B', c, et, rs1, rs2, us1, us, us2, F1, Fr, F2, hB', hsz, hrows, hl1, hrl, hz1, hz2, hcap, hheap, hcs, hd1, hdr, hd2, hlie, hlu1, hlu, hF⟩ := hBR.row hrow
  obtain rfl : B = B' := Option.some.inj (hB.symm.trans hB')
  generalize hM : m.getD 1 = M at *
  have hrM : r * sz + sz ≤ B.cap * sz := by
    have : r + 1 ≤ rows.length := by rw [hrows]; simp; omega
    have : (r + 1) * sz ≤ B.cap * sz := Nat.mul_le_mul_right _ (Nat.le_trans this hcap)
    rw [Nat.add_mul] at this; omega
  have hfit : B.o + r * B.sz + q + 0 + (a.eval y).cells.toList.length ≤ c.size := by
    have e1 : (a.eval y).cells.toList.length = M := by rw [Array.length_toList, h3, hlen]
    rw [e1, ← hsz]
    rw [← hsz] at hcs
    omega
  have hst := run_storeCells_at P B.b (B.o + r * B.sz + q) et (a.eval y).cells.toList 0 c w hheap (by omega) h2
  -- the store itself
  have hrun : (execOp a.eval o).run P w = .ok .skip (w.setRow B.b (c.toList.take (B.o + r * B.sz + q) ++ (a.eval y).cells.toList ++ c.toList.drop (B.o + r * B.sz + q + (a.eval y).cells.toList.length)).toArray) := by
    have hszz : (sizeOf t).run P w = .ok M w := by
      unfold shp at hs
      split at hs
      · rename_i f k hu hk
        simp only [Option.some.injEq] at hs
        subst hs
        simp only [Option.getD_some] at hM
        subst hM; exact run_szOf hk
      · exact absurd hs (by simp)
      · rename_i d h1 h2 h3 h4
        simp only [Option.some.injEq] at hs
        subst hs
        simp only [Option.getD_none] at hM
        subst hM; exact run_szOf ‹_›
      · exact absurd hs (by simp)
    have e2 : (a.eval y).cells.size = M := by rw [h3, hlen]
    simp only [execOp, ho, Instr.storeAt, e, Instr.sureAddr, Sem.run_bind, Sem.run_pure, Result.andThen_ok, storeVar, hszz, e2, ne_eq, not_true_eq_false, if_false]
    simp only [Nat.add_zero] at hst
    rw [hst]
    rfl
  generalize hN : (c.toList.take (B.o + r * B.sz + q) ++ (a.eval y).cells.toList ++ c.toList.drop (B.o + r * B.sz + q + (a.eval y).cells.toList.length)).toArray = c' at hrun
  have e1 : (a.eval y).cells.toList.length = M := by rw [Array.length_toList, h3, hlen]
  rw [← hsz] at hN hcs hfit
  -- the row in three
  have hrow3 : row = row.take q ++ ((row.drop q).take M ++ row.drop (q + M)) := by
    rw [← List.drop_drop, List.take_append_drop, List.take_append_drop]
  rw [hrow3] at hdr
  obtain ⟨ua, ub', Fa, Fb', rfl, rfl, hda, hdb'⟩ := Ds_append.1 hdr
  obtain ⟨ub, uc, Fb, Fc, rfl, rfl, hdb, hdc⟩ := Ds_append.1 hdb'
  have hla : ua.length = q := by rw [hda.len]; simp; omega
  have hlb : ub.length = M := by rw [hdb.len]; simp; omega
  have hld := hdc.len
  have hc'size : c'.size = c.size := by
    rw [← hN]; simp [e1]; omega
  have hh' : (w.setRow B.b c').heap[B.b]? = some (.cells c' et (0, 0)) := setRow_heap w B.b c c' et _ hheap
  have hoth : ∀ b, b ≠ B.b → (w.setRow B.b c').heap[b]? = w.heap[b]? := by
    intro b hb
    simp only [World.setRow, Array.getElem?_modify]
    rw [if_neg (fun h => hb h.symm)]
  have hnoO : ∀ b, O b → b ≠ B.b := by
    rintro b hb rfl
    exact (hR.mine _ _ hg B.b (by rw [hF]; simp)).1 hb
  have hnd := hR.nodup _ _ hg
  rw [hF] at hnd
  have hndt := List.nodup_cons.1 hnd
  have hw : ∀ b, O b → (w.setRow B.b c').heap[b]? = w.heap[b]? := fun b hb => hoth b (hnoO b hb)
  have hsub : ∀ b ∈ F1 ++ (Fa ++ Fc) ++ F2, b ∈ F1 ++ (Fa ++ (Fb ++ Fc)) ++ F2 := by
    intro b hb
    simp only [List.mem_append] at hb ⊢
    rcases hb with (hb | hb | hb) | hb <;> simp [hb]
  have hFw : ∀ b ∈ F1 ++ (Fa ++ (Fb ++ Fc)) ++ F2, (w.setRow B.b c').heap[b]? = w.heap[b]? := fun b hb => hoth b (by rintro rfl; exact hndt.1 hb)
  have hk : Keep w [B.b] (w.setRow B.b c') := Keep.row hheap hc'size
  have hset : rows.set r (row.take q ++ (y'.ev s).cells ++ row.drop (q + M)) = rs1 ++ (row.take q ++ (y'.ev s).cells ++ row.drop (q + M)) :: rs2 := by
    rw [hrows, ← hl1]; simp
  rw [hset] at hK
  have hR1 := hR.set1 (t := tk) (k := .arr sz (rs1 ++ (row.take q ++ (y'.ev s).cells ++ row.drop (q + M)) :: rs2)) (Ft := B.b :: (F1 ++ (Fa ++ Fc) ++ F2)) (M := [B.b]) (A' := A) (ρ' := ρ) (w' := w.setRow B.b c') (hp0 := s.hp)
    (fun _ h => h) (fun _ _ => rfl) hR.ρ0 hw (fun _ _ h => h) ?_ hk ?_ hA ?_ ?_ ?_ ?_
  · have h2 := hR1.put hd (v := .dead) (u := undef) (CV.dead _)
    exact wp_skip' hrun (hn .dead _ _ undef _ hK ⟨_, _, _, h2.monoA (fun t h => .inl h)⟩)
  · intro t' k' hne hk' b hb
    refine hoth b ?_
    rintro rfl
    exact hR.apart _ _ _ _ hk' hg hne _ hb (by rw [hF]; simp)
  · intro b hb
    simp only [List.mem_singleton] at hb
    subst hb
    exact (hR.mine _ _ hg B.b (by rw [hF]; simp)).2.2
  · simp only [BR]
    refine .inr ⟨B, hB, hsz, ?_, ?_, c', et, us1 ++ (ua ++ ((a.eval y).cells.toList ++ uc)) ++ us2, F1 ++ (Fa ++ Fc) ++ F2, hh', ?_, ?_, ?_, rfl⟩
    · intro x hx
      simp only [List.mem_append, List.mem_cons] at hx
      rcases hx with hx | rfl | hx
      · exact hz1 x hx
      · simp [hlen]; omega
      · exact hz2 x hx
    · simpa [hrows] using hcap
    · rw [hc'size, ← hsz]; exact hcs
    · have hd1' := hd1.cong (w' := w.setRow B.b c') (A' := A) (ρ' := ρ) (fun _ h => h) hw (fun _ h => h) (fun _ _ => rfl) (fun b hb => hFw b (by simp [hb]))
      have hd2' := hd2.cong (w' := w.setRow B.b c') (A' := A) (ρ' := ρ) (fun _ h => h) hw (fun _ h => h) (fun _ _ => rfl) (fun b hb => hFw b (by simp [hb]))
      have hda' := hda.cong (w' := w.setRow B.b c') (A' := A) (ρ' := ρ) (fun _ h => h) hw (fun _ h => h) (fun _ _ => rfl) (fun b hb => hFw b (by simp [hb]))
      have hdc' := hdc.cong (w' := w.setRow B.b c') (A' := A) (ρ' := ρ) (fun _ h => h) hw (fun _ h => h) (fun _ _ => rfl) (fun b hb => hFw b (by simp [hb]))
      have hm' := Ds_of_CVs (h1.cong (w' := w.setRow B.b c') (A' := A) (ρ' := ρ) (fun _ h => h) hw (fun _ h => h) (fun _ _ => rfl)) hcell
      rw [List.append_assoc us1]
      refine Dr_append.2 ⟨us1, _, F1, (Fa ++ Fc) ++ F2, rfl, by simp, hd1', ?_⟩
      simp only [Dr]
      refine ⟨_, us2, Fa ++ Fc, F2, rfl, rfl, ?_, hd2'⟩
      rw [List.append_assoc]
      exact Ds_append.2 ⟨ua, _, Fa, Fc, rfl, rfl, hda', Ds_append.2 ⟨_, uc, [], Fc, rfl, rfl, hm', hdc'⟩⟩
    · intro j u hj
      have hold : ∀ (j : Nat) (u : Value), (us1 ++ (ua ++ (ub ++ uc)) ++ us2)[j]? = some u → c.toList[B.o + j]? = some u := by
        intro j u h; simpa using hlie j u h
      have hp : us1.length + ua.length = r * sz + q := by omega
      have hjl := getElem?_len hj
      simp only [List.length_append] at hjl
      rw [← hN]
      simp only [List.getElem?_toArray]
      have hp1 : (c.toList.take (B.o + r * sz + q)).length = B.o + r * sz + q := by simp; omega
      by_cases c1 : j < r * sz + q
      · have h4 : (us1 ++ (ua ++ (ub ++ uc)) ++ us2)[j]? = some u := by
          rw [← hj]
          have : j < (us1 ++ ua).length := by simp; omega
          rw [show us1 ++ (ua ++ (ub ++ uc)) ++ us2 = (us1 ++ ua) ++ (ub ++ uc ++ us2) by simp, show us1 ++ (ua ++ ((a.eval y).cells.toList ++ uc)) ++ us2 = (us1 ++ ua) ++ ((a.eval y).cells.toList ++ uc ++ us2) by simp, List.getElem?_append_left this, List.getElem?_append_left this]
        have h5 := hold j u h4
        rw [List.append_assoc, List.getElem?_append_left (by rw [hp1]; omega), List.getElem?_take, if_pos (by omega)]
        exact h5
      · by_cases c2 : j < r * sz + q + M
        · rw [List.append_assoc, List.getElem?_append_right (by rw [hp1]; omega), hp1, List.getElem?_append_left (by omega)]
          rw [show us1 ++ (ua ++ ((a.eval y).cells.toList ++ uc)) ++ us2 = (us1 ++ ua) ++ ((a.eval y).cells.toList ++ (uc ++ us2)) by simp, List.getElem?_append_right (by simp; omega), List.getElem?_append_left (by simp [List.length_append]; omega)] at hj
          rw [← hj]; congr 1; simp [List.length_append]; omega
        · have h4 : (us1 ++ (ua ++ (ub ++ uc)) ++ us2)[j]? = some u := by
            have e3 : (us1 ++ ua ++ (a.eval y).cells.toList).length = r * sz + q + M := by simp only [List.length_append]; omega
            have e4 : (us1 ++ ua ++ ub).length = r * sz + q + M := by simp only [List.length_append]; omega
            have q1 : (us1 ++ (ua ++ (ub ++ uc)) ++ us2)[j]? = (uc ++ us2)[j - (r * sz + q + M)]? := by
              rw [show us1 ++ (ua ++ (ub ++ uc)) ++ us2 = (us1 ++ ua ++ ub) ++ (uc ++ us2) by simp, List.getElem?_append_right (by rw [e4]; omega), e4]
            have q2 : (us1 ++ (ua ++ ((a.eval y).cells.toList ++ uc)) ++ us2)[j]? = (uc ++ us2)[j - (r * sz + q + M)]? := by
              rw [show us1 ++ (ua ++ ((a.eval y).cells.toList ++ uc)) ++ us2 = (us1 ++ ua ++ (a.eval y).cells.toList) ++ (uc ++ us2) by simp, List.getElem?_append_right (by rw [e3]; omega), e3]
            rw [q1, ← q2]; exact hj
          have h5 := hold j u h4
          have e5 : (c.toList.take (B.o + r * sz + q) ++ (a.eval y).cells.toList).length = B.o + r * sz + q + M := by rw [List.length_append, hp1]; omega
          rw [List.getElem?_append_right (by rw [e5]; omega), List.getElem?_drop, e5, e1]
          rw [← h5]; congr 1; omega
  · refine List.nodup_cons.2 ⟨fun h => hndt.1 (hsub _ h), ?_⟩
    refine List.Nodup.sublist ?_ hndt.2
    refine List.Sublist.append (List.Sublist.append (List.Sublist.refl _) (List.Sublist.append (List.Sublist.refl _) ?_)) (List.Sublist.refl _)
    exact List.sublist_append_right _ _
  · intro b hb
    have hb' : b ∈ F tk := by
      rw [hF]
      rcases List.mem_cons.1 hb with rfl | hb
      · simp
      · exact List.mem_cons_of_mem _ (hsub b hb)
    obtain ⟨h1, h2, h3⟩ := hR.mine _ _ hg b hb'
    exact ⟨h1, by simpa [World.setRow] using h2, h3⟩
  · intro t' k' hne hk' b hb
    have hb' : b ∈ F tk := by
      rw [hF]
      rcases List.mem_cons.1 hb with rfl | hb
      · simp
      · exact List.mem_cons_of_mem _ (hsub b hb)
    exact hR.apart _ _ _ _ hg hk' (fun h => hne h.symm) b hb'
/-- Reading cells: what is owned gets a name. -/
theorem draw_ok (hR : R E A ρ O F s a w) (hd : ∀ k, o.dst = some k → k < E.n) {tk r q M n sz : Nat} {rows : List (List T)} {row : List T} {B : RB} (hA : A tk) (hB : ρ tk = some B) (hg : hget s.hp tk = some (.arr sz rows)) (hrow : rows[r]? = some row) (hqm : q + M ≤ row.length)
    (hfb : E.fb ≤ n) (hfr : ∀ t, n ≤ t → t < n + (drawn tk sz rows r row q M (mats ((row.drop q).take M) n)).length → ¬ A t) :
    ∃ us, us.length = M ∧ Lies w B.b (B.o + r * B.sz + q) us ∧ ∃ ρ', CVs w O ρ' (Aext A n (drawn tk sz rows r row q M (mats ((row.drop q).take M) n)).length) (mats ((row.drop q).take M) n).1 us ∧
      ∃ F', R E (Aext A n (drawn tk sz rows r row q M (mats ((row.drop q).take M) n)).length) ρ' O F' { s with hp := hap s.hp (drawn tk sz rows r row q M (mats ((row.drop q).take M) n)) } a w := by
  obtain ⟨hAt, hBR⟩ := hR.hp _ _ hg
  obtain ⟨B', c, et, rs1, rs2, us1, us, us2, F1, Fr, F2, hB', hsz, hrows, hl1, hrl, hz1, hz2, hcap, hheap, hcs, hd1, hdr, hd2, hlie, hlu1, hlu, hF⟩ := hBR.row hrow
  obtain rfl : B = B' := Option.some.inj (hB.symm.trans hB')
  have hrow3 : row = row.take q ++ ((row.drop q).take M ++ row.drop (q + M)) := by
    rw [← List.drop_drop, List.take_append_drop, List.take_append_drop]
  have hdr' := hdr
  rw [hrow3] at hdr'
  obtain ⟨ua, ub', Fa, Fb', rfl, rfl, hda, hdb'⟩ := Ds_append.1 hdr'
  obtain ⟨ub, uc, Fb, Fc, rfl, rfl, hdb, hdc⟩ := Ds_append.1 hdb'
  have hla : ua.length = q := by rw [hda.len]; simp; omega
  have hlb : ub.length = M := by rw [hdb.len]; simp; omega
  have hlies : Lies w B.b (B.o + r * B.sz + q) ub := by
    intro j u hj
    have := Lies.of_block (us := us1 ++ (ua ++ (ub ++ uc)) ++ us2) hheap hlie (us1.length + ua.length + j) u (by
      rw [show us1 ++ (ua ++ (ub ++ uc)) ++ us2 = (us1 ++ ua) ++ (ub ++ (uc ++ us2)) by simp, List.getElem?_append_right (by simp), List.getElem?_append_left (by simp; exact getElem?_len hj)]
      simpa using hj)
    rw [show B.o + r * B.sz + q + j = B.o + (us1.length + ua.length + j) by rw [hlu1, hla, hsz]; omega]
    exact this
  refine ⟨ub, hlb, hlies, ?_⟩
  unfold drawn at hfr ⊢
  by_cases hem : (mats ((row.drop q).take M) n).2.isEmpty = true
  · rw [if_pos hem] at hfr ⊢
    have h0 : (mats ((row.drop q).take M) n).2 = [] := by simpa using hem
    obtain ⟨ρ', g1, g2, g3⟩ := mats_D n ρ A hdb (by rw [h0]; simp; omega)
    rw [h0] at g1 g2
    simp only [List.length_nil] at g1 g2 ⊢
    have hρ : ρ' = ρ := funext fun x => g1 x (by omega)
    subst hρ
    exact ⟨ρ', g2, F, hR.monoA (fun t h => .inl h)⟩
  · rw [if_neg hem] at hfr ⊢
    simp only [List.length_cons, news, List.length_map] at hfr ⊢
    obtain ⟨ρ', g1, g2, g3⟩ := mats_D n ρ A hdb (fun x h1 h2 => hfr x h1 (by omega))
    generalize hcells : (mats ((row.drop q).take M) n).1 = cells at g2 ⊢
    generalize hblks : (mats ((row.drop q).take M) n).2 = blks at g1 g2 g3 hfr ⊢
    have hAA : ∀ x, Aext A n blks.length x → Aext A n (blks.length + 1) x := fun x h => h.imp id (fun h => ⟨h.1, by omega⟩)
    have hAm : ∀ x, A x → Aext A n (blks.length + 1) x := fun x h => .inl h
    have hρ : ∀ x, A x → ρ' x = ρ x := by
      intro x hx
      refine g1 x ?_
      rcases Nat.lt_or_ge x n with h | h
      · exact .inl h
      · rcases Nat.lt_or_ge x (n + blks.length) with h' | h'
        · exact absurd hx (hfr x h (by omega))
        · exact .inr h'
    have hρ0 : ∀ x, x < E.fb → ρ' x = E.ρ0 x := fun x hx => (g1 x (by omega)).trans (hR.ρ0 x hx)
    have hnd := hR.nodup _ _ hg
    rw [hF] at hnd
    have hndt := List.nodup_cons.1 hnd
    have hlc : cells.length = M := by rw [← hlb]; exact (g2.len).symm
    have hset : rows.set r (row.take q ++ cells ++ row.drop (q + M)) = rs1 ++ (row.take q ++ cells ++ row.drop (q + M)) :: rs2 := by
      rw [hrows, ← hl1]; simp
    rw [hset]
    have hsub : ∀ b ∈ F1 ++ (Fa ++ Fc) ++ F2, b ∈ F1 ++ (Fa ++ (Fb ++ Fc)) ++ F2 := by
      intro b hb
      simp only [List.mem_append] at hb ⊢
      rcases hb with (hb | hb | hb) | hb <;> simp [hb]
    have hbsub : ∀ b ∈ Fb, b ∈ F1 ++ (Fa ++ (Fb ++ Fc)) ++ F2 := fun b hb => by simp [hb]
    have hin : ∀ b ∈ F1 ++ (Fa ++ (Fb ++ Fc)) ++ F2, b ∈ F tk := fun b hb => by rw [hF]; exact List.mem_cons_of_mem _ hb
    have hR1 := hR.set1 (t := tk) (k := .arr sz (rs1 ++ (row.take q ++ cells ++ row.drop (q + M)) :: rs2)) (Ft := B.b :: (F1 ++ (Fa ++ Fc) ++ F2)) (M := []) (A' := Aext A n (blks.length + 1)) (ρ' := ρ') (w' := w) (hp0 := s.hp)
      hAm hρ hρ0 (fun _ _ => rfl) (fun _ _ h => h) (fun _ _ _ _ _ _ => rfl) (Keep.refl _ _) (by simp) (.inl hA) ?_ ?_ ?_ ?_
    · have hadd := R.adds hR1 (g3.cong (fun _ h => h) (fun _ _ => rfl) hAA (fun _ _ => rfl) (fun _ _ => rfl) (fun x h1 h2 => .inr ⟨h1, h2⟩)) (fun x h1 h2 => .inr ⟨h1, by omega⟩) (fun x h1 h2 => ?_) ?_ ?_ ?_
      · obtain ⟨F', hR2⟩ := hadd
        exact ⟨ρ', g2.cong (fun _ h => h) (fun _ _ => rfl) hAA (fun _ _ => rfl), F', hR2⟩
      · simp only [hget_hset]
        rw [if_neg (by rintro rfl; exact hfr _ h1 (by omega) hA)]
        cases hx : hget s.hp x with
        | none => rfl
        | some k => exact absurd (hR.hp x k hx).1 (hfr x h1 (by omega))
      · exact hndt.2.sublist (List.Sublist.trans (List.Sublist.trans (List.sublist_append_left Fb Fc) (List.sublist_append_right Fa _)) (List.Sublist.trans (List.sublist_append_right F1 _) (List.sublist_append_left _ F2)))
      · intro b hb
        exact hR.mine _ _ hg b (hin b (hbsub b hb))
      · intro t k hk b hb
        simp only [hget_hset] at hk
        by_cases e : tk = t
        · subst e
          simp only [if_true]
          intro hb'
          rcases List.mem_cons.1 hb' with rfl | hb'
          · exact hndt.1 (hbsub _ hb)
          · have hn2 := hndt.2
            simp only [List.nodup_append, List.mem_append] at hn2 hb'
            rcases hb' with (h1 | h1 | h1) | h1
            · exact hn2.1.2.2 b h1 b (.inr (.inl hb)) rfl
            · exact hn2.1.2.1.2.2 b h1 b (.inl hb) rfl
            · exact hn2.1.2.1.2.1.2.2 b hb b h1 rfl
            · exact hn2.2.2 b (.inr (.inr (.inl hb))) b h1 rfl
        · rw [if_neg e] at hk
          rw [if_neg (fun h => e h.symm)]
          exact hR.apart _ _ _ _ hg hk e b (hin b (hbsub b hb))
    · simp only [BR]
      refine .inr ⟨B, (hρ _ hA).trans hB, hsz, ?_, ?_, c, et, us1 ++ (ua ++ (ub ++ uc)) ++ us2, F1 ++ (Fa ++ Fc) ++ F2, hheap, hcs, ?_, hlie, rfl⟩
      · intro x hx
        simp only [List.mem_append, List.mem_cons] at hx
        rcases hx with hx | rfl | hx
        · exact hz1 x hx
        · simp [hlc]; omega
        · exact hz2 x hx
      · simpa [hrows] using hcap
      · have hd1' := hd1.cong (w' := w) (A' := Aext A n (blks.length + 1)) (ρ' := ρ') (fun _ h => h) (fun _ _ => rfl) hAm hρ (fun _ _ => rfl)
        have hd2' := hd2.cong (w' := w) (A' := Aext A n (blks.length + 1)) (ρ' := ρ') (fun _ h => h) (fun _ _ => rfl) hAm hρ (fun _ _ => rfl)
        have hda' := hda.cong (w' := w) (A' := Aext A n (blks.length + 1)) (ρ' := ρ') (fun _ h => h) (fun _ _ => rfl) hAm hρ (fun _ _ => rfl)
        have hdc' := hdc.cong (w' := w) (A' := Aext A n (blks.length + 1)) (ρ' := ρ') (fun _ h => h) (fun _ _ => rfl) hAm hρ (fun _ _ => rfl)
        have hm' := Ds_of_CVs' (g2.cong (w' := w) (A' := Aext A n (blks.length + 1)) (ρ' := ρ') (fun _ h => h) (fun _ _ => rfl) hAA (fun _ _ => rfl))
        rw [List.append_assoc us1]
        refine Dr_append.2 ⟨us1, _, F1, (Fa ++ Fc) ++ F2, rfl, by simp, hd1', ?_⟩
        simp only [Dr]
        refine ⟨_, us2, Fa ++ Fc, F2, rfl, rfl, ?_, hd2'⟩
        rw [List.append_assoc]
        exact Ds_append.2 ⟨ua, _, Fa, Fc, rfl, rfl, hda', Ds_append.2 ⟨_, uc, [], Fc, rfl, rfl, hm', hdc'⟩⟩
    · refine List.nodup_cons.2 ⟨fun h => hndt.1 (hsub _ h), hndt.2.sublist ?_⟩
      refine List.Sublist.append (List.Sublist.append (List.Sublist.refl _) (List.Sublist.append (List.Sublist.refl _) ?_)) (List.Sublist.refl _)
      exact List.sublist_append_right _ _
    · intro b hb
      have hb' : b ∈ F tk := by
        rw [hF]
        rcases List.mem_cons.1 hb with rfl | hb
        · simp
        · exact List.mem_cons_of_mem _ (hsub b hb)
      exact hR.mine _ _ hg b hb'
    · intro t' k' hne hk' b hb
      have hb' : b ∈ F tk := by
        rw [hF]
        rcases List.mem_cons.1 hb with rfl | hb
        · simp
        · exact List.mem_cons_of_mem _ (hsub b hb)
      exact hR.apart _ _ _ _ hg hk' (fun h => hne h.symm) b hb'
theorem s_load (hR : R E A ρ O F s a w) (hd : ∀ k, o.dst = some k → k < E.n) {t : TypeId} {m : Option Nat} {x : Operand} {x' : X} (ho : o.op = .load t x) (hs : shp P t = some m) (hx : opd x = some x') (hf : FR E A n K)
    (hK : stepK P s n (.load m x') K) (hn : NX E A s a n o.dst K next) : o.wp P a w next Q := by
  have hv := ev_ok hR hx
  simp only [stepK] at hK
  split at hK
  · rename_i tk r q he
    rw [he] at hv; simp only [CV] at hv
    obtain ⟨hA, B, hB, e⟩ := hv
    split at hK
    case h_2 => exact hK.elim
    rename_i sz rows hg
    split at hK
    case h_2 => exact hK.elim
    rename_i row hrow
    obtain ⟨hqm, hK⟩ := hK
    have fin : ∀ (v : T), K v (drawn tk sz rows r row q (m.getD 1) (mats ((row.drop q).take (m.getD 1)) n)) [tk] → (∀ us, us.length = m.getD 1 → ∀ ρ' A', CVs w O ρ' A' (mats ((row.drop q).take (m.getD 1)) n).1 us → CV w O ρ' A' v (ldv m us)) → o.wp P a w next Q := by
      intro v hK hcv
      obtain ⟨us, hlu, hli, ρ', hc, F', hR'⟩ := draw_ok (o := o) hR hd hA hB hg hrow hqm hf.1 (hf.2 _ _ _ hK)
      have hrun := run_loadAt hs hli hlu (a.eval x) e
      refine wp_value (u := ldv m us) (w' := w) (by simp [execOp, ho, hrun]) (hn v _ _ _ _ hK ⟨ρ', O, F', ?_⟩)
      exact hR'.put hd (hcv us hlu _ _ hc)
    cases m with
    | some k =>
      refine fin _ hK (fun us hlu ρ' A' hc => ?_)
      simp only [CV]; exact ⟨us, rfl, hc⟩
    | none =>
      simp only at hK
      split at hK
      · rename_i v hone
        refine fin v hK (fun us hlu ρ' A' hc => ?_)
        simp only [Option.getD_none] at hc hlu
        rw [hone] at hc
        simp only [CVs] at hc
        obtain ⟨u, r', rfl, h1, rfl⟩ := hc
        exact h1
      · exact hK.elim
  · rename_i cs he
    rw [he] at hv; simp only [CV, CI] at hv
    obtain ⟨b, q, us, e, hb, hc, hl⟩ := hv
    obtain ⟨hm, hK⟩ := hK
    have hlen := hc.len
    have hl' : Lies w b q (us.take (m.getD 1)) := by
      intro j u hj
      refine hl j u ?_
      rw [List.getElem?_take] at hj
      split at hj
      · exact hj
      · exact absurd hj (by simp)
    have hrun := run_loadAt hs hl' (by simp; omega) (a.eval x) e
    cases m with
    | some k =>
      refine pureOp hR hd (u := .agg (us.take k).toArray) (v := .agg (cs.take k)) (by simp [execOp, ho, hrun, ldv]) ?_ ⟨[], hK⟩ hn
      simp only [CV]
      exact ⟨_, rfl, CVs.ofCI (CIs_take k hc)⟩
    | none =>
      simp only at hK
      split at hK
      · rename_i c cs
        simp only [CIs] at hc
        obtain ⟨u, r', rfl, h1, _⟩ := hc
        refine pureOp hR hd (u := u) (v := c) (by simp [execOp, ho, hrun, ldv]) (CV.ofCI h1) ⟨[], hK⟩ hn
      · exact hK.elim
  · exact hK.elim
end
end Go.Proofs.Ytcchmhmbjhgfdaa.V
