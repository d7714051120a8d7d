/- Each step of the machine of trees is a step of the model: append; bytes read as text. -/
import Derived.Test.YtcchmhmbjhgfdaaVk
namespace Go.Proofs.Ytcchmhmbjhgfdaa.V
open Go
set_option linter.unusedVariables false
set_option linter.unusedSimpArgs false
section
variable {P : Program} {E : Env} {A A' : Nat → Prop} {ρ ρ' : Nat → Option RB} {O O' : Nat → Prop} {F F' : Nat → List Nat} {s : St} {a : Act} {w w' : World} {o : Oper} {n : Nat}
  {K : T → Δ → List Nat → Prop} {next : Act → World → Prop} {Q : Exit → Act → World → Prop}
theorem CVs_of_Ds : ∀ {ts : List T} {vs : List Value} {F : List Nat}, Ds w O ρ A ts vs F → (ts.all T.cell) = true → CVs w O ρ A ts vs
  | [], vs, F, h, hc => by simp only [Ds] at h; simp [CVs, h.1]
  | t :: ts, vs, F, h, hc => by
    simp only [Ds] at h; simp only [CVs]
    simp only [List.all_cons, Bool.and_eq_true] at hc
    obtain ⟨v, r, F1, F2, e, _, h1, h2⟩ := h
    refine ⟨v, r, e, ?_, CVs_of_Ds h2 hc.2⟩
    rcases h1 with h1 | h1
    · have hc1 := hc.1
      refine CV.ofCI (w := w) (O := O) ?_
      cases t <;> first
        | (simp only [K] at h1; exact h1.1)
        | (simp [T.cell] at hc1)
    · exact h1.1
theorem Dr_cells : ∀ {rs : List (List T)} {vs : List Value} {F : List Nat}, Dr w O ρ A rs vs F → (∀ r ∈ rs, (r.all T.cell) = true) → Dr w O ρ A rs vs [] ∧ ∀ u ∈ vs, u.oneCell' = true
  | [], vs, F, h, hc => by simp only [Dr] at h; simp [Dr, h.1]
  | r :: rs, vs, F, h, hc => by
    simp only [Dr] at h
    obtain ⟨v1, v2, F1, F2, rfl, _, h1, h2⟩ := h
    obtain ⟨g1, g2⟩ := Dr_cells h2 (fun x hx => hc x (by simp [hx]))
    have h3 := CVs_of_Ds h1 (hc r (by simp))
    have one : ∀ {ts : List T} {vs : List Value}, CVs w O ρ A ts vs → (ts.all T.cell) = true → ∀ u ∈ vs, u.oneCell' = true := by
      intro ts
      induction ts with
      | nil => intro vs h; simp only [CVs] at h; simp [h]
      | cons t ts ih =>
        intro vs h hc
        simp only [CVs] at h
        simp only [List.all_cons, Bool.and_eq_true] at hc
        obtain ⟨u, r, rfl, h1, h2⟩ := h
        intro x hx
        rcases List.mem_cons.1 hx with rfl | hx
        · exact oneCell_of_CV h1 hc.1
        · exact ih h2 hc.2 x hx
    refine ⟨?_, ?_⟩
    · simp only [Dr]; exact ⟨v1, v2, [], [], rfl, rfl, Ds_of_CVs' h3, g1⟩
    · intro u hu
      rcases List.mem_append.1 hu with hu | hu
      · exact one h3 (hc r (by simp)) u hu
      · exact g2 u hu
theorem Dr_of_CIr : ∀ {rs : List (List T)} {vs : List Value}, CIr w O rs vs → Dr w O ρ A rs vs []
  | [], vs, h => by simp only [CIr] at h; simp [Dr, h]
  | r :: rs, vs, h => by
    simp only [CIr] at h; simp only [Dr]
    obtain ⟨v1, v2, e, h1, h2⟩ := h
    exact ⟨v1, v2, [], [], e, rfl, Ds_of_CVs' (CVs.ofCI h1), Dr_of_CIr h2⟩
/-- Some rows of a block, from row 'p' on. -/
theorem BR.seg {t sz : Nat} {rows : List (List T)} {Ft : List Nat} (h : BR w O ρ A t (.arr sz rows) Ft) {p m : Nat} (hp : p + m ≤ rows.length) :
    (rows = [] ∧ Ft = [] ∧ (ρ t = none ∨ ∃ B, ρ t = some B ∧ B.cap = 0 ∧ sz = B.sz)) ∨ ∃ B c e us1 us us2 F1 Fm F2, ρ t = some B ∧ sz = B.sz ∧ rows.length ≤ B.cap ∧ (∀ r ∈ rows, r.length = sz) ∧ w.heap[B.b]? = some (.cells c e (0, 0)) ∧ B.o + B.cap * B.sz ≤ c.size ∧ Dr w O ρ A ((rows.drop p).take m) us Fm ∧
      (∀ (j : Nat) (u : Value), (us1 ++ us ++ us2)[j]? = some u → c[B.o + j]? = some u) ∧ us1.length = p * sz ∧ us.length = m * sz ∧ Ft = B.b :: (F1 ++ Fm ++ F2) := by
  simp only [BR] at h
  rcases h with h | ⟨B, hB, hsz, hs, hcap, c, e, cs, F', hb, hc, hd, hm, hF⟩
  · exact .inl h
  · right
    rw [show rows = rows.take p ++ ((rows.drop p).take m ++ rows.drop (p + m)) by rw [← List.drop_drop, List.take_append_drop, List.take_append_drop]] at hd
    obtain ⟨u1, u23, F1, F23, rfl, rfl, h1, h2⟩ := Dr_append.1 hd
    obtain ⟨u2, u3, F2, F3, rfl, rfl, h3, h4⟩ := Dr_append.1 h2
    refine ⟨B, c, e, u1, u2, u3, F1, F2, F3, hB, hsz, hcap, hs, hb, hc, h3, by simpa using hm, ?_, ?_, by simpa using hF⟩
    · rw [h1.len (fun r hr => hs r (List.mem_of_mem_take hr))]; simp; rw [Nat.min_eq_left (by omega)]
    · rw [h3.len (fun r hr => hs r (List.mem_of_mem_drop (List.mem_of_mem_take hr)))]; simp; rw [Nat.min_eq_left (by omega)]
/-- A slice of a block without rows. -/
theorem ref_empty {tk p m : Nat} {v : Value} (hp : p = 0) (hm : m = 0) (hv : (ρ tk = none ∧ p = 0 ∧ m = 0 ∧ ∃ q, v = .slice q 0 0) ∨ ∃ B, ρ tk = some B ∧ ∃ b' o' c, v = .slice (some ⟨b', o', none⟩) m c ∧ p + c = B.cap ∧ m ≤ c ∧ (c = 0 ∨ (b' = B.b ∧ o' = B.o + p * B.sz))) {sz : Nat} (h : ρ tk = none ∨ ∃ B, ρ tk = some B ∧ B.cap = 0 ∧ sz = B.sz) : ∃ q, v = .slice q 0 0 := by
  rcases hv with ⟨_, _, _, h⟩ | ⟨B, hB, b', o', c, e, h1, h2, _⟩
  · exact h
  · rcases h with h | ⟨B', h, h3, _⟩
    · rw [h] at hB; exact absurd hB (by simp)
    · rw [h] at hB
      obtain rfl := Option.some.inj hB
      have hc : c = 0 := by omega
      subst hm hc
      exact ⟨_, e⟩
/-- The rows of a slice that is read: its cells. -/
theorem src_ok (hR : R E A ρ O F s a w) {t : T} {v : Value} (hv : CV w O ρ A t v) {src : List (List T)} {ts : List Nat} {sz : Nat} (h : rowsAt s t = some (src, ts)) (hs : ∀ r ∈ src, r.length = sz ∧ (r.all T.cell) = true) :
    ∃ news, news.length = src.length * sz ∧ Dr w O ρ A src news [] ∧ (∀ u ∈ news, u.oneCell' = true) ∧ ∃ q c, v = .slice q src.length c ∧ (q = none → src = []) ∧ ((∃ b off, q = some ⟨b, off, none⟩ ∧ (src = [] ∨ Lies w b off news)) ∨ src = []) := by
  unfold rowsAt at h
  split at h
  · simp only [Option.some.injEq, Prod.mk.injEq] at h
    obtain ⟨rfl, rfl⟩ := h
    simp only [CV, CI] at hv
    exact ⟨[], by simp, by simp [Dr], by simp, none, 0, hv, fun _ => rfl, .inr rfl⟩
  · rename_i rows
    simp only [Option.some.injEq, Prod.mk.injEq] at h
    obtain ⟨rfl, rfl⟩ := h
    simp only [CV, CI] at hv
    obtain ⟨q, cap, e, hl, hm⟩ := hv
    rcases hm with rfl | ⟨b, off, sz', cs, rfl, hb, hs', hr, hli⟩
    · exact ⟨[], by simp, by simp [Dr], by simp, q, cap, e, fun _ => rfl, .inr rfl⟩
    · have hd := Dr_of_CIr (ρ := ρ) (A := A) hr
      obtain ⟨h1, h2⟩ := Dr_cells hd (fun r hr => (hs r hr).2)
      exact ⟨cs, h1.len (fun r hr => (hs r hr).1), h1, h2, _, cap, e, fun h => absurd h (by simp), .inl ⟨b, off, rfl, .inr hli⟩⟩
  · rename_i tk p m
    split at h
    · rename_i sz' rows hg
      split at h
      · rename_i hpm
        simp only [Option.some.injEq, Prod.mk.injEq] at h
        obtain ⟨rfl, rfl⟩ := h
        have hlen : ((rows.drop p).take m).length = m := by simp; omega
        simp only [CV] at hv
        obtain ⟨hA, hv⟩ := hv
        rcases (hR.hp _ _ hg).2.seg hpm with ⟨rfl, _, hn⟩ | ⟨B, c, e, us1, us, us2, F1, Fm, F2, hB, hsz, hcap, hsr, hb, hc, hd, hm, l1, l2, hF⟩
        · simp only [List.drop_nil, List.take_nil] at hs ⊢
          simp only [List.length_nil, Nat.le_zero] at hpm
          obtain ⟨q1, e⟩ := ref_empty (by omega) (by omega) hv hn
          exact ⟨[], by simp, by simp [Dr], by simp, q1, 0, e, fun _ => trivial, .inr trivial⟩
        · obtain ⟨h1, h2⟩ := Dr_cells hd (fun r hr => (hs r hr).2)
          have e1 : us.length = ((rows.drop p).take m).length * sz := h1.len (fun r hr => (hs r hr).1)
          refine ⟨us, e1, h1, h2, ?_⟩
          rcases hv with ⟨hn, _⟩ | ⟨B', hB', b', o', c', e', hc', hmc, hbo⟩
          · rw [hn] at hB; exact absurd hB (by simp)
          · obtain rfl : B = B' := Option.some.inj (hB.symm.trans hB')
            rw [hlen]
            refine ⟨_, c', e', fun h => absurd h (by simp), ?_⟩
            by_cases h0 : (rows.drop p).take m = []
            · exact .inr h0
            · left
              refine ⟨b', o', rfl, .inr ?_⟩
              rcases hbo with h00 | ⟨rfl, rfl⟩
              · exfalso; apply h0; rw [show m = 0 by omega]; simp
              · refine Lies.of_block hb ?_
                intro j u hj
                have := hm (us1.length + j) u (by
                  rw [List.append_assoc, List.getElem?_append_right (by omega), Nat.add_sub_cancel_left, List.getElem?_append_left (getElem?_len hj)]; exact hj)
                rw [l1, hsz] at this
                rw [← this]; congr 1; omega
      · exact absurd h (by simp)
    · exact absurd h (by simp)
  · exact absurd h (by simp)
/-- What append does, its source told by what it reads. -/
theorem run_src {size m : Nat} {q : Option Addr} {c : Nat} {news : List Value} (hl : news.length = m * size) (hq : (∃ b off, q = some ⟨b, off, none⟩ ∧ (m = 0 ∨ Lies w b off news)) ∨ m = 0) (hw' : w'.heap = w.heap) :
    (Builtin.firstCells size m (.slice q m c)).run P w' = .ok news.toArray w' := by
  have zero : m = 0 → (Builtin.firstCells size m (.slice q m c)).run P w' = .ok news.toArray w' := by
    rintro rfl
    simp only [Nat.zero_mul, List.length_eq_zero_iff] at hl
    subst hl
    cases q with
    | none => simp [Builtin.firstCells]
    | some q => simp [Builtin.firstCells, loadCells, loadCellsFrom]
  rcases hq with ⟨b, off, rfl, h | h⟩ | h
  · exact zero h
  · refine run_firstCells_some (P := P) w' size m ⟨b, off, none⟩ m c news hl ?_
    intro j v hj
    rw [add_none]
    have := h j v hj
    simpa only [World.cell?, hw'] using this
  · exact zero h
theorem run_app_room {t ty e : TypeId} {i : TypeInfo} (ht : P.underlying t = some (.slice e)) (hi : P.info? e = some i) {b off sLen sCap m c : Nat} {q : Option Addr} {news : List Value} {cur : Array Value} {et : TypeId} (hg : w.heap[b]? = some (.cells cur et (0, 0)))
    (hl : news.length = m * i.size) (hq : (∃ b off, q = some ⟨b, off, none⟩ ∧ (m = 0 ∨ Lies w b off news)) ∨ m = 0) (h1 : ∀ u ∈ news, u.oneCell' = true) (hroom : sLen + m ≤ sCap) (hfit : off + sLen * i.size + news.length ≤ cur.size) :
    (Builtin.append_ #[t, t] ty #[.slice (some ⟨b, off, none⟩) sLen sCap, .slice q m c]).run P w =
      .ok (.slice (some ⟨b, off, none⟩) (sLen + m) sCap) (w.setRow b (cur.toList.take (off + sLen * i.size) ++ news ++ cur.toList.drop (off + sLen * i.size + news.length)).toArray) := by
  have hf := run_src (P := P) (c := c) hl hq (w' := w) rfl
  have hst := run_storeCells_at P b (off + sLen * i.size) et news 0 cur w hg (by omega) h1
  simp only [Nat.add_zero] at hst
  simp [Builtin.append_, run_underlying ht, sizeOf, typeInfo, hi, Builtin.lenOf, hroom, hf, add_none, hst]
theorem run_app_room0 {t ty e : TypeId} {i : TypeInfo} (ht : P.underlying t = some (.slice e)) (hi : P.info? e = some i) {d : Option Addr} {sLen sCap c : Nat} {q : Option Addr} (hroom : sLen ≤ sCap) :
    (Builtin.append_ #[t, t] ty #[.slice d sLen sCap, .slice q 0 c]).run P w = .ok (.slice d sLen sCap) w := by
  have hf := run_src (P := P) (size := i.size) (m := 0) (q := q) (c := c) (news := []) (by simp) (.inr rfl) (w' := w) rfl
  cases d with
  | none => simp [Builtin.append_, run_underlying ht, sizeOf, typeInfo, hi, Builtin.lenOf, hroom, hf]
  | some d => simp [Builtin.append_, run_underlying ht, sizeOf, typeInfo, hi, Builtin.lenOf, hroom, hf, storeCells]
theorem run_app_grow {t ty e : TypeId} {i : TypeInfo} {z : Value} (ht : P.underlying t = some (.slice e)) (hi : P.info? e = some i) (hz : i.zero = some z) {d : Option Addr} {sLen sCap m c : Nat} {q : Option Addr} {olds news : List Value}
    (hlo : olds.length = sLen * i.size) (hd : (∃ b off, d = some ⟨b, off, none⟩ ∧ (sLen = 0 ∨ Lies w b off olds)) ∨ sLen = 0)
    (hl : news.length = m * i.size) (hq : (∃ b off, q = some ⟨b, off, none⟩ ∧ (m = 0 ∨ Lies w b off news)) ∨ m = 0) (hg : sCap < sLen + m) (hbytes : (sLen + m) * i.bytes ≤ 140737488355328) (h63 : sLen + m ≤ 9223372036854775807) :
    (Builtin.append_ #[t, t] ty #[.slice d sLen sCap, .slice q m c]).run P w =
      .ok (.slice (some ⟨w.heap.size, 0, none⟩) (sLen + m) (grownCap w (sLen + m) sCap e)) (w.drew.alloc (.cells ((olds ++ news).toArray ++ Builtin.zeroCells z.cells (grownCap w (sLen + m) sCap e - (sLen + m))) e)) := by
  have hn : ¬ (sLen + m ≤ sCap) := by omega
  have h63' : ¬ (9223372036854775807 < ((sLen : Int) + (m : Int))) := by omega
  have hfit := growslice_fits hg hbytes
  have h48' : ¬ (281474976710656 < Builtin.nextslicecap (sLen + m) sCap * i.bytes) := by omega
  have hf := run_src (P := P) (c := c) hl hq (w' := w.drew) rfl
  have ho := run_src (P := P) (c := sCap) hlo hd (w' := w.drew) rfl
  simp [Builtin.append_, run_underlying ht, sizeOf, typeInfo, zeroValue, hi, hz, Builtin.lenOf, hn, h63', h48', Question.forced, ho, hf, newRow, grownCap]
  congr 2
  apply Array.ext'
  simp
theorem s_app (hR : R E A ρ O F s a w) (hd : ∀ k, o.dst = some k → k < E.n) {c : Call} {t e : TypeId} {i : TypeInfo} {x y : Operand} {x' y' : X} (ho : o.op = .call c) (hc : c.callee = .builtin .append) (h0 : c.argTypes.toList = [t, t]) (ha : c.args.toList = [x, y]) (ht : P.underlying t = some (.slice e)) (hi : P.info? e = some i) (hi0 : i.size ≠ 0) (hb0 : i.bytes ≠ 0) (hz : (zero? P e).map (·.length) = some i.size) (hx : opd x = some x') (hy : opd y = some y') (hf : FR E A n K)
    (hK : stepK P s n (.app i.size i.bytes x' y') K) (hn : NX E A s a n o.dst K next) : o.wp P a w next Q := by
  obtain ⟨callee, ⟨args⟩, ⟨argTypes⟩⟩ := c
  simp only at hc ha h0
  subst hc ha h0
  obtain ⟨zs, hz, hzl⟩ := Option.map_eq_some_iff.1 hz
  obtain ⟨z, hiz, hzc⟩ : ∃ z, i.zero = some z ∧ z.cells.size = i.size := by
    unfold zero? at hz
    simp only [hi, Option.bind_some] at hz
    cases hh : i.zero with
    | none => rw [hh] at hz; exact absurd hz (by simp)
    | some z =>
      rw [hh] at hz
      refine ⟨z, rfl, ?_⟩
      have := (csts_ok (w := w) (O := O) hz).1.len
      simpa [hzl] using this
  have hv := ev_ok hR hx
  have hw := ev_ok hR hy
  simp only [stepK] at hK
  split at hK
  case h_2 => exact hK.elim
  rename_i src ts hsrc
  obtain ⟨hs, hK⟩ := hK
  obtain ⟨news, hnl, hnd, hn1, q, cq, hye, hqn, hq⟩ := src_ok hR hw hsrc hs
  have hq' : (∃ b off, q = some ⟨b, off, none⟩ ∧ (src.length = 0 ∨ Lies w b off news)) ∨ src.length = 0 := by
    rcases hq with ⟨b, off, h1, h2⟩ | h
    · exact .inl ⟨b, off, h1, h2.imp (fun h => by simp [h]) id⟩
    · exact .inr (by simp [h])
  have hrun : ∀ u w', (Builtin.append_ #[t, t] o.type #[a.eval x, a.eval y]).run P w = .ok u w' → (execOp a.eval o).run P w = .ok (.value u) w' := by
    intro u w' hr
    simp [execOp, ho, resolve, invoke, builtin, hr]
  -- what has grown lies in a block of its own
  have grown : ∀ (kept : List (List T)) (olds : List Value) (Fm : List Nat) (d : Option Addr) (sCap : Nat) (hp0 : List (Nat × Blk)) (δ : Δ) (rd : List Nat), a.eval x = .slice d kept.length sCap → (∀ r ∈ kept, r.length = i.size) → Dr w O ρ A kept olds Fm →
      ((∃ b off, d = some ⟨b, off, none⟩ ∧ (kept.length = 0 ∨ Lies w b off olds)) ∨ kept.length = 0) → (kept.length + src.length) * i.bytes ≤ 35184372088832 → sCap < kept.length + src.length →
      (∀ t' k, hget hp0 t' = some k → hget s.hp t' = some k) → Fm.Nodup → (∀ b ∈ Fm, ¬ O b ∧ b < w.heap.size ∧ (E.w0.heap.size ≤ b ∨ b ∈ E.mine)) → (∀ t' k, hget hp0 t' = some k → ∀ b ∈ Fm, b ∉ F t') →
      K (.ref n 0 (kept.length + src.length)) δ rd → hap s.hp δ = hset hp0 n (.arr i.size (kept ++ src)) → n < n + δ.length → o.wp P a w next Q := by
    intro kept olds Fm d sCap hp0 δ rd hxe hks hkd hdd hby hgr hsub hnd' hmi hap' hK hδ hδl
    have hA : ¬ A n := hf.2 _ _ _ hK n (Nat.le_refl _) hδl
    have hlo := hkd.len hks
    have hbl : kept.length + src.length ≤ 35184372088832 := by
      have : (kept.length + src.length) * 1 ≤ (kept.length + src.length) * i.bytes := Nat.mul_le_mul_left _ (Nat.pos_of_ne_zero hb0)
      omega
    have hr := run_app_grow (P := P) (ty := o.type) (c := cq) ht hi hiz hlo hdd hnl hq' hgr (by omega) (by omega)
    rw [← hxe, ← hye] at hr
    have hge := grownCap_ge w (kept.length + src.length) sCap e
    generalize hcapg : grownCap w (kept.length + src.length) sCap e = cap at hr hge
    have hwO : ∀ b, b < w.heap.size → (w.drew.alloc (.cells ((olds ++ news).toArray ++ Builtin.zeroCells z.cells (cap - (kept.length + src.length))) e)).heap[b]? = w.heap[b]? := fun b hb => heap_push_old (w := w.drew) hb
    have hkeep : Keep w [] (w.drew.alloc (.cells ((olds ++ news).toArray ++ Builtin.zeroCells z.cells (cap - (kept.length + src.length))) e)) := Keep.grown rfl rfl rfl (by simp) (fun k hk => hwO k hk)
    have hnew : (w.drew.alloc (.cells ((olds ++ news).toArray ++ Builtin.zeroCells z.cells (cap - (kept.length + src.length))) e)).heap[w.heap.size]? = some (.cells ((olds ++ news).toArray ++ Builtin.zeroCells z.cells (cap - (kept.length + src.length))) e (0, 0)) := heap_alloc_new w.drew _
    have hcsz : ((olds ++ news).toArray ++ Builtin.zeroCells z.cells (cap - (kept.length + src.length))).size = cap * i.size := by
      simp only [Array.size_append, List.size_toArray, List.length_append, hlo, hnl, size_zeroCells, hzc, ← Nat.add_mul]
      congr 1; omega
    generalize hcc : (olds ++ news).toArray ++ Builtin.zeroCells z.cells (cap - (kept.length + src.length)) = cells at *
    generalize hww : w.drew.alloc (.cells cells e) = w2 at *
    have hAm : ∀ x, A x → Aext A n δ.length x := fun x h => .inl h
    have hρ : ∀ x, A x → (fun x => if x = n then some (⟨w.heap.size, 0, cap, i.size⟩ : RB) else ρ x) x = ρ x := fun x hx => if_neg (fun (h : x = n) => hA (by rw [← h]; exact hx))
    have hw2 : ∀ b, O b → w2.heap[b]? = w.heap[b]? := fun b hb => hwO b (hR.Olt b hb)
    have hR1 := hR.set1 (t := n) (k := .arr i.size (kept ++ src)) (Ft := w.heap.size :: Fm) (M := []) (A' := Aext A n δ.length) (ρ' := fun x => if x = n then some (⟨w.heap.size, 0, cap, i.size⟩ : RB) else ρ x) (w' := w2) (hp0 := hp0)
      hAm hρ (fun t ht => by rw [if_neg (by have := hf.1; omega)]; exact hR.ρ0 t ht) hw2 hsub (fun t' k _ hk b hb => hwO b (hR.mine t' k (hsub _ _ hk) b hb).2.1) hkeep (by simp) (.inr ⟨Nat.le_refl _, hδl⟩) ?_ ?_ ?_ ?_
    · have h2 := hR1.put hd (v := .ref n 0 (kept.length + src.length)) (u := .slice (some ⟨w.heap.size, 0, none⟩) (kept.length + src.length) cap) (by
        simp only [CV]
        exact ⟨.inr ⟨Nat.le_refl _, hδl⟩, .inr ⟨⟨w.heap.size, 0, cap, i.size⟩, by simp, w.heap.size, 0, cap, rfl, by simp, hge, .inr ⟨rfl, by simp⟩⟩⟩)
      have h3 : Rel E (Aext A n δ.length) (s.app o.dst (.ref n 0 (kept.length + src.length)) δ) (a.put o.dst (.slice (some ⟨w.heap.size, 0, none⟩) (kept.length + src.length) cap)) w2 := by
        rw [St.app, hδ]
        exact ⟨_, _, _, h2⟩
      exact wp_value (hrun _ _ hr) (hn _ δ rd _ _ hK h3)
    · simp only [BR]
      refine .inr ⟨⟨w.heap.size, 0, cap, i.size⟩, by simp, rfl, ?_, by simpa using hge, cells, e, olds ++ news, Fm, hnew, by simp [hcsz], ?_, ?_, rfl⟩
      · intro r hr
        rcases List.mem_append.1 hr with h | h
        · exact hks r h
        · exact (hs r h).1
      · refine Dr_append.2 ⟨olds, news, Fm, [], rfl, by simp, ?_, ?_⟩
        · exact hkd.cong (fun _ h => h) hw2 hAm hρ (fun b hb => hwO b (hmi b hb).2.1)
        · exact hnd.cong (fun _ h => h) hw2 hAm hρ (by simp)
      · intro j u hj
        rw [← hcc]
        simp only [Nat.zero_add]
        rw [Array.getElem?_append_left (by simpa using getElem?_len hj)]
        simpa using hj
    · refine List.nodup_cons.2 ⟨fun h => ?_, hnd'⟩
      have := (hmi _ h).2.1; omega
    · intro b hb
      rcases List.mem_cons.1 hb with rfl | hb
      · refine ⟨fun h => ?_, ?_, .inl hR.keep.size⟩
        · have := hR.Olt _ h; omega
        · rw [← hww]; simp
      · obtain ⟨g1, g2, g3⟩ := hmi b hb
        exact ⟨g1, Nat.lt_of_lt_of_le g2 hkeep.size, g3⟩
    · intro t' k _ hk b hb
      rcases List.mem_cons.1 hb with rfl | hb
      · intro hb'
        have := (hR.mine _ _ (hsub _ _ hk) _ hb').2.1; omega
      · exact hap' t' k hk b hb
  split at hK
  · -- onto nothing
    rename_i hxe
    obtain ⟨hby, hK⟩ := hK
    rw [hxe] at hv; simp only [CV, CI] at hv
    by_cases hsrc0 : src = []
    · subst hsrc0
      have hA : ¬ A n := hf.2 _ _ _ hK n (Nat.le_refl _) (by simp)
      have hr := run_app_room0 (P := P) (w := w) (ty := o.type) (d := none) (sLen := 0) (sCap := 0) (q := q) (c := cq) ht hi (Nat.le_refl _)
      have hye' : a.eval y = .slice q 0 cq := hye
      rw [← hv, ← hye'] at hr
      have hAm : ∀ x, A x → Aext A n 1 x := fun x h => .inl h
      have hρ : ∀ x, A x → (fun x => if x = n then none else ρ x) x = ρ x := fun x hx => if_neg (fun (h : x = n) => hA (by rw [← h]; exact hx))
      have hR1 := hR.set1 (t := n) (k := .arr i.size []) (Ft := []) (M := []) (A' := Aext A n 1) (ρ' := fun x => if x = n then none else ρ x) (w' := w) (hp0 := s.hp)
        hAm hρ (fun t ht => by rw [if_neg (by have := hf.1; omega)]; exact hR.ρ0 t ht) (fun _ _ => rfl) (fun _ _ h => h) (fun _ _ _ _ _ _ => rfl) (Keep.refl _ _) (by simp) (.inr ⟨Nat.le_refl _, by omega⟩) (by simp [BR]) (by simp) (by simp) (by simp)
      have h2 := hR1.put hd (v := .ref n 0 0) (u := .slice none 0 0) (by
        simp only [CV]
        exact ⟨.inr ⟨Nat.le_refl _, by omega⟩, .inl (by simp)⟩)
      rw [hv] at hr
      exact wp_value (hrun _ _ (by rw [hv]; exact hr)) (hn _ _ _ _ _ hK ⟨_, O, _, h2⟩)
    · refine grown [] [] [] none 0 s.hp [(n, some (.arr i.size src))] ts hv (by simp) (by simp [Dr]) (.inr rfl) (by simpa using hby) ?_ (fun _ _ h => h) (by simp) (by simp) (by simp) (by simpa using hK) (by simp [hap]) (by simp)
      simp only [List.length_nil, Nat.zero_add]
      exact List.length_pos_iff.2 hsrc0
  · rename_i tk p m hxe
    rw [hxe] at hv; simp only [CV] at hv
    obtain ⟨hAk, hv⟩ := hv
    split at hK
    case h_2 => exact hK.elim
    rename_i sz' rows hg
    obtain ⟨rfl, hpm, hnt, hby, hK⟩ := hK
    have hsub : ∀ t' k, hget (hdel s.hp tk) t' = some k → hget s.hp t' = some k := fun _ _ h => hget_hdel_sub h
    have hdelne : ∀ t' k, hget (hdel s.hp tk) t' = some k → t' ≠ tk := by
      intro t' k h e
      rw [hget_hdel, if_pos e.symm] at h
      exact absurd h (by simp)
    have hkl : ((rows.drop p).take m).length = m := by simp; omega
    have hδ : hap s.hp [(tk, none), (n, some (Blk.arr i.size ((rows.drop p).take m ++ src)))] = hset (hdel s.hp tk) n (.arr i.size ((rows.drop p).take m ++ src)) := rfl
    have hA : ¬ A n := hf.2 _ _ _ hK n (Nat.le_refl _) (by simp)
    rcases (hR.hp _ _ hg).2.seg hpm with ⟨rfl, _, hnone⟩ | ⟨B, c, et, us1, us, us2, F1, Fm, F2, hB, hsz, hcap, hsr, hb, hcs, hdm, hlie, l1, l2, hF⟩
    · -- a slice that is nil
      simp only [List.length_nil, Nat.le_zero_eq] at hpm
      obtain ⟨rfl, rfl⟩ : p = 0 ∧ m = 0 := by omega
      obtain ⟨q1, hv⟩ := ref_empty rfl rfl hv hnone
      simp only [List.drop_nil, List.take_nil, List.nil_append, Nat.zero_add] at hK hδ hby
      by_cases hsrc0 : src = []
      · subst hsrc0
        have hr := run_app_room0 (P := P) (w := w) (ty := o.type) (d := q1) (sLen := 0) (sCap := 0) (q := q) (c := cq) ht hi (Nat.le_refl _)
        have hye' : a.eval y = .slice q 0 cq := hye
        rw [← hv, ← hye'] at hr
        have hAm : ∀ x, A x → Aext A n 2 x := fun x h => .inl h
        have hρ : ∀ x, A x → (fun x => if x = n then none else ρ x) x = ρ x := fun x hx => if_neg (fun (h : x = n) => hA (by rw [← h]; exact hx))
        have hR1 := hR.set1 (t := n) (k := .arr i.size []) (Ft := []) (M := []) (A' := Aext A n 2) (ρ' := fun x => if x = n then none else ρ x) (w' := w) (hp0 := hdel s.hp tk)
          hAm hρ (fun t ht => by rw [if_neg (by have := hf.1; omega)]; exact hR.ρ0 t ht) (fun _ _ => rfl) hsub (fun _ _ _ _ _ _ => rfl) (Keep.refl _ _) (by simp) (.inr ⟨Nat.le_refl _, by omega⟩) (by simp [BR]) (by simp) (by simp) (by simp)
        have h2 := hR1.put hd (v := .ref n 0 0) (u := .slice q1 0 0) (by
          simp only [CV]
          exact ⟨.inr ⟨Nat.le_refl _, by omega⟩, .inl (by simp)⟩)
        rw [hv] at hr
        exact wp_value (hrun _ _ (by rw [hv]; exact hr)) (hn _ _ _ _ _ hK ⟨_, O, _, h2⟩)
      · refine grown [] [] [] q1 0 (hdel s.hp tk) _ (tk :: ts) hv (by simp) (by simp [Dr]) (.inr rfl) (by simpa using hby) ?_ hsub (by simp) (by simp) (by simp) (by simpa using hK) (by simpa using hδ) (by simp)
        simp only [List.length_nil, Nat.zero_add]
        exact List.length_pos_iff.2 hsrc0
    · rcases hv with ⟨hnone, _⟩ | ⟨B', hB', b', o', cc, hv, hcc, hmc, hbo⟩
      · rw [hnone] at hB; exact absurd hB (by simp)
      obtain rfl : B = B' := Option.some.inj (hB.symm.trans hB')
      have hndF := hR.nodup _ _ hg
      rw [hF] at hndF
      have hndt := List.nodup_cons.1 hndF
      have hin : ∀ b ∈ Fm, b ∈ F tk := fun b hb => by rw [hF]; simp [hb]
      have hFmnd : Fm.Nodup := hndt.2.sublist (List.Sublist.trans (List.sublist_append_right F1 Fm) (List.sublist_append_left _ F2))
      have hmi : ∀ b ∈ Fm, ¬ O b ∧ b < w.heap.size ∧ (E.w0.heap.size ≤ b ∨ b ∈ E.mine) := fun b hb => hR.mine _ _ hg b (hin b hb)
      have hap' : ∀ t' k, hget (hdel s.hp tk) t' = some k → ∀ b ∈ Fm, b ∉ F t' := fun t' k hk b hb => hR.apart _ _ _ _ hg (hsub _ _ hk) (fun h => hdelne _ _ hk h.symm) b (hin b hb)
      have hdd : (∃ b off, (some ⟨b', o', none⟩ : Option Addr) = some ⟨b, off, none⟩ ∧ (((rows.drop p).take m).length = 0 ∨ Lies w b off us)) ∨ ((rows.drop p).take m).length = 0 := by
        rw [hkl]
        by_cases hm0 : m = 0
        · exact .inr hm0
        · left
          refine ⟨b', o', rfl, .inr ?_⟩
          rcases hbo with h00 | ⟨rfl, rfl⟩
          · omega
          · refine Lies.of_block hb ?_
            intro j u hj
            have := hlie (us1.length + j) u (by
              rw [List.append_assoc, List.getElem?_append_right (by omega), Nat.add_sub_cancel_left, List.getElem?_append_left (getElem?_len hj)]; exact hj)
            rw [l1, hsz] at this
            rw [← this]; congr 1; omega
      have hks : ∀ r ∈ (rows.drop p).take m, r.length = i.size := fun r hr => hsr r (List.mem_of_mem_drop (List.mem_of_mem_take hr))
      by_cases hroom : m + src.length ≤ cc
      · -- there is room
        by_cases hc0 : cc = 0
        · -- no room is wanted
          have hm0 : m = 0 := by omega
          have hs0 : src = [] := List.length_eq_zero_iff.1 (by omega)
          subst hm0 hs0
          have hr := run_app_room0 (P := P) (w := w) (ty := o.type) (d := some ⟨b', o', none⟩) (sLen := 0) (sCap := cc) (q := q) (c := cq) ht hi (by omega)
          have hye' : a.eval y = .slice q 0 cq := hye
          rw [← hv, ← hye'] at hr
          have hAm : ∀ x, A x → Aext A n 2 x := fun x h => .inl h
          have hρ : ∀ x, A x → (fun x => if x = n then some (⟨B.b, B.o, 0, i.size⟩ : RB) else ρ x) x = ρ x := fun x hx => if_neg (fun (h : x = n) => hA (by rw [← h]; exact hx))
          simp only [List.take_zero, List.append_nil, List.length_nil, Nat.add_zero] at hK
          have hR1 := hR.set1 (t := n) (k := .arr i.size []) (Ft := [B.b]) (M := []) (A' := Aext A n 2) (ρ' := fun x => if x = n then some (⟨B.b, B.o, 0, i.size⟩ : RB) else ρ x) (w' := w) (hp0 := hdel s.hp tk)
            hAm hρ (fun t ht => by rw [if_neg (by have := hf.1; omega)]; exact hR.ρ0 t ht) (fun _ _ => rfl) hsub (fun _ _ _ _ _ _ => rfl) (Keep.refl _ _) (by simp) (.inr ⟨Nat.le_refl _, by omega⟩) ?_ (by simp) ?_ ?_
          · have h2 := hR1.put hd (v := .ref n 0 0) (u := .slice (some ⟨b', o', none⟩) 0 cc) (by
              simp only [CV]
              exact ⟨.inr ⟨Nat.le_refl _, by omega⟩, .inr ⟨⟨B.b, B.o, 0, i.size⟩, by simp, b', o', cc, rfl, by simp; omega, by omega, .inl hc0⟩⟩)
            rw [hv] at hr
            exact wp_value (hrun _ _ (by rw [hv]; exact hr)) (hn _ _ _ _ _ hK ⟨_, O, _, h2⟩)
          · simp only [BR]
            exact .inr ⟨⟨B.b, B.o, 0, i.size⟩, by simp, rfl, by simp, by simp, c, et, [], [], hb, by simp; omega, by simp [Dr], by simp, rfl⟩
          · intro b hb'
            simp only [List.mem_singleton] at hb'
            subst hb'
            exact hR.mine _ _ hg _ (by rw [hF]; simp)
          · intro t' k _ hk b hb'
            simp only [List.mem_singleton] at hb'
            subst hb'
            exact hR.apart _ _ _ _ hg (hsub _ _ hk) (fun h => hdelne _ _ hk h.symm) _ (by rw [hF]; simp)
        · obtain ⟨rfl, rfl⟩ : b' = B.b ∧ o' = B.o + p * B.sz := hbo.resolve_left hc0
          have hcapsz : p * B.sz + cc * B.sz = B.cap * B.sz := by rw [← Nat.add_mul, hcc]
          have hroom' : m * i.size + news.length ≤ cc * i.size := by rw [hnl, ← Nat.add_mul]; exact Nat.mul_le_mul_right _ hroom
          have hfit : B.o + p * B.sz + m * i.size + news.length ≤ c.size := by rw [hsz] at hroom' ⊢; omega
          have hr := run_app_room (P := P) (ty := o.type) (c := cq) ht hi hb hnl hq' hn1 hroom hfit
          rw [← hv, ← hye] at hr
          generalize hcN : (c.toList.take (B.o + p * B.sz + m * i.size) ++ news ++ c.toList.drop (B.o + p * B.sz + m * i.size + news.length)).toArray = c' at hr
          have hc'size : c'.size = c.size := by rw [← hcN]; simp; omega
          have hh' : (w.setRow B.b c').heap[B.b]? = some (.cells c' et (0, 0)) := setRow_heap w B.b c c' et _ hb
          have hoth : ∀ b, b ≠ B.b → (w.setRow B.b c').heap[b]? = w.heap[b]? := by
            intro b hb
            simp only [World.setRow, Array.getElem?_modify]
            rw [if_neg (fun h => hb h.symm)]
          have hnoO : ∀ b, O b → b ≠ B.b := by
            rintro b hb rfl
            exact (hR.mine _ _ hg B.b (by rw [hF]; simp)).1 hb
          have hw2 : ∀ b, O b → (w.setRow B.b c').heap[b]? = w.heap[b]? := fun b hb => hoth b (hnoO b hb)
          have hk : Keep w [B.b] (w.setRow B.b c') := Keep.row hb hc'size
          have hAm : ∀ x, A x → Aext A n 2 x := fun x h => .inl h
          have hρ : ∀ x, A x → (fun x => if x = n then some (⟨B.b, B.o + p * B.sz, cc, i.size⟩ : RB) else ρ x) x = ρ x := fun x hx => if_neg (fun (h : x = n) => hA (by rw [← h]; exact hx))
          have hR1 := hR.set1 (t := n) (k := .arr i.size ((rows.drop p).take m ++ src)) (Ft := B.b :: Fm) (M := [B.b]) (A' := Aext A n 2) (ρ' := fun x => if x = n then some (⟨B.b, B.o + p * B.sz, cc, i.size⟩ : RB) else ρ x) (w' := w.setRow B.b c') (hp0 := hdel s.hp tk)
            hAm hρ (fun t ht => by rw [if_neg (by have := hf.1; omega)]; exact hR.ρ0 t ht) hw2 hsub ?_ hk ?_ (.inr ⟨Nat.le_refl _, by omega⟩) ?_ ?_ ?_ ?_
          · have h2 := hR1.put hd (v := .ref n 0 (m + src.length)) (u := .slice (some ⟨B.b, B.o + p * B.sz, none⟩) (m + src.length) cc) (by
              simp only [CV]
              exact ⟨.inr ⟨Nat.le_refl _, by omega⟩, .inr ⟨⟨B.b, B.o + p * B.sz, cc, i.size⟩, by simp, B.b, _, cc, rfl, by simp, hroom, .inr ⟨rfl, by simp⟩⟩⟩)
            have h3 : Rel E (Aext A n 2) (s.app o.dst (.ref n 0 (m + src.length)) [(tk, none), (n, some (Blk.arr i.size ((rows.drop p).take m ++ src)))]) (a.put o.dst (.slice (some ⟨B.b, B.o + p * B.sz, none⟩) (m + src.length) cc)) (w.setRow B.b c') := by
              rw [St.app, hδ]
              exact ⟨_, _, _, h2⟩
            exact wp_value (hrun _ _ hr) (hn _ _ _ _ _ hK h3)
          · intro t' k' hne hk' b hbb
            refine hoth b ?_
            rintro rfl
            exact hR.apart _ _ _ _ (hsub _ _ hk') hg (hdelne _ _ hk') _ hbb (by rw [hF]; simp)
          · intro b hbb
            simp only [List.mem_singleton] at hbb
            subst hbb
            exact (hR.mine _ _ hg B.b (by rw [hF]; simp)).2.2
          · simp only [BR]
            refine .inr ⟨⟨B.b, B.o + p * B.sz, cc, i.size⟩, by simp, rfl, ?_, by simp [hkl]; omega, c', et, us ++ news, Fm, hh', ?_, ?_, ?_, rfl⟩
            · intro r hr
              rcases List.mem_append.1 hr with h | h
              · exact hks r h
              · exact (hs r h).1
            · rw [hc'size]; simp only; rw [hsz]; omega
            · refine Dr_append.2 ⟨us, news, Fm, [], rfl, by simp, ?_, ?_⟩
              · refine hdm.cong (fun _ h => h) hw2 hAm hρ (fun b hbb => hoth b ?_)
                rintro rfl
                exact hndt.1 (by simp [hbb])
              · exact hnd.cong (fun _ h => h) hw2 hAm hρ (by simp)
            · intro j u hj
              rw [← hcN]
              simp only [List.getElem?_toArray]
              have hp1 : (c.toList.take (B.o + p * B.sz + m * i.size)).length = B.o + p * B.sz + m * i.size := by simp; omega
              by_cases c1 : j < us.length
              · rw [List.getElem?_append_left c1] at hj
                have := hlie (us1.length + j) u (by
                  rw [List.append_assoc, List.getElem?_append_right (by omega), Nat.add_sub_cancel_left, List.getElem?_append_left c1]; exact hj)
                rw [List.append_assoc, List.getElem?_append_left (by rw [hp1]; omega), List.getElem?_take, if_pos (by omega)]
                rw [l1, hsz] at this
                rw [Array.getElem?_toList, ← this]; congr 1; omega
              · rw [List.getElem?_append_right (by omega)] at hj
                have hjl := getElem?_len hj
                rw [List.append_assoc, List.getElem?_append_right (by rw [hp1]; omega), hp1, List.getElem?_append_left (by omega)]
                rw [← hj]; congr 1; omega
          · exact List.nodup_cons.2 ⟨fun h => hndt.1 (by simp [h]), hFmnd⟩
          · intro b hbb
            have : b ∈ F tk := by
              rw [hF]
              rcases List.mem_cons.1 hbb with rfl | h
              · simp
              · simp [h]
            obtain ⟨g1, g2, g3⟩ := hR.mine _ _ hg b this
            exact ⟨g1, by simpa [World.setRow] using g2, g3⟩
          · intro t' k _ hk b hbb
            have : b ∈ F tk := by
              rw [hF]
              rcases List.mem_cons.1 hbb with rfl | h
              · simp
              · simp [h]
            exact hR.apart _ _ _ _ hg (hsub _ _ hk) (fun h => hdelne _ _ hk h.symm) b this
      · have hle := hkl
        refine grown ((rows.drop p).take m) us Fm (some ⟨b', o', none⟩) cc (hdel s.hp tk) _ (tk :: ts) (by rw [hkl]; exact hv) hks hdm hdd (by rw [hkl]; exact hby) (by rw [hkl]; omega) hsub hFmnd hmi hap' (by rw [hkl]; exact hK) hδ (by simp)
  · exact hK.elim
end
end Go.Proofs.Ytcchmhmbjhgfdaa.V
