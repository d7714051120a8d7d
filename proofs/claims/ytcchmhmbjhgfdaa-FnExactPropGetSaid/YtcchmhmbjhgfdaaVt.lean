/- The machine of trees: a state told anew, with other names or with less. -/
import Derived.Test.YtcchmhmbjhgfdaaVs
namespace Go.Proofs.Ytcchmhmbjhgfdaa.V
open Go
set_option linter.unusedVariables false
set_option linter.unusedSimpArgs false
mutual
def T.rn (f : Nat → Nat) : T → T
  | .ref t o n => .ref (f t) o n
  | .ptr t r o => .ptr (f t) r o
  | .mp t => .mp (f t)
  | .agg cs => .agg (rns f cs)
  | .tup cs => .tup (rns f cs)
  | .fn g cs => .fn g (rns f cs)
  | .ifc t x => .ifc t (x.rn f)
  | t => t
def rns (f : Nat → Nat) : List T → List T
  | [] => []
  | t :: ts => t.rn f :: rns f ts
end
def Blk.rn (f : Nat → Nat) : Blk → Blk
  | .arr sz rows => .arr sz (rows.map (rns f))
  | .mb es => .mb es
def Blk.names : Blk → List Nat
  | .arr sz rows => rows.flatMap namess
  | .mb es => []
section
variable {P : Program} {E : Env} {s s' : St} {a : Act} {w w' : World} {A A' : Nat → Prop} {ρ : Nat → Option RB} {O : Nat → Prop} {F : Nat → List Nat} {f : Nat → Nat}
mutual
theorem CI_rn : ∀ {t : T} {v : Value}, CI w O (t.rn f) v → CI w O t v
  | .ref _ _ _, v, h => by simp only [T.rn, CI] at h
  | .ptr _ _ _, v, h => by simp only [T.rn, CI] at h
  | .mp _, v, h => by simp only [T.rn, CI] at h
  | .agg cs, v, h => by simp only [T.rn, CI] at h ⊢; obtain ⟨us, e, h⟩ := h; exact ⟨us, e, CIs_rn h⟩
  | .tup cs, v, h => by simp only [T.rn, CI] at h ⊢; obtain ⟨us, e, h⟩ := h; exact ⟨us, e, CIs_rn h⟩
  | .fn g cs, v, h => by simp only [T.rn, CI] at h ⊢; obtain ⟨us, e, h⟩ := h; exact ⟨us, e, CIs_rn h⟩
  | .ifc t x, v, h => by simp only [T.rn, CI] at h ⊢; obtain ⟨u, e, h⟩ := h; exact ⟨u, e, CI_rn h⟩
  | .un, v, h => by simpa only [T.rn] using h
  | .dead, v, h => by simpa only [T.rn] using h
  | .b _, v, h => by simpa only [T.rn] using h
  | .i _ _, v, h => by simpa only [T.rn] using h
  | .s _, v, h => by simpa only [T.rn] using h
  | .nl, v, h => by simpa only [T.rn] using h
  | .imm _, v, h => by simpa only [T.rn] using h
  | .own _ _, v, h => by simpa only [T.rn] using h
  | .bx _, v, h => by simpa only [T.rn] using h
  | .np, v, h => by simpa only [T.rn] using h
  | .pim _, v, h => by simpa only [T.rn] using h
  | .nif, v, h => by simpa only [T.rn] using h
  | .nfn, v, h => by simpa only [T.rn] using h
  | .nmp, v, h => by simpa only [T.rn] using h
theorem CIs_rn : ∀ {ts : List T} {vs : List Value}, CIs w O (rns f ts) vs → CIs w O ts vs
  | [], vs, h => by simpa only [rns] using h
  | t :: ts, vs, h => by
    simp only [rns, CIs] at h ⊢
    obtain ⟨v, r, e, h1, h2⟩ := h
    exact ⟨v, r, e, CI_rn h1, CIs_rn h2⟩
end
mutual
theorem K_rn : ∀ {t : T} {v : Value} {G : List Nat}, K w O (t.rn f) v G → K w O t v G
  | .ref _ _ _, v, G, h => by simp only [T.rn, K, CI, false_and] at h
  | .ptr _ _ _, v, G, h => by simp only [T.rn, K, CI, false_and] at h
  | .mp _, v, G, h => by simp only [T.rn, K, CI, false_and] at h
  | .agg cs, v, G, h => by simp only [T.rn, K] at h ⊢; obtain ⟨us, e, h⟩ := h; exact ⟨us, e, Ks_rn h⟩
  | .tup cs, v, G, h => by simp only [T.rn, K] at h ⊢; obtain ⟨us, e, h⟩ := h; exact ⟨us, e, Ks_rn h⟩
  | .fn g cs, v, G, h => by
    simp only [K]
    have h' : CI w O ((T.fn g cs).rn f) v ∧ G = [] := by simpa only [T.rn, K] using h
    exact ⟨CI_rn h'.1, h'.2⟩
  | .ifc t x, v, G, h => by
    simp only [K]
    have h' : CI w O ((T.ifc t x).rn f) v ∧ G = [] := by simpa only [T.rn, K] using h
    exact ⟨CI_rn h'.1, h'.2⟩
  | .un, v, G, h => by simpa only [T.rn] using h
  | .dead, v, G, h => by simpa only [T.rn] using h
  | .b _, v, G, h => by simpa only [T.rn] using h
  | .i _ _, v, G, h => by simpa only [T.rn] using h
  | .s _, v, G, h => by simpa only [T.rn] using h
  | .nl, v, G, h => by simpa only [T.rn] using h
  | .imm _, v, G, h => by simpa only [T.rn] using h
  | .own _ _, v, G, h => by simpa only [T.rn] using h
  | .bx _, v, G, h => by simpa only [T.rn] using h
  | .np, v, G, h => by simpa only [T.rn] using h
  | .pim _, v, G, h => by simpa only [T.rn] using h
  | .nif, v, G, h => by simpa only [T.rn] using h
  | .nfn, v, G, h => by simpa only [T.rn] using h
  | .nmp, v, G, h => by simpa only [T.rn] using h
theorem Ks_rn : ∀ {ts : List T} {vs : List Value} {G : List Nat}, Ks w O (rns f ts) vs G → Ks w O ts vs G
  | [], vs, G, h => by simpa only [rns] using h
  | t :: ts, vs, G, h => by
    simp only [rns, Ks] at h ⊢
    obtain ⟨v, r, F1, F2, e, e2, h1, h2⟩ := h
    exact ⟨v, r, F1, F2, e, e2, K_rn h1, Ks_rn h2⟩
end
mutual
theorem CV_rn {m : Nat} : ∀ {t : T} {v : Value}, CV w O ρ A (t.rn f) v → (∀ x ∈ t.names, x < m) → CV w O (fun t => ρ (f t)) (· < m) t v
  | .ref t o n, v, h, hn => by
    simp only [T.rn, CV] at h ⊢
    exact ⟨hn t (by simp [T.names]), h.2⟩
  | .ptr t r o, v, h, hn => by
    simp only [T.rn, CV] at h ⊢
    exact ⟨hn t (by simp [T.names]), h.2⟩
  | .mp t, v, h, hn => by
    simp only [T.rn, CV] at h ⊢
    exact ⟨hn t (by simp [T.names]), h.2⟩
  | .agg cs, v, h, hn => by simp only [T.rn, CV] at h ⊢; obtain ⟨us, e, h⟩ := h; exact ⟨us, e, CVs_rn h (by simpa only [T.names] using hn)⟩
  | .tup cs, v, h, hn => by simp only [T.rn, CV] at h ⊢; obtain ⟨us, e, h⟩ := h; exact ⟨us, e, CVs_rn h (by simpa only [T.names] using hn)⟩
  | .fn g cs, v, h, hn => by simp only [T.rn, CV] at h ⊢; obtain ⟨us, e, h⟩ := h; exact ⟨us, e, CVs_rn h (by simpa only [T.names] using hn)⟩
  | .ifc t x, v, h, hn => by simp only [T.rn, CV] at h ⊢; obtain ⟨u, e, h⟩ := h; exact ⟨u, e, CV_rn h (by simpa only [T.names] using hn)⟩
  | .un, v, h, hn => by simpa only [T.rn, CV] using h
  | .dead, v, h, hn => by simpa only [T.rn, CV] using h
  | .b _, v, h, hn => by simpa only [T.rn, CV] using h
  | .i _ _, v, h, hn => by simpa only [T.rn, CV] using h
  | .s _, v, h, hn => by simpa only [T.rn, CV] using h
  | .nl, v, h, hn => by simpa only [T.rn, CV] using h
  | .imm _, v, h, hn => by simpa only [T.rn, CV] using h
  | .own _ _, v, h, hn => by simpa only [T.rn, CV] using h
  | .bx _, v, h, hn => by simpa only [T.rn, CV] using h
  | .np, v, h, hn => by simpa only [T.rn, CV] using h
  | .pim _, v, h, hn => by simpa only [T.rn, CV] using h
  | .nif, v, h, hn => by simpa only [T.rn, CV] using h
  | .nfn, v, h, hn => by simpa only [T.rn, CV] using h
  | .nmp, v, h, hn => by simpa only [T.rn, CV] using h
theorem CVs_rn {m : Nat} : ∀ {ts : List T} {vs : List Value}, CVs w O ρ A (rns f ts) vs → (∀ x ∈ namess ts, x < m) → CVs w O (fun t => ρ (f t)) (· < m) ts vs
  | [], vs, h, hn => by simpa only [rns, CVs] using h
  | t :: ts, vs, h, hn => by
    simp only [namess, List.mem_append] at hn
    simp only [rns, CVs] at h ⊢
    obtain ⟨v, r, e, h1, h2⟩ := h
    exact ⟨v, r, e, CV_rn h1 fun x hx => hn x (.inl hx), CVs_rn h2 fun x hx => hn x (.inr hx)⟩
end
theorem Ds_rn {m : Nat} : ∀ {ts : List T} {vs : List Value} {G : List Nat}, Ds w O ρ A (rns f ts) vs G → (∀ x ∈ namess ts, x < m) → Ds w O (fun t => ρ (f t)) (· < m) ts vs G
  | [], vs, G, h, hn => by simpa only [rns, Ds] using h
  | t :: ts, vs, G, h, hn => by
    simp only [namess, List.mem_append] at hn
    simp only [rns, Ds] at h ⊢
    obtain ⟨v, r, F1, F2, e, e2, h1, h2⟩ := h
    exact ⟨v, r, F1, F2, e, e2, h1.imp K_rn (fun h => ⟨CV_rn h.1 fun x hx => hn x (.inl hx), h.2⟩), Ds_rn h2 fun x hx => hn x (.inr hx)⟩
theorem Dr_rn {m : Nat} : ∀ {rs : List (List T)} {vs : List Value} {G : List Nat}, Dr w O ρ A (rs.map (rns f)) vs G → (∀ x ∈ rs.flatMap namess, x < m) → Dr w O (fun t => ρ (f t)) (· < m) rs vs G
  | [], vs, G, h, hn => by simpa only [List.map_nil, Dr] using h
  | r :: rs, vs, G, h, hn => by
    simp only [List.flatMap_cons, List.mem_append] at hn
    simp only [List.map_cons, Dr] at h ⊢
    obtain ⟨v1, v2, F1, F2, e, e2, h1, h2⟩ := h
    exact ⟨v1, v2, F1, F2, e, e2, Ds_rn h1 fun x hx => hn x (.inl hx), Dr_rn h2 fun x hx => hn x (.inr hx)⟩
theorem rns_len : ∀ (ts : List T), (rns f ts).length = ts.length
  | [] => rfl
  | t :: ts => by simp [rns, rns_len ts]
theorem BR_rn {m t : Nat} {k : Blk} {G : List Nat} (h : BR w O ρ A (f t) (k.rn f) G) (hn : ∀ x ∈ k.names, x < m) : BR w O (fun t => ρ (f t)) (· < m) t k G := by
  cases k with
  | mb es => simp only [Blk.rn, BR] at h
  | arr sz rows =>
    simp only [Blk.rn, BR, List.map_eq_nil_iff] at h ⊢
    refine h.imp id ?_
    rintro ⟨B, h1, h2, h3, h4, c, e, cs, F', h5, h6, h7, h8, h9⟩
    exact ⟨B, h1, h2, fun r hr => by rw [← rns_len (f := f) r]; exact h3 _ (List.mem_map.2 ⟨r, hr, rfl⟩), by simpa using h4, c, e, cs, F', h5, h6, Dr_rn h7 hn, h8, h9⟩
theorem tget_mem : ∀ (l : List (Nat × T)) (j : Nat), tget l j = .dead ∨ (j, tget l j) ∈ l
  | [], j => .inl rfl
  | (k, v) :: l, j => by
    simp only [tget]
    split
    · rename_i h; subst h; exact .inr (by simp)
    · rcases tget_mem l j with h | h
      · exact .inl h
      · exact .inr (by simp [h])
theorem hget_mem : ∀ {l : List (Nat × Blk)} {t : Nat} {k : Blk}, hget l t = some k → (t, k) ∈ l
  | [], t, k, h => by simp [hget] at h
  | (j, v) :: l, t, k, h => by
    simp only [hget] at h
    split at h
    · rename_i e; subst e
      simp only [Option.some.injEq] at h
      subst h; simp
    · exact List.mem_cons_of_mem _ (hget_mem h)
theorem nodup_map_inj {α : Type} {g : α → Nat} : ∀ {l : List α}, (l.map g).Nodup → ∀ x ∈ l, ∀ y ∈ l, g x = g y → x = y
  | [], h, x, hx, y, hy, e => by simp at hx
  | z :: l, h, x, hx, y, hy, e => by
    simp only [List.map_cons, List.nodup_cons, List.mem_map, not_exists, not_and] at h
    rcases List.mem_cons.1 hx with hx | hx <;> rcases List.mem_cons.1 hy with hy | hy
    · exact hx.trans hy.symm
    · exact absurd (e.symm.trans (congrArg g hx)) (h.1 y hy)
    · exact absurd (e.trans (congrArg g hy)) (h.1 x hx)
    · exact nodup_map_inj h.2 x hx y hy e
/-- A state told with other names, or with less. -/
theorem Wk.ren (f : Nat → Nat) (hfb : s'.fb = s.fb) (hnx : s.fb ≤ s'.nx) (hfix : ∀ t, t < s.fb → f t = t)
    (htm : ∀ p ∈ s'.tm, p.2.rn f = tget s.tm p.1 ∧ ∀ x ∈ p.2.names, x < s'.nx)
    (hhp : ∀ p ∈ s'.hp, hget s.hp (f p.1) = some (p.2.rn f) ∧ p.1 < s'.nx ∧ ∀ x ∈ p.2.names, x < s'.nx)
    (hinj : (s'.hp.map (fun p => f p.1)).Nodup) : Wk s s' := by
  rintro E a w ⟨⟨ρ, O, F, h⟩, hE⟩
  have hE' : s.fb = E.fb := h.fb
  refine ⟨⟨fun t => ρ (f t), O, fun t => F (f t), h.size, h.defers, hfb.trans h.fb, fun t ht => ?_, h.O0, h.Olt, h.Onew, fun j => ?_, fun t k hk => ?_, fun t k hk => ?_, ?_, fun t k hk => ?_, h.keep⟩, by omega⟩
  · rw [hfix t (by omega)]; exact h.ρ0 t ht
  · rcases tget_mem s'.tm j with hd | hm
    · rw [hd]; simp only [CV, CI]
    · obtain ⟨h1, h2⟩ := htm _ hm
      refine CV_rn (A := (· < s.nx)) ?_ h2
      have h1' : T.rn f (tget s'.tm j) = tget s.tm j := h1
      rw [h1']; exact h.tm j
  · obtain ⟨h1, h2, h3⟩ := hhp _ (hget_mem hk)
    exact ⟨h2, BR_rn (h.hp _ _ h1).2 h3⟩
  · exact h.nodup _ _ (hhp _ (hget_mem hk)).1
  · intro t k t' k' h1 h2 hne
    refine h.apart _ _ _ _ (hhp _ (hget_mem h1)).1 (hhp _ (hget_mem h2)).1 fun e => hne ?_
    have := nodup_map_inj hinj _ (hget_mem h1) _ (hget_mem h2) e
    exact congrArg Prod.fst this
  · exact h.mine _ _ (hhp _ (hget_mem hk)).1
mutual
theorem rn_id : ∀ (t : T), t.rn id = t
  | .ref t o n => by simp [T.rn]
  | .ptr t r o => by simp [T.rn]
  | .mp t => by simp [T.rn]
  | .agg cs => by simp [T.rn, rns_id cs]
  | .tup cs => by simp [T.rn, rns_id cs]
  | .fn g cs => by simp [T.rn, rns_id cs]
  | .ifc t x => by simp [T.rn, rn_id x]
  | .un => by simp [T.rn]
  | .dead => by simp [T.rn]
  | .b _ => by simp [T.rn]
  | .i _ _ => by simp [T.rn]
  | .s _ => by simp [T.rn]
  | .nl => by simp [T.rn]
  | .imm _ => by simp [T.rn]
  | .own _ _ => by simp [T.rn]
  | .bx _ => by simp [T.rn]
  | .np => by simp [T.rn]
  | .pim _ => by simp [T.rn]
  | .nif => by simp [T.rn]
  | .nfn => by simp [T.rn]
  | .nmp => by simp [T.rn]
theorem rns_id : ∀ (ts : List T), rns id ts = ts
  | [] => rfl
  | t :: ts => by simp [rns, rn_id t, rns_id ts]
end
theorem Blk_rn_id (k : Blk) : k.rn id = k := by
  cases k with
  | mb es => rfl
  | arr sz rows =>
    simp only [Blk.rn, Blk.arr.injEq, true_and]
    rw [List.map_congr_left (g := fun x => x) fun r _ => rns_id r]
    simp
/-- A state told with less, its next name anew. -/
theorem Wk.to (hfb : s'.fb = s.fb) (hnx : s.fb ≤ s'.nx) (htm : ∀ p ∈ s'.tm, p.2 = tget s.tm p.1 ∧ ∀ x ∈ p.2.names, x < s'.nx)
    (hhp : ∀ p ∈ s'.hp, hget s.hp p.1 = some p.2 ∧ p.1 < s'.nx ∧ ∀ x ∈ p.2.names, x < s'.nx) (hnd : (s'.hp.map (fun p => p.1)).Nodup) : Wk s s' :=
  Wk.ren id hfb hnx (fun _ _ => rfl) (fun p hp => ⟨by rw [rn_id]; exact (htm p hp).1, (htm p hp).2⟩) (fun p hp => ⟨by rw [Blk_rn_id]; exact (hhp p hp).1, (hhp p hp).2⟩) hnd
/-- A state told with less. -/
theorem Wk.less (hfb : s'.fb = s.fb) (hnx : s.nx ≤ s'.nx) (htm : ∀ p ∈ s'.tm, p.2 = tget s.tm p.1) (hhp : ∀ p ∈ s'.hp, hget s.hp p.1 = some p.2) : Wk s s' := by
  rintro E a w ⟨⟨ρ, O, F, h⟩, hE⟩
  refine ⟨⟨ρ, O, F, ?_⟩, by omega⟩
  have h := h.monoA (A' := (· < s'.nx)) (fun t ht => by omega)
  have hg : ∀ t k, hget s'.hp t = some k → hget s.hp t = some k := fun t k hk => hhp _ (hget_mem hk)
  refine ⟨h.size, h.defers, hfb.trans h.fb, h.ρ0, h.O0, h.Olt, h.Onew, fun j => ?_, fun t k hk => h.hp t k (hg t k hk), fun t k hk => h.nodup t k (hg t k hk), fun t k t' k' h1 h2 => h.apart t k t' k' (hg t k h1) (hg t' k' h2), fun t k hk => h.mine t k (hg t k hk), h.keep⟩
  rcases tget_mem s'.tm j with hd | hm
  · rw [hd]; simp only [CV, CI]
  · have h1 : tget s'.tm j = tget s.tm j := htm _ hm
    rw [h1]; exact h.tm j
theorem names_clean {t : T} (h : t.clean = true) : t.names = [] := by
  cases t <;> simp [T.clean] at h <;> simp [T.names]
theorem rn_clean {t : T} (h : t.clean = true) : t.rn f = t := by
  cases t <;> simp [T.clean] at h <;> simp [T.rn]
theorem namess_clean : ∀ {ts : List T}, ts.all T.clean = true → namess ts = []
  | [], h => rfl
  | t :: ts, h => by
    simp only [List.all_cons, Bool.and_eq_true] at h
    simp [namess, names_clean h.1, namess_clean h.2]
theorem rns_clean : ∀ {ts : List T}, ts.all T.clean = true → rns f ts = ts
  | [], h => rfl
  | t :: ts, h => by
    simp only [List.all_cons, Bool.and_eq_true] at h
    simp [rns, rn_clean h.1, rns_clean h.2]
theorem rnr_clean : ∀ {rs : List (List T)}, cleanR rs = true → rs.map (rns f) = rs
  | [], h => rfl
  | r :: rs, h => by
    simp only [cleanR, List.all_cons, Bool.and_eq_true] at h
    simp only [List.map_cons, rns_clean h.1]
    rw [rnr_clean (rs := rs) (by simpa only [cleanR] using h.2)]
theorem namesr_clean : ∀ {rs : List (List T)}, cleanR rs = true → rs.flatMap namess = []
  | [], h => rfl
  | r :: rs, h => by
    simp only [cleanR, List.all_cons, Bool.and_eq_true] at h
    simp only [List.flatMap_cons, namess_clean h.1, List.nil_append]
    exact namesr_clean (by simpa only [cleanR] using h.2)
/-- A block that one cell alone refers to goes into the cell. -/
theorem Wk.absorb {b n r c m sz sz' : Nat} {rows rows' : List (List T)} {row : List T} (hb : hget s.hp b = some (.arr sz rows)) (hn : hget s.hp n = some (.arr sz' rows')) (hne : b ≠ n) (hr : rows[r]? = some row) (hc : row[c]? = some (.ref n 0 m)) (hm : m = rows'.length) (hcl : cleanR rows' = true) :
    Wk s { s with hp := hset (hdel s.hp n) b (.arr sz (rows.set r (row.set c (.own sz' rows')))) } := by
  rintro E a w ⟨⟨ρ, O, F, h⟩, hE⟩
  obtain ⟨B, c', et, rs1, rs2, us1, us, us2, F1, Fr, F2, hB, hsz, hrows, hl1, hrl, hz1, hz2, hcap, hheap, hcs, hd1, hdr, hd2, hlie, hlu1, hlu, hFt⟩ := (h.hp _ _ hb).2.row hr
  obtain ⟨hclt, hce⟩ := List.getElem?_eq_some_iff.1 hc
  have hrow : row = row.take c ++ (.ref n 0 m :: row.drop (c + 1)) := by rw [← hce, ← List.drop_eq_getElem_cons hclt, List.take_append_drop]
  rw [hrow] at hdr
  obtain ⟨ua, ub, Fa, Fb, rfl, rfl, hda, hdb⟩ := Ds_append.1 hdr
  simp only [Ds] at hdb
  obtain ⟨v, ud, Fc, Fd, rfl, rfl, hdc, hdd⟩ := hdb
  have hcv : CV w O ρ (· < s.nx) (.ref n 0 m) v ∧ Fc = [] := by
    rcases hdc with hdc | hdc
    · simp only [K, CI, false_and] at hdc
    · exact hdc
  obtain ⟨hcv, rfl⟩ := hcv
  obtain ⟨G, k1, k2, k3, _⟩ := handed1_ok h (O2 := O) (fun _ h => h) (x := .own sz' rows') hcv (by simp only [handed1, hn]; rw [if_pos ⟨hm, hcl⟩])
  have k3' : ∀ x ∈ G, x ∈ F n := by
    intro x hx
    obtain ⟨tk, k, h1, h2, h3⟩ := k3 x hx
    simp only [T.names, List.mem_singleton] at h1
    subst h1; exact h3
  have hset' : rows.set r (row.set c (.own sz' rows')) = rs1 ++ (row.take c ++ (.own sz' rows' :: row.drop (c + 1))) :: rs2 := by
    have e1 : row.set c (.own sz' rows') = row.take c ++ (.own sz' rows' :: row.drop (c + 1)) := by
      rw [List.set_eq_take_append_cons_drop, if_pos hclt]
    rw [e1, hrows, List.set_append_right _ _ (by omega), hl1, Nat.sub_self, List.set_cons_zero]
  have hg : ∀ t k, hget (hset (hdel s.hp n) b (.arr sz (rows.set r (row.set c (.own sz' rows'))))) t = some k → (t = b ∧ k = .arr sz (rows.set r (row.set c (.own sz' rows')))) ∨ (t ≠ b ∧ t ≠ n ∧ hget s.hp t = some k) := by
    intro t k hk
    rw [hget_hset] at hk
    split at hk
    · rename_i e; subst e
      simp only [Option.some.injEq] at hk
      exact .inl ⟨rfl, hk.symm⟩
    · rename_i e
      rw [hget_hdel] at hk
      split at hk
      · exact absurd hk (by simp)
      · rename_i e2
        exact .inr ⟨fun h => e h.symm, fun h => e2 h.symm, hk⟩
  have hperm : (B.b :: (F1 ++ (Fa ++ (G ++ Fd)) ++ F2)).Perm (G ++ F b) := by
    rw [hFt]
    refine List.perm_iff_count.2 fun x => ?_
    simp only [List.count_cons, List.count_append, List.nil_append]
    omega
  have hnd : (B.b :: (F1 ++ (Fa ++ (G ++ Fd)) ++ F2)).Nodup := hperm.nodup_iff.2 (List.nodup_append.2 ⟨k2, h.nodup _ _ hb, fun x hx y hy e => h.apart _ _ _ _ hn hb (fun e => hne e.symm) x (k3' x hx) (e ▸ hy)⟩)
  have hmem : ∀ x, x ∈ B.b :: (F1 ++ (Fa ++ (G ++ Fd)) ++ F2) → x ∈ F n ∨ x ∈ F b := fun x hx => by
    rcases List.mem_append.1 (hperm.mem_iff.1 hx) with h | h
    · exact .inl (k3' x h)
    · exact .inr h
  refine ⟨⟨ρ, O, fun t => if t = b then B.b :: (F1 ++ (Fa ++ (G ++ Fd)) ++ F2) else F t, h.size, h.defers, h.fb, h.ρ0, h.O0, h.Olt, h.Onew, h.tm, fun t k hk => ?_, fun t k hk => ?_, fun t k t' k' h1 h2 hne' x hx => ?_, fun t k hk x hx => ?_, h.keep⟩, hE⟩
  · rcases hg t k hk with ⟨rfl, rfl⟩ | ⟨e1, e2, hk'⟩
    · refine ⟨(h.hp _ _ hb).1, ?_⟩
      rw [if_pos rfl]
      simp only [BR]
      refine .inr ⟨B, hB, hsz, ?_, ?_, c', et, _, _, hheap, hcs, ?_, hlie, rfl⟩
      · rw [hset']
        intro x hx
        rcases List.mem_append.1 hx with hx | hx
        · exact hz1 x hx
        · rcases List.mem_cons.1 hx with rfl | hx
          · rw [← hrl]; conv => rhs; rw [hrow]
            simp
          · exact hz2 x hx
      · rw [List.length_set]; exact hcap
      · rw [hset', Dr_append]
        refine ⟨us1, _, F1, _, by rw [List.append_assoc], by rw [List.append_assoc], hd1, ?_⟩
        simp only [Dr]
        refine ⟨_, us2, _, F2, rfl, rfl, Ds_append.2 ⟨ua, _, Fa, _, rfl, rfl, hda, ?_⟩, hd2⟩
        simp only [Ds]
        exact ⟨v, ud, G, Fd, rfl, rfl, .inl k1, hdd⟩
    · rw [if_neg e1]; exact h.hp t k hk'
  · rcases hg t k hk with ⟨rfl, rfl⟩ | ⟨e1, e2, hk'⟩
    · rw [if_pos rfl]; exact hnd
    · rw [if_neg e1]; exact h.nodup t k hk'
  · rcases hg t k h1 with ⟨rfl, rfl⟩ | ⟨e1, e2, hk1⟩
    · rcases hg t' k' h2 with ⟨rfl, rfl⟩ | ⟨e3, e4, hk2⟩
      · exact absurd rfl hne'
      · rw [if_pos rfl] at hx
        rw [if_neg e3]
        rcases hmem x hx with hx | hx
        · exact h.apart _ _ _ _ hn hk2 (fun e => e4 e.symm) x hx
        · exact h.apart _ _ _ _ hb hk2 (fun e => e3 e.symm) x hx
    · rw [if_neg e1] at hx
      rcases hg t' k' h2 with ⟨rfl, rfl⟩ | ⟨e3, e4, hk2⟩
      · rw [if_pos rfl]
        intro hx2
        rcases hmem x hx2 with hx2 | hx2
        · exact h.apart _ _ _ _ hn hk1 (fun e => e2 e.symm) x hx2 hx
        · exact h.apart _ _ _ _ hb hk1 (fun e => e1 e.symm) x hx2 hx
      · rw [if_neg e3]
        exact h.apart _ _ _ _ hk1 hk2 hne' x hx
  · rcases hg t k hk with ⟨rfl, rfl⟩ | ⟨e1, e2, hk'⟩
    · rw [if_pos rfl] at hx
      rcases hmem x hx with hx | hx
      · exact h.mine _ _ hn x hx
      · exact h.mine _ _ hb x hx
    · rw [if_neg e1] at hx
      exact h.mine t k hk' x hx
end
end Go.Proofs.Ytcchmhmbjhgfdaa.V
