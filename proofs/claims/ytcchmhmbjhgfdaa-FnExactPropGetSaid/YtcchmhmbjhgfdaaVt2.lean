/- The machine of trees: blocks go into the cells that refer to them; cells are forgotten. -/
import Derived.Test.YtcchmhmbjhgfdaaVw
namespace Go.Proofs.Ytcchmhmbjhgfdaa.V
open Go
set_option linter.unusedVariables false
set_option linter.unusedSimpArgs false
def joinN : T → T → List Nat
  | .ref t _ _, .own _ _ => [t]
  | _, _ => []
def joinsN : List T → List T → List Nat
  | c :: cs, r :: rs => joinN c r ++ joinsN cs rs
  | _, _ => []
/-- How a cell may be told anew: as it was, not at all, or with the block that it refers to. -/
def joinT (s : St) : T → T → Prop
  | _, .dead => True
  | .ref t o n, .own sz rows => onArr (hget s.hp t) fun sz' rs => o + n ≤ rs.length ∧ sz' = sz ∧ (rs.drop o).take n = rows ∧ cleanR rows = true
  | .nl, .own _ rows => rows = []
  | c, c' => c = c'
def joins (s : St) : List T → List T → Prop
  | [], [] => True
  | c :: cs, r :: rs => joinT s c r ∧ joins s cs rs
  | _, _ => False
theorem hget_news_not : ∀ {l : List (Nat × Blk)} {hp : List (Nat × Blk)} {t : Nat}, t ∉ l.map (·.1) → hget (hap hp (news l)) t = hget hp t
  | [], hp, t, h => rfl
  | (x, k) :: l, hp, t, h => by
    simp only [List.map_cons, List.mem_cons, not_or] at h
    have := hget_news_not (hp := hset hp x k) h.2
    simp only [news, List.map_cons, hap] at this ⊢
    rw [this, hget_hset, if_neg (fun e => h.1 e.symm)]
theorem hget_news_mem : ∀ {l : List (Nat × Blk)} {hp : List (Nat × Blk)}, (l.map (·.1)).Nodup → ∀ p ∈ l, hget (hap hp (news l)) p.1 = some p.2
  | [], hp, hnd, p, h => by simp at h
  | (x, k) :: l, hp, hnd, p, h => by
    simp only [List.map_cons, List.nodup_cons] at hnd
    rcases List.mem_cons.1 h with rfl | h
    · have := hget_news_not (hp := hset hp x k) hnd.1
      simp only [news, List.map_cons, hap] at this ⊢
      rw [this, hget_hset, if_pos rfl]
    · have := hget_news_mem (hp := hset hp x k) hnd.2 p h
      simpa only [news, List.map_cons, hap] using this
theorem hget_hset_same (l : List (Nat × Blk)) (t : Nat) (k : Blk) : hget (hset l t k) t = some k := by rw [hget_hset, if_pos rfl]
theorem hget_hset_ne (l : List (Nat × Blk)) {t u : Nat} (k : Blk) (h : t ≠ u) : hget (hset l t k) u = hget l u := by rw [hget_hset, if_neg h]
section
variable {P : Program} {E : Env} {A A' : Nat → Prop} {ρ ρ' : Nat → Option RB} {O O' : Nat → Prop} {F F' : Nat → List Nat} {s s' : St} {a : Act} {w w' : World}
theorem joinT_ok (hR : R E A ρ O F s a w) {c r : T} {v : Value} {F1 : List Nat} (hd : D w O ρ A c v F1) (h : joinT s c r) :
    ∃ G F0, D w O ρ A r v (G ++ F0) ∧ F0.Sublist F1 ∧ G.Nodup ∧ ∀ b ∈ G, ∃ tk k, tk ∈ joinN c r ∧ hget s.hp tk = some k ∧ b ∈ F tk := by
  have keep : c = r → ∃ G F0, D w O ρ A r v (G ++ F0) ∧ F0.Sublist F1 ∧ G.Nodup ∧ ∀ b ∈ G, ∃ tk k, tk ∈ joinN c r ∧ hget s.hp tk = some k ∧ b ∈ F tk := by
    rintro rfl
    exact ⟨[], F1, by simpa using hd, List.Sublist.refl _, by simp, by simp⟩
  have dead : r = .dead → ∃ G F0, D w O ρ A r v (G ++ F0) ∧ F0.Sublist F1 ∧ G.Nodup ∧ ∀ b ∈ G, ∃ tk k, tk ∈ joinN c r ∧ hget s.hp tk = some k ∧ b ∈ F tk := by
    rintro rfl
    exact ⟨[], [], .inr ⟨by simp only [CV, CI], rfl⟩, List.nil_sublist _, by simp, by simp⟩
  cases r <;> try (cases c <;> first | exact dead rfl | exact keep (by first | rfl | (simp only [joinT] at h; exact h)))
  rename_i sz rows
  cases c <;> try (exact keep (by first | rfl | (simp only [joinT] at h; exact h)))
  · -- nothing
    simp only [joinT] at h
    subst h
    have : v = .slice none 0 0 ∧ F1 = [] := by
      rcases hd with hd | hd
      · simpa only [K, CI] using hd
      · simpa only [CV, CI] using hd
    obtain ⟨rfl, rfl⟩ := this
    exact ⟨[], [], .inl (by simp only [K]; exact .inl ⟨trivial, ⟨_, rfl⟩, rfl⟩), List.nil_sublist _, by simp, by simp⟩
  · rename_i t o n
    have hcv : CV w O ρ A (.ref t o n) v ∧ F1 = [] := by
      rcases hd with hd | hd
      · simp only [K, CI, false_and] at hd
      · exact hd
    obtain ⟨hcv, rfl⟩ := hcv
    have hrf : rf s (.ref t o n) (.own sz rows) [t] := by
      simp only [joinT, onArr] at h
      simp only [rf]
      exact ⟨trivial, h⟩
    obtain ⟨G, g1, g2, g3⟩ := rf_ref hR hcv hrf
    exact ⟨G, [], .inl (by simpa using g1), List.nil_sublist _, g2, by simpa only [joinN] using g3⟩
theorem joins_ok (hR : R E A ρ O F s a w) : ∀ {cs rs : List T} {vs : List Value} {F1 : List Nat}, Ds w O ρ A cs vs F1 → joins s cs rs → (joinsN cs rs).Nodup →
    ∃ Fr G F0, Ds w O ρ A rs vs Fr ∧ Fr.Perm (G ++ F0) ∧ F0.Sublist F1 ∧ G.Nodup ∧ ∀ b ∈ G, ∃ tk k, tk ∈ joinsN cs rs ∧ hget s.hp tk = some k ∧ b ∈ F tk
  | [], [], vs, F1, hd, h, hnd => ⟨[], [], [], by simp only [Ds] at hd ⊢; exact ⟨hd.1, trivial⟩, by simp, List.nil_sublist _, by simp, by simp⟩
  | c :: cs, r :: rs, vs, F1, hd, h, hnd => by
    simp only [Ds] at hd
    obtain ⟨v, vr, Fa, Fb, rfl, rfl, h1, h2⟩ := hd
    simp only [joins] at h
    simp only [joinsN] at hnd
    have hnd' := List.nodup_append.1 hnd
    obtain ⟨G1, F01, a1, a2, a3, a4⟩ := joinT_ok hR h1 h.1
    obtain ⟨Fr2, G2, F02, b1, b2, b3, b4, b5⟩ := joins_ok hR h2 h.2 hnd'.2.1
    refine ⟨(G1 ++ F01) ++ Fr2, G1 ++ G2, F01 ++ F02, ?_, ?_, a2.append b3, ?_, ?_⟩
    · simp only [Ds]; exact ⟨v, vr, _, _, rfl, rfl, a1, b1⟩
    · refine List.perm_iff_count.2 fun x => ?_
      have := List.perm_iff_count.1 b2 x
      simp only [List.count_append] at this ⊢
      omega
    · refine List.nodup_append.2 ⟨a3, b4, ?_⟩
      rintro x hx y hy rfl
      obtain ⟨tk, k, c1, c2, c3⟩ := a4 x hx
      obtain ⟨tk', k', c4, c5, c6⟩ := b5 x hy
      exact hR.apart _ _ _ _ c2 c5 (hnd'.2.2 tk c1 tk' c4) x c3 c6
    · intro b hb
      simp only [joinsN]
      rcases List.mem_append.1 hb with hb | hb
      · obtain ⟨tk, k, c1, c2, c3⟩ := a4 b hb
        exact ⟨tk, k, List.mem_append.2 (.inl c1), c2, c3⟩
      · obtain ⟨tk, k, c1, c2, c3⟩ := b5 b hb
        exact ⟨tk, k, List.mem_append.2 (.inr c1), c2, c3⟩
  | [], _ :: _, vs, F1, hd, h, hnd => by simp [joins] at h
  | _ :: _, [], vs, F1, hd, h, hnd => by simp [joins] at h
theorem joins_len : ∀ {cs rs : List T}, joins s cs rs → rs.length = cs.length
  | [], [], h => rfl
  | c :: cs, r :: rs, h => by simp only [joins] at h; simp [joins_len h.2]
  | [], _ :: _, h => by simp [joins] at h
  | _ :: _, [], h => by simp [joins] at h
/-- A row of a block is told anew. -/
theorem Wk.join {b sz r : Nat} {rows : List (List T)} {row cs : List T} (hb : hget s.hp b = some (.arr sz rows)) (hr : rows[r]? = some row) (h : joins s row cs) (hnd : (b :: joinsN row cs).Nodup) :
    Wk s { s with hp := hset (hdels s.hp (joinsN row cs)) b (.arr sz (rows.set r cs)) } := by
  rintro E a w ⟨⟨ρ, O, F, hR⟩, hE⟩
  obtain ⟨B, c', et, rs1, rs2, us1, us, us2, F1, Fr, F2, hB, hsz, hrows, hl1, hrl, hz1, hz2, hcap, hheap, hcs, hd1, hdr, hd2, hlie, hlu1, hlu, hFt⟩ := (hR.hp _ _ hb).2.row hr
  have hnd' := List.nodup_cons.1 hnd
  obtain ⟨Fr', G, F0, j1, j2, j3, j4, j5⟩ := joins_ok hR hdr h hnd'.2
  have hFnd := hR.nodup _ _ hb
  have hset' : rows.set r cs = rs1 ++ cs :: rs2 := by
    rw [hrows, List.set_append_right _ _ (by omega), hl1, Nat.sub_self, List.set_cons_zero]
  have hsubF : (B.b :: (F1 ++ F0 ++ F2)).Sublist (F b) := by
    rw [hFt]
    exact List.Sublist.cons_cons _ (List.Sublist.append (List.Sublist.append (List.Sublist.refl _) j3) (List.Sublist.refl _))
  have hperm : (B.b :: (F1 ++ Fr' ++ F2)).Perm (G ++ (B.b :: (F1 ++ F0 ++ F2))) := by
    refine List.perm_iff_count.2 fun x => ?_
    have := List.perm_iff_count.1 j2 x
    simp only [List.count_cons, List.count_append] at this ⊢
    omega
  have hGb : ∀ x ∈ G, x ∉ F b := by
    intro x hx hx'
    obtain ⟨tk, k, h1, h2, h3⟩ := j5 x hx
    exact hR.apart _ _ _ _ h2 hb (fun e => hnd'.1 (e ▸ h1)) x h3 hx'
  have hnd2 : (B.b :: (F1 ++ Fr' ++ F2)).Nodup := hperm.nodup_iff.2 (List.nodup_append.2 ⟨j4, hFnd.sublist hsubF, fun x hx y hy e => hGb x hx (hsubF.subset (e ▸ hy))⟩)
  have hmem : ∀ x, x ∈ B.b :: (F1 ++ Fr' ++ F2) → x ∈ G ∨ x ∈ F b := fun x hx => by
    rcases List.mem_append.1 (hperm.mem_iff.1 hx) with h | h
    · exact .inl h
    · exact .inr (hsubF.subset h)
  have hsub : ∀ t k, hget (hdels s.hp (joinsN row cs)) t = some k → t ∉ joinsN row cs ∧ hget s.hp t = some k := by
    intro t k hk
    rw [hget_hdels] at hk
    split at hk
    · exact absurd hk (by simp)
    · exact ⟨‹_›, hk⟩
  have key := hR.set1 (t := b) (k := .arr sz (rows.set r cs)) (Ft := B.b :: (F1 ++ Fr' ++ F2)) (M := []) (hp0 := hdels s.hp (joinsN row cs)) (A' := fun t => t < s.nx) (ρ' := ρ) (w' := w) (fun _ h => h) (fun _ _ => rfl) hR.ρ0 (fun _ _ => rfl) (fun t' k hk => (hsub t' k hk).2) (fun _ _ _ _ _ _ => rfl)
    (Keep.refl _ _) (by simp) (hR.hp _ _ hb).1 ?_ hnd2 ?_ ?_
  · exact ⟨⟨ρ, O, _, key⟩, hE⟩
  · simp only [BR]
    refine .inr ⟨B, hB, hsz, ?_, ?_, c', et, us1 ++ us ++ us2, F1 ++ Fr' ++ F2, hheap, hcs, ?_, hlie, rfl⟩
    · rw [hset']
      intro x hx
      rcases List.mem_append.1 hx with hx | hx
      · exact hz1 x hx
      · rcases List.mem_cons.1 hx with rfl | hx
        · rw [joins_len h]; exact hrl
        · exact hz2 x hx
    · rw [List.length_set]; exact hcap
    · rw [hset', Dr_append]
      refine ⟨us1, us ++ us2, F1, Fr' ++ F2, by rw [List.append_assoc], by rw [List.append_assoc], hd1, ?_⟩
      simp only [Dr]
      exact ⟨us, us2, Fr', F2, rfl, rfl, j1, hd2⟩
  · intro x hx
    rcases hmem x hx with hx | hx
    · obtain ⟨tk, k, h1, h2, h3⟩ := j5 x hx
      exact hR.mine _ _ h2 x h3
    · exact hR.mine _ _ hb x hx
  · intro t' k' hne hk x hx hx'
    obtain ⟨h1, h2⟩ := hsub _ _ hk
    rcases hmem x hx with hx | hx
    · obtain ⟨tk, k, h3, h4, h5⟩ := j5 x hx
      exact hR.apart _ _ _ _ h4 h2 (fun e => h1 (e ▸ h3)) x h5 hx'
    · exact hR.apart _ _ _ _ hb h2 (fun e => hne e.symm) x hx hx'
/-- Cells that are owned rows, or closed and no block. -/
def T.pl : T → Bool
  | .ref _ _ _ | .ptr _ _ _ | .mp _ | .agg _ | .tup _ | .fn _ _ | .ifc _ _ | .bx _ | .dead => false
  | .own _ rows => cleanR rows
  | _ => true
theorem pl_clean {t : T} (h : t.pl = true) : t.clean = true := by cases t <;> simp [T.pl] at h <;> rfl
theorem pl_cases {c : T} (h : c.pl = true) : (∃ sz rows, c = .own sz rows ∧ cleanR rows = true) ∨ ((∀ n, mat c n = (c, [])) ∧ (∀ s, joinT s c c) ∧ joinN c c = []) := by
  cases c
  case own sz rows => exact .inl ⟨sz, rows, rfl, h⟩
  all_goals first
    | (simp only [T.pl, Bool.false_eq_true] at h; done)
    | (right; simp [mat, joinT, joinN]; done)
theorem joins_mats : ∀ {cs : List T} {n : Nat}, cs.all T.pl = true → (∀ p ∈ (mats cs n).2, hget s.hp p.1 = some p.2) → joins s (mats cs n).1 cs ∧ joinsN (mats cs n).1 cs = (mats cs n).2.map (·.1)
  | [], n, hc, hp => by simp [mats, joins, joinsN]
  | c :: cs, n, hc, hp => by
    simp only [List.all_cons, Bool.and_eq_true] at hc
    simp only [mats] at hp ⊢
    obtain ⟨h1, h2⟩ := joins_mats (n := n + (mat c n).2.length) hc.2 (fun p hp' => hp p (List.mem_append.2 (.inr hp')))
    simp only [joins, joinsN, List.map_append, h2]
    have : joinT s (mat c n).1 c ∧ joinN (mat c n).1 c = (mat c n).2.map (·.1) := by
      rcases pl_cases hc.1 with ⟨sz, rows, rfl, hcl⟩ | ⟨h3, h4⟩
      · have := hp (n, .arr sz rows) (by simp [mat])
        simp only at this
        simp only [mat, joinT, this, onArr, joinN]
        exact ⟨⟨by omega, trivial, by simp, hcl⟩, by simp⟩
      · exact ⟨by rw [h3]; exact h4.1 s, by rw [h3]; simpa using h4.2⟩
    exact ⟨⟨this.1, h1⟩, by rw [this.2]⟩
theorem mats_names : ∀ {cs : List T} {n : Nat}, cs.all T.pl = true → (∀ x ∈ (mats cs n).2.map (·.1), n ≤ x ∧ x < n + (mats cs n).2.length) ∧ ((mats cs n).2.map (·.1)).Nodup
  | [], n, hc => by simp [mats]
  | c :: cs, n, hc => by
    simp only [List.all_cons, Bool.and_eq_true] at hc
    simp only [mats]
    obtain ⟨h1, h2⟩ := mats_names (n := n + (mat c n).2.length) hc.2
    have : ((mat c n).2.map (·.1) = [] ∧ (mat c n).2.length = 0) ∨ ((mat c n).2.map (·.1) = [n] ∧ (mat c n).2.length = 1) := by
      rcases pl_cases hc.1 with ⟨sz, rows, rfl, hcl⟩ | ⟨h3, h4⟩
      · right; simp [mat]
      · left; rw [h3]; simp
    rcases this with ⟨e1, e2⟩ | ⟨e1, e2⟩
    · simp only [List.map_append, e1, List.nil_append, List.length_append, e2]
      rw [e2] at h1 h2
      simp only [Nat.add_zero, Nat.zero_add] at h1 h2 ⊢
      exact ⟨h1, h2⟩
    · simp only [List.map_append, e1, List.length_append, e2]
      rw [e2] at h1 h2
      refine ⟨fun x hx => ?_, ?_⟩
      · simp only [List.cons_append, List.nil_append, List.mem_cons] at hx
        rcases hx with rfl | hx
        · omega
        · have := h1 x hx; omega
      · simp only [List.cons_append, List.nil_append, List.nodup_cons]
        exact ⟨fun hx => by have := h1 _ hx; omega, h2⟩
/-- A row whose owned cells have just been given blocks gets them back. -/
theorem Wk.joinR {b sz r n : Nat} {rows : List (List T)} {cs : List T} (hb : hget s.hp b = some (.arr sz rows)) (hr : rows[r]? = some (mats cs n).1) (hc : cs.all T.pl = true) (hp : ∀ p ∈ (mats cs n).2, hget s.hp p.1 = some p.2) (hbn : b < n) :
    Wk s { s with hp := hset (hdels s.hp ((mats cs n).2.map (·.1))) b (.arr sz (rows.set r cs)) } := by
  obtain ⟨h1, h2⟩ := joins_mats (s := s) hc hp
  obtain ⟨h3, h4⟩ := mats_names (n := n) hc
  rw [← h2]
  refine Wk.join hb hr h1 ?_
  rw [h2]
  exact List.nodup_cons.2 ⟨fun hx => by have := h3 _ hx; omega, h4⟩
end
end Go.Proofs.Ytcchmhmbjhgfdaa.V
