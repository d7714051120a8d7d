/- Messages that are ok. -/
import Derived.Test.YtehdfbhfbidadaaCcel
namespace Go.Proofs.Ytehdfbhfbidadaa.V
open Go
set_option linter.unusedVariables false
set_option linter.unusedSimpArgs false
set_option maxHeartbeats 4000000
/-- A cell that is ok behind others. -/
def celAt (l : List Pr) (i : Nat) (x : Pr) : Prop := nameOk x.name = true ∧ vOk x.val = true ∧ x.name ∉ (l.take i).map Pr.name
open Classical in
noncomputable def celOk (l : List Pr) : Bool := decide (∀ i x, l[i]? = some x → celAt l i x)
theorem celOk_false {l : List Pr} {i : Nat} {x : Pr} (h : l[i]? = some x) (h1 : ¬ celAt l i x) : celOk l = false := by
  simp only [celOk, decide_eq_false_iff_not]
  intro h2; exact h1 (h2 i x h)
theorem celOk_true {l : List Pr} (h : ∀ i x, l[i]? = some x → celAt l i x) : celOk l = true := by
  simp only [celOk, decide_eq_true_eq]; exact h
/-- What the map holds behind some cells. -/
def celT (l : List Pr) : List (T × T) := l.map fun p => (.s p.name, .i .i64 1)
theorem celT_key (l : List Pr) : ∀ p ∈ celT l, p.1.isKey .string = true := by
  intro p hp
  obtain ⟨x, _, rfl⟩ := List.mem_map.1 hp
  rfl
theorem mfind_no {nm : Tx} : ∀ {l : List Pr}, nm ∉ l.map Pr.name → mfind (.s nm) (celT l) = none
  | [], _ => rfl
  | p :: l, h => by
    simp only [List.map_cons, List.mem_cons, not_or] at h
    have h1 : ¬ p.name = nm := fun e => h.1 e.symm
    have := mfind_no (l := l) h.2
    unfold celT at this ⊢
    simp [mfind, tkEq, h1, this]
theorem mfind_yes {nm : Tx} : ∀ {l : List Pr}, nm ∈ l.map Pr.name → ∃ j, mfind (.s nm) (celT l) = some j ∧ ∃ q, (celT l)[j]? = some (q, .i .i64 1)
  | [], h => by simp at h
  | p :: l, h => by
    by_cases e : p.name = nm
    · exact ⟨0, by simp [celT, mfind, tkEq, e], .s p.name, rfl⟩
    · have h1 : nm ∈ l.map Pr.name := by
        simp only [List.map_cons, List.mem_cons] at h
        rcases h with rfl | h
        · exact absurd rfl e
        · exact h
      obtain ⟨j, h2, q, h3⟩ := mfind_yes h1
      refine ⟨j + 1, ?_, q, ?_⟩
      · unfold celT at h2 ⊢
        simp [mfind, tkEq, e, h2]
      · simpa [celT] using h3
theorem celT_clean (l : List Pr) : ((celT l).map Prod.snd).all T.clean = true := by
  simp only [celT, List.map_map, List.all_map, List.all_eq_true]
  intro p _
  rfl
@[simp] theorem celT_names (l : List Pr) : namess ((celT l).map Prod.snd) = [] := namess_clean (celT_clean l)
theorem celT_succ {l : List Pr} {i : Nat} {x : Pr} (hx : l[i]? = some x) : celT (l.take (i + 1)) = celT (l.take i) ++ [(.s x.name, .i .i64 1)] := by
  rw [List.take_add_one, hx]; simp [celT]
theorem cellsOk_c (l : List Pr) (hl : ln l) (hf : ∀ p ∈ l, p.fit) : Rv Try.prog 72 [.imm (l.map sP.I)] (.b (celOk l)) := by
  obtain ⟨mT, hmT⟩ : ∃ mT, mT = (153 : Nat) := ⟨_, rfl⟩
  have um : Try.prog.underlying 153 = some (.map 9 3) := by kernel_rfl
  have uk : Try.prog.underlying 9 = some .string := by kernel_rfl
  have uz : (Try.prog.info? 3).bind (·.zero) = some (.int .i64 0) := by kernel_rfl
  refine via_impl_cellsOk (by simp) ?_
  simp [pc_impl_cellsOk]
  refine hookH_of [] hook_makeMap (by simp) ?_
  simp
  refine W_forS (fun i => ⟨[(9, .i .i64 i), (8, .i .i64 l.length), (7, .imm (l.map sP.I)), (3, .mp 0)], [(0, .mb (celT (l.take i)))], 20, 0⟩) l.length (fun i => ∀ j x, j < i → l[j]? = some x → celAt l j x) (Wk.less rfl (by simp) (by simp) (by simp [celT])) (by simp) ?_
  intro i hi hv
  rcases Nat.lt_or_ge i l.length with h1 | h1
  · obtain ⟨x, hx⟩ : ∃ x, l[i]? = some x := ⟨_, List.getElem?_eq_getElem h1⟩
    have hw : IntKind.i64.wrap ((i : Int) + 1) = (i : Int) + 1 := wrap1 (by omega)
    have fx := hf x (List.mem_of_getElem? hx)
    have hn := NameOk_c x.name fx.1
    have ho := ValueOk_c x.val fx.2
    have hs := celT_succ hx
    have hno : celAt l i x → ∀ j y, j < i + 1 → l[j]? = some y → celAt l j y := by
      intro h j y hj hy
      rcases Nat.lt_or_ge j i with h6 | h6
      · exact hv j y h6 hy
      · obtain rfl : j = i := by omega
        rw [hx] at hy; simp at hy; subst hy; exact h
    obtain ⟨nm, v⟩ := x
    simp only at fx hn ho hs
    have hbad : ¬ celAt l i ⟨nm, v⟩ → celOk l = false := celOk_false hx
    obtain ⟨es, hes⟩ : ∃ es, es = celT (l.take i) := ⟨_, rfl⟩
    have hky : ∀ p ∈ es, p.1.isKey .string = true := by rw [hes]; exact celT_key _
    have hen : namess (es.map Prod.snd) = [] := by rw [hes]; simp
    have hfn : nm ∉ (l.take i).map Pr.name → mfind (.s nm) es = none := by rw [hes]; exact mfind_no
    have hfy : nm ∈ (l.take i).map Pr.name → ∃ j, mfind (.s nm) es = some j ∧ ∃ q, es[j]? = some (q, .i .i64 1) := by rw [hes]; exact mfind_yes
    rw [hs, ← hes]
    have hes2 : namess ((es ++ [(T.s nm, T.i .i64 1)]).map Prod.snd) = [] := by
      rw [hes, ← hs]; simp
    clear hes
    obtain ⟨k, n, s, vl⟩ := v
    refine WW_seq (WW_of_W ?_)
    simp [h1]
    refine WW_seq (WW_of_W ?_)
    simp
    refine WW_seq (WW_block ?_)
    refine WW_seq (WW_of_W ?_)
    simp [-getElem?_pos, hx, h1]
    refine WW_wk (s' := ⟨[(9, .i .i64 i), (8, .i .i64 l.length), (7, .imm (l.map sP.I)), (3, .mp 0), (5, .ptr 20 0 0)], [(0, .mb es), (20, .arr 5 [[.s nm, .i .i64 k, .i .i64 n, .s s, .imm (vl.map sV.I)]])], 40, 0⟩) (Wk.less rfl (by simp) (by simp) (by simp)) ?_
    cases c1 : nameOk nm with
    | false =>
      rw [c1] at hn
      have hb := hbad (fun h => by have := h.1; simp only at this; rw [c1] at this; exact absurd this (by simp))
      refine WW_seq (WW_seq (WW_of_W ?_))
      simp
      refine callK_val (by simp) hn rfl ?_
      simp
      refine WW_of_W ?_
      simp
      exact fin_val rfl (by simp [hb]) (by simp)
    | true =>
      rw [c1] at hn
      cases c2 : vOk (.mk k n s vl) with
      | false =>
        rw [c2] at ho
        have hb := hbad (fun h => by have := h.2.1; simp only at this; rw [c2] at this; exact absurd this (by simp))
        refine WW_seq (WW_seq (WW_of_W ?_))
        simp
        refine callK_val (by simp) hn rfl ?_
        simp
        refine callK_val (by simp) ho rfl ?_
        simp
        refine WW_of_W ?_
        simp
        exact fin_val rfl (by simp [hb]) (by simp)
      | true =>
        rw [c2] at ho
        by_cases c3 : nm ∈ (l.take i).map Pr.name
        · have hb := hbad (fun h => h.2.2 c3)
          obtain ⟨j, hj, q, hq⟩ := hfy c3
          refine WW_seq (WW_seq (WW_of_W ?_))
          simp
          refine callK_val (by simp) hn rfl ?_
          simp
          refine callK_val (by simp) ho rfl ?_
          simp
          refine hookH_of [(0, .mb es)] (hook_lookup1 um uk rfl hky hj hq (by simp)) (by simp) ?_
          simp [lkV]
          refine WW_of_W ?_
          simp
          exact fin_val rfl (by simp [hb]) (by simp)
        · have hmf := hfn c3
          have hin := hno ⟨c1, c2, c3⟩
          refine WW_seq (WW_seq (WW_of_W ?_))
          simp
          refine callK_val (by simp) hn rfl ?_
          simp
          refine callK_val (by simp) ho rfl ?_
          simp
          refine hookH_of [(0, .mb es)] (hook_lookup0 um uk rfl hky uz rfl hmf) (by simp) ?_
          simp [lkV]
          refine WW_of_W ?_
          simp
          refine WW_of_W ?_
          simp
          refine hookH_of [(0, .mb es)] (hook_lookup0 um uk rfl hky uz rfl hmf) (by simp) ?_
          simp [lkV]
          refine hookH_of [(0, .mb es)] (hook_update um uk rfl hky) (by simp) ?_
          rw [hmf]
          simp
          refine WW_of_W ?_
          simp [hw]
          exact ⟨hin, Wk.to rfl (by simp) (by simp) (by simp [Blk.names, hen]) (by simp)⟩
  · have h3 : ¬ i < l.length := by omega
    have e := celOk_true (l := l) (fun j x hx => hv j x (by have := (List.getElem?_eq_some_iff.1 hx).1; omega) hx)
    refine WW_of_W ?_
    simp [h3]
    exact fin_val rfl (by simp [e]) (by simp)
theorem least {p : Nat → Prop} : ∀ {n : Nat}, p n → ∃ j, j ≤ n ∧ p j ∧ ∀ k, k < j → ¬ p k := by
  intro n
  induction n using Nat.strongRecOn with
  | _ n ih =>
    intro h
    by_cases c : ∃ k, k < n ∧ p k
    · obtain ⟨k, hk, hp⟩ := c
      obtain ⟨j, h1, h2, h3⟩ := ih k hk hp
      exact ⟨j, by omega, h2, h3⟩
    · exact ⟨n, by omega, h, fun k hk hp => c ⟨k, hk, hp⟩⟩
/-- The first cell of a name. -/
theorem l4Cell_c (l : List Pr) (hl : ln l) (nm : Tx) (j : Nat) (x : Pr) (hx : l[j]? = some x) (hn : x.name = nm) (hf : ∀ k y, k < j → l[k]? = some y → y.name ≠ nm) : Rv Try.prog 132 [.imm (l.map sP.I), .s nm] (.i .i64 j) := by
  have hj := (List.getElem?_eq_some_iff.1 hx).1
  refine via_spec_l4Cell (by simp) ?_
  simp [pc_spec_l4Cell]
  refine W_for (fun i => ⟨[(5, .i .i64 i), (0, .imm (l.map sP.I)), (1, .s nm)], [], 0, 0⟩) j (fun i => True) (Wk.less rfl (by simp) (by simp) (by simp)) trivial ?_
  intro i hi _
  have h1 : i < l.length := by omega
  have hw : IntKind.i64.wrap ((i : Int) + 1) = (i : Int) + 1 := wrap1 (by omega)
  obtain ⟨y, hy⟩ : ∃ y, l[i]? = some y := ⟨_, List.getElem?_eq_getElem h1⟩
  rcases Nat.lt_or_ge i j with h2 | h2
  · have hne := hf i y h2 hy
    obtain ⟨nm', v⟩ := y
    simp only at hne
    simp [-getElem?_pos, hy, h1, hw, hne, h2]
    exact Wk.to rfl (by simp) (by simp) (by simp) (by simp)
  · obtain rfl : i = j := by omega
    rw [hx] at hy; simp at hy; subst hy
    obtain ⟨nm', v⟩ := x
    simp only at hn
    simp [-getElem?_pos, hx, h1, hn]
    exact fin_val rfl (by simp) (by simp)
theorem l4Cell_at (l : List Pr) (hl : ln l) (i : Nat) (x : Pr) (hx : l[i]? = some x) : ∃ j : Nat, Rv Try.prog 132 [.imm (l.map sP.I), .s x.name] (.i .i64 j) ∧ (j = i ↔ x.name ∉ (l.take i).map Pr.name) := by
  obtain ⟨j, h1, ⟨y, hy, hn⟩, h3⟩ := least (p := fun j => ∃ y, l[j]? = some y ∧ y.name = x.name) (n := i) ⟨x, hx, rfl⟩
  refine ⟨j, l4Cell_c l hl x.name j y hy hn (fun k z hk hz e => h3 k hk ⟨z, hz, e⟩), ?_⟩
  constructor
  · rintro rfl hm
    obtain ⟨z, hz, e⟩ := List.mem_map.1 hm
    obtain ⟨k, hk⟩ := List.mem_iff_getElem?.1 hz
    have hkj : k < j := by have := (List.getElem?_eq_some_iff.1 hk).1; simp at this; omega
    rw [List.getElem?_take, if_pos hkj] at hk
    exact h3 k hkj ⟨z, hk, e⟩
  · intro hm
    by_cases c : j = i
    · exact c
    · refine absurd (List.mem_map.2 ⟨y, ?_, hn⟩) hm
      exact List.mem_iff_getElem?.2 ⟨j, by rw [List.getElem?_take, if_pos (by omega)]; exact hy⟩
theorem l4Cells_c (l : List Pr) (hl : ln l) (hf : ∀ p ∈ l, p.fit) : Rv Try.prog 68 [.imm (l.map sP.I)] (.b (celOk l)) := by
  refine via_spec_l4Cells (by simp) ?_
  simp [pc_spec_l4Cells]
  refine W_for (fun i => ⟨[(3, .i .i64 i), (0, .imm (l.map sP.I))], [], 20, 0⟩) l.length (fun i => ∀ j x, j < i → l[j]? = some x → celAt l j x) (Wk.less rfl (by simp) (by simp) (by simp)) (by simp) ?_
  intro i hi hv
  rcases Nat.lt_or_ge i l.length with h1 | h1
  · obtain ⟨x, hx⟩ : ∃ x, l[i]? = some x := ⟨_, List.getElem?_eq_getElem h1⟩
    have hw : IntKind.i64.wrap ((i : Int) + 1) = (i : Int) + 1 := wrap1 (by omega)
    have fx := hf x (List.mem_of_getElem? hx)
    have hn := l2Name_c x.name fx.1
    have ho := specValueOk_c x.val fx.2
    obtain ⟨j, hc, hji⟩ := l4Cell_at l hl i x hx
    have hno : celAt l i x → ∀ j y, j < i + 1 → l[j]? = some y → celAt l j y := by
      intro h j y hj hy
      rcases Nat.lt_or_ge j i with h6 | h6
      · exact hv j y h6 hy
      · obtain rfl : j = i := by omega
        rw [hx] at hy; simp at hy; subst hy; exact h
    have hbad : ¬ celAt l i x → celOk l = false := celOk_false hx
    obtain ⟨nm, v⟩ := x
    simp only at fx hn ho hc hji
    cases c1 : nameOk nm with
    | false =>
      rw [c1] at hn
      have hb := hbad (fun h => by have := h.1; simp only at this; rw [c1] at this; exact absurd this (by simp))
      obtain ⟨k, n, s, vl⟩ := v
      simp [-getElem?_pos, hx, h1]
      refine callK_val (by simp) hn rfl ?_
      simp
      exact fin_val rfl (by simp [hb]) (by simp)
    | true =>
      rw [c1] at hn
      cases c2 : vOk v with
      | false =>
        rw [c2] at ho
        have hb := hbad (fun h => by have := h.2.1; simp only at this; rw [c2] at this; exact absurd this (by simp))
        obtain ⟨k, n, s, vl⟩ := v
        simp [-getElem?_pos, hx, h1]
        refine callK_val (by simp) hn rfl ?_
        simp [-getElem?_pos, hx, h1]
        refine callK_val (by simp) ho rfl ?_
        simp
        exact fin_val rfl (by simp [hb]) (by simp)
      | true =>
        rw [c2] at ho
        by_cases c3 : j = i
        · have hin := hno ⟨c1, c2, hji.1 c3⟩
          have c3' : (j : Int) = i := by omega
          obtain ⟨k, n, s, vl⟩ := v
          simp [-getElem?_pos, hx, h1]
          refine callK_val (by simp) hn rfl ?_
          simp [-getElem?_pos, hx, h1]
          refine callK_val (by simp) ho rfl ?_
          simp [-getElem?_pos, hx, h1]
          refine callK_val (by simp) hc rfl ?_
          simp [hw, c3, h1]
          exact ⟨hin, Wk.to rfl (by simp) (by simp) (by simp) (by simp)⟩
        · have hb := hbad (fun h => c3 (hji.2 h.2.2))
          have c3' : ¬ (j : Int) = i := by omega
          obtain ⟨k, n, s, vl⟩ := v
          simp [-getElem?_pos, hx, h1]
          refine callK_val (by simp) hn rfl ?_
          simp [-getElem?_pos, hx, h1]
          refine callK_val (by simp) ho rfl ?_
          simp [-getElem?_pos, hx, h1]
          refine callK_val (by simp) hc rfl ?_
          simp [c3, c3']
          exact fin_val rfl (by simp [hb]) (by simp)
  · have h3 : ¬ i < l.length := by omega
    have e := celOk_true (l := l) (fun j x hx => hv j x (by have := (List.getElem?_eq_some_iff.1 hx).1; omega) hx)
    simp [h3]
    exact fin_val rfl (by simp [e]) (by simp)
/-- A message that is ok. -/
noncomputable def msgOk (m : Ms) : Bool :=
  if m.k = 1 then nameOk m.txt && decide (m.given = []) && decide (m.num = 0)
  else if m.k = 2 then decide (m.txt.length ≤ 1000) && decide (m.given.length ≤ 5) && celOk m.given && decide (m.num = 0)
  else if m.k = 3 then decide (m.txt = []) && decide (m.given = []) && decide (1 ≤ m.num) && decide (m.num ≤ 60)
  else if 4 ≤ m.k ∧ m.k ≤ 9 then decide (m.txt = []) && decide (m.given = []) && decide (m.num = 0)
  else false
theorem MsgOk_c (m : Ms) (hf : m.fit) : Rv Try.prog 28 [.agg (sM.I m)] (.b (msgOk m)) := by
  obtain ⟨k, t, g, n⟩ := m
  obtain ⟨_, ht, hg, hgf, _⟩ := hf
  simp only at ht hg hgf
  have hn := NameOk_c t ht
  have hc := cellsOk_c g hg hgf
  refine via_impl_MsgOk (by simp) ?_
  by_cases k1 : k = 1
  · subst k1
    have e : msgOk ⟨1, t, g, n⟩ = (nameOk t && decide (g = []) && decide (n = 0)) := by simp [msgOk]
    rw [e]
    cases c1 : nameOk t <;> rw [c1] at hn <;> by_cases c2 : g = [] <;> by_cases c3 : n = 0
    all_goals
      simp [pc_impl_MsgOk, c2, c3]
      refine callK_val (by simp) hn rfl ?_
      simp [c2, c3]
      exact fin_val rfl (by simp [c2, c3]) (by simp)
  by_cases k2 : k = 2
  · subst k2
    have e : msgOk ⟨2, t, g, n⟩ = (decide (t.length ≤ 1000) && decide (g.length ≤ 5) && celOk g && decide (n = 0)) := by simp [msgOk]
    rw [e]
    by_cases c1 : t.length ≤ 1000
    · have c1' : (t.length : Int) ≤ 1000 := by omega
      by_cases c2 : g.length ≤ 5
      · have c2' : (g.length : Int) ≤ 5 := by omega
        cases c3 : celOk g <;> rw [c3] at hc <;> by_cases c4 : n = 0
        all_goals
          simp [pc_impl_MsgOk, c1, c1', c2, c2', c4]
          refine callK_val (by simp) hc rfl ?_
          simp [c1, c1', c2, c2', c4]
          exact fin_val rfl (by simp [c1, c2, c4]) (by simp)
      · have c2' : ¬ (g.length : Int) ≤ 5 := by omega
        simp [pc_impl_MsgOk, c1, c1', c2, c2']
        exact fin_val rfl (by simp [c1, c2]) (by simp)
    · have c1' : ¬ (t.length : Int) ≤ 1000 := by omega
      simp [pc_impl_MsgOk, c1, c1']
      exact fin_val rfl (by simp [c1]) (by simp)
  by_cases k3 : k = 3
  · subst k3
    have e : msgOk ⟨3, t, g, n⟩ = (decide (t = []) && decide (g = []) && decide (1 ≤ n) && decide (n ≤ 60)) := by simp [msgOk]
    rw [e]
    by_cases c1 : t = []
    · by_cases c2 : g = []
      · by_cases c3 : 1 ≤ n <;> by_cases c4 : n ≤ 60
        all_goals
          simp [pc_impl_MsgOk, c1, c2, c3, c4]
          exact fin_val rfl (by simp [c1, c2, c3, c4]) (by simp)
      · simp [pc_impl_MsgOk, c1, c2]
        exact fin_val rfl (by simp [c1, c2]) (by simp)
    · simp [pc_impl_MsgOk, c1]
      exact fin_val rfl (by simp [c1]) (by simp)
  by_cases k4 : 4 ≤ k ∧ k ≤ 9
  · have e : msgOk ⟨k, t, g, n⟩ = (decide (t = []) && decide (g = []) && decide (n = 0)) := by simp [msgOk, k1, k2, k3, k4]
    rw [e]
    have hkk : k = 4 ∨ k = 5 ∨ k = 6 ∨ k = 7 ∨ k = 8 ∨ k = 9 := by omega
    clear k1 k2 k3 k4 e
    rcases hkk with rfl | rfl | rfl | rfl | rfl | rfl <;> by_cases c1 : t = [] <;> by_cases c2 : g = [] <;> by_cases c3 : n = 0
    all_goals
      simp [pc_impl_MsgOk, c1, c2, c3]
      exact fin_val rfl (by simp [c1, c2, c3]) (by simp)
  · have e : msgOk ⟨k, t, g, n⟩ = false := by simp [msgOk, k1, k2, k3]; omega
    rw [e]
    have j4 : k ≠ 4 := by omega
    have j5 : k ≠ 5 := by omega
    have j6 : k ≠ 6 := by omega
    have j7 : k ≠ 7 := by omega
    have j8 : k ≠ 8 := by omega
    have j9 : k ≠ 9 := by omega
    simp [pc_impl_MsgOk, k1, k2, k3, j4, j5, j6, j7, j8, j9]
    exact fin_val rfl (by simp) (by simp)
theorem specMsgOk_c (m : Ms) (hf : m.fit) : Rv Try.prog 26 [.agg (sM.I m)] (.b (msgOk m)) := by
  obtain ⟨k, t, g, n⟩ := m
  obtain ⟨_, ht, hg, hgf, _⟩ := hf
  simp only at ht hg hgf
  have hn := l2Name_c t ht
  have hc := l4Cells_c g hg hgf
  have hi := l1In_c n 1 60
  have hk := l1In_c k 4 9
  refine via_spec_MsgOk (by simp) ?_
  by_cases k1 : k = 1
  · subst k1
    have e : msgOk ⟨1, t, g, n⟩ = (nameOk t && decide (g = []) && decide (n = 0)) := by simp [msgOk]
    rw [e]
    cases c1 : nameOk t <;> rw [c1] at hn <;> by_cases c2 : g = [] <;> by_cases c3 : n = 0
    all_goals
      simp [pc_spec_MsgOk, c2, c3]
      refine callK_val (by simp) hn rfl ?_
      simp [c2, c3]
      exact fin_val rfl (by simp [c2, c3]) (by simp)
  by_cases k2 : k = 2
  · subst k2
    have e : msgOk ⟨2, t, g, n⟩ = (decide (t.length ≤ 1000) && decide (g.length ≤ 5) && celOk g && decide (n = 0)) := by simp [msgOk]
    rw [e]
    by_cases c1 : t.length ≤ 1000
    · have c1' : (t.length : Int) ≤ 1000 := by omega
      cases c3 : celOk g <;> rw [c3] at hc
      · simp [pc_spec_MsgOk, c1, c1']
        refine callK_val (by simp) hc rfl ?_
        simp [c1, c1']
        exact fin_val rfl (by simp [c1]) (by simp)
      · by_cases c2 : g.length ≤ 5
        · have c2' : (g.length : Int) ≤ 5 := by omega
          by_cases c4 : n = 0
          all_goals
            simp [pc_spec_MsgOk, c1, c1', c2, c2', c4]
            refine callK_val (by simp) hc rfl ?_
            simp [c1, c1', c2, c2', c4]
            exact fin_val rfl (by simp [c1, c2, c4]) (by simp)
        · have c2' : ¬ (g.length : Int) ≤ 5 := by omega
          simp [pc_spec_MsgOk, c1, c1', c2, c2']
          refine callK_val (by simp) hc rfl ?_
          simp [c1, c1', c2, c2']
          exact fin_val rfl (by simp [c1, c2]) (by simp)
    · have c1' : ¬ (t.length : Int) ≤ 1000 := by omega
      simp [pc_spec_MsgOk, c1, c1']
      exact fin_val rfl (by simp [c1]) (by simp)
  by_cases k3 : k = 3
  · subst k3
    have e : msgOk ⟨3, t, g, n⟩ = (decide (t = []) && decide (g = []) && decide (1 ≤ n) && decide (n ≤ 60)) := by simp [msgOk]
    rw [e]
    by_cases c1 : t = []
    · by_cases c2 : g = []
      · simp [pc_spec_MsgOk, c1, c2]
        refine callK_val (by simp) hi rfl ?_
        simp
        exact fin_val rfl (by simp [c1, c2]) (by simp)
      · simp [pc_spec_MsgOk, c1, c2]
        exact fin_val rfl (by simp [c1, c2]) (by simp)
    · simp [pc_spec_MsgOk, c1]
      exact fin_val rfl (by simp [c1]) (by simp)
  by_cases k4 : 4 ≤ k ∧ k ≤ 9
  · have e : msgOk ⟨k, t, g, n⟩ = (decide (t = []) && decide (g = []) && decide (n = 0)) := by simp [msgOk, k1, k2, k3, k4]
    rw [e]
    have hkb : (decide (4 ≤ k) && decide (k ≤ 9)) = true := by simpa using k4
    rw [hkb] at hk
    by_cases c1 : t = [] <;> by_cases c2 : g = [] <;> by_cases c3 : n = 0
    all_goals
      simp [pc_spec_MsgOk, k1, k2, k3, c1, c2, c3]
      refine callK_val (by simp) hk rfl ?_
      simp [c1, c2, c3]
      exact fin_val rfl (by simp [c1, c2, c3]) (by simp)
  · have e : msgOk ⟨k, t, g, n⟩ = false := by simp [msgOk, k1, k2, k3]; omega
    rw [e]
    have hkb : (decide (4 ≤ k) && decide (k ≤ 9)) = false := by simp; omega
    rw [hkb] at hk
    simp [pc_spec_MsgOk, k1, k2, k3]
    refine callK_val (by simp) hk rfl ?_
    simp
    exact fin_val rfl (by simp) (by simp)
end Go.Proofs.Ytehdfbhfbidadaa.V
