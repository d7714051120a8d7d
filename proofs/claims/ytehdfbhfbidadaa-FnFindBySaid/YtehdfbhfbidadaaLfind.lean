/- The law FindBy holds of trees. -/
import Derived.Test.YtehdfbhfbidadaaG3
import Derived.Test.YtehdfbhfbidadaaG2
import Derived.Test.YtehdfbhfbidadaaVfFnFindBy
namespace Go.Proofs.Ytehdfbhfbidadaa.V
open Go
set_option linter.unusedVariables false
set_option linter.unusedSimpArgs false
set_option maxHeartbeats 4000000
/-- How many of the first so many have it. -/
def cntB (q : List Bool) (i : Nat) : Nat := (q.take i).count true
theorem fmap_at {L : List Nd} {p : Nd → Bool} {i : Nat} {x : Nd} (hx : L[i]? = some x) (h : p x = true) : ((L.filter p).map Nd.id)[(((L.take i).filter p).map Nd.id).length]? = some x.id ∧ (((L.take i).filter p).map Nd.id).length < ((L.filter p).map Nd.id).length := by
  have h1 : (L.filter p).map Nd.id = ((L.take i).filter p).map Nd.id ++ ([x.id] ++ ((L.drop (i + 1)).filter p).map Nd.id) := by
    have h2 : L = L.take i ++ ([x] ++ L.drop (i + 1)) := by
      conv => lhs; rw [← List.take_append_drop (i + 1) L, List.take_add_one, hx]
      simp
    conv => lhs; rw [h2]
    simp [List.filter_append, h]
  have h2 : ((L.filter p).map Nd.id)[(((L.take i).filter p).map Nd.id).length]? = some x.id := by
    rw [h1, List.getElem?_append_right (by omega)]; simp
  exact ⟨h2, (List.getElem?_eq_some_iff.1 h2).1⟩
set_option maxRecDepth 20000 in
theorem FnFindBy_t (code : List UInt8) (_ : code.length ≤ 9223372036854775807) : Rv Try.prog 7 [.imm (u8T code)] (.b true) := by
  have hl : (u8T code).length = code.length := u8T_len code
  by_cases c : 1048576 < (code.length : Int)
  · refine via_laws_FnFindBy (by simp) ?_
    simp [pc_laws_FnFindBy, hl, c]
    exact fin_val rfl (by simp) (by simp)
  obtain ⟨g, lb, nm, v, ⟨hf, hcnt⟩, hlb, hnm, hv, hd⟩ := DrawFindBy_d code
  have hA := FindBy_c g hf (by omega) lb nm v hv
  have hB := specFindBy_c g hf (by omega) lb nm v hv
  have h2 := specGraphOk_c g hf
  have h3 := specValueOk_c v hv
  have hW := NodesWith_c g hf (by omega) lb
  have hgl : g.nodes.length ≤ 600000 := by unfold Gr.cnt cl at hcnt; omega
  have hle : (findBy g lb nm v).length ≤ g.nodes.length := by
    unfold findBy; split
    · have := findL_len lb nm v g.nodes g.nodes.length
      rwa [List.take_length] at this
    · simp
  have hC := asInts_c (findBy g lb nm v) (by simp only [ln]; omega)
  by_cases g1 : GOk g ∧ vOk v = true ∧ lb ≠ []
  · obtain ⟨g1, v1, lb1⟩ := g1
    have e : findBy g lb nm v = findL lb nm v g.nodes := by simp [findBy, g1, v1, lb1]
    have e2 : nodesWith g lb = idsWith lb g.nodes := by simp [nodesWith, g1]
    rw [e] at hA hB hC hle
    rw [e2] at hW
    rw [v1] at h3
    have hget : ∀ x ∈ g.nodes.filter (withL lb), Rv Try.prog 37 [.agg (sG.I g), .agg (sV.I (.mk 5 x.id [] [])), .s nm] (.agg (sV.O (getP x.props nm))) ∧ Rv Try.prog 38 [.agg (sV.I (getP x.props nm)), .agg (sV.I v)] (.b (sameB (getP x.props nm) v)) := by
      intro x hx
      have hx' := (List.mem_filter.1 hx).1
      obtain ⟨i, hi⟩ := List.mem_iff_getElem?.1 hx'
      have hb := g1.na i x hi
      have hnn := g1.nn
      have hok : vOk (.mk 5 x.id [] []) = true := by
        simp only [vOk, okV]
        simp
        omega
      have hfit : (Vl.mk 5 x.id [] []).fit := by
        rw [Vl.fit_mk]
        simp [i64, ln]
        omega
      have h := PropGet_c g hf (by omega) (.mk 5 x.id [] []) hfit nm
      rw [if_pos ⟨g1, hok⟩, propGet_at g1 hx'] at h
      exact ⟨h, asV_c _ (getP_fit hf hx' nm) _ hv⟩
    have hF := findL_filter lb nm v g.nodes
    have hids : idsWith lb g.nodes = (g.nodes.filter (withL lb)).map Nd.id := rfl
    have hlL : (g.nodes.filter (withL lb)).length ≤ 600000 := Nat.le_trans (List.length_filter_le _ _) hgl
    generalize idsWith lb g.nodes = M at *
    generalize findL lb nm v g.nodes = F at *
    generalize g.nodes.filter (withL lb) = L at *
    have hMl : M.length = L.length := by rw [hids]; simp
    have hMg : ∀ (i : Nat) (x : Nd), L[i]? = some x → M[i]? = some x.id := fun i x hx => by rw [hids, List.getElem?_map, hx]; rfl
    have hat : ∀ (i : Nat) (x : Nd), L[i]? = some x → hasV nm v x = true → F[(((L.take i).filter (hasV nm v)).map Nd.id).length]? = some x.id ∧ (((L.take i).filter (hasV nm v)).map Nd.id).length < F.length := by
      intro i x hx h
      rw [hF]; exact fmap_at hx h
    have hsuc : ∀ (i : Nat) (x : Nd), L[i]? = some x → (((L.take (i + 1)).filter (hasV nm v)).map Nd.id).length = (((L.take i).filter (hasV nm v)).map Nd.id).length + (if hasV nm v x = true then 1 else 0) := by
      intro i x hx
      rw [List.take_add_one, hx]
      by_cases c : hasV nm v x = true
      · simp [c]
      · simp [c]
    have hlen : ∀ i, (((L.take i).filter (hasV nm v)).map Nd.id).length ≤ i := by
      intro i
      rw [List.length_map]
      exact Nat.le_trans (List.length_filter_le _ _) (by simp; omega)
    have hfull : (((L.take L.length).filter (hasV nm v)).map Nd.id).length = F.length := by rw [List.take_length, hF]
    have hhv : ∀ x, hasV nm v x = (decide ((getP x.props nm).k ≠ 0) && sameB (getP x.props nm) v) := fun x => rfl
    generalize hasV nm v = hq at *
    clear hids hF
    obtain ⟨l, es, nn, ne⟩ := g
    obtain ⟨k, n, s, vl⟩ := v
    refine via_laws_FnFindBy (by simp) ?_
    simp [pc_laws_FnFindBy, hl, c]
    refine callK_ri (by simp) hd ?_
    simp
    repeat with_reducible refine need_mk (by decide +kernel) ?_
    refine callK_val (by simp) hA (by simp [T.noImm]) ?_
    simp
    repeat with_reducible refine need_mk (by decide +kernel) ?_
    refine callK_val (by simp) hB (by simp [T.noImm]) ?_
    simp
    repeat with_reducible refine need_mk (by decide +kernel) ?_
    refine callK_val (by simp) hC rfl ?_
    simp
    repeat with_reducible refine need_mk (by decide +kernel) ?_
    refine callK_val (by simp) h2 rfl ?_
    simp [g1]
    repeat with_reducible refine need_mk (by decide +kernel) ?_
    refine callK_val (by simp) h3 rfl ?_
    simp [lb1]
    repeat with_reducible refine need_mk (by decide +kernel) ?_
    refine callK_val (by simp) hW (by simp [T.noImm]) ?_
    simp
    repeat with_reducible refine need_mk (by decide +kernel) ?_
    have hcF := sI.crO F
    have hcM := sI.crO M
    refine W_for (fun i => ⟨[(10, .i .i64 i), (9, .i .i64 (((L.take i).filter hq).map Nd.id).length), (8, .ref 6 0 M.length), (7, .ref 4 0 F.length), (3, .ptr 0 0 0), (6, .ptr 1 0 0), (5, .s nm)], [(0, .arr 4 [sG.I ⟨l, es, nn, ne⟩]), (1, .arr 4 [sV.I (.mk k n s vl)]), (4, .arr 1 (F.map sI.O)), (6, .arr 1 (M.map sI.O))], 20, 0⟩) L.length (fun i => True) (Wk.less rfl (by simp) (by simp) (by simp)) trivial ?_
    intro i hi _
    rcases Nat.lt_or_ge i L.length with h5 | h5
    · obtain ⟨x, hx⟩ : ∃ x, L[i]? = some x := ⟨_, List.getElem?_eq_getElem h5⟩
      have hw : IntKind.i64.wrap ((i : Int) + 1) = (i : Int) + 1 := wrap1 (by omega)
      obtain ⟨hh, hs⟩ := hget x (List.mem_of_getElem? hx)
      have hsu := hsuc i x hx
      have hle' := hlen i
      have hatx := hat i x hx
      have hhx := hhv x
      rw [hsu]
      generalize (((L.take i).filter hq).map Nd.id).length = m at *
      have hw2 : IntKind.i64.wrap ((m : Int) + 1) = (m : Int) + 1 := wrap1 (by omega)
      have ha1 := hMg i x hx
      have ha : (M.map sI.O)[i]? = some [.i .i64 x.id] := by rw [List.getElem?_map, ha1]; rfl
      have h5' : i < M.length := by omega
      clear hsuc hlen hat hhv hget hsu
      generalize getP x.props nm = r at *
      generalize hq x = q at *
      obtain ⟨id, ls, ps⟩ := x
      obtain ⟨k', n', s', l'⟩ := r
      simp only [Vl.k] at hhx
      simp only at ha ha1 hatx
      simp [-getElem?_pos, hw, h5, h5', ha, ha1]
      repeat with_reducible refine need_mk (by first | decide +kernel | simp) ?_
      refine callK_val (by simp) hh (by simp [T.noImm]) ?_
      by_cases k0 : k' = 0
      · have hq0 : q = false := by rw [hhx]; simp [k0]
        subst hq0
        simp [-getElem?_pos, hw, h5, h5', ha, ha1, k0]
        repeat with_reducible refine need_mk (by first | decide +kernel | simp) ?_
        exact Wk.to rfl (by simp) (by simp) (by simp [Blk.names, namesr_clean hcF, namesr_clean hcM]) (by simp)
      · cases e5 : sameB (.mk k' n' s' l') (.mk k n s vl) with
        | true =>
          have hq0 : q = true := by rw [hhx, e5]; simp [k0]
          rw [e5] at hs
          subst hq0
          obtain ⟨a1, a2⟩ := hatx rfl
          have a3 : ¬ F.length ≤ m := by omega
          have a4 : (F.map sI.O)[m]? = some [.i .i64 id] := by rw [List.getElem?_map, a1]; rfl
          simp [-getElem?_pos, hw, h5, h5', ha, ha1, k0]
          repeat with_reducible refine need_mk (by first | decide +kernel | simp) ?_
          refine callK_val (by simp) hs (by simp [T.noImm]) ?_
          simp [-getElem?_pos, hw, h5, h5', ha, ha1, k0, a1, a2, a3, a4, hw2]
          repeat with_reducible refine need_mk (by first | decide +kernel | simp) ?_
          exact Wk.to rfl (by simp) (by simp) (by simp [Blk.names, namesr_clean hcF, namesr_clean hcM]) (by simp)
        | false =>
          have hq0 : q = false := by rw [hhx, e5]; simp
          rw [e5] at hs
          subst hq0
          simp [-getElem?_pos, hw, h5, h5', ha, ha1, k0]
          repeat with_reducible refine need_mk (by first | decide +kernel | simp) ?_
          refine callK_val (by simp) hs (by simp [T.noImm]) ?_
          simp [-getElem?_pos, hw, h5, h5', ha, ha1, k0]
          repeat with_reducible refine need_mk (by first | decide +kernel | simp) ?_
          exact Wk.to rfl (by simp) (by simp) (by simp [Blk.names, namesr_clean hcF, namesr_clean hcM]) (by simp)
    · have h6 : i = L.length := by omega
      subst h6
      have h7 : ¬ L.length < M.length := by omega
      simp only [hfull]
      simp [h7]
      exact fin_val rfl (by simp) (by simp)
  · obtain ⟨l, es, nn, ne⟩ := g
    obtain ⟨k, n, s, vl⟩ := v
    by_cases q1 : GOk ⟨l, es, nn, ne⟩
    · cases q2 : vOk (.mk k n s vl) with
      | false =>
        rw [q2] at h3
        refine via_laws_FnFindBy (by simp) ?_
        simp [pc_laws_FnFindBy, hl, c]
        refine callK_ri (by simp) hd ?_
        simp
        repeat with_reducible refine need_mk (by decide +kernel) ?_
        refine callK_val (by simp) hA (by simp [T.noImm]) ?_
        simp
        repeat with_reducible refine need_mk (by decide +kernel) ?_
        refine callK_val (by simp) hB (by simp [T.noImm]) ?_
        simp
        repeat with_reducible refine need_mk (by decide +kernel) ?_
        refine callK_val (by simp) hC rfl ?_
        simp
        repeat with_reducible refine need_mk (by decide +kernel) ?_
        refine callK_val (by simp) h2 rfl ?_
        simp [q1]
        repeat with_reducible refine need_mk (by decide +kernel) ?_
        refine callK_val (by simp) h3 rfl ?_
        simp
        repeat with_reducible refine need_mk (by decide +kernel) ?_
        refine callK_val (by simp) hB (by simp [T.noImm]) ?_
        simp
        repeat with_reducible refine need_mk (by decide +kernel) ?_
        refine callK_val (by simp) hC rfl ?_
        simp
        repeat with_reducible refine need_mk (by decide +kernel) ?_
        exact fin_val rfl (by simp) (by simp)
      | true =>
        have q3 : lb = [] := by
          rcases Classical.em (lb = []) with h | h
          · exact h
          · exact absurd ⟨q1, q2, h⟩ g1
        rw [q2] at h3
        subst q3
        refine via_laws_FnFindBy (by simp) ?_
        simp [pc_laws_FnFindBy, hl, c]
        refine callK_ri (by simp) hd ?_
        simp
        repeat with_reducible refine need_mk (by decide +kernel) ?_
        refine callK_val (by simp) hA (by simp [T.noImm]) ?_
        simp
        repeat with_reducible refine need_mk (by decide +kernel) ?_
        refine callK_val (by simp) hB (by simp [T.noImm]) ?_
        simp
        repeat with_reducible refine need_mk (by decide +kernel) ?_
        refine callK_val (by simp) hC rfl ?_
        simp
        repeat with_reducible refine need_mk (by decide +kernel) ?_
        refine callK_val (by simp) h2 rfl ?_
        simp [q1]
        repeat with_reducible refine need_mk (by decide +kernel) ?_
        refine callK_val (by simp) h3 rfl ?_
        simp
        repeat with_reducible refine need_mk (by decide +kernel) ?_
        refine callK_val (by simp) hB (by simp [T.noImm]) ?_
        simp
        repeat with_reducible refine need_mk (by decide +kernel) ?_
        refine callK_val (by simp) hC rfl ?_
        simp
        repeat with_reducible refine need_mk (by decide +kernel) ?_
        exact fin_val rfl (by simp) (by simp)
    · refine via_laws_FnFindBy (by simp) ?_
      simp [pc_laws_FnFindBy, hl, c]
      refine callK_ri (by simp) hd ?_
      simp
      repeat with_reducible refine need_mk (by decide +kernel) ?_
      refine callK_val (by simp) hA (by simp [T.noImm]) ?_
      simp
      repeat with_reducible refine need_mk (by decide +kernel) ?_
      refine callK_val (by simp) hB (by simp [T.noImm]) ?_
      simp
      repeat with_reducible refine need_mk (by decide +kernel) ?_
      refine callK_val (by simp) hC rfl ?_
      simp
      repeat with_reducible refine need_mk (by decide +kernel) ?_
      refine callK_val (by simp) h2 rfl ?_
      simp [q1]
      repeat with_reducible refine need_mk (by decide +kernel) ?_
      refine callK_val (by simp) hB (by simp [T.noImm]) ?_
      simp
      repeat with_reducible refine need_mk (by decide +kernel) ?_
      refine callK_val (by simp) hC rfl ?_
      simp
      repeat with_reducible refine need_mk (by decide +kernel) ?_
      exact fin_val rfl (by simp) (by simp)
end Go.Proofs.Ytehdfbhfbidadaa.V
