/- The law NodesWith holds of trees. -/
import Derived.Test.YtonljcphaiklgaaG3
import Derived.Test.YtonljcphaiklgaaG2
import Derived.Test.YtonljcphaiklgaaVfFnNodesWith
namespace Go.Proofs.Ytonljcphaiklgaa.V
open Go
set_option linter.unusedVariables false
set_option linter.unusedSimpArgs false
set_option maxHeartbeats 4000000
theorem idsWith_at {lb : Tx} {l : List Nd} {i : Nat} {x : Nd} (hx : l[i]? = some x) (h : withL lb x = true) : (idsWith lb l)[(idsWith lb (l.take i)).length]? = some x.id ∧ (idsWith lb (l.take i)).length < (idsWith lb l).length := by
  have h1 : idsWith lb l = idsWith lb (l.take (i + 1)) ++ idsWith lb (l.drop (i + 1)) := by
    simp only [idsWith, ← List.map_append, ← List.filter_append, List.take_append_drop]
  rw [idsWith_succ hx, if_pos h] at h1
  have h2 : (idsWith lb l)[(idsWith lb (l.take i)).length]? = some x.id := by
    rw [h1, List.append_assoc, List.getElem?_append_right (by omega)]; simp
  exact ⟨h2, (List.getElem?_eq_some_iff.1 h2).1⟩
set_option maxRecDepth 20000 in
theorem FnNodesWith_t (code : List UInt8) (_ : code.length ≤ 9223372036854775807) : Rv Try.prog 5 [.imm (u8T code)] (.b true) := by
  have hl := u8T_len code
  by_cases c : 1048576 < (code.length : Int)
  · refine via_laws_FnNodesWith (by simp) ?_
    simp [pc_laws_FnNodesWith, hl, c]
    exact fin_val rfl (by simp) (by simp)
  obtain ⟨g, lb, ⟨hf, hcnt⟩, hlb, hd⟩ := DrawNodesWith_d code
  have hA := NodesWith_c g hf (by omega) lb
  have hB := specNodesWith_c g hf (by omega) lb
  have h2 := specGraphOk_c g hf
  have hgl : g.nodes.length ≤ 600000 := by unfold Gr.cnt cl at hcnt; omega
  have hle : (nodesWith g lb).length ≤ g.nodes.length := by
    unfold nodesWith; split
    · have := idsWith_len lb g.nodes g.nodes.length
      rwa [List.take_length] at this
    · simp
  have hC := asInts_c (nodesWith g lb) (by simp only [ln]; omega)
  by_cases g1 : GOk g
  · have e : nodesWith g lb = idsWith lb g.nodes := by simp [nodesWith, g1]
    rw [e] at hA hB hC hle
    have hat := fun i x (hx : g.nodes[i]? = some x) => idsWith_at (lb := lb) hx
    have hN := hf.2.1
    obtain ⟨l, es, nn, ne⟩ := g
    simp only at hat hgl hle hN hC hA hB
    have hsub : ∀ i, (idsWith lb (l.take i)).length ≤ i := idsWith_len lb l
    have hfull : (idsWith lb (l.take l.length)).length = (idsWith lb l).length := by rw [List.take_length]
    have hsuc := fun i x (hx : l[i]? = some x) => idsWith_succ (lb := lb) hx
    generalize hlst : idsWith lb l = lst at *
    refine via_laws_FnNodesWith (by simp) ?_
    simp [pc_laws_FnNodesWith, hl, c]
    refine callK_ri (by simp) hd ?_
    simp
    repeat with_reducible refine need_mk (by decide +kernel) ?_
    refine callK_val (by simp) hA (by simp [T.noImm]) ?_
    simp
    repeat with_reducible refine need_mk (by decide +kernel) ?_
    refine callK_val (by simp) hB (by simp [T.noImm]) ?_
    simp
    repeat with_reducible refine need_mk (by decide +kernel) ?_
    refine callK_val (by simp) hC rfl ?_
    simp
    repeat with_reducible refine need_mk (by decide +kernel) ?_
    refine callK_val (by simp) h2 rfl ?_
    simp [g1]
    repeat with_reducible refine need_mk (by decide +kernel) ?_
    have hcL := sI.crO lst
    refine W_for (fun i => ⟨[(7, .i .i64 i), (6, .i .i64 (idsWith lb (l.take i)).length), (5, .ref 2 0 lst.length), (4, .s lb), (3, .ptr 0 0 0)], [(0, .arr 4 [sG.I ⟨l, es, nn, ne⟩]), (2, .arr 1 (lst.map sI.O))], 20, 0⟩) l.length (fun i => True) (Wk.less rfl (by simp) (by simp [idsWith]) (by simp)) trivial ?_
    intro i hi _
    rcases Nat.lt_or_ge i l.length with h3 | h3
    · obtain ⟨x, hx⟩ : ∃ x, l[i]? = some x := ⟨_, List.getElem?_eq_getElem h3⟩
      have hw : IntKind.i64.wrap ((i : Int) + 1) = (i : Int) + 1 := wrap1 (by omega)
      have hh := asHas_c x.labels (hN x (List.mem_of_getElem? hx)).2.1 lb
      have hs := congrArg List.length (hsuc i x hx)
      rw [List.length_append] at hs
      have ha := hat i x hx
      have hsi := hsub i
      rw [hs]
      generalize (idsWith lb (l.take i)).length = m at *
      have hw2 : IntKind.i64.wrap ((m : Int) + 1) = (m : Int) + 1 := wrap1 (by omega)
      obtain ⟨id, ls, ps⟩ := x
      simp only at hh ha
      by_cases c0 : lb = []
      · have hwl : withL lb ⟨id, ls, ps⟩ = true := by simp [withL, c0]
        obtain ⟨a1, a2⟩ := ha hwl
        have a3 : ¬ lst.length ≤ m := by omega
        have a4 : (lst.map sI.O)[m]? = some [.i .i64 id] := by rw [List.getElem?_map, a1]; rfl
        subst c0
        simp [-getElem?_pos, hx, hw, h3, a1, a2, a3, a4, hw2, hwl]
        exact Wk.to rfl (by simp) (by simp) (by simp [Blk.names, namesr_clean hcL]) (by simp)
      · by_cases c2 : lb ∈ ls
        · have hwl : withL lb ⟨id, ls, ps⟩ = true := by simp [withL, c2]
          obtain ⟨a1, a2⟩ := ha hwl
          have a3 : ¬ lst.length ≤ m := by omega
          have a4 : (lst.map sI.O)[m]? = some [.i .i64 id] := by rw [List.getElem?_map, a1]; rfl
          simp [-getElem?_pos, hx, hw, h3, c0]
          refine callK_val (by simp) hh rfl ?_
          simp [-getElem?_pos, hx, hw, h3, a1, a2, a3, a4, hw2, hwl, c0, c2]
          exact Wk.to rfl (by simp) (by simp) (by simp [Blk.names, namesr_clean hcL]) (by simp)
        · have hwl : withL lb ⟨id, ls, ps⟩ = false := by simp [withL, c0, c2]
          simp [-getElem?_pos, hx, hw, h3, c0]
          refine callK_val (by simp) hh rfl ?_
          simp [-getElem?_pos, hx, hw, h3, hwl, c0, c2]
          exact Wk.to rfl (by simp) (by simp) (by simp [Blk.names, namesr_clean hcL]) (by simp)
    · obtain rfl : i = l.length := by omega
      simp [hlst]
      exact fin_val rfl (by simp) (by simp)
  · obtain ⟨l, es, nn, ne⟩ := g
    refine via_laws_FnNodesWith (by simp) ?_
    simp [pc_laws_FnNodesWith, hl, c]
    refine callK_ri (by simp) hd ?_
    simp
    repeat with_reducible refine need_mk (by decide +kernel) ?_
    refine callK_val (by simp) hA (by simp [T.noImm]) ?_
    simp
    repeat with_reducible refine need_mk (by decide +kernel) ?_
    refine callK_val (by simp) hB (by simp [T.noImm]) ?_
    simp
    repeat with_reducible refine need_mk (by decide +kernel) ?_
    refine callK_val (by simp) hC rfl ?_
    simp
    repeat with_reducible refine need_mk (by decide +kernel) ?_
    refine callK_val (by simp) h2 rfl ?_
    simp [g1]
    repeat with_reducible refine need_mk (by decide +kernel) ?_
    refine callK_val (by simp) hB (by simp [T.noImm]) ?_
    simp
    repeat with_reducible refine need_mk (by decide +kernel) ?_
    refine callK_val (by simp) hC rfl ?_
    simp
    repeat with_reducible refine need_mk (by decide +kernel) ?_
    exact fin_val rfl (by simp) (by simp)
end Go.Proofs.Ytonljcphaiklgaa.V
