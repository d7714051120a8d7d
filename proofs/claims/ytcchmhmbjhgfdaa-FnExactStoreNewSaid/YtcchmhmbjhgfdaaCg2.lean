/- Copies of props by the spec. -/
import Derived.Test.YtcchmhmbjhgfdaaCg1
namespace Go.Proofs.Ytcchmhmbjhgfdaa.V
open Go
set_option linter.unusedVariables false
set_option linter.unusedSimpArgs false
set_option maxHeartbeats 16000000
theorem rns_cl {f : Nat → Nat} : ∀ {ts : List T}, ts.all T.clean = true → rns f ts = ts
  | [], h => by simp [rns]
  | t :: ts, h => by
    simp only [List.all_cons, Bool.and_eq_true] at h
    have : t.rn f = t := by have := h.1; cases t <;> simp [T.clean] at this <;> simp [T.rn]
    simp only [rns, this, rns_cl h.2]
theorem rnr_cl {f : Nat → Nat} : ∀ {rs : List (List T)}, cleanR rs = true → rs.map (rns f) = rs
  | [], h => by simp
  | r :: rs, h => by
    simp only [cleanR, List.all_cons, Bool.and_eq_true] at h
    simp only [List.map_cons, rns_cl h.1]
    rw [rnr_cl (by simpa only [cleanR] using h.2)]
theorem Wk.one {s : St} {b sz nx : Nat} {tm : List (Nat × T)} {rows : List (List T)} (hfb : s.fb = 0) (hnx : 0 < nx) (htm : ∀ p ∈ tm, p.2.rn (fun t => if t = 0 then b else t) = tget s.tm p.1 ∧ ∀ x ∈ p.2.names, x < nx) (hb : hget s.hp b = some (.arr sz rows)) (hcl : cleanR rows = true) : Wk s ⟨tm, [(0, .arr sz rows)], nx, 0⟩ := by
  refine Wk.ren (fun t => if t = 0 then b else t) hfb.symm (by omega) (by omega) htm ?_ (by simp)
  intro p hp
  simp only [List.mem_singleton] at hp
  subst hp
  refine ⟨by simp only [Blk.rn, if_true, rnr_cl hcl]; exact hb, hnx, ?_⟩
  intro x hx
  rw [Blk.names, namesr_clean hcl] at hx
  simp at hx
theorem l2Ps_c (l : List Pr) (hl : l.length ≤ 2 ^ 20) (h : ∀ p ∈ l, p.val.cnt ≤ 2 ^ 20) : Rv Try.prog 169 [.imm (l.map sP.I)] (.own 5 (l.map sP.O)) := by
  refine via_spec_l2Ps (by simp) ?_
  simp [pc_spec_l2Ps]
  refine W_for (fun i => ⟨[(4, .i .i64 i), (3, .ref 0 0 i), (0, .imm (l.map sP.I))], [(0, .arr 5 ((l.map sP.O).take i))], 20, 0⟩) l.length (fun i => True) (Wk.less rfl (by simp) (by simp) (by simp)) trivial ?_
  intro i hi _
  rcases Nat.lt_or_ge i l.length with h2 | h2
  · obtain ⟨v, hx⟩ : ∃ v, l[i]? = some v := ⟨_, List.getElem?_eq_getElem h2⟩
    have hw2 : IntKind.i64.wrap ((i : Int) + 1) = (i : Int) + 1 := wrap1 (by omega)
    have hv := l1Copy_c v.val (h v (List.mem_of_getElem? hx))
    have htt : List.take i (List.take i (l.map sP.O)) = List.take i (l.map sP.O) := by rw [List.take_take]; simp
    have hlA : (List.take i (l.map sP.O)).length = i := by simp; omega
    have hnew := fill_new sP.O hx
    have hcA : cleanR (List.take i (l.map sP.O)) = true := by rw [← List.map_take]; exact sP.crO _
    have hbig : (i + 1) * 72 ≤ 35184372088832 := by omega
    have hmin : min i l.length = i := by omega
    obtain ⟨nm, k', n', s', l'⟩ := v
    simp only at hv
    simp [-getElem?_pos, hx, hw2, h2, hmin]
    repeat refine need_mk (by decide +kernel) ?_
    refine callK_val (by simp) hv (by simp [T.noImm]) ?_
    simp [-getElem?_pos, hx, hw2, h2, hmin, htt, hbig]
    generalize List.take i (l.map sP.O) = A at *
    repeat refine need_mk (by decide +kernel) ?_
    have hg := app1_get hlA
    have hs := app1_set hlA
    refine Wk.trans (Wk.join (b := 132) (r := i) (cs := sP.O ⟨nm, .mk k' n' s' l'⟩) rfl (by simp [hg]; rfl) (by simp) (by simp)) ?_
    have hcN : cleanR (List.take (i + 1) (l.map sP.O)) = true := by rw [← List.map_take]; exact sP.crO _
    exact Wk.one (b := 132) rfl (by simp) (by simp) (by simp [hs, hnew]) hcN
  · have h4 : ¬ i < l.length := by omega
    have e : (l.map sP.O).take i = l.map sP.O := List.take_of_length_le (by simp; omega)
    obtain rfl : i = l.length := by omega
    simp [e]
    exact fin_own (by simp; rfl) (by simp) (by simp) (by simp)
end Go.Proofs.Ytcchmhmbjhgfdaa.V
