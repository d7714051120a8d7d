/- Copies of values. -/
import Derived.Test.YtcchmhmbjhgfdaaCprop
namespace Go.Proofs.Ytcchmhmbjhgfdaa.V
open Go
set_option linter.unusedVariables false
set_option linter.unusedSimpArgs false
set_option maxHeartbeats 16000000
theorem l1Copy_c (v : Vl) : v.cnt ≤ 2 ^ 20 → Rv Try.prog 164 [.agg (sV.I v)] (.agg (sV.O v)) := by
  refine Vl.ind (p := fun v => v.cnt ≤ 2 ^ 20 → Rv Try.prog 164 [.agg (sV.I v)] (.agg (sV.O v))) ?_ v
  intro k n s l ih hc
  rw [Vl.cnt_mk] at hc
  unfold cl at hc
  refine via_spec_l1Copy (by simp) ?_
  simp [pc_spec_l1Copy]
  refine W_for (fun i => ⟨[(4, .i .i64 i), (1, .ptr 0 0 0), (2, .ptr 1 0 0), (3, .ptr 2 0 0)], [(0, .arr 4 [sV.I (.mk k n s l)]), (1, .arr 4 [[.i .i64 0, .i .i64 0, .s [], .nl]]), (2, .arr 4 [[.i .i64 k, .i .i64 n, .s s, .own 4 ((l.map sV.O).take i)]])], 10, 0⟩) l.length (fun _ => True) ?_ trivial ?_
  · refine Wk.trans (Wk.join (b := 2) (r := 0) (cs := [.i .i64 k, .i .i64 n, .s s, .own 4 []]) rfl rfl (by simp) (by simp)) ?_
    exact Wk.less rfl (by simp) (by simp) (by simp)
  intro i hi _
  rcases Nat.lt_or_ge i l.length with h1 | h1
  · obtain ⟨x, hx⟩ : ∃ x, l[i]? = some x := ⟨_, List.getElem?_eq_getElem h1⟩
    have hw : IntKind.i64.wrap ((i : Int) + 1) = (i : Int) + 1 := wrap1 (by omega)
    have hmin : min i l.length = i := by omega
    simp [-getElem?_pos, hx, hw, h1, hmin]
    refine callK_val (by simp) (ih x (List.mem_of_getElem? hx) (by have := sums_mem (c := Vl.cnt) (List.mem_of_getElem? hx); omega)) (by simp [T.noImm]) ?_
    have htt : List.take i (List.take i (l.map sV.O)) = List.take i (l.map sV.O) := by rw [List.take_take]; simp
    have hlA : (List.take i (l.map sV.O)).length = i := by simp; omega
    have hnew := fill_new sV.O hx
    have hcA : cleanR (List.take i (l.map sV.O)) = true := by rw [← List.map_take]; exact sV.crO _
    have hbig : (i + 1) * 56 ≤ 35184372088832 := by omega
    obtain ⟨k', n', s', l'⟩ := x
    simp [-getElem?_pos, hx, hw, h1, hmin, htt, hbig]
    generalize List.take i (l.map sV.O) = A at *
    refine need_mk ⟨by decide +kernel, by decide +kernel⟩ (need_mk (by decide +kernel) ?_)
    have hg := app1_get hlA
    have hs := app1_set hlA
    have ht := app1_take hlA
    refine Wk.trans (Wk.join (b := 82) (r := i) (cs := sV.O (.mk k' n' s' l')) rfl (by simp [hg]; rfl) (by simp) (by simp)) ?_
    refine Wk.trans (Wk.join (b := 2) (r := 0) (cs := [.i .i64 k, .i .i64 n, .s s, .own 4 ((l.map sV.O).take (i + 1))]) rfl rfl (by simp [hnew, hs, hcA, hlA, ht]) (by simp)) ?_
    exact Wk.to rfl (by simp) (by simp) (by simp [Blk.names]) (by simp)
  · have h2 : ¬ i < l.length := by omega
    have e : (l.map sV.O).take i = l.map sV.O := List.take_of_length_le (by simp; omega)
    simp [h2, e]
    exact fin_own (by simp; rfl) (by simp) (by simp) (by simp)
/-- An ok value is ok with more room. -/
theorem okV_mono : ∀ (d : Nat) (v : Vl), okV d v = true → okV (d + 1) v = true := by
  intro d
  induction d with
  | zero => intro v h; simp [okV] at h
  | succ d ih =>
    rintro ⟨k, n, s, l⟩ h
    have hall : l.all (okV d) = true → l.all (okV (d + 1)) = true := fun h => by
      rw [List.all_eq_true] at h ⊢
      exact fun v hv => ih v (h v hv)
    unfold okV at h ⊢
    by_cases k4 : k = 4
    · subst k4
      simp only [show ¬ (4 : Int) = 0 by omega, show ¬ (4 : Int) = 1 by omega, show ¬ (4 : Int) = 2 by omega, show ¬ (4 : Int) = 3 by omega, show ¬ ((4 : Int) = 5 ∨ (4 : Int) = 6) by omega, if_false, if_true, Bool.and_eq_true] at h ⊢
      exact ⟨h.1, hall h.2⟩
    · simp only [k4, if_false] at h ⊢
      exact h
/-- What is in an ok value's list. -/
theorem okV_list {d : Nat} {k n : Int} {s : Tx} {l : List Vl} (h : okV (d + 1) (.mk k n s l) = true) : ∀ v ∈ l, okV (d + 1) v = true := by
  intro v hv
  refine okV_mono d v ?_
  unfold okV at h
  by_cases k4 : k = 4
  · subst k4
    simp only [show ¬ (4 : Int) = 0 by omega, show ¬ (4 : Int) = 1 by omega, show ¬ (4 : Int) = 2 by omega, show ¬ (4 : Int) = 3 by omega, show ¬ ((4 : Int) = 5 ∨ (4 : Int) = 6) by omega, if_false, if_true, Bool.and_eq_true] at h
    exact List.all_eq_true.1 h.2 v hv
  · have : l = [] := by
      simp only [k4, if_false] at h
      split at h
      · simp at h; exact h.2
      · split at h
        · simp at h; exact h.2
        · split at h
          · simp at h; exact h.2
          · split at h
            · simp at h; exact h.2
            · split at h
              · simp at h; exact h.2
              · simp at h
    simp [this] at hv
theorem cloneValues_of (l : List Vl) (hl : l.length ≤ 2 ^ 20) (h : ∀ v ∈ l, Rv Try.prog 98 [.agg (sV.I v)] (.agg (sV.O v))) : Rv Try.prog 167 [.imm (l.map sV.I)] (.own 4 (l.map sV.O)) := by
  refine via_impl_cloneValues (by simp) ?_
  by_cases h0 : l.length = 0
  · obtain rfl : l = [] := List.length_eq_zero_iff.1 h0
    simp [pc_impl_cloneValues]
    exact fin_own rfl (by simp) (by simp) (by simp)
  · have h0' : ¬ l = [] := fun h => h0 (by simp [h])
    have hb1 : (l.length : Int) * 56 ≤ 35184372088832 := by omega
    have hb2 : (l.length : Int) ≤ 35184372088832 := by omega
    simp [pc_impl_cloneValues, h0, h0', hb1, hb2]
    refine W_for (fun i => ⟨[(14, .i .i64 i), (13, .i .i64 l.length), (12, .imm (l.map sV.I)), (3, .ref 0 0 l.length)], [(0, .arr 4 ((l.map sV.O).take i ++ List.replicate (l.length - i) [.i .i64 0, .i .i64 0, .s [], .nl]))], 10, 0⟩) l.length (fun i => True) (Wk.less rfl (by simp) (by simp) (by simp)) trivial ?_
    intro i hi _
    rcases Nat.lt_or_ge i l.length with h2 | h2
    · obtain ⟨v, hx⟩ : ∃ v, l[i]? = some v := ⟨_, List.getElem?_eq_getElem h2⟩
      have hw2 : IntKind.i64.wrap ((i : Int) + 1) = (i : Int) + 1 := wrap1 (by omega)
      have hrow := fill_row sV.O l (z := [.i .i64 0, .i .i64 0, .s [], .nl]) h2
      have hset := fill_set sV.O l (z := [.i .i64 0, .i .i64 0, .s [], .nl]) h2
      have hnew := fill_new sV.O hx
      have hg := fun r => fill_get sV.O (l := l) (r := r) (z := [.i .i64 0, .i .i64 0, .s [], .nl]) h2
      have hs2 := fun r r' => fill_set2 sV.O (l := l) (r := r) (r' := r') (z := [.i .i64 0, .i .i64 0, .s [], .nl]) h2
      have hcl := fill_clean sV (l := l) (z := [.i .i64 0, .i .i64 0, .s [], .nl]) (by rfl) (i + 1) (l.length - (i + 1))
      simp [-getElem?_pos, hx, hw2, h2]
      refine callK_val (by simp) (h v (List.mem_of_getElem? hx)) (by simp [T.noImm]) ?_
      obtain ⟨k', n', s', l'⟩ := v
      simp [-getElem?_pos, hx, hw2, h2, hrow, hset]
      refine Wk.trans (Wk.join (b := 0) (r := i) (cs := sV.O (.mk k' n' s' l')) rfl (by simp [hg]; rfl) (by simp) (by simp)) ?_
      exact Wk.to1 rfl (by simp) (by simp) (by simp [hs2, hnew]) hcl (by omega)
    · have h4 : ¬ i < l.length := by omega
      have h5 : l.length - i = 0 := by omega
      have e : (l.map sV.O).take i = l.map sV.O := List.take_of_length_le (by simp; omega)
      simp [h4, h5, e]
      exact fin_own (by simp; rfl) (by simp) (by simp) (by simp)
theorem cloneValue_c (v : Vl) : v.fit → v.cnt ≤ 2 ^ 20 → vOk v = true → Rv Try.prog 98 [.agg (sV.I v)] (.agg (sV.O v)) := by
  refine Vl.ind (p := fun v => v.fit → v.cnt ≤ 2 ^ 20 → vOk v = true → Rv Try.prog 98 [.agg (sV.I v)] (.agg (sV.O v))) ?_ v
  intro k n s l ih hf hc hok
  obtain ⟨_, _, hs, hl, hv⟩ := Vl.fit_mk.1 hf
  rw [Vl.cnt_mk] at hc
  unfold cl at hc
  have hlist := okV_list hok
  refine via_impl_cloneValue (by simp) ?_
  simp [pc_impl_cloneValue]
  refine callK_val (by simp) (ValueOk_c _ hf) rfl ?_
  simp [hok]
  refine callK_val (by simp) (cloneValues_of l (by omega) (fun v hm => ih v hm (hv v hm) (by have := sums_mem (c := Vl.cnt) hm; omega) (hlist v hm))) (by simp [T.noImm]) ?_
  simp
  exact fin_own (by simp; rfl) (by simp) (by simp) (by simp)
end Go.Proofs.Ytcchmhmbjhgfdaa.V
