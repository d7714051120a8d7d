/- Edges that go. -/
import Derived.Test.YtcchmhmbjhgfdaaCg4
namespace Go.Proofs.Ytcchmhmbjhgfdaa.V
open Go
set_option linter.unusedVariables false
set_option linter.unusedSimpArgs false
set_option maxHeartbeats 16000000
theorem EdgeDrop1_c (e : Eg) (id : Int) : Rv Try.prog 122 [.agg (sE.I e), .pim [.i .i64 id]] (.b (decide (e.id = id))) := by
  obtain ⟨a, b, c, d, ps⟩ := e
  refine via_impl_EdgeDrop_1 (by simp) ?_
  simp [pc_impl_EdgeDrop_1]
  exact fin_val rfl (by simp) (by simp)
/-- A slice that is nil, as one of a block without rows. -/
theorem Wk.nil {s : St} {j k sz : Nat} (h : tget s.tm j = .nl) (hk : s.nx ≤ k) : Wk s ⟨(j, .ref k 0 0) :: s.tm, hset s.hp k (.arr sz []), k + 1, s.fb⟩ := by
  rintro E a w ⟨⟨ρ, O, F, hR⟩, hE⟩
  have h1 := hR.set1 (t := k) (k := .arr sz []) (Ft := []) (M := []) (A' := (· < k + 1)) (ρ' := fun t => if t = k then none else ρ t) (w' := w) (hp0 := s.hp)
    (fun t ht => by omega) (fun t ht => if_neg (by omega)) (fun t ht => by rw [if_neg (by omega)]; exact hR.ρ0 t ht) (fun _ _ => rfl) (fun _ _ h => h) (fun _ _ _ _ _ _ => rfl) (Keep.refl _ _) (by simp) (by omega)
    (by simp only [BR]; exact .inl ⟨trivial, trivial, .inl (by simp)⟩) (by simp) (by simp) (by simp)
  refine ⟨⟨_, O, _, h1.size, h1.defers, h1.fb, h1.ρ0, h1.O0, h1.Olt, h1.Onew, fun i => ?_, h1.hp, h1.nodup, h1.apart, h1.mine, h1.keep⟩, by simp only; omega⟩
  simp only [tget]
  split
  · rename_i e
    subst e
    have := hR.tm j
    rw [h] at this
    simp only [CV, CI] at this
    simp only [CV]
    exact ⟨by omega, .inl ⟨by simp, trivial, trivial, _, this⟩⟩
  · exact h1.tm i
def dE (e : Eg) : List T := [.i .i64 e.id, .s e.kind, .i .i64 e.frm, .i .i64 e.to, .dead]
theorem without_c (l : List Eg) (hl : l.length ≤ 2 ^ 20) (q : Eg → Bool) (f : Nat) (caps : List T) (hf : ∀ e ∈ l, Rv Try.prog f (.agg (sE.I e) :: caps) (.b (q e))) (hok : okCall Try.prog f = true) (g : Nat) (hc : ∀ (s : St) (j : Nat), handed s [] j caps = some caps) (hn : namess caps = []) (hrc : ∀ k : Nat → Nat, rns k caps = caps) : Ret Try.prog 121 [.agg [.own 5 (l.map sE.O), .fn g []], .fn f caps] (.own 5 ((l.filter (fun e => !q e)).map sE.O)) [.agg [.own 5 (l.map dE), .dead], .dead] := by
  refine via_impl_numbered_impl_Edge_without (by simp) ?_
  simp [pc_impl_numbered_impl_Edge_without]
  refine W_for (fun i => ⟨[(11, .i .i64 i), (10, .i .i64 l.length), (9, .ref 0 0 l.length), (5, .ref 2 0 ((l.take i).filter (fun e => !q e)).length), (1, .fn f caps)], [(0, .arr 5 ((l.map dE).take i ++ (l.map sE.O).drop i)), (2, .arr 5 (((l.take i).filter (fun e => !q e)).map sE.O))], 20, 1⟩) l.length (fun _ => True) ?_ trivial ?_
  · exact Wk.trans (Wk.nil (j := 5) (k := 2) (sz := 5) (by simp) (by simp)) (Wk.less rfl (by simp) (by simp) (by simp))
  intro i hi _
  rcases Nat.lt_or_ge i l.length with h1 | h1
  · obtain ⟨x, hx⟩ : ∃ x, l[i]? = some x := ⟨_, List.getElem?_eq_getElem h1⟩
    have hw : IntKind.i64.wrap ((i : Int) + 1) = (i : Int) + 1 := wrap1 (by omega)
    have hfl : ((l.take i).filter (fun e => !q e)).length ≤ i := Nat.le_trans (List.length_filter_le _ _) (by simp; omega)
    have htk : l.take (i + 1) = l.take i ++ [x] := by rw [List.take_add_one, hx]; simp
    have hrow : ((l.map dE).take i ++ (l.map sE.O).drop i)[i]? = some (sE.O x) := by
      have hlen : ((l.map dE).take i).length = i := by simp; omega
      rw [List.getElem?_append_right (by omega), hlen]; simp [hx]
    have hq := hf x (List.mem_of_getElem? hx)
    obtain ⟨a, b, c, d, ps⟩ := x
    simp [-getElem?_pos, hx, hw, h1, hrow]
    refine need_mk hok ?_
    refine callK_val (by simp [hc]) hq rfl ?_
    have hla : ((l.map dE).take i).length = i := by simp; omega
    have hset : ∀ r, ((l.map dE).take i ++ (l.map sE.O).drop i).set i r = (l.map dE).take i ++ r :: (l.map sE.O).drop (i + 1) := by
      intro r
      rw [List.drop_eq_getElem_cons (by simpa using h1), List.set_append_right _ _ (by omega), hla]; simp
    have hset2 : ∀ r r', ((l.map dE).take i ++ r :: (l.map sE.O).drop (i + 1)).set i r' = (l.map dE).take i ++ r' :: (l.map sE.O).drop (i + 1) := by
      intro r r'
      rw [List.set_append_right _ _ (by omega), hla]; simp
    have hgt : ∀ r, ((l.map dE).take i ++ r :: (l.map sE.O).drop (i + 1))[i]? = some r := by
      intro r
      rw [List.getElem?_append_right (by omega), hla]; simp
    have hnew : (l.map dE).take (i + 1) ++ (l.map sE.O).drop (i + 1) = (l.map dE).take i ++ dE ⟨a, b, c, d, ps⟩ :: (l.map sE.O).drop (i + 1) := by
      rw [fill_new dE hx]; simp
    have hc0 : cleanR ((l.map dE).take i ++ dE ⟨a, b, c, d, ps⟩ :: (l.map sE.O).drop (i + 1)) = true := by
      have h3 := sE.crO (l.drop (i + 1))
      simp only [cleanR, List.map_drop] at h3
      simp only [cleanR, List.all_append, List.all_cons, Bool.and_eq_true]
      refine ⟨?_, by simp [dE, T.clean], h3⟩
      have h4 : ∀ m : List Eg, ((m.map dE).all fun r => r.all T.clean) = true := by intro m; simp [dE, T.clean]
      rw [← List.map_take]; exact h4 _
    have hdE : dE ⟨a, b, c, d, ps⟩ = [.i .i64 a, .s b, .i .i64 c, .i .i64 d, .dead] := rfl
    rw [hdE] at hnew hc0
    by_cases hqx : q ⟨a, b, c, d, ps⟩ = true
    · have hn2 : (l.take (i + 1)).filter (fun e => !q e) = (l.take i).filter (fun e => !q e) := by rw [htk, List.filter_append]; simp [hqx]
      rw [hn2]
      have hcA := sE.crO ((l.take i).filter (fun e => !q e))
      simp [-getElem?_pos, hx, hw, h1, hrow, hqx, hset]
      refine Wk.trans (Wk.join (b := 0) (r := i) (cs := [.i .i64 a, .s b, .i .i64 c, .i .i64 d, .dead]) rfl (by simp [hgt]; rfl) (by simp) (by simp)) ?_
      simp only [hnew]
      exact Wk.to rfl (by simp) (by simp [hn]) (by simp [Blk.names, namesr_clean hc0, namesr_clean hcA, hset2]) (by simp)
    · have hn2 : (l.take (i + 1)).filter (fun e => !q e) = (l.take i).filter (fun e => !q e) ++ [⟨a, b, c, d, ps⟩] := by rw [htk, List.filter_append]; simp [hqx]
      rw [hn2]
      generalize (l.take i).filter (fun e => !q e) = A at *
      have hbig : (A.length + 1) * 64 ≤ 35184372088832 := by omega
      simp [-getElem?_pos, hx, hw, h1, hrow, hqx, hset, hbig]
      have hA : (A.map sE.O).length = A.length := by simp
      have hg2 := app1_get hA
      have hs3 := app1_set hA
      have hcB : cleanR (A.map sE.O ++ [[.i .i64 a, .s b, .i .i64 c, .i .i64 d, .own 5 (ps.map sP.O)]]) = true := by
        have := sE.crO (A ++ [⟨a, b, c, d, ps⟩])
        rw [List.map_append] at this
        simpa only [List.map_cons, List.map_nil, sE_O] using this
      refine Wk.trans (Wk.join (b := 0) (r := i) (cs := [.i .i64 a, .s b, .i .i64 c, .i .i64 d, .dead]) rfl (by simp [hgt]; rfl) (by simp) (by simp)) ?_
      refine Wk.trans (Wk.join (b := 25) (r := A.length) (cs := [.i .i64 a, .s b, .i .i64 c, .i .i64 d, .own 5 (ps.map sP.O)]) rfl (by simp [hg2]; rfl) (by simp) (by simp)) ?_
      simp only [hnew]
      refine Wk.ren (fun t => if t = 2 then 25 else t) rfl (by simp) (by simp) (by simp [rns_clean, hn, hrc]) ?_ (by simp)
      simp [Blk.rn, Blk.names, namesr_clean hc0, namesr_clean hcB, rnr_cl hc0, rnr_cl hcB, hset2, hs3]
  · obtain rfl : i = l.length := by omega
    have hcd : cleanR (l.map dE) = true := by simp [cleanR, dE, T.clean]
    have e1 : (l.map dE).take l.length = l.map dE := List.take_of_length_le (by simp)
    have e2 : (l.map sE.O).drop l.length = [] := by simp
    simp [e1, e2]
    exact fin_ret (ts := [2]) rfl (by simp) (by simp [hcd, e1]) (by simp)
end Go.Proofs.Ytcchmhmbjhgfdaa.V
