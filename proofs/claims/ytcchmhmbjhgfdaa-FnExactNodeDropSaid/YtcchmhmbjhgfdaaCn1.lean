/- Nodes that go. -/
import Derived.Test.YtcchmhmbjhgfdaaCm4
namespace Go.Proofs.Ytcchmhmbjhgfdaa.V
open Go
set_option linter.unusedVariables false
set_option linter.unusedSimpArgs false
set_option maxHeartbeats 16000000
theorem NodeDrop1_c (e : Nd) (id : Int) : Rv Try.prog 125 [.agg (sN.I e), .pim [.i .i64 id]] (.b (decide (e.id = id))) := by
  obtain ⟨a, lb, ps⟩ := e
  refine via_impl_NodeDrop_1 (by simp) ?_
  simp [pc_impl_NodeDrop_1]
  exact fin_val rfl (by simp) (by simp)
theorem NodeDrop2_c (e : Eg) (id : Int) : Rv Try.prog 126 [.agg (sE.I e), .pim [.i .i64 id]] (.b (atN id e)) := by
  obtain ⟨a, b, c, d, ps⟩ := e
  refine via_impl_NodeDrop_2 (by simp) ?_
  by_cases h1 : c = id <;> by_cases h2 : d = id <;> (simp [pc_impl_NodeDrop_2, h1, h2]; exact fin_val rfl (by simp [atN, h1, h2]) (by simp))
def dN (e : Nd) : List T := [.i .i64 e.id, .dead, .dead]
theorem withoutN_c (l : List Nd) (hl : l.length ≤ 2 ^ 20) (q : Nd → Bool) (f : Nat) (caps : List T) (hf : ∀ e ∈ l, Rv Try.prog f (.agg (sN.I e) :: caps) (.b (q e))) (hok : okCall Try.prog f = true) (g : Nat) (hc : ∀ (s : St) (j : Nat), handed s [] j caps = some caps) (hn : namess caps = []) (hrc : ∀ k : Nat → Nat, rns k caps = caps) : Ret Try.prog 124 [.agg [.own 3 (l.map sN.O), .fn g []], .fn f caps] (.own 3 ((l.filter (fun e => !q e)).map sN.O)) [.agg [.own 3 (l.map dN), .dead], .dead] := by
  refine via_impl_numbered_impl_Node_without (by simp) ?_
  simp [pc_impl_numbered_impl_Node_without]
  refine W_for (fun i => ⟨[(11, .i .i64 i), (10, .i .i64 l.length), (9, .ref 0 0 l.length), (5, .ref 2 0 ((l.take i).filter (fun e => !q e)).length), (1, .fn f caps)], [(0, .arr 3 ((l.map dN).take i ++ (l.map sN.O).drop i)), (2, .arr 3 (((l.take i).filter (fun e => !q e)).map sN.O))], 20, 1⟩) l.length (fun _ => True) ?_ trivial ?_
  · exact Wk.trans (Wk.nil (j := 5) (k := 2) (sz := 3) (by simp) (by simp)) (Wk.less rfl (by simp) (by simp) (by simp))
  intro i hi _
  rcases Nat.lt_or_ge i l.length with h1 | h1
  · obtain ⟨x, hx⟩ : ∃ x, l[i]? = some x := ⟨_, List.getElem?_eq_getElem h1⟩
    have hw : IntKind.i64.wrap ((i : Int) + 1) = (i : Int) + 1 := wrap1 (by omega)
    have hfl : ((l.take i).filter (fun e => !q e)).length ≤ i := Nat.le_trans (List.length_filter_le _ _) (by simp; omega)
    have htk : l.take (i + 1) = l.take i ++ [x] := by rw [List.take_add_one, hx]; simp
    have hrow : ((l.map dN).take i ++ (l.map sN.O).drop i)[i]? = some (sN.O x) := by
      have hlen : ((l.map dN).take i).length = i := by simp; omega
      rw [List.getElem?_append_right (by omega), hlen]; simp [hx]
    have hq := hf x (List.mem_of_getElem? hx)
    obtain ⟨a, lb, ps⟩ := x
    simp [-getElem?_pos, hx, hw, h1, hrow]
    refine need_mk hok ?_
    refine callK_val (by simp [hc]) hq rfl ?_
    have hla : ((l.map dN).take i).length = i := by simp; omega
    have hset : ∀ r, ((l.map dN).take i ++ (l.map sN.O).drop i).set i r = (l.map dN).take i ++ r :: (l.map sN.O).drop (i + 1) := by
      intro r
      rw [List.drop_eq_getElem_cons (by simpa using h1), List.set_append_right _ _ (by omega), hla]; simp
    have hset2 : ∀ r r', ((l.map dN).take i ++ r :: (l.map sN.O).drop (i + 1)).set i r' = (l.map dN).take i ++ r' :: (l.map sN.O).drop (i + 1) := by
      intro r r'
      rw [List.set_append_right _ _ (by omega), hla]; simp
    have hgt : ∀ r, ((l.map dN).take i ++ r :: (l.map sN.O).drop (i + 1))[i]? = some r := by
      intro r
      rw [List.getElem?_append_right (by omega), hla]; simp
    have hnew : (l.map dN).take (i + 1) ++ (l.map sN.O).drop (i + 1) = (l.map dN).take i ++ dN ⟨a, lb, ps⟩ :: (l.map sN.O).drop (i + 1) := by
      rw [fill_new dN hx]; simp
    have hc0 : cleanR ((l.map dN).take i ++ dN ⟨a, lb, ps⟩ :: (l.map sN.O).drop (i + 1)) = true := by
      have h3 := sN.crO (l.drop (i + 1))
      simp only [cleanR, List.map_drop] at h3
      simp only [cleanR, List.all_append, List.all_cons, Bool.and_eq_true]
      refine ⟨?_, by simp [dN, T.clean], h3⟩
      have h4 : ∀ m : List Nd, ((m.map dN).all fun r => r.all T.clean) = true := by intro m; simp [dN, T.clean]
      rw [← List.map_take]; exact h4 _
    have hdN : dN ⟨a, lb, ps⟩ = [.i .i64 a, .dead, .dead] := rfl
    rw [hdN] at hnew hc0
    by_cases hqx : q ⟨a, lb, ps⟩ = true
    · have hn2 : (l.take (i + 1)).filter (fun e => !q e) = (l.take i).filter (fun e => !q e) := by rw [htk, List.filter_append]; simp [hqx]
      rw [hn2]
      have hcA := sN.crO ((l.take i).filter (fun e => !q e))
      simp [-getElem?_pos, hx, hw, h1, hrow, hqx, hset]
      refine Wk.trans (Wk.join (b := 0) (r := i) (cs := [.i .i64 a, .dead, .dead]) rfl (by simp [hgt]; rfl) (by simp) (by simp)) ?_
      simp only [hnew]
      exact Wk.to rfl (by simp) (by simp [hn]) (by simp [Blk.names, namesr_clean hc0, namesr_clean hcA, hset2]) (by simp)
    · have hn2 : (l.take (i + 1)).filter (fun e => !q e) = (l.take i).filter (fun e => !q e) ++ [⟨a, lb, ps⟩] := by rw [htk, List.filter_append]; simp [hqx]
      rw [hn2]
      generalize (l.take i).filter (fun e => !q e) = A at *
      have hbig : (A.length + 1) * 56 ≤ 35184372088832 := by omega
      simp [-getElem?_pos, hx, hw, h1, hrow, hqx, hset, hbig]
      have hA : (A.map sN.O).length = A.length := by simp
      have hg2 := app1_get hA
      have hs3 := app1_set hA
      have hcB : cleanR (A.map sN.O ++ [[.i .i64 a, .own 1 (lb.map sS.O), .own 5 (ps.map sP.O)]]) = true := by
        have := sN.crO (A ++ [⟨a, lb, ps⟩])
        rw [List.map_append] at this
        simpa only [List.map_cons, List.map_nil, sN_O] using this
      refine Wk.trans (Wk.join (b := 0) (r := i) (cs := [.i .i64 a, .dead, .dead]) rfl (by simp [hgt]; rfl) (by simp) (by simp)) ?_
      refine Wk.trans (Wk.join (b := 26) (r := A.length) (cs := [.i .i64 a, .own 1 (lb.map sS.O), .own 5 (ps.map sP.O)]) rfl (by simp [hg2]; rfl) (by simp) (by simp)) ?_
      simp only [hnew]
      refine Wk.ren (fun t => if t = 2 then 26 else t) rfl (by simp) (by simp) (by simp [rns_clean, hn, hrc]) ?_ (by simp)
      simp [Blk.rn, Blk.names, namesr_clean hc0, namesr_clean hcB, rnr_cl hc0, rnr_cl hcB, hset2, hs3]
  · obtain rfl : i = l.length := by omega
    have hcd : cleanR (l.map dN) = true := by simp [cleanR, dN, T.clean]
    have e1 : (l.map dN).take l.length = l.map dN := List.take_of_length_le (by simp)
    have e2 : (l.map sN.O).drop l.length = [] := by simp
    simp [e1, e2]
    exact fin_ret (ts := [2]) rfl (by simp) (by simp [hcd, e1]) (by simp)
end Go.Proofs.Ytcchmhmbjhgfdaa.V
