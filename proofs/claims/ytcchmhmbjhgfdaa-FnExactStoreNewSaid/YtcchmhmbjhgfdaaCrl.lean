/- Rules as data. -/
import Derived.Test.YtcchmhmbjhgfdaaCto2
import Derived.Test.YtcchmhmbjhgfdaaCmk4
import Derived.Test.YtcchmhmbjhgfdaaVpst
namespace Go.Proofs.Ytcchmhmbjhgfdaa.V
open Go
set_option linter.unusedVariables false
set_option linter.unusedSimpArgs false
set_option maxHeartbeats 4000000
structure Rl where
  label : Tx
  name : Tx
  deriving DecidableEq
def sR : Sh Rl where
  sz := 2
  I r := [.s r.label, .s r.name]
  O r := [.s r.label, .s r.name]
  lI _ := rfl
  lO _ := rfl
  toO _ := by simp [toIs]
  im _ := rfl
  ow _ := rfl
@[simp] theorem sR_sz : sR.sz = 2 := rfl
@[simp] theorem sR_I (a b : Tx) : sR.I ⟨a, b⟩ = [.s a, .s b] := rfl
@[simp] theorem sR_O (a b : Tx) : sR.O ⟨a, b⟩ = [.s a, .s b] := rfl
@[simp] theorem sR_take (p : Rl) : (sR.I p).take 2 = sR.I p := sR.takeI p
def Rl.cnt (r : Rl) : Nat := r.label.length + r.name.length
def Rl.fit (r : Rl) : Prop := ln r.label ∧ ln r.name
theorem szRule_c (p : Rl) (hf : p.fit) (x : Int) (h0 : 0 ≤ x) (h1 : x < 2 ^ 62) : Rv Try.prog 134 [.agg (sR.I p), .i .i64 x] (.i .i64 (left x p.cnt)) := by
  obtain ⟨s, v⟩ := p
  obtain ⟨hs, hv⟩ := hf
  simp only [Rl.cnt] at hs hv ⊢
  refine via_laws_szRule (by simp) ?_
  have hw := wsub h0 h1 hs
  by_cases hc : x - s.length < 0
  · simp [pc_laws_szRule, hw, hc]
    exact fin_val rfl (by simp [left_neg (show x - ((s.length + v.length : Nat) : Int) < 0 by omega)]) (by simp)
  · have hw2 : IntKind.i64.wrap (x - s.length - v.length) = x - s.length - v.length := wsub (by omega) (by omega) hv
    by_cases h2 : x - s.length - v.length < 0
    · simp [pc_laws_szRule, hw, hc, hw2, h2]
      exact fin_val rfl (by simp [left_neg (show x - ((s.length + v.length : Nat) : Int) < 0 by omega)]) (by simp)
    · simp [pc_laws_szRule, hw, hc, hw2, h2]
      exact fin_val rfl (by simp [left_pos (show ¬ x - ((s.length + v.length : Nat) : Int) < 0 by omega)]; omega) (by simp)
theorem szRuleS_c (l : List Rl) (hl : ln l) (h : ∀ v ∈ l, v.fit) (x : Int) (h0 : 0 ≤ x) (h1 : x < 2 ^ 62) : Rv Try.prog 58 [.imm (l.map sR.I), .i .i64 x] (.i .i64 (left x (cl Rl.cnt l))) :=
  via_laws_szRuleS (by simp) (szS_gen sR Rl.cnt l hl x h0 h1 (fun v hv => szRule_c v (h v hv)))
theorem eqRule_c (p : Rl) : Rv Try.prog 141 [.agg (sR.I p), .agg (sR.I p)] (.b true) := by
  obtain ⟨s, v⟩ := p
  refine via_laws_eqRule (by simp) ?_
  simp [pc_laws_eqRule]
  exact fin_val rfl (by simp) (by simp)
theorem eqRuleS_c (l : List Rl) (hc : cl Rl.cnt l ≤ 2 ^ 22) : Rv Try.prog 63 [.imm (l.map sR.I), .imm (l.map sR.I)] (.b true) :=
  via_laws_eqRuleS (by simp) (eqS_gen sR l (by unfold cl at hc; omega) (fun v _ => eqRule_c v))
theorem toRule_c (p : Rl) : Rv Try.prog 136 [.agg (sR.I p)] (.agg (sR.O p)) := by
  obtain ⟨s, v⟩ := p
  refine via_laws_toRule (by simp) ?_
  simp [pc_laws_toRule]
  exact fin_own (by simp; rfl) (by simp) (by simp) (by simp)
theorem toRuleS_c (l : List Rl) (hc : cl Rl.cnt l ≤ 2 ^ 20) : Rv Try.prog 60 [.imm (l.map sR.I)] (.own 2 (l.map sR.O)) :=
  via_laws_toRuleS (by simp) (toS_gen sR (by rfl) (by rfl) (by omega) l (by unfold cl at hc; omega) (fun v _ => toRule_c v))
def mkR (k : Int) : Rl → Rl × Int
  | ⟨s1, s2⟩ => (⟨(mt k), (mt (k + 1))⟩, k + 2)
theorem far_rule (x : Rl) : ∀ k, k ≤ (mkR k x).2 ∧ (mkR k x).2 ≤ k + 8 * (1 + Rl.cnt x) := by
  intro k
  obtain ⟨s1, s2⟩ := x
  simp only [mkR, Rl.cnt]
  omega
theorem markRuleS_c (l : List Rl) (k : Int) (h0 : 0 ≤ k) (h : k + 8 * cl Rl.cnt l ≤ 2 ^ 50) : Ret Try.prog 64 [.own 2 (l.map sR.O), .i .i64 k] (.i .i64 (mkL mkR k l).2) [.own 2 ((mkL mkR k l).1.map sR.O), .dead] := by
  have hll : l.length ≤ cl Rl.cnt l := by unfold cl; omega
  refine via_laws_markRuleS (by simp) ?_
  simp [pc_laws_markRuleS]
  refine W_for (fun i => ⟨[(5, .i .i64 i), (1, .i .i64 (kAt mkR k l i)), (0, .ref 0 0 l.length)], [(0, .arr 2 ((pAt mkR k l i).map sR.O ++ (l.map sR.O).drop i))], 1, 1⟩) l.length (fun i => True) (Wk.less rfl (by simp) (by simp [kAt, mkL]) (by simp [pAt, mkL])) trivial ?_
  intro i hi _
  rcases Nat.lt_or_ge i l.length with h1 | h1
  · obtain ⟨x, hx⟩ : ∃ x, l[i]? = some x := ⟨_, List.getElem?_eq_getElem h1⟩
    have hw : IntKind.i64.wrap ((i : Int) + 1) = (i : Int) + 1 := wrap1 (by omega)
    have hf := Far.at (c := Rl.cnt) (fun v _ => far_rule v) hx (k := k)
    have hk1 := kAt_succ (m := mkR) (k := k) hx
    have hp1 := pAt_succ (m := mkR) (k := k) hx
    have hpl := pAt_len mkR (k := k) hi
    generalize kAt mkR k l i = q at *
    generalize hP : pAt mkR k l i = p at *
    rw [drop_eq (l := l.map sR.O) (x := sR.O x) (by simp [hx])]
    have hg : ∀ r, ((p.map sR.O) ++ r :: (l.map sR.O).drop (i + 1))[i]? = some r := fun r => by rw [List.getElem?_append_right (by simp; omega)]; simp [hpl]
    have hs : ∀ r r', ((p.map sR.O) ++ r :: (l.map sR.O).drop (i + 1)).set i r' = (p.map sR.O) ++ r' :: (l.map sR.O).drop (i + 1) := fun r r' => by rw [List.set_append_right _ _ (by simp; omega)]; simp [hpl]
    have hcB := sR.crO (l.drop (i + 1))
    rw [List.map_drop] at hcB
    generalize hB : (l.map sR.O).drop (i + 1) = B at *
    obtain ⟨s1, s2⟩ := x
    simp only [Rl.cnt] at hf
    simp only [mkR] at hk1 hp1
    have hw0 : IntKind.i64.wrap (q + 1) = q + 1 := by rw [wrap64 (by omega) (by omega)]
    have hw1 : IntKind.i64.wrap (q + 1 + 1) = q + 2 := by rw [wrap64 (by omega) (by omega)]; omega
    simp [-getElem?_pos, hw, h1, hg, hw0, hw1, hs]
    refine callK_val (by simp) (markText_c q (by omega)) rfl ?_
    simp [-getElem?_pos, hw, h1, hg, hw0, hw1, hs]
    refine callK_val (by simp) (markText_c (q + 1) (by omega)) rfl ?_
    simp [-getElem?_pos, hw, h1, hg, hw0, hw1, hs]
    exact Wk.to1 rfl (by simp) (by simp [hk1]) (by simp [hs, hp1]) (by simp [hcB]) (by omega)
  · have h2 : ¬ i < l.length := by omega
    have e : List.drop i (l.map sR.O) = [] := List.drop_of_length_le (by simp; omega)
    simp [h2, e]
    refine fin_ret (ts := []) rfl (by simp [kAt_all h1]) (by simp [pAt_all h1, e, mkL_len]) (by simp)
theorem heldRuleS_c (l : List Rl) (k : Int) (h0 : 0 ≤ k) (h : k + 8 * cl Rl.cnt l ≤ 2 ^ 50) : Rv Try.prog 144 [.imm ((mkL mkR k l).1.map sR.I), .i .i64 k] (.i .i64 (mkL mkR k l).2) := by
  have hll : l.length ≤ cl Rl.cnt l := by unfold cl; omega
  refine via_laws_heldRuleS (by simp) ?_
  simp [pc_laws_heldRuleS]
  have hml := mkL_len (m := mkR) l k
  refine W_for (fun i => ⟨[(5, .i .i64 i), (1, .i .i64 (kAt mkR k l i)), (0, .imm ((mkL mkR k l).1.map sR.I))], [], 0, 0⟩) l.length (fun i => True) (Wk.less rfl (by simp) (by simp [kAt, mkL]) (by simp)) trivial ?_
  intro i hi _
  rcases Nat.lt_or_ge i l.length with h1 | h1
  · obtain ⟨x, hx⟩ : ∃ x, l[i]? = some x := ⟨_, List.getElem?_eq_getElem h1⟩
    have hw : IntKind.i64.wrap ((i : Int) + 1) = (i : Int) + 1 := wrap1 (by omega)
    have hf := Far.at (c := Rl.cnt) (fun v _ => far_rule v) hx (k := k)
    have hk1 := kAt_succ (m := mkR) (k := k) hx
    have hg := mkL_get (m := mkR) (k := k) hx
    generalize kAt mkR k l i = q at *
    generalize hR : (mkL mkR k l).1 = R at *
    obtain ⟨s1, s2⟩ := x
    simp only [Rl.cnt] at hf
    simp only [mkR] at hk1 hg
    have hw0 : IntKind.i64.wrap (q + 1) = q + 1 := by rw [wrap64 (by omega) (by omega)]
    have hw1 : IntKind.i64.wrap (q + 1 + 1) = q + 2 := by rw [wrap64 (by omega) (by omega)]; omega
    simp [-getElem?_pos, hw, h1, hg, hw0, hw1, hml]
    refine callK_val (by simp) (markText_c q (by omega)) rfl ?_
    simp [-getElem?_pos, hw, h1, hg, hw0, hw1, hml]
    refine callK_val (by simp) (markText_c (q + 1) (by omega)) rfl ?_
    simp [-getElem?_pos, hw, h1, hg, hw0, hw1, hml]
    exact Wk.to rfl (by simp) (by simp [hk1]) (by simp) (by simp)
  · have h2 : ¬ i < l.length := by omega
    simp [h2, hml]
    exact fin_val rfl (by simp [kAt_all h1]) (by simp)
end Go.Proofs.Ytcchmhmbjhgfdaa.V
