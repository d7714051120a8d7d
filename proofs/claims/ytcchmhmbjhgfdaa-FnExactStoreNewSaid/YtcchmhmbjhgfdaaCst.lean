/- Stores that are new. -/
import Derived.Test.YtcchmhmbjhgfdaaCrl2
import Derived.Test.YtcchmhmbjhgfdaaCg7
namespace Go.Proofs.Ytcchmhmbjhgfdaa.V
open Go
set_option linter.unusedVariables false
set_option linter.unusedSimpArgs false
set_option maxHeartbeats 16000000
def stO (l : List Rl) : List T := [.own 3 [], .own 5 [], .i .i64 0, .i .i64 0, .own 2 (l.map sR.O), .i .i64 0, .own 2 [], .own 7 [], .i .i64 0]
def stI (l : List Rl) : List T := [.imm [], .imm [], .i .i64 0, .i .i64 0, .imm (l.map sR.I), .i .i64 0, .imm [], .imm [], .i .i64 0]
open Classical in
noncomputable def storeNew (l : List Rl) : List Rl × Bool := if rlOk l then (l, true) else ([], false)
theorem zG_fit : zG.fit := by simp [zG, Gr.fit, ln, i64]
theorem cloneZ : Rv Try.prog 110 [.agg [.imm [], .imm [], .i .i64 0, .i .i64 0]] (.agg [.own 3 [], .own 5 [], .i .i64 0, .i .i64 0]) := by
  have h := cloneGraph_c zG (by show (0 : Nat) ≤ _; omega) (by simp [zG]) (by simp [zG])
  exact h
theorem cloneAsks0 : Rv Try.prog 179 [.imm []] (.own 2 []) := by
  refine via_impl_cloneAsks (by simp) ?_
  simp [pc_impl_cloneAsks]
  exact fin_own rfl (by simp) (by simp) (by simp)
theorem cloneStore_c (l : List Rl) (hl : l.length ≤ 2 ^ 20) : Rv Try.prog 138 [.agg (stI l)] (.agg (stO l)) := by
  have h1 := cloneZ
  have h2 := cloneAsks0
  have hb : l.length * 32 ≤ 35184372088832 := by omega
  refine via_impl_cloneStore (by simp [stI]) ?_
  simp [pc_impl_cloneStore, stI]
  have hx : ∀ s : St, handed s [] 0 [T.agg [T.imm [], T.imm [], T.i IntKind.i64 0, T.i IntKind.i64 0]] = some [T.agg [T.imm [], T.imm [], T.i IntKind.i64 0, T.i IntKind.i64 0]] := by intro s; simp
  refine callK_val (hx _) h1 (by simp [T.noImm]) ?_
  simp
  repeat with_reducible refine need_mk (by decide +kernel) ?_
  refine callK_val (by simp) h2 (by simp [T.noImm]) ?_
  simp [hb]
  repeat with_reducible refine need_mk (by decide +kernel) ?_
  refine need_mk (fun a _ x hx => sR.kI' a x hx) ?_
  have hRR : l.map sR.I = l.map sR.O := rfl
  refine W_for (fun i => ⟨[(26, .i .i64 i), (25, .i .i64 0), (24, .imm []), (1, .ptr 0 0 0), (2, .ptr 1 0 0), (3, .ptr 90 0 0)], [(1, .arr 9 [[.nl, .nl, .i .i64 0, .i .i64 0, .nl, .i .i64 0, .nl, .nl, .i .i64 0]]), (18, .arr 3 []), (19, .arr 5 []), (58, .arr 2 []), (90, .arr 9 [[.ref 18 0 0, .ref 19 0 0, .i .i64 0, .i .i64 0, .ref 106 0 l.length, .i .i64 0, .ref 58 0 0, .nl, .i .i64 0]]), (106, .arr 2 (l.map sR.O))], 120, 0⟩) 0 (fun _ => True) (Wk.less rfl (by simp) (by simp) (by simp [hRR])) trivial ?_
  intro i hi _
  obtain rfl : i = 0 := by omega
  simp
  exact fin_own (by simp; rfl) (by simp [stO]) (by simp) (by simp [stO])
open Classical in
theorem StoreNew_c (l : List Rl) (hl : l.length ≤ 2 ^ 20) (hf : ∀ r ∈ l, r.fit) : Rv Try.prog 61 [.imm (l.map sR.I)] (.tup [.agg (stO (storeNew l).1), .b (storeNew l).2]) := by
  have h1 := RulesOk_c l (by simp only [ln]; omega) hf
  have h2 := cloneStore_c l hl
  refine via_impl_StoreNew (by simp) ?_
  by_cases c : rlOk l
  · have e : storeNew l = (l, true) := by simp [storeNew, c]
    rw [e]
    simp [pc_impl_StoreNew]
    refine callK_val (by simp) h1 rfl ?_
    simp [c]
    refine callK_val (by simp [stI]) h2 (by simp [T.noImm, stO]) ?_
    simp [stO]
    exact fin_own (by simp; rfl) (by simp) (by simp) (by simp)
  · have e : storeNew l = ([], false) := by simp [storeNew, c]
    rw [e]
    simp [pc_impl_StoreNew]
    refine callK_val (by simp) h1 rfl ?_
    simp [c]
    exact fin_own (by simp; rfl) (by simp [stO]) (by simp) (by simp [stO])
open Classical in
theorem specStoreNew_c (l : List Rl) (hl : l.length ≤ 2 ^ 20) (hf : ∀ r ∈ l, r.fit) : Rv Try.prog 59 [.imm (l.map sR.I)] (.tup [.agg (stO (storeNew l).1), .b (storeNew l).2]) := by
  have h1 := specRulesOk_c l hl hf
  have hb : l.length * 32 ≤ 35184372088832 := by omega
  have hRR : l.map sR.I = l.map sR.O := rfl
  refine via_spec_StoreNew (by simp) ?_
  by_cases c : rlOk l
  · have e : storeNew l = (l, true) := by simp [storeNew, c]
    rw [e]
    simp [pc_spec_StoreNew]
    refine callK_val (by simp) h1 rfl ?_
    simp [c, hb]
    refine need_mk (fun a _ x hx => sR.kI' a x hx) ?_
    exact fin_own (by simp; rfl) (by simp [stO, hRR]) (by simp) (by simp [stO])
  · have e : storeNew l = ([], false) := by simp [storeNew, c]
    rw [e]
    simp [pc_spec_StoreNew]
    refine callK_val (by simp) h1 rfl ?_
    simp [c]
    exact fin_own (by simp; rfl) (by simp [stO]) (by simp) (by simp [stO])
/-! ### the law's own -/
theorem eqAsk0 : Rv Try.prog 139 [.imm [], .imm []] (.b true) := by
  refine via_laws_eqAskS (by simp) ?_
  simp [pc_laws_eqAskS]
  refine W_for (fun i => ⟨[(5, .i .i64 i), (0, .imm []), (1, .imm [])], [], 0, 0⟩) 0 (fun i => True) (Wk.less rfl (by simp) (by simp) (by simp)) trivial ?_
  intro i hi _
  obtain rfl : i = 0 := by omega
  simp
  exact fin_val rfl (by simp) (by simp)
theorem eqTx0 : Rv Try.prog 140 [.imm [], .imm []] (.b true) := by
  refine via_laws_eqTxS (by simp) ?_
  simp [pc_laws_eqTxS]
  refine W_for (fun i => ⟨[(5, .i .i64 i), (0, .imm []), (1, .imm [])], [], 0, 0⟩) 0 (fun i => True) (Wk.less rfl (by simp) (by simp) (by simp)) trivial ?_
  intro i hi _
  obtain rfl : i = 0 := by omega
  simp
  exact fin_val rfl (by simp) (by simp)
theorem heldAsk0 (k : Int) : Rv Try.prog 145 [.imm [], .i .i64 k] (.i .i64 k) := by
  refine via_laws_heldAskS (by simp) ?_
  simp [pc_laws_heldAskS]
  refine W_for (fun i => ⟨[(5, .i .i64 i), (0, .imm []), (1, .i .i64 k)], [], 0, 0⟩) 0 (fun i => True) (Wk.less rfl (by simp) (by simp) (by simp)) trivial ?_
  intro i hi _
  obtain rfl : i = 0 := by omega
  simp
  exact fin_val rfl (by simp) (by simp)
theorem heldTx0 (k : Int) : Rv Try.prog 146 [.imm [], .i .i64 k] (.i .i64 k) := by
  refine via_laws_heldTxS (by simp) ?_
  simp [pc_laws_heldTxS]
  refine W_for (fun i => ⟨[(5, .i .i64 i), (0, .imm []), (1, .i .i64 k)], [], 0, 0⟩) 0 (fun i => True) (Wk.less rfl (by simp) (by simp) (by simp)) trivial ?_
  intro i hi _
  obtain rfl : i = 0 := by omega
  simp
  exact fin_val rfl (by simp) (by simp)
theorem markAsk0 (k : Int) : Ret Try.prog 142 [.own 2 [], .i .i64 k] (.i .i64 k) [.own 2 [], .dead] := by
  refine via_laws_markAskS (by simp) ?_
  simp [pc_laws_markAskS]
  refine W_for (fun i => ⟨[(5, .i .i64 i), (0, .ref 0 0 0), (1, .i .i64 k)], [(0, .arr 2 [])], 1, 1⟩) 0 (fun i => True) (Wk.less rfl (by simp) (by simp) (by simp)) trivial ?_
  intro i hi _
  obtain rfl : i = 0 := by omega
  simp
  exact fin_ret (ts := []) rfl (by simp) (by simp) (by simp)
theorem markTx0 (k : Int) : Ret Try.prog 143 [.own 7 [], .i .i64 k] (.i .i64 k) [.own 7 [], .dead] := by
  refine via_laws_markTxS (by simp) ?_
  simp [pc_laws_markTxS]
  refine W_for (fun i => ⟨[(5, .i .i64 i), (0, .ref 0 0 0), (1, .i .i64 k)], [(0, .arr 7 [])], 1, 1⟩) 0 (fun i => True) (Wk.less rfl (by simp) (by simp) (by simp)) trivial ?_
  intro i hi _
  obtain rfl : i = 0 := by omega
  simp
  exact fin_ret (ts := []) rfl (by simp) (by simp) (by simp)
theorem eqStore_c (l : List Rl) (hc : cl Rl.cnt l ≤ 2 ^ 22) : Rv Try.prog 62 [.agg (stI l), .agg (stI l)] (.b true) := by
  have h1 : Rv Try.prog 19 [.agg [.imm [], .imm [], .i .i64 0, .i .i64 0], .agg [.imm [], .imm [], .i .i64 0, .i .i64 0]] (.b true) := eqGraph_c zG (by show (0 : Nat) ≤ _; omega)
  have h2 := eqRuleS_c l hc
  have h3 := eqAsk0
  have h4 := eqTx0
  refine via_laws_eqStore (by simp [stI]) ?_
  simp [pc_laws_eqStore, stI]
  refine callK_val (by simp) h1 rfl ?_
  simp
  refine callK_val (by simp) h2 rfl ?_
  simp
  refine callK_val (by simp) h3 rfl ?_
  simp
  refine callK_val (by simp) h4 rfl ?_
  simp
  exact fin_val rfl (by simp) (by simp)
theorem heldStore_c (l : List Rl) (k : Int) (h0 : 0 ≤ k) (h : k + 8 * cl Rl.cnt l ≤ 2 ^ 50) : Rv Try.prog 66 [.agg (stI (mkL mkR k l).1), .i .i64 k] (.i .i64 (mkL mkR k l).2) := by
  have h1 : Rv Try.prog 47 [.agg [.imm [], .imm [], .i .i64 0, .i .i64 0], .i .i64 k] (.i .i64 k) := heldGraph_c zG k h0 (by have : zG.cnt = 0 := rfl; omega)
  have h2 := heldRuleS_c l k h0 h
  have hfr := Far.list (m := mkR) (c := Rl.cnt) (l := l) (fun v _ => far_rule v) k
  generalize (mkL mkR k l).1 = m at *
  generalize (mkL mkR k l).2 = q at *
  have h3 := heldAsk0 q
  have h4 := heldTx0 q
  have n1 : ¬ k < 0 := by omega
  have n2 : ¬ q < 0 := by omega
  refine via_laws_heldStore (by simp [stI]) ?_
  simp [pc_laws_heldStore, stI]
  refine callK_val (by simp) h1 rfl ?_
  simp [n1]
  refine callK_val (by simp) h2 rfl ?_
  simp [n2]
  refine callK_val (by simp) h3 rfl ?_
  simp [n2]
  refine callK_val (by simp) h4 rfl ?_
  simp [n2]
  exact fin_val rfl (by simp) (by simp)
theorem markStore_c (l : List Rl) (k : Int) (h0 : 0 ≤ k) (h : k + 8 * cl Rl.cnt l ≤ 2 ^ 50) : Ret Try.prog 65 [.agg (stO l), .i .i64 k] (.i .i64 (mkL mkR k l).2) [.agg [.own 3 [], .own 5 [], .dead, .dead, .own 2 ((mkL mkR k l).1.map sR.O), .dead, .own 2 [], .own 7 [], .dead], .dead] := by
  have h1 : Ret Try.prog 23 [.agg [.own 3 [], .own 5 [], .i .i64 0, .i .i64 0], .i .i64 k] (.i .i64 k) [.agg [.own 3 [], .own 5 [], .dead, .dead], .dead] := markGraph_c zG k h0 (by have : zG.cnt = 0 := rfl; omega)
  have h2 := markRuleS_c l k h0 h
  have hml := mkL_len (m := mkR) l k
  generalize (mkL mkR k l).1 = m at *
  generalize (mkL mkR k l).2 = q at *
  have h3 := markAsk0 q
  have h4 := markTx0 q
  refine via_laws_markStore (by simp [stO]) ?_
  simp [pc_laws_markStore, stO]
  refine callK_mut (by simp) h1 (by simp; rfl) (by simp) (by simp) rfl (by simp [T.noImm]) ?_
  simp
  refine callK_mut (by simp) h2 (by simp [hml]; rfl) (by simp) (by simp) rfl (by simp [T.noImm]) ?_
  simp
  refine callK_mut (by simp) h3 (by simp; rfl) (by simp) (by simp) rfl (by simp [T.noImm]) ?_
  simp
  refine callK_mut (by simp) h4 (by simp; rfl) (by simp) (by simp) rfl (by simp [T.noImm]) ?_
  simp
  have hcm := sR.crO m
  exact fin_ret (ts := []) rfl (by simp) (by simp [hml, hcm]) (by simp)
end Go.Proofs.Ytcchmhmbjhgfdaa.V
