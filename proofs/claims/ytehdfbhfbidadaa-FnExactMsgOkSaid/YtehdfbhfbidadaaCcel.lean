/- Cells (a name, a value): as props are. Messages. -/
import Derived.Test.YtehdfbhfbidadaaCto2
import Derived.Test.YtehdfbhfbidadaaG1
import Derived.Test.YtehdfbhfbidadaaVD
import Derived.Test.YtehdfbhfbidadaaVpm
import Derived.Test.YtehdfbhfbidadaaOpn
namespace Go.Proofs.Ytehdfbhfbidadaa.V
open Go Go.RowKit
set_option linter.unusedVariables false
set_option linter.unusedSimpArgs false
set_option maxHeartbeats 4000000
theorem szCell_c (p : Pr) (hf : p.fit) (x : Int) (h0 : 0 ≤ x) (h1 : x < 2 ^ 62) : Rv Try.prog 129 [.agg (sP.I p), .i .i64 x] (.i .i64 (left x p.cnt)) := by
  obtain ⟨s, v⟩ := p
  obtain ⟨hs, hv⟩ := hf
  simp only [Pr.cnt] at hs hv ⊢
  refine via_laws_szCell (by simp) ?_
  have hw := wsub h0 h1 hs
  by_cases hc : x - s.length < 0
  · simp [pc_laws_szCell, hw, hc]
    exact fin_val rfl (by simp [left_neg (show x - ((s.length + v.cnt : Nat) : Int) < 0 by omega)]) (by simp)
  · simp [pc_laws_szCell, hw, hc]
    refine callK_val (by simp) (szValue_c v hv (x - s.length) (by omega) (by omega)) rfl ?_
    by_cases h2 : x - s.length - v.cnt < 0
    · simp [left_neg h2, hw]
      exact fin_val rfl (by simp [left_neg (show x - ((s.length + v.cnt : Nat) : Int) < 0 by omega)]) (by simp)
    · simp [left_pos h2, h2, hw]
      exact fin_val rfl (by simp [left_pos (show ¬ x - ((s.length + v.cnt : Nat) : Int) < 0 by omega)]; omega) (by simp)
theorem szCellS_c (l : List Pr) (hl : ln l) (h : ∀ v ∈ l, v.fit) (x : Int) (h0 : 0 ≤ x) (h1 : x < 2 ^ 62) : Rv Try.prog 66 [.imm (l.map sP.I), .i .i64 x] (.i .i64 (left x (cl Pr.cnt l))) :=
  via_laws_szCellS (by simp) (szS_gen sP Pr.cnt l hl x h0 h1 (fun v hv => szCell_c v (h v hv)))
theorem eqCell_c (p : Pr) (hc : p.cnt ≤ 2 ^ 22) : Rv Try.prog 136 [.agg (sP.I p), .agg (sP.I p)] (.b true) := by
  obtain ⟨s, v⟩ := p
  simp only [Pr.cnt] at hc
  refine via_laws_eqCell (by simp) ?_
  simp [pc_laws_eqCell]
  refine callK_val (by simp) (eqValue_c v (by omega)) rfl ?_
  simp
  exact fin_val rfl (by simp) (by simp)
theorem eqCellS_c (l : List Pr) (hc : cl Pr.cnt l ≤ 2 ^ 22) : Rv Try.prog 73 [.imm (l.map sP.I), .imm (l.map sP.I)] (.b true) := by
  unfold cl at hc
  exact via_laws_eqCellS (by simp) (eqS_gen sP l (by omega) (fun v hv => eqCell_c v (by have := sums_mem (c := Pr.cnt) hv; omega)))
theorem toCell_c (p : Pr) (hc : p.cnt ≤ 2 ^ 20) : Rv Try.prog 133 [.agg (sP.I p)] (.agg (sP.O p)) := by
  obtain ⟨s, v⟩ := p
  simp only [Pr.cnt] at hc
  refine via_laws_toCell (by simp) ?_
  simp [pc_laws_toCell]
  refine callK_val (by simp) (toValue_c v (by omega)) (by simp [T.noImm]) ?_
  obtain ⟨k, n, s', l⟩ := v
  simp
  exact fin_own (by simp; rfl) (by simp) (by simp) (by simp)
theorem toCellS_c (l : List Pr) (hc : cl Pr.cnt l ≤ 2 ^ 20) : Rv Try.prog 70 [.imm (l.map sP.I)] (.own 5 (l.map sP.O)) := by
  unfold cl at hc
  exact via_laws_toCellS (by simp) (toS_gen sP (by rfl) (by rfl) (by omega) l (by omega) (fun v hv => toCell_c v (by have := sums_mem (c := Pr.cnt) hv; omega)))
/-- A message. -/
structure Ms where
  k : Int
  txt : Tx
  given : List Pr
  num : Int
def sM : Sh Ms where
  sz := 4
  I a := [.i .i64 a.k, .s a.txt, .imm (a.given.map sP.I), .i .i64 a.num]
  O a := [.i .i64 a.k, .s a.txt, .own 5 (a.given.map sP.O), .i .i64 a.num]
  lI _ := by simp
  lO _ := by simp
  toO _ := by simp only [toIs, toI_i, toI_s, toI_own, Sh.rO]
  im _ := by simp [T.im]
  ow _ := by simp only [List.all_cons, T.ow, Sh.crO, Sh.nrO, Bool.and_self, List.all_nil]
@[simp] theorem sM_sz : sM.sz = 4 := rfl
@[simp] theorem sM_I (k : Int) (t : Tx) (g : List Pr) (n : Int) : sM.I ⟨k, t, g, n⟩ = [.i .i64 k, .s t, .imm (g.map sP.I), .i .i64 n] := rfl
@[simp] theorem sM_O (k : Int) (t : Tx) (g : List Pr) (n : Int) : sM.O ⟨k, t, g, n⟩ = [.i .i64 k, .s t, .own 5 (g.map sP.O), .i .i64 n] := rfl
@[simp] theorem sM_take (a : Ms) : (sM.I a).take 4 = sM.I a := sM.takeI a
def Ms.cnt (a : Ms) : Nat := a.txt.length + cl Pr.cnt a.given
def Ms.fit (a : Ms) : Prop := i64 a.k ∧ ln a.txt ∧ ln a.given ∧ (∀ p ∈ a.given, p.fit) ∧ i64 a.num
theorem szMsg_c (a : Ms) (hf : a.fit) (x : Int) (h0 : 0 ≤ x) (h1 : x < 2 ^ 62) : Rv Try.prog 25 [.agg (sM.I a), .i .i64 x] (.i .i64 (left x a.cnt)) := by
  obtain ⟨k, s, p, n⟩ := a
  obtain ⟨_, hs, hp, hp', _⟩ := hf
  simp only [Ms.cnt] at hs hp hp' ⊢
  refine via_laws_szMsg (by simp) ?_
  have hw := wsub h0 h1 hs
  by_cases hc : x - s.length < 0
  · simp [pc_laws_szMsg, hw, hc]
    exact fin_val rfl (by simp [left_neg (show x - ((s.length + cl Pr.cnt p : Nat) : Int) < 0 by omega)]) (by simp)
  · simp [pc_laws_szMsg, hw, hc]
    refine callK_val (by simp) (szCellS_c p hp hp' (x - s.length) (by omega) (by omega)) rfl ?_
    by_cases h2 : x - s.length - cl Pr.cnt p < 0
    · simp [left_neg h2, hw]
      exact fin_val rfl (by simp [left_neg (show x - ((s.length + cl Pr.cnt p : Nat) : Int) < 0 by omega)]) (by simp)
    · simp [left_pos h2, h2, hw]
      exact fin_val rfl (by simp [left_pos (show ¬ x - ((s.length + cl Pr.cnt p : Nat) : Int) < 0 by omega)]; omega) (by simp)
theorem eqMsg_c (a : Ms) (hc : a.cnt ≤ 2 ^ 22) : Rv Try.prog 29 [.agg (sM.I a), .agg (sM.I a)] (.b true) := by
  obtain ⟨k, s, p, n⟩ := a
  simp only [Ms.cnt] at hc
  refine via_laws_eqMsg (by simp) ?_
  simp [pc_laws_eqMsg]
  refine callK_val (by simp) (eqCellS_c p (by omega)) rfl ?_
  simp
  exact fin_val rfl (by simp) (by simp)
theorem toMsg_c (a : Ms) (hc : a.cnt ≤ 2 ^ 20) : Rv Try.prog 27 [.agg (sM.I a)] (.agg (sM.O a)) := by
  obtain ⟨k, s, p, n⟩ := a
  simp only [Ms.cnt] at hc
  refine via_laws_toMsg (by simp) ?_
  simp [pc_laws_toMsg]
  refine callK_val (by simp) (toCellS_c p (by omega)) (by simp [T.noImm]) ?_
  simp
  exact fin_own (by simp; rfl) (by simp) (by simp) (by simp)
theorem op_Cell (n : Nat) : OpensT Try.prog n 148 (fun ts => ∃ v, ts = sP.I v ∧ v.fit) := by
  refine ot_mono (ot_struct (qs := [(9, fun ts => ∃ y : Tx, ts = [.s y] ∧ ln y), (24, fun ts => ∃ v, ts = sV.I v ∧ v.fit)]) Try.underlying148 (by kernel_rfl) (by kernel_rfl) ?_) ?_
  · intro m hm p hp
    simp only [List.mem_cons, List.not_mem_nil, or_false] at hp
    rcases hp with rfl | rfl
    · exact op_string m
    · exact op_Value m
  · rintro ts ⟨a, r, rfl, ⟨s, rfl, hs⟩, _, b, r, rfl, ⟨v, rfl, hv⟩, _, rfl⟩
    exact ⟨⟨s, v⟩, by simp, hs, hv⟩
theorem op_Msg (n : Nat) : OpensT Try.prog n 42 (fun ts => ∃ v, ts = sM.I v ∧ v.fit) := by
  refine ot_mono (ot_struct (qs := [(3, fun ts => ∃ y, ts = [.i .i64 y] ∧ i64 y), (9, fun ts => ∃ y : Tx, ts = [.s y] ∧ ln y), (40, fun ts => ∃ l : List Pr, ts = [.imm (l.map sP.I)] ∧ ln l ∧ ∀ a ∈ l, a.fit), (3, fun ts => ∃ y, ts = [.i .i64 y] ∧ i64 y)]) Try.underlying42 (by kernel_rfl) (by kernel_rfl) ?_) ?_
  · intro m hm p hp
    simp only [List.mem_cons, List.not_mem_nil, or_false] at hp
    rcases hp with rfl | rfl | rfl | rfl
    · exact op_int m
    · exact op_string m
    · exact op_list (sz := 5) Try.underlying40 (by kernel_rfl) (by omega) fun m _ => op_Cell m
    · exact op_int m
  · rintro ts ⟨a, r, rfl, ⟨k, rfl, hk⟩, _, b, r, rfl, ⟨s, rfl, hs⟩, _, c, r, rfl, ⟨l, rfl, hl⟩, _, d, r, rfl, ⟨x, rfl, hx⟩, _, rfl⟩
    exact ⟨⟨k, s, l, x⟩, by simp, hk, hs, hl.1, hl.2, hx⟩
end Go.Proofs.Ytehdfbhfbidadaa.V
