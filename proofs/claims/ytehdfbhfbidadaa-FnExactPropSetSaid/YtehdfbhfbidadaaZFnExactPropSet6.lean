/- The law FnExactPropSet of the given program holds of every input (theorem fnExactPropSet_holds, the last of these texts): part 6 of 7. -/
import Derived.Below
import Derived.Carry
import Derived.Test.YtehdfbhfbidadaaZFnExactPropSet5
/- Marks: what they write, and that it is held. -/
namespace Go.Proofs.Ytehdfbhfbidadaa.V
open Go
set_option linter.unusedVariables false
set_option linter.unusedSimpArgs false
set_option maxHeartbeats 4000000
/-! ### texts of numbers -/
def dg (n : Nat) : Tx := if h : n = 0 then [] else dg (n / 10) ++ [UInt8.ofNat (48 + n % 10)]
termination_by n
decreasing_by omega
def mt (k : Int) : Tx := 109 :: (if k ≤ 0 then [48] else dg k.toNat)
theorem dg_step {n : Nat} (h : n ≠ 0) : dg n = dg (n / 10) ++ [UInt8.ofNat (48 + n % 10)] := by
  rw [dg]; simp [h]
theorem markText_c (k : Int) (h : k < 2 ^ 60) : Rv Try.prog 124 [.i .i64 k] (.s (mt k)) := by
  refine via_laws_markText (by simp) ?_
  by_cases h0 : k ≤ 0
  · simp [pc_laws_markText, h0]
    exact fin_val rfl (by simp [mt, h0]) (by simp)
  · simp [pc_laws_markText, h0]
    obtain ⟨n, rfl⟩ : ∃ n : Nat, k = n := ⟨k.toNat, by omega⟩
    refine W_wk (s' := ⟨[(0, .i .i64 n), (3, .s [])], [], 0, 0⟩) (Wk.less rfl (by simp) (by simp) (by simp)) ?_
    refine W_while (m := n) (fun m s => ∃ out : Tx, dg n = dg m ++ out ∧ out.length + m ≤ n ∧ s = ⟨[(0, .i .i64 m), (3, .s out)], [], 0, 0⟩) ⟨[], by simp, by simp, rfl⟩ ?_
    rintro m s ⟨out, h1, h2, rfl⟩
    by_cases hm : m = 0
    · subst hm
      have e0 : dg 0 = [] := by rw [dg]; simp
      have hl : 1 + out.length ≤ 9223372036854775807 := by omega
      simp [hl]
      have hn : ¬ (n : Int) ≤ 0 := by omega
      have hn2 : ¬ n = 0 := by omega
      exact fin_val rfl (by simp [mt, hn2, h1, e0]) (by simp)
    · have hm' : 0 < m := by omega
      have hc : IntKind.u8.wrap (IntKind.i64.wrap (48 + (m : Int).tmod 10)) = ((UInt8.ofNat (48 + m % 10)).toNat : Int) := by
        have e1 : (m : Int).tmod 10 = ((m % 10 : Nat) : Int) := by rw [Int.tmod_eq_emod_of_nonneg (by omega)]; omega
        rw [e1, wrap64 (by omega) (by omega)]
        unfold IntKind.wrap
        simp [IntKind.bits, IntKind.signed] <;> omega
      have hq : IntKind.i64.wrap ((m : Int) / 10) = ((m / 10 : Nat) : Int) := by
        rw [wrap64 (by omega) (by omega)]; omega
      have hl : 1 + out.length ≤ 9223372036854775807 := by omega
      simp [hm', hc, hq, need_mk]
      refine ⟨[UInt8.ofNat (48 + m % 10)], by simp, ?_⟩
      simp [hl]
      refine ⟨_, Wk.to (s' := ⟨[(0, .i .i64 ((m / 10 : Nat) : Int)), (3, .s (UInt8.ofNat (48 + m % 10) :: out))], [], 0, 0⟩) rfl (by simp) (by simp) (by simp) (by simp), m / 10, by omega, UInt8.ofNat (48 + m % 10) :: out, ?_, by simp; omega, rfl⟩
      rw [h1, dg_step hm]; simp
/-! ### element by element -/
section
variable {α : Type} (m : Int → α → α × Int)
def mkL : Int → List α → List α × Int
  | k, [] => ([], k)
  | k, a :: l => ((m k a).1 :: (mkL (m k a).2 l).1, (mkL (m k a).2 l).2)
theorem mkL_append : ∀ (l l' : List α) (k : Int), mkL m k (l ++ l') = ((mkL m k l).1 ++ (mkL m (mkL m k l).2 l').1, (mkL m (mkL m k l).2 l').2)
  | [], l', k => by simp [mkL]
  | a :: l, l', k => by simp [mkL, mkL_append l l']
theorem mkL_len : ∀ (l : List α) (k : Int), (mkL m k l).1.length = l.length
  | [], k => rfl
  | a :: l, k => by simp [mkL, mkL_len l]
/-- The number ahead of an element. -/
def kAt (k : Int) (l : List α) (i : Nat) : Int := (mkL m k (l.take i)).2
/-- The elements ahead, marked. -/
def pAt (k : Int) (l : List α) (i : Nat) : List α := (mkL m k (l.take i)).1
theorem pAt_len {k : Int} {l : List α} {i : Nat} (h : i ≤ l.length) : (pAt m k l i).length = i := by
  unfold pAt; rw [mkL_len]; simp; omega
variable {m}
theorem kAt_succ {k : Int} {l : List α} {i : Nat} {x : α} (h : l[i]? = some x) : kAt m k l (i + 1) = (m (kAt m k l i) x).2 := by
  unfold kAt; rw [List.take_add_one, h, mkL_append]; simp [mkL]
theorem pAt_succ {k : Int} {l : List α} {i : Nat} {x : α} (h : l[i]? = some x) : pAt m k l (i + 1) = pAt m k l i ++ [(m (kAt m k l i) x).1] := by
  unfold pAt kAt; rw [List.take_add_one, h, mkL_append]; simp [mkL]
theorem mkL_get {k : Int} {l : List α} {i : Nat} {x : α} (h : l[i]? = some x) : (mkL m k l).1[i]? = some (m (kAt m k l i) x).1 := by
  have hi : i < l.length := (List.getElem?_eq_some_iff.1 h).1
  have e : l = l.take (i + 1) ++ l.drop (i + 1) := (List.take_append_drop _ _).symm
  have h2 : (mkL m k l).1 = pAt m k l (i + 1) ++ (mkL m (kAt m k l (i + 1)) (l.drop (i + 1))).1 := by
    conv => lhs; rw [e]
    rw [mkL_append]; rfl
  rw [h2, pAt_succ h, List.append_assoc, List.getElem?_append_right (by rw [pAt_len m (by omega)]; exact Nat.le_refl _), pAt_len m (by omega)]
  simp
theorem drop_eq {l : List α} {i : Nat} {x : α} (h : l[i]? = some x) : l.drop i = x :: l.drop (i + 1) := by
  have hi := (List.getElem?_eq_some_iff.1 h)
  obtain ⟨h1, h2⟩ := hi
  rw [List.drop_eq_getElem_cons h1, h2]
theorem kAt_all {k : Int} {l : List α} {i : Nat} (h : l.length ≤ i) : kAt m k l i = (mkL m k l).2 := by unfold kAt; rw [List.take_of_length_le h]
theorem pAt_all {k : Int} {l : List α} {i : Nat} (h : l.length ≤ i) : pAt m k l i = (mkL m k l).1 := by unfold pAt; rw [List.take_of_length_le h]
/-- How far marks go. -/
def Far (m : Int → α → α × Int) (c : α → Nat) : Prop := ∀ k a, k ≤ (m k a).2 ∧ (m k a).2 ≤ k + 8 * (1 + c a)
theorem Far.list {c : α → Nat} {l : List α} (h : ∀ a ∈ l, ∀ k, k ≤ (m k a).2 ∧ (m k a).2 ≤ k + 8 * (1 + c a)) (k : Int) : k ≤ (mkL m k l).2 ∧ (mkL m k l).2 ≤ k + 8 * cl c l := by
  unfold cl
  induction l generalizing k with
  | nil => simp [mkL, sums]
  | cons a l ih =>
    have h1 := h a (by simp) k
    have h2 := ih (fun a ha => h a (by simp [ha])) (m k a).2
    simp only [mkL, List.length_cons, sums, List.map_cons, List.sum_cons] at h2 ⊢
    omega
theorem cl_split {c : α → Nat} {l : List α} {i : Nat} {x : α} (h : l[i]? = some x) : cl c (l.take i) + (1 + c x) ≤ cl c l := by
  have hi : i < l.length := (List.getElem?_eq_some_iff.1 h).1
  have h1 := sums_take (c := c) h
  have h2 := sums_le (c := c) (l := l) (i + 1)
  unfold cl
  simp only [List.length_take]
  omega
theorem Far.at {c : α → Nat} {l : List α} (h : ∀ a ∈ l, ∀ k, k ≤ (m k a).2 ∧ (m k a).2 ≤ k + 8 * (1 + c a)) {k : Int} {i : Nat} {x : α} (hx : l[i]? = some x) : k ≤ kAt m k l i ∧ kAt m k l i + 8 * (1 + c x) ≤ k + 8 * cl c l := by
  have h1 := Far.list (m := m) (c := c) (l := l.take i) (fun a ha => h a (List.mem_of_mem_take ha)) k
  have h2 := cl_split (c := c) hx
  unfold kAt
  omega
end
/-! ### texts -/
def mkStr (k : Int) (_ : Tx) : Tx × Int := (mt k, k + 1)
theorem far_str : ∀ (l : List Tx), ∀ a ∈ l, ∀ k, k ≤ (mkStr k a).2 ∧ (mkStr k a).2 ≤ k + 8 * (1 + List.length a) := by
  intro l a _ k; simp only [mkStr]; omega
theorem markStringS_c (l : List Tx) (k : Int) (h0 : 0 ≤ k) (h : k + 8 * cl List.length l ≤ 2 ^ 50) : Ret Try.prog 163 [.own 1 (l.map sS.O), .i .i64 k] (.i .i64 (mkL mkStr k l).2) [.own 1 ((mkL mkStr k l).1.map sS.O), .dead] := by
  have hll : l.length ≤ cl List.length l := by unfold cl; omega
  refine via_laws_markStringS (by simp) ?_
  simp [pc_laws_markStringS]
  refine W_for (fun i => ⟨[(5, .i .i64 i), (1, .i .i64 (kAt mkStr k l i)), (0, .ref 0 0 l.length)], [(0, .arr 1 ((pAt mkStr k l i ++ l.drop i).map sS.O))], 1, 1⟩) l.length (fun i => True) (Wk.less rfl (by simp) (by simp [kAt, mkL]) (by simp [pAt, mkL])) trivial ?_
  intro i hi _
  rcases Nat.lt_or_ge i l.length with h1 | h1
  · obtain ⟨x, hx⟩ : ∃ x, l[i]? = some x := ⟨_, List.getElem?_eq_getElem h1⟩
    have hw : IntKind.i64.wrap ((i : Int) + 1) = (i : Int) + 1 := wrap1 (by omega)
    have hf := Far.at (far_str l) hx (k := k)
    have hk1 := kAt_succ (m := mkStr) (k := k) hx
    have hp1 := pAt_succ (m := mkStr) (k := k) hx
    have hpl := pAt_len mkStr (k := k) hi
    generalize kAt mkStr k l i = q at *
    generalize hP : pAt mkStr k l i = p at *
    have hw2 : IntKind.i64.wrap (q + 1) = q + 1 := wrap64 (by omega) (by omega)
    rw [drop_eq hx]
    have hg : ((p.map sS.O) ++ [.s x] :: (l.drop (i + 1)).map sS.O)[i]? = some [.s x] := by rw [List.getElem?_append_right (by simp; omega)]; simp [hpl]
    have hs : ∀ r, ((p.map sS.O) ++ [.s x] :: (l.drop (i + 1)).map sS.O).set i r = (p.map sS.O) ++ r :: (l.drop (i + 1)).map sS.O := fun r => by rw [List.set_append_right _ _ (by simp; omega)]; simp [hpl]
    simp [-List.map_drop, -getElem?_pos, hx, hw, h1]
    refine callK_val (by simp) (markText_c q (by omega)) rfl ?_
    simp [-List.map_drop, -getElem?_pos, hx, hw, h1, hw2, hg, hs]
    refine Wk.to1 rfl (by simp) (by simp [hk1, mkStr]) (by simp [hp1, mkStr]) (by simp [-List.map_drop]) (by omega)
  · have h2 : ¬ i < l.length := by omega
    simp [h2]
    have e : List.drop i (l.map sS.O) = [] := List.drop_of_length_le (by simp; omega)
    refine fin_ret (ts := []) rfl (by simp [kAt_all h1]) (by simp [pAt_all h1, e, mkL_len]) (by simp)
theorem heldStringS_c (l : List Tx) (k : Int) (h0 : 0 ≤ k) (h : k + 8 * cl List.length l ≤ 2 ^ 50) : Rv Try.prog 165 [.imm ((mkL mkStr k l).1.map sS.I), .i .i64 k] (.i .i64 (mkL mkStr k l).2) := by
  have hll : l.length ≤ cl List.length l := by unfold cl; omega
  refine via_laws_heldStringS (by simp) ?_
  simp [pc_laws_heldStringS]
  have hml := mkL_len (m := mkStr) l k
  refine W_for (fun i => ⟨[(5, .i .i64 i), (1, .i .i64 (kAt mkStr k l i)), (0, .imm ((mkL mkStr k l).1.map sS.I))], [], 0, 0⟩) l.length (fun i => True) (Wk.less rfl (by simp) (by simp [kAt, mkL]) (by simp)) trivial ?_
  intro i hi _
  rcases Nat.lt_or_ge i l.length with h1 | h1
  · obtain ⟨x, hx⟩ : ∃ x, l[i]? = some x := ⟨_, List.getElem?_eq_getElem h1⟩
    have hw : IntKind.i64.wrap ((i : Int) + 1) = (i : Int) + 1 := wrap1 (by omega)
    have hf := Far.at (far_str l) hx (k := k)
    have hk1 := kAt_succ (m := mkStr) (k := k) hx
    have hg := mkL_get (m := mkStr) (k := k) hx
    generalize kAt mkStr k l i = q at *
    have hw2 : IntKind.i64.wrap (q + 1) = q + 1 := wrap64 (by omega) (by omega)
    simp [-getElem?_pos, hml, hw, h1, hg, mkStr]
    refine callK_val (by simp) (markText_c q (by omega)) rfl ?_
    simp [-getElem?_pos, hml, hw, h1, hw2, hg, mkStr]
    exact Wk.to rfl (by simp) (by simp [hk1, mkStr]) (by simp) (by simp)
  · have h2 : ¬ i < l.length := by omega
    simp [h2, hml]
    exact fin_val rfl (by simp [kAt_all h1]) (by simp)
/-! ### values -/
mutual
def mkV (k : Int) : Vl → Vl × Int
  | .mk _ _ _ l => (.mk k (k + 1) (mt (k + 2)) (mkVs (k + 3) l).1, (mkVs (k + 3) l).2)
def mkVs (k : Int) : List Vl → List Vl × Int
  | [] => ([], k)
  | v :: l => ((mkV k v).1 :: (mkVs (mkV k v).2 l).1, (mkVs (mkV k v).2 l).2)
end
theorem mkVs_eq : ∀ (l : List Vl) (k : Int), mkVs k l = mkL mkV k l
  | [], k => by simp [mkVs, mkL]
  | v :: l, k => by simp [mkVs, mkL, mkVs_eq l]
theorem mkV_mk (k a b : Int) (s : Tx) (l : List Vl) : mkV k (.mk a b s l) = (.mk k (k + 1) (mt (k + 2)) (mkL mkV (k + 3) l).1, (mkL mkV (k + 3) l).2) := by rw [mkV, mkVs_eq]
theorem far_val (v : Vl) : ∀ k, k ≤ (mkV k v).2 ∧ (mkV k v).2 ≤ k + 8 * (1 + v.cnt) := by
  refine Vl.ind (p := fun v => ∀ k, k ≤ (mkV k v).2 ∧ (mkV k v).2 ≤ k + 8 * (1 + v.cnt)) ?_ v
  intro a b s l ih k
  rw [mkV_mk, Vl.cnt_mk]
  have := Far.list (m := mkV) (c := Vl.cnt) ih (k + 3)
  simp only
  omega
theorem markValueS_of (l : List Vl) (ih : ∀ v ∈ l, ∀ k : Int, 0 ≤ k → k + 8 * cl Vl.cnt v.l ≤ 2 ^ 50 → Ret Try.prog 61 [.own 4 (v.l.map sV.O), .i .i64 k] (.i .i64 (mkL mkV k v.l).2) [.own 4 ((mkL mkV k v.l).1.map sV.O), .dead])
    (k : Int) (h0 : 0 ≤ k) (h : k + 8 * cl Vl.cnt l ≤ 2 ^ 50) : Ret Try.prog 61 [.own 4 (l.map sV.O), .i .i64 k] (.i .i64 (mkL mkV k l).2) [.own 4 ((mkL mkV k l).1.map sV.O), .dead] := by
  have hll : l.length ≤ cl Vl.cnt l := by unfold cl; omega
  refine via_laws_markValueS (by simp) ?_
  simp [pc_laws_markValueS]
  refine W_for (fun i => ⟨[(5, .i .i64 i), (1, .i .i64 (kAt mkV k l i)), (0, .ref 0 0 l.length)], [(0, .arr 4 ((pAt mkV k l i).map sV.O ++ (l.map sV.O).drop i))], 1, 1⟩) l.length (fun i => True) (Wk.less rfl (by simp) (by simp [kAt, mkL]) (by simp [pAt, mkL])) trivial ?_
  intro i hi _
  rcases Nat.lt_or_ge i l.length with h1 | h1
  · obtain ⟨x, hx⟩ : ∃ x, l[i]? = some x := ⟨_, List.getElem?_eq_getElem h1⟩
    have ihx := ih x (List.mem_of_getElem? hx)
    have hw : IntKind.i64.wrap ((i : Int) + 1) = (i : Int) + 1 := wrap1 (by omega)
    have hf := Far.at (c := Vl.cnt) (fun v _ => far_val v) hx (k := k)
    have hk1 := kAt_succ (m := mkV) (k := k) hx
    have hp1 := pAt_succ (m := mkV) (k := k) hx
    have hpl := pAt_len mkV (k := k) hi
    generalize kAt mkV k l i = q at *
    generalize hP : pAt mkV k l i = p at *
    have hw1 : IntKind.i64.wrap (q + 1) = q + 1 := wrap64 (by omega) (by omega)
    have hw2 : IntKind.i64.wrap (q + 1 + 1) = q + 2 := by rw [wrap64 (by omega) (by omega)]; omega
    have hw3 : IntKind.i64.wrap (q + 2 + 1) = q + 3 := by rw [wrap64 (by omega) (by omega)]; omega
    rw [drop_eq (l := l.map sV.O) (x := sV.O x) (by simp [hx])]
    have hg : ∀ r, ((p.map sV.O) ++ r :: (l.map sV.O).drop (i + 1))[i]? = some r := fun r => by rw [List.getElem?_append_right (by simp; omega)]; simp [hpl]
    have hs : ∀ r r', ((p.map sV.O) ++ r :: (l.map sV.O).drop (i + 1)).set i r' = (p.map sV.O) ++ r' :: (l.map sV.O).drop (i + 1) := fun r r' => by rw [List.set_append_right _ _ (by simp; omega)]; simp [hpl]
    obtain ⟨a, b, s, l'⟩ := x
    rw [Vl.cnt_mk] at hf
    rw [mkV_mk] at hk1 hp1
    generalize hB : (l.map sV.O).drop (i + 1) = B at *
    simp [-getElem?_pos, hw, h1, hg, hs, hw1, hw2, hw3]
    refine callK_val (by simp) (markText_c (q + 2) (by omega)) rfl ?_
    simp [-getElem?_pos, hw, h1, hg, hs, hw1, hw2, hw3]
    have hml := mkL_len (m := mkV) l' (q + 3)
    refine callK_mut (by simp) (ihx (q + 3) (by omega) (by simp only [Vl.l]; omega)) (bk := [(4, .arr 4 ((mkL mkV (q + 3) l').1.map sV.O))]) (by simp [hml]) (by simp) (by simp) rfl (by simp [T.noImm]) ?_
    simp [-getElem?_pos, hw, h1, hg, hs, hw1, hw2, hw3]
    refine Wk.trans (Wk.join (b := 0) (r := i) (row := [.i .i64 q, .i .i64 (q + 1), .s (mt (q + 2)), .ref 4 0 l'.length]) (cs := sV.O (.mk q (q + 1) (mt (q + 2)) (mkL mkV (q + 3) l').1)) rfl (by simp [hg]) (by simp [hml, take_map_eq hml]) (by simp)) ?_
    refine Wk.to1 rfl (by simp) (by simp [hk1]) (by simp [hs, hp1]) ?_ (by omega)
    have := Sh.crO sV (l.drop (i + 1))
    rw [List.map_drop, hB] at this
    simp [this]
  · have h2 : ¬ i < l.length := by omega
    have e : List.drop i (l.map sV.O) = [] := List.drop_of_length_le (by simp; omega)
    simp [h2, e]
    refine fin_ret (ts := []) rfl (by simp [kAt_all h1]) (by simp [pAt_all h1, e, mkL_len]) (by simp)
theorem markValueS_c (l : List Vl) (k : Int) (h0 : 0 ≤ k) (h : k + 8 * cl Vl.cnt l ≤ 2 ^ 50) : Ret Try.prog 61 [.own 4 (l.map sV.O), .i .i64 k] (.i .i64 (mkL mkV k l).2) [.own 4 ((mkL mkV k l).1.map sV.O), .dead] := by
  have key : ∀ v : Vl, ∀ k : Int, 0 ≤ k → k + 8 * cl Vl.cnt v.l ≤ 2 ^ 50 → Ret Try.prog 61 [.own 4 (v.l.map sV.O), .i .i64 k] (.i .i64 (mkL mkV k v.l).2) [.own 4 ((mkL mkV k v.l).1.map sV.O), .dead] := by
    intro v
    refine Vl.ind (p := fun v => ∀ k : Int, 0 ≤ k → k + 8 * cl Vl.cnt v.l ≤ 2 ^ 50 → Ret Try.prog 61 [.own 4 (v.l.map sV.O), .i .i64 k] (.i .i64 (mkL mkV k v.l).2) [.own 4 ((mkL mkV k v.l).1.map sV.O), .dead]) ?_ v
    intro a b s l ih k h0 h
    exact markValueS_of l ih k h0 h
  exact key (.mk 0 0 [] l) k h0 h
theorem heldValueS_of (l : List Vl) (ih : ∀ v ∈ l, ∀ k : Int, 0 ≤ k → k + 8 * cl Vl.cnt v.l ≤ 2 ^ 50 → Rv Try.prog 62 [.imm ((mkL mkV k v.l).1.map sV.I), .i .i64 k] (.i .i64 (mkL mkV k v.l).2))
    (k : Int) (h0 : 0 ≤ k) (h : k + 8 * cl Vl.cnt l ≤ 2 ^ 50) : Rv Try.prog 62 [.imm ((mkL mkV k l).1.map sV.I), .i .i64 k] (.i .i64 (mkL mkV k l).2) := by
  have hll : l.length ≤ cl Vl.cnt l := by unfold cl; omega
  refine via_laws_heldValueS (by simp) ?_
  simp [pc_laws_heldValueS]
  have hml := mkL_len (m := mkV) l k
  refine W_for (fun i => ⟨[(5, .i .i64 i), (1, .i .i64 (kAt mkV k l i)), (0, .imm ((mkL mkV k l).1.map sV.I))], [], 0, 0⟩) l.length (fun i => True) (Wk.less rfl (by simp) (by simp [kAt, mkL]) (by simp)) trivial ?_
  intro i hi _
  rcases Nat.lt_or_ge i l.length with h1 | h1
  · obtain ⟨x, hx⟩ : ∃ x, l[i]? = some x := ⟨_, List.getElem?_eq_getElem h1⟩
    have ihx := ih x (List.mem_of_getElem? hx)
    have hw : IntKind.i64.wrap ((i : Int) + 1) = (i : Int) + 1 := wrap1 (by omega)
    have hf := Far.at (c := Vl.cnt) (fun v _ => far_val v) hx (k := k)
    have hk1 := kAt_succ (m := mkV) (k := k) hx
    have hg := mkL_get (m := mkV) (k := k) hx
    generalize kAt mkV k l i = q at *
    have hw1 : IntKind.i64.wrap (q + 1) = q + 1 := wrap64 (by omega) (by omega)
    have hw2 : IntKind.i64.wrap (q + 1 + 1) = q + 2 := by rw [wrap64 (by omega) (by omega)]; omega
    have hw3 : IntKind.i64.wrap (q + 2 + 1) = q + 3 := by rw [wrap64 (by omega) (by omega)]; omega
    obtain ⟨a, b, s, l'⟩ := x
    rw [Vl.cnt_mk] at hf
    rw [mkV_mk] at hk1 hg
    have hf2 := Far.list (m := mkV) (c := Vl.cnt) (l := l') (fun v _ => far_val v) (q + 3)
    have hneg : ¬ (mkL mkV (q + 3) l').2 < 0 := by omega
    generalize hR : (mkL mkV k l).1 = R at *
    simp [-getElem?_pos, hml, hw, h1, hg, hw1, hw2, hw3]
    refine callK_val (by simp) (markText_c (q + 2) (by omega)) rfl ?_
    simp [-getElem?_pos, hml, hw, h1, hg, hw1, hw2, hw3]
    refine callK_val (by simp) (ihx (q + 3) (by omega) (by simp only [Vl.l]; omega)) rfl ?_
    simp [-getElem?_pos, hml, hw, h1, hg, hw1, hw2, hw3, hneg]
    exact Wk.to rfl (by simp) (by simp [hk1]) (by simp) (by simp)
  · have h2 : ¬ i < l.length := by omega
    simp [h2, hml]
    exact fin_val rfl (by simp [kAt_all h1]) (by simp)
theorem heldValueS_c (l : List Vl) (k : Int) (h0 : 0 ≤ k) (h : k + 8 * cl Vl.cnt l ≤ 2 ^ 50) : Rv Try.prog 62 [.imm ((mkL mkV k l).1.map sV.I), .i .i64 k] (.i .i64 (mkL mkV k l).2) := by
  have key : ∀ v : Vl, ∀ k : Int, 0 ≤ k → k + 8 * cl Vl.cnt v.l ≤ 2 ^ 50 → Rv Try.prog 62 [.imm ((mkL mkV k v.l).1.map sV.I), .i .i64 k] (.i .i64 (mkL mkV k v.l).2) := by
    intro v
    refine Vl.ind (p := fun v => ∀ k : Int, 0 ≤ k → k + 8 * cl Vl.cnt v.l ≤ 2 ^ 50 → Rv Try.prog 62 [.imm ((mkL mkV k v.l).1.map sV.I), .i .i64 k] (.i .i64 (mkL mkV k v.l).2)) ?_ v
    intro a b s l ih k h0 h
    exact heldValueS_of l ih k h0 h
  exact key (.mk 0 0 [] l) k h0 h
end Go.Proofs.Ytehdfbhfbidadaa.V
/- Marks of props, nodes, edges: printed by a program of this claim's writer (wip/gen/marks.py). -/
namespace Go.Proofs.Ytehdfbhfbidadaa.V
open Go
set_option linter.unusedVariables false
set_option linter.unusedSimpArgs false
set_option maxHeartbeats 4000000
theorem far_strv (x : Tx) : ∀ k, k ≤ (mkStr k x).2 ∧ (mkStr k x).2 ≤ k + 8 * (1 + List.length x) := far_str [x] x (by simp)
def mkP (k : Int) : Pr → Pr × Int
  | ⟨nm, .mk a b s l1⟩ => (⟨(mt k), .mk (k + 1) (k + 2) (mt (k + 3)) (mkL mkV (k + 4) l1).1⟩, (mkL mkV (k + 4) l1).2)
theorem far_prop (x : Pr) : ∀ k, k ≤ (mkP k x).2 ∧ (mkP k x).2 ≤ k + 8 * (1 + Pr.cnt x) := by
  intro k
  obtain ⟨nm, ⟨a, b, s, l1⟩⟩ := x
  simp only [mkP, Pr.cnt, Vl.cnt_mk]
  have h_l1 := Far.list (m := mkV) (c := Vl.cnt) (l := l1) (fun v _ => far_val v) (k + 4)
  omega
theorem markPropS_c (l : List Pr) (k : Int) (h0 : 0 ≤ k) (h : k + 8 * cl Pr.cnt l ≤ 2 ^ 50) : Ret Try.prog 164 [.own 5 (l.map sP.O), .i .i64 k] (.i .i64 (mkL mkP k l).2) [.own 5 ((mkL mkP k l).1.map sP.O), .dead] := by
  have hll : l.length ≤ cl Pr.cnt l := by unfold cl; omega
  refine via_laws_markPropS (by simp) ?_
  simp [pc_laws_markPropS]
  refine W_for (fun i => ⟨[(5, .i .i64 i), (1, .i .i64 (kAt mkP k l i)), (0, .ref 0 0 l.length)], [(0, .arr 5 ((pAt mkP k l i).map sP.O ++ (l.map sP.O).drop i))], 1, 1⟩) l.length (fun i => True) (Wk.less rfl (by simp) (by simp [kAt, mkL]) (by simp [pAt, mkL])) trivial ?_
  intro i hi _
  rcases Nat.lt_or_ge i l.length with h1 | h1
  · obtain ⟨x, hx⟩ : ∃ x, l[i]? = some x := ⟨_, List.getElem?_eq_getElem h1⟩
    have hw : IntKind.i64.wrap ((i : Int) + 1) = (i : Int) + 1 := wrap1 (by omega)
    have hf := Far.at (c := Pr.cnt) (fun v _ => far_prop v) hx (k := k)
    have hk1 := kAt_succ (m := mkP) (k := k) hx
    have hp1 := pAt_succ (m := mkP) (k := k) hx
    have hpl := pAt_len mkP (k := k) hi
    generalize kAt mkP k l i = q at *
    generalize hP : pAt mkP k l i = p at *
    rw [drop_eq (l := l.map sP.O) (x := sP.O x) (by simp [hx])]
    have hg : ∀ r, ((p.map sP.O) ++ r :: (l.map sP.O).drop (i + 1))[i]? = some r := fun r => by rw [List.getElem?_append_right (by simp; omega)]; simp [hpl]
    have hs : ∀ r r', ((p.map sP.O) ++ r :: (l.map sP.O).drop (i + 1)).set i r' = (p.map sP.O) ++ r' :: (l.map sP.O).drop (i + 1) := fun r r' => by rw [List.set_append_right _ _ (by simp; omega)]; simp [hpl]
    have hcB := sP.crO (l.drop (i + 1))
    rw [List.map_drop] at hcB
    generalize hB : (l.map sP.O).drop (i + 1) = B at *
    obtain ⟨nm, ⟨a, b, s, l1⟩⟩ := x
    simp only [Pr.cnt, Vl.cnt_mk] at hf
    simp only [mkP] at hk1 hp1
    have hc_l1 := markValueS_c l1 (q + 4)
    have hw0 : IntKind.i64.wrap (q + 1) = q + 1 := by rw [wrap64 (by omega) (by omega)]
    have hw1 : IntKind.i64.wrap (q + 1 + 1) = q + 2 := by rw [wrap64 (by omega) (by omega)]; omega
    have hw2 : IntKind.i64.wrap (q + 2 + 1) = q + 3 := by rw [wrap64 (by omega) (by omega)]; omega
    have hw3 : IntKind.i64.wrap (q + 3 + 1) = q + 4 := by rw [wrap64 (by omega) (by omega)]; omega
    have hf_l1 := Far.list (m := mkV) (c := Vl.cnt) (l := l1) (fun v _ => far_val v) (q + 4)
    have hml_l1 := mkL_len (m := mkV) l1 (q + 4)
    generalize hK_l1 : (mkL mkV (q + 4) l1).2 = k1 at *
    generalize hM_l1 : (mkL mkV (q + 4) l1).1 = ml1 at *
    have hneg_l1 : ¬ k1 < 0 := by omega
    simp [-getElem?_pos, hw, h1, hg, hw0, hw1, hw2, hw3, hs]
    refine callK_val (by simp) (markText_c q (by omega)) rfl ?_
    simp [-getElem?_pos, hw, h1, hg, hw0, hw1, hw2, hw3, hs]
    refine callK_val (by simp) (markText_c (q + 3) (by omega)) rfl ?_
    simp [-getElem?_pos, hw, h1, hg, hw0, hw1, hw2, hw3, hs]
    refine callK_mut (by simp) (hc_l1 (by omega) (by omega)) (by simp [hml_l1]; rfl) (by simp) (by simp) rfl (by simp [T.noImm]) ?_
    simp [-getElem?_pos, hw, h1, hg, hw0, hw1, hw2, hw3, hs]
    refine Wk.trans (Wk.join (b := 0) (r := i) (cs := sP.O ⟨(mt q), .mk (q + 1) (q + 2) (mt (q + 3)) ml1⟩) rfl (by simp [hg]; rfl) (by simp [hml_l1, take_map_eq hml_l1]) (by simp)) ?_
    exact Wk.to1 rfl (by simp) (by simp [hk1]) (by simp [hs, hp1]) (by simp [hcB]) (by omega)
  · have h2 : ¬ i < l.length := by omega
    have e : List.drop i (l.map sP.O) = [] := List.drop_of_length_le (by simp; omega)
    simp [h2, e]
    refine fin_ret (ts := []) rfl (by simp [kAt_all h1]) (by simp [pAt_all h1, e, mkL_len]) (by simp)
theorem heldPropS_c (l : List Pr) (k : Int) (h0 : 0 ≤ k) (h : k + 8 * cl Pr.cnt l ≤ 2 ^ 50) : Rv Try.prog 166 [.imm ((mkL mkP k l).1.map sP.I), .i .i64 k] (.i .i64 (mkL mkP k l).2) := by
  have hll : l.length ≤ cl Pr.cnt l := by unfold cl; omega
  refine via_laws_heldPropS (by simp) ?_
  simp [pc_laws_heldPropS]
  have hml := mkL_len (m := mkP) l k
  refine W_for (fun i => ⟨[(5, .i .i64 i), (1, .i .i64 (kAt mkP k l i)), (0, .imm ((mkL mkP k l).1.map sP.I))], [], 0, 0⟩) l.length (fun i => True) (Wk.less rfl (by simp) (by simp [kAt, mkL]) (by simp)) trivial ?_
  intro i hi _
  rcases Nat.lt_or_ge i l.length with h1 | h1
  · obtain ⟨x, hx⟩ : ∃ x, l[i]? = some x := ⟨_, List.getElem?_eq_getElem h1⟩
    have hw : IntKind.i64.wrap ((i : Int) + 1) = (i : Int) + 1 := wrap1 (by omega)
    have hf := Far.at (c := Pr.cnt) (fun v _ => far_prop v) hx (k := k)
    have hk1 := kAt_succ (m := mkP) (k := k) hx
    have hg := mkL_get (m := mkP) (k := k) hx
    generalize kAt mkP k l i = q at *
    generalize hR : (mkL mkP k l).1 = R at *
    obtain ⟨nm, ⟨a, b, s, l1⟩⟩ := x
    simp only [Pr.cnt, Vl.cnt_mk] at hf
    simp only [mkP] at hk1 hg
    have hc_l1 := heldValueS_c l1 (q + 4)
    have hw0 : IntKind.i64.wrap (q + 1) = q + 1 := by rw [wrap64 (by omega) (by omega)]
    have hw1 : IntKind.i64.wrap (q + 1 + 1) = q + 2 := by rw [wrap64 (by omega) (by omega)]; omega
    have hw2 : IntKind.i64.wrap (q + 2 + 1) = q + 3 := by rw [wrap64 (by omega) (by omega)]; omega
    have hw3 : IntKind.i64.wrap (q + 3 + 1) = q + 4 := by rw [wrap64 (by omega) (by omega)]; omega
    have hf_l1 := Far.list (m := mkV) (c := Vl.cnt) (l := l1) (fun v _ => far_val v) (q + 4)
    have hml_l1 := mkL_len (m := mkV) l1 (q + 4)
    generalize hK_l1 : (mkL mkV (q + 4) l1).2 = k1 at *
    generalize hM_l1 : (mkL mkV (q + 4) l1).1 = ml1 at *
    have hneg_l1 : ¬ k1 < 0 := by omega
    simp [-getElem?_pos, hw, h1, hg, hw0, hw1, hw2, hw3, hml, hneg_l1]
    refine callK_val (by simp) (markText_c q (by omega)) rfl ?_
    simp [-getElem?_pos, hw, h1, hg, hw0, hw1, hw2, hw3, hml, hneg_l1]
    refine callK_val (by simp) (markText_c (q + 3) (by omega)) rfl ?_
    simp [-getElem?_pos, hw, h1, hg, hw0, hw1, hw2, hw3, hml, hneg_l1]
    refine callK_val (by simp) (hc_l1 (by omega) (by omega)) rfl ?_
    simp [-getElem?_pos, hw, h1, hg, hw0, hw1, hw2, hw3, hml, hneg_l1]
    exact Wk.to rfl (by simp) (by simp [hk1]) (by simp) (by simp)
  · have h2 : ¬ i < l.length := by omega
    simp [h2, hml]
    exact fin_val rfl (by simp [kAt_all h1]) (by simp)
def mkN (k : Int) : Nd → Nd × Int
  | ⟨a, l1, l2⟩ => (⟨k, (mkL mkStr (k + 1) l1).1, (mkL mkP ((mkL mkStr (k + 1) l1).2) l2).1⟩, (mkL mkP ((mkL mkStr (k + 1) l1).2) l2).2)
theorem far_node (x : Nd) : ∀ k, k ≤ (mkN k x).2 ∧ (mkN k x).2 ≤ k + 8 * (1 + Nd.cnt x) := by
  intro k
  obtain ⟨a, l1, l2⟩ := x
  simp only [mkN, Nd.cnt]
  have h_l1 := Far.list (m := mkStr) (c := List.length) (l := l1) (fun v _ => far_strv v) (k + 1)
  have h_l2 := Far.list (m := mkP) (c := Pr.cnt) (l := l2) (fun v _ => far_prop v) ((mkL mkStr (k + 1) l1).2)
  omega
theorem markNodeS_c (l : List Nd) (k : Int) (h0 : 0 ≤ k) (h : k + 8 * cl Nd.cnt l ≤ 2 ^ 50) : Ret Try.prog 103 [.own 3 (l.map sN.O), .i .i64 k] (.i .i64 (mkL mkN k l).2) [.own 3 ((mkL mkN k l).1.map sN.O), .dead] := by
  have hll : l.length ≤ cl Nd.cnt l := by unfold cl; omega
  refine via_laws_markNodeS (by simp) ?_
  simp [pc_laws_markNodeS]
  refine W_for (fun i => ⟨[(5, .i .i64 i), (1, .i .i64 (kAt mkN k l i)), (0, .ref 0 0 l.length)], [(0, .arr 3 ((pAt mkN k l i).map sN.O ++ (l.map sN.O).drop i))], 1, 1⟩) l.length (fun i => True) (Wk.less rfl (by simp) (by simp [kAt, mkL]) (by simp [pAt, mkL])) trivial ?_
  intro i hi _
  rcases Nat.lt_or_ge i l.length with h1 | h1
  · obtain ⟨x, hx⟩ : ∃ x, l[i]? = some x := ⟨_, List.getElem?_eq_getElem h1⟩
    have hw : IntKind.i64.wrap ((i : Int) + 1) = (i : Int) + 1 := wrap1 (by omega)
    have hf := Far.at (c := Nd.cnt) (fun v _ => far_node v) hx (k := k)
    have hk1 := kAt_succ (m := mkN) (k := k) hx
    have hp1 := pAt_succ (m := mkN) (k := k) hx
    have hpl := pAt_len mkN (k := k) hi
    generalize kAt mkN k l i = q at *
    generalize hP : pAt mkN k l i = p at *
    rw [drop_eq (l := l.map sN.O) (x := sN.O x) (by simp [hx])]
    have hg : ∀ r, ((p.map sN.O) ++ r :: (l.map sN.O).drop (i + 1))[i]? = some r := fun r => by rw [List.getElem?_append_right (by simp; omega)]; simp [hpl]
    have hs : ∀ r r', ((p.map sN.O) ++ r :: (l.map sN.O).drop (i + 1)).set i r' = (p.map sN.O) ++ r' :: (l.map sN.O).drop (i + 1) := fun r r' => by rw [List.set_append_right _ _ (by simp; omega)]; simp [hpl]
    have hcB := sN.crO (l.drop (i + 1))
    rw [List.map_drop] at hcB
    generalize hB : (l.map sN.O).drop (i + 1) = B at *
    obtain ⟨a, l1, l2⟩ := x
    simp only [Nd.cnt] at hf
    simp only [mkN] at hk1 hp1
    have hc_l1 := markStringS_c l1 (q + 1)
    have hc_l2 := markPropS_c l2 ((mkL mkStr (q + 1) l1).2)
    have hw0 : IntKind.i64.wrap (q + 1) = q + 1 := by rw [wrap64 (by omega) (by omega)]
    have hf_l1 := Far.list (m := mkStr) (c := List.length) (l := l1) (fun v _ => far_strv v) (q + 1)
    have hml_l1 := mkL_len (m := mkStr) l1 (q + 1)
    generalize hK_l1 : (mkL mkStr (q + 1) l1).2 = k1 at *
    generalize hM_l1 : (mkL mkStr (q + 1) l1).1 = ml1 at *
    have hneg_l1 : ¬ k1 < 0 := by omega
    have hf_l2 := Far.list (m := mkP) (c := Pr.cnt) (l := l2) (fun v _ => far_prop v) k1
    have hml_l2 := mkL_len (m := mkP) l2 k1
    generalize hK_l2 : (mkL mkP k1 l2).2 = k2 at *
    generalize hM_l2 : (mkL mkP k1 l2).1 = ml2 at *
    have hneg_l2 : ¬ k2 < 0 := by omega
    simp [-getElem?_pos, hw, h1, hg, hw0, hs]
    refine callK_mut (by simp) (hc_l1 (by omega) (by omega)) (by simp [hml_l1]; rfl) (by simp) (by simp) rfl (by simp [T.noImm]) ?_
    simp [-getElem?_pos, hw, h1, hg, hw0, hs]
    refine callK_mut (by simp) (hc_l2 (by omega) (by omega)) (by simp [hml_l2]; rfl) (by simp) (by simp) rfl (by simp [T.noImm]) ?_
    simp [-getElem?_pos, hw, h1, hg, hw0, hs]
    refine Wk.trans (Wk.join (b := 0) (r := i) (cs := sN.O ⟨q, ml1, ml2⟩) rfl (by simp [hg]; rfl) (by simp [hml_l1, take_map_eq hml_l1, hml_l2, take_map_eq hml_l2]) (by simp)) ?_
    exact Wk.to1 rfl (by simp) (by simp [hk1]) (by simp [hs, hp1]) (by simp [hcB]) (by omega)
  · have h2 : ¬ i < l.length := by omega
    have e : List.drop i (l.map sN.O) = [] := List.drop_of_length_le (by simp; omega)
    simp [h2, e]
    refine fin_ret (ts := []) rfl (by simp [kAt_all h1]) (by simp [pAt_all h1, e, mkL_len]) (by simp)
theorem heldNodeS_c (l : List Nd) (k : Int) (h0 : 0 ≤ k) (h : k + 8 * cl Nd.cnt l ≤ 2 ^ 50) : Rv Try.prog 105 [.imm ((mkL mkN k l).1.map sN.I), .i .i64 k] (.i .i64 (mkL mkN k l).2) := by
  have hll : l.length ≤ cl Nd.cnt l := by unfold cl; omega
  refine via_laws_heldNodeS (by simp) ?_
  simp [pc_laws_heldNodeS]
  have hml := mkL_len (m := mkN) l k
  refine W_for (fun i => ⟨[(5, .i .i64 i), (1, .i .i64 (kAt mkN k l i)), (0, .imm ((mkL mkN k l).1.map sN.I))], [], 0, 0⟩) l.length (fun i => True) (Wk.less rfl (by simp) (by simp [kAt, mkL]) (by simp)) trivial ?_
  intro i hi _
  rcases Nat.lt_or_ge i l.length with h1 | h1
  · obtain ⟨x, hx⟩ : ∃ x, l[i]? = some x := ⟨_, List.getElem?_eq_getElem h1⟩
    have hw : IntKind.i64.wrap ((i : Int) + 1) = (i : Int) + 1 := wrap1 (by omega)
    have hf := Far.at (c := Nd.cnt) (fun v _ => far_node v) hx (k := k)
    have hk1 := kAt_succ (m := mkN) (k := k) hx
    have hg := mkL_get (m := mkN) (k := k) hx
    generalize kAt mkN k l i = q at *
    generalize hR : (mkL mkN k l).1 = R at *
    obtain ⟨a, l1, l2⟩ := x
    simp only [Nd.cnt] at hf
    simp only [mkN] at hk1 hg
    have hc_l1 := heldStringS_c l1 (q + 1)
    have hc_l2 := heldPropS_c l2 ((mkL mkStr (q + 1) l1).2)
    have hw0 : IntKind.i64.wrap (q + 1) = q + 1 := by rw [wrap64 (by omega) (by omega)]
    have hf_l1 := Far.list (m := mkStr) (c := List.length) (l := l1) (fun v _ => far_strv v) (q + 1)
    have hml_l1 := mkL_len (m := mkStr) l1 (q + 1)
    generalize hK_l1 : (mkL mkStr (q + 1) l1).2 = k1 at *
    generalize hM_l1 : (mkL mkStr (q + 1) l1).1 = ml1 at *
    have hneg_l1 : ¬ k1 < 0 := by omega
    have hf_l2 := Far.list (m := mkP) (c := Pr.cnt) (l := l2) (fun v _ => far_prop v) k1
    have hml_l2 := mkL_len (m := mkP) l2 k1
    generalize hK_l2 : (mkL mkP k1 l2).2 = k2 at *
    generalize hM_l2 : (mkL mkP k1 l2).1 = ml2 at *
    have hneg_l2 : ¬ k2 < 0 := by omega
    simp [-getElem?_pos, hw, h1, hg, hw0, hml, hneg_l1, hneg_l2]
    refine callK_val (by simp) (hc_l1 (by omega) (by omega)) rfl ?_
    simp [-getElem?_pos, hw, h1, hg, hw0, hml, hneg_l1, hneg_l2]
    refine callK_val (by simp) (hc_l2 (by omega) (by omega)) rfl ?_
    simp [-getElem?_pos, hw, h1, hg, hw0, hml, hneg_l1, hneg_l2]
    exact Wk.to rfl (by simp) (by simp [hk1]) (by simp) (by simp)
  · have h2 : ¬ i < l.length := by omega
    simp [h2, hml]
    exact fin_val rfl (by simp [kAt_all h1]) (by simp)
def mkE (k : Int) : Eg → Eg × Int
  | ⟨a, s, b, c, l1⟩ => (⟨k, (mt (k + 1)), (k + 2), (k + 3), (mkL mkP (k + 4) l1).1⟩, (mkL mkP (k + 4) l1).2)
theorem far_edge (x : Eg) : ∀ k, k ≤ (mkE k x).2 ∧ (mkE k x).2 ≤ k + 8 * (1 + Eg.cnt x) := by
  intro k
  obtain ⟨a, s, b, c, l1⟩ := x
  simp only [mkE, Eg.cnt]
  have h_l1 := Far.list (m := mkP) (c := Pr.cnt) (l := l1) (fun v _ => far_prop v) (k + 4)
  omega
theorem markEdgeS_c (l : List Eg) (k : Int) (h0 : 0 ≤ k) (h : k + 8 * cl Eg.cnt l ≤ 2 ^ 50) : Ret Try.prog 104 [.own 5 (l.map sE.O), .i .i64 k] (.i .i64 (mkL mkE k l).2) [.own 5 ((mkL mkE k l).1.map sE.O), .dead] := by
  have hll : l.length ≤ cl Eg.cnt l := by unfold cl; omega
  refine via_laws_markEdgeS (by simp) ?_
  simp [pc_laws_markEdgeS]
  refine W_for (fun i => ⟨[(5, .i .i64 i), (1, .i .i64 (kAt mkE k l i)), (0, .ref 0 0 l.length)], [(0, .arr 5 ((pAt mkE k l i).map sE.O ++ (l.map sE.O).drop i))], 1, 1⟩) l.length (fun i => True) (Wk.less rfl (by simp) (by simp [kAt, mkL]) (by simp [pAt, mkL])) trivial ?_
  intro i hi _
  rcases Nat.lt_or_ge i l.length with h1 | h1
  · obtain ⟨x, hx⟩ : ∃ x, l[i]? = some x := ⟨_, List.getElem?_eq_getElem h1⟩
    have hw : IntKind.i64.wrap ((i : Int) + 1) = (i : Int) + 1 := wrap1 (by omega)
    have hf := Far.at (c := Eg.cnt) (fun v _ => far_edge v) hx (k := k)
    have hk1 := kAt_succ (m := mkE) (k := k) hx
    have hp1 := pAt_succ (m := mkE) (k := k) hx
    have hpl := pAt_len mkE (k := k) hi
    generalize kAt mkE k l i = q at *
    generalize hP : pAt mkE k l i = p at *
    rw [drop_eq (l := l.map sE.O) (x := sE.O x) (by simp [hx])]
    have hg : ∀ r, ((p.map sE.O) ++ r :: (l.map sE.O).drop (i + 1))[i]? = some r := fun r => by rw [List.getElem?_append_right (by simp; omega)]; simp [hpl]
    have hs : ∀ r r', ((p.map sE.O) ++ r :: (l.map sE.O).drop (i + 1)).set i r' = (p.map sE.O) ++ r' :: (l.map sE.O).drop (i + 1) := fun r r' => by rw [List.set_append_right _ _ (by simp; omega)]; simp [hpl]
    have hcB := sE.crO (l.drop (i + 1))
    rw [List.map_drop] at hcB
    generalize hB : (l.map sE.O).drop (i + 1) = B at *
    obtain ⟨a, s, b, c, l1⟩ := x
    simp only [Eg.cnt] at hf
    simp only [mkE] at hk1 hp1
    have hc_l1 := markPropS_c l1 (q + 4)
    have hw0 : IntKind.i64.wrap (q + 1) = q + 1 := by rw [wrap64 (by omega) (by omega)]
    have hw1 : IntKind.i64.wrap (q + 1 + 1) = q + 2 := by rw [wrap64 (by omega) (by omega)]; omega
    have hw2 : IntKind.i64.wrap (q + 2 + 1) = q + 3 := by rw [wrap64 (by omega) (by omega)]; omega
    have hw3 : IntKind.i64.wrap (q + 3 + 1) = q + 4 := by rw [wrap64 (by omega) (by omega)]; omega
    have hf_l1 := Far.list (m := mkP) (c := Pr.cnt) (l := l1) (fun v _ => far_prop v) (q + 4)
    have hml_l1 := mkL_len (m := mkP) l1 (q + 4)
    generalize hK_l1 : (mkL mkP (q + 4) l1).2 = k1 at *
    generalize hM_l1 : (mkL mkP (q + 4) l1).1 = ml1 at *
    have hneg_l1 : ¬ k1 < 0 := by omega
    simp [-getElem?_pos, hw, h1, hg, hw0, hw1, hw2, hw3, hs]
    refine callK_val (by simp) (markText_c (q + 1) (by omega)) rfl ?_
    simp [-getElem?_pos, hw, h1, hg, hw0, hw1, hw2, hw3, hs]
    refine callK_mut (by simp) (hc_l1 (by omega) (by omega)) (by simp [hml_l1]; rfl) (by simp) (by simp) rfl (by simp [T.noImm]) ?_
    simp [-getElem?_pos, hw, h1, hg, hw0, hw1, hw2, hw3, hs]
    refine Wk.trans (Wk.join (b := 0) (r := i) (cs := sE.O ⟨q, (mt (q + 1)), (q + 2), (q + 3), ml1⟩) rfl (by simp [hg]; rfl) (by simp [hml_l1, take_map_eq hml_l1]) (by simp)) ?_
    exact Wk.to1 rfl (by simp) (by simp [hk1]) (by simp [hs, hp1]) (by simp [hcB]) (by omega)
  · have h2 : ¬ i < l.length := by omega
    have e : List.drop i (l.map sE.O) = [] := List.drop_of_length_le (by simp; omega)
    simp [h2, e]
    refine fin_ret (ts := []) rfl (by simp [kAt_all h1]) (by simp [pAt_all h1, e, mkL_len]) (by simp)
theorem heldEdgeS_c (l : List Eg) (k : Int) (h0 : 0 ≤ k) (h : k + 8 * cl Eg.cnt l ≤ 2 ^ 50) : Rv Try.prog 106 [.imm ((mkL mkE k l).1.map sE.I), .i .i64 k] (.i .i64 (mkL mkE k l).2) := by
  have hll : l.length ≤ cl Eg.cnt l := by unfold cl; omega
  refine via_laws_heldEdgeS (by simp) ?_
  simp [pc_laws_heldEdgeS]
  have hml := mkL_len (m := mkE) l k
  refine W_for (fun i => ⟨[(5, .i .i64 i), (1, .i .i64 (kAt mkE k l i)), (0, .imm ((mkL mkE k l).1.map sE.I))], [], 0, 0⟩) l.length (fun i => True) (Wk.less rfl (by simp) (by simp [kAt, mkL]) (by simp)) trivial ?_
  intro i hi _
  rcases Nat.lt_or_ge i l.length with h1 | h1
  · obtain ⟨x, hx⟩ : ∃ x, l[i]? = some x := ⟨_, List.getElem?_eq_getElem h1⟩
    have hw : IntKind.i64.wrap ((i : Int) + 1) = (i : Int) + 1 := wrap1 (by omega)
    have hf := Far.at (c := Eg.cnt) (fun v _ => far_edge v) hx (k := k)
    have hk1 := kAt_succ (m := mkE) (k := k) hx
    have hg := mkL_get (m := mkE) (k := k) hx
    generalize kAt mkE k l i = q at *
    generalize hR : (mkL mkE k l).1 = R at *
    obtain ⟨a, s, b, c, l1⟩ := x
    simp only [Eg.cnt] at hf
    simp only [mkE] at hk1 hg
    have hc_l1 := heldPropS_c l1 (q + 4)
    have hw0 : IntKind.i64.wrap (q + 1) = q + 1 := by rw [wrap64 (by omega) (by omega)]
    have hw1 : IntKind.i64.wrap (q + 1 + 1) = q + 2 := by rw [wrap64 (by omega) (by omega)]; omega
    have hw2 : IntKind.i64.wrap (q + 2 + 1) = q + 3 := by rw [wrap64 (by omega) (by omega)]; omega
    have hw3 : IntKind.i64.wrap (q + 3 + 1) = q + 4 := by rw [wrap64 (by omega) (by omega)]; omega
    have hf_l1 := Far.list (m := mkP) (c := Pr.cnt) (l := l1) (fun v _ => far_prop v) (q + 4)
    have hml_l1 := mkL_len (m := mkP) l1 (q + 4)
    generalize hK_l1 : (mkL mkP (q + 4) l1).2 = k1 at *
    generalize hM_l1 : (mkL mkP (q + 4) l1).1 = ml1 at *
    have hneg_l1 : ¬ k1 < 0 := by omega
    simp [-getElem?_pos, hw, h1, hg, hw0, hw1, hw2, hw3, hml, hneg_l1]
    refine callK_val (by simp) (markText_c (q + 1) (by omega)) rfl ?_
    simp [-getElem?_pos, hw, h1, hg, hw0, hw1, hw2, hw3, hml, hneg_l1]
    refine callK_val (by simp) (hc_l1 (by omega) (by omega)) rfl ?_
    simp [-getElem?_pos, hw, h1, hg, hw0, hw1, hw2, hw3, hml, hneg_l1]
    exact Wk.to rfl (by simp) (by simp [hk1]) (by simp) (by simp)
  · have h2 : ¬ i < l.length := by omega
    simp [h2, hml]
    exact fin_val rfl (by simp [kAt_all h1]) (by simp)
end Go.Proofs.Ytehdfbhfbidadaa.V
/- Marks of graphs, values, numbers. -/
namespace Go.Proofs.Ytehdfbhfbidadaa.V
open Go
set_option linter.unusedVariables false
set_option linter.unusedSimpArgs false
set_option maxHeartbeats 4000000
def mkG (k : Int) : Gr → Gr × Int
  | ⟨a, b, c, d⟩ => (⟨(mkL mkN k a).1, (mkL mkE (mkL mkN k a).2 b).1, c, d⟩, (mkL mkE (mkL mkN k a).2 b).2)
theorem markGraph_c (g : Gr) (k : Int) (h0 : 0 ≤ k) (h : k + 8 * g.cnt ≤ 2 ^ 50) : Ret Try.prog 44 [.agg (sG.O g), .i .i64 k] (.i .i64 (mkG k g).2) [.agg [.own 3 ((mkG k g).1.nodes.map sN.O), .own 5 ((mkG k g).1.edges.map sE.O), .dead, .dead], .dead] := by
  obtain ⟨a, b, c, d⟩ := g
  simp only [Gr.cnt] at h
  have hf1 := Far.list (m := mkN) (c := Nd.cnt) (l := a) (fun v _ => far_node v) k
  have h1 := markNodeS_c a k h0 (by omega)
  have h2 := markEdgeS_c b (mkL mkN k a).2 (by omega) (by omega)
  have hm1 := mkL_len (m := mkN) a k
  have hm2 := mkL_len (m := mkE) b (mkL mkN k a).2
  refine via_laws_markGraph (by simp) ?_
  simp [pc_laws_markGraph, mkG]
  refine callK_mut (by simp) h1 (by simp [hm1]; rfl) (by simp) (by simp) rfl (by simp [T.noImm]) ?_
  simp
  refine callK_mut (by simp) h2 (by simp [hm2]; rfl) (by simp) (by simp) rfl (by simp [T.noImm]) ?_
  simp
  refine fin_ret (ts := []) rfl (by simp) (by simp [hm1, hm2]) (by simp)
theorem heldGraph_c (g : Gr) (k : Int) (h0 : 0 ≤ k) (h : k + 8 * g.cnt ≤ 2 ^ 50) : Rv Try.prog 45 [.agg (sG.I (mkG k g).1), .i .i64 k] (.i .i64 (mkG k g).2) := by
  obtain ⟨a, b, c, d⟩ := g
  simp only [Gr.cnt] at h
  have hf1 := Far.list (m := mkN) (c := Nd.cnt) (l := a) (fun v _ => far_node v) k
  have hf2 := Far.list (m := mkE) (c := Eg.cnt) (l := b) (fun v _ => far_edge v) (mkL mkN k a).2
  have n1 : ¬ (mkL mkN k a).2 < 0 := by omega
  have n2 : ¬ (mkL mkE (mkL mkN k a).2 b).2 < 0 := by omega
  refine via_laws_heldGraph (by simp) ?_
  simp [pc_laws_heldGraph, mkG]
  refine callK_val (by simp) (heldNodeS_c a k h0 (by omega)) rfl ?_
  simp [n1]
  refine callK_val (by simp) (heldEdgeS_c b (mkL mkN k a).2 (by omega) (by omega)) rfl ?_
  simp [n2]
  exact fin_val rfl (by simp) (by simp)
theorem markValue_c (v : Vl) (k : Int) (h0 : 0 ≤ k) (h : k + 8 * v.cnt ≤ 2 ^ 50) : Ret Try.prog 19 [.agg (sV.O v), .i .i64 k] (.i .i64 (mkL mkV k v.l).2) [.agg [.dead, .dead, .dead, .own 4 ((mkL mkV k v.l).1.map sV.O)], .dead] := by
  obtain ⟨a, b, s, l⟩ := v
  rw [Vl.cnt_mk] at h
  simp only [Vl.l]
  have hm1 := mkL_len (m := mkV) l k
  refine via_laws_markValue (by simp) ?_
  simp [pc_laws_markValue]
  refine callK_mut (by simp) (markValueS_c l k h0 (by omega)) (by simp [hm1]; rfl) (by simp) (by simp) rfl (by simp [T.noImm]) ?_
  simp
  refine fin_ret (ts := []) rfl (by simp) (by simp [hm1]) (by simp)
/-! ### numbers -/
def mkI (k : Int) (_ : Int) : Int × Int := (k, k + 1)
end Go.Proofs.Ytehdfbhfbidadaa.V
/- How far marks go; sizes of parts. -/
namespace Go.Proofs.Ytehdfbhfbidadaa.V
open Go
set_option linter.unusedVariables false
theorem mkG_far (g : Gr) (k : Int) : k ≤ (mkG k g).2 ∧ (mkG k g).2 ≤ k + 8 * g.cnt := by
  obtain ⟨a, b, c, d⟩ := g
  have h1 := Far.list (m := mkN) (c := Nd.cnt) (l := a) (fun v _ => far_node v) k
  have h2 := Far.list (m := mkE) (c := Eg.cnt) (l := b) (fun v _ => far_edge v) (mkL mkN k a).2
  simp only [mkG, Gr.cnt]
  omega
theorem mkVl_far (v : Vl) (k : Int) : k ≤ (mkL mkV k v.l).2 ∧ (mkL mkV k v.l).2 ≤ k + 8 * v.cnt := by
  have h1 := Far.list (m := mkV) (c := Vl.cnt) (l := v.l) (fun v _ => far_val v) k
  obtain ⟨a, b, s, l⟩ := v
  rw [Vl.cnt_mk]
  simp only [Vl.l] at h1 ⊢
  omega
theorem cl_cons {α : Type} {c : α → Nat} {a : α} {l : List α} : cl c (a :: l) = 1 + c a + cl c l := by
  simp only [cl, sums, List.length_cons, List.map_cons, List.sum_cons]; omega
theorem cl_append {α : Type} {c : α → Nat} {l l' : List α} : cl c (l ++ l') = cl c l + cl c l' := by
  simp only [cl, sums, List.length_append, List.map_append, List.sum_append]; omega
theorem cl_filter {α : Type} {c : α → Nat} {q : α → Bool} {l : List α} : cl c (l.filter q) ≤ cl c l := by
  induction l with
  | nil => simp
  | cons a l ih =>
    rw [cl_cons]
    by_cases h : q a = true
    · rw [List.filter_cons_of_pos h, cl_cons]; omega
    · rw [List.filter_cons_of_neg h]; omega
end Go.Proofs.Ytehdfbhfbidadaa.V
/- Graphs that are ok stay ok: plain facts. -/
namespace Go.Proofs.Ytehdfbhfbidadaa.V
open Go
set_option linter.unusedVariables false
set_option linter.unusedSimpArgs false
theorem Asc_iff {α : Type} {f : α → Int} {e : Int} {l : List α} : Asc f e l ↔ (∀ x ∈ l, 0 ≤ f x ∧ f x < e) ∧ l.Pairwise (fun x y => f x < f y) := by
  constructor
  · intro h
    refine ⟨fun x hx => ?_, ?_⟩
    · obtain ⟨i, hi⟩ := List.mem_iff_getElem?.1 hx
      exact ⟨(h i x hi).1, (h i x hi).2.1⟩
    · rw [List.pairwise_iff_getElem]
      intro i j hi hj hij
      exact h.lt (j - i - 1) i _ _ (List.getElem?_eq_getElem hi) (by rw [show i + (j - i - 1) + 1 = j by omega]; exact List.getElem?_eq_getElem hj)
  · rintro ⟨h1, h2⟩ i x hx
    refine ⟨(h1 x (List.mem_of_getElem? hx)).1, (h1 x (List.mem_of_getElem? hx)).2, fun y h0 hy => ?_⟩
    rw [List.pairwise_iff_getElem] at h2
    obtain ⟨a1, rfl⟩ := List.getElem?_eq_some_iff.1 hx
    obtain ⟨a2, rfl⟩ := List.getElem?_eq_some_iff.1 hy
    exact h2 (i - 1) i a2 a1 (by omega)
theorem Asc.filter {α : Type} {f : α → Int} {e : Int} {l : List α} (h : Asc f e l) (q : α → Bool) : Asc f e (l.filter q) := by
  rw [Asc_iff] at h ⊢
  exact ⟨fun x hx => h.1 x (List.mem_filter.1 hx).1, h.2.filter q⟩
theorem Asc.snoc {α : Type} {f : α → Int} {e : Int} {l : List α} (h : Asc f e l) {x : α} (h0 : 0 ≤ e) (hx : f x = e) : Asc f (e + 1) (l ++ [x]) := by
  rw [Asc_iff] at h ⊢
  refine ⟨fun y hy => ?_, ?_⟩
  · rcases List.mem_append.1 hy with hy | hy
    · have := h.1 y hy; omega
    · simp only [List.mem_singleton] at hy; subst hy; omega
  · rw [List.pairwise_append]
    refine ⟨h.2, by simp, fun a ha b hb => ?_⟩
    simp only [List.mem_singleton] at hb
    subst hb
    have := h.1 a ha; omega
theorem posOf_pos {α : Type} {f : α → Int} {id : Int} {l : List α} : 0 ≤ posOf f id l ↔ ∃ x ∈ l, f x = id := by
  rcases posOf_cases f id l with ⟨i, x, h1, h2, h3, _⟩ | ⟨h1, h2⟩
  · exact ⟨fun _ => ⟨x, List.mem_of_getElem? h2, h3⟩, fun _ => by omega⟩
  · exact ⟨fun h => by omega, fun ⟨x, hx, he⟩ => absurd he (h2 x hx)⟩
theorem GOk.addN {g : Gr} (h : GOk g) {lb : List Tx} {ps : List Pr} (hc : addNOk g lb ps) : GOk (gAddN g lb ps) := by
  obtain ⟨c1, c2, c3, c4⟩ := hc
  have h1 := h.nn
  refine ⟨by simp only [gAddN]; omega, h.ne, by simp only [gAddN, List.length_append, List.length_singleton]; omega, h.el, h.na.snoc h1.1 rfl, h.ea, ?_, ?_⟩
  · intro x hx
    rcases List.mem_append.1 hx with hx | hx
    · exact h.nok x hx
    · simp only [List.mem_singleton] at hx; subst hx; exact ⟨c1, c2⟩
  · intro e he
    obtain ⟨e1, e2, e3, e4⟩ := h.eok e he
    refine ⟨e1, e2, ?_, ?_⟩
    · obtain ⟨x, hx, q⟩ := posOf_pos.1 e3
      exact posOf_pos.2 ⟨x, List.mem_append.2 (.inl hx), q⟩
    · obtain ⟨x, hx, q⟩ := posOf_pos.1 e4
      exact posOf_pos.2 ⟨x, List.mem_append.2 (.inl hx), q⟩
theorem GOk.dropN {g : Gr} (h : GOk g) (id : Int) : GOk (gDropN g id) := by
  have hE := drop_edges h id
  refine ⟨h.nn, h.ne, Nat.le_trans (List.length_filter_le _ _) h.nl, Nat.le_trans (List.length_filter_le _ _) h.el, h.na.filter _, h.ea.filter _, fun x hx => h.nok x (List.mem_filter.1 hx).1, ?_⟩
  intro e he
  simp only [gDropN] at he
  rw [hE] at he
  obtain ⟨he1, he2⟩ := List.mem_filter.1 he
  obtain ⟨e1, e2, e3, e4⟩ := h.eok e he1
  simp only [atN, Bool.not_or, Bool.and_eq_true, Bool.not_eq_true', decide_eq_false_iff_not] at he2
  refine ⟨e1, e2, ?_, ?_⟩
  · obtain ⟨x, hx, q⟩ := posOf_pos.1 e3
    exact posOf_pos.2 ⟨x, List.mem_filter.2 ⟨hx, by simp; intro hh; exact he2.1 (q.symm.trans hh)⟩, q⟩
  · obtain ⟨x, hx, q⟩ := posOf_pos.1 e4
    exact posOf_pos.2 ⟨x, List.mem_filter.2 ⟨hx, by simp; intro hh; exact he2.2 (q.symm.trans hh)⟩, q⟩
end Go.Proofs.Ytehdfbhfbidadaa.V
/- The functions' code, as the machine of trees has it: printed by a program of this claim's writer (wip/gen/pcode.py), held by Lean. -/
namespace Go.Proofs.Ytehdfbhfbidadaa.V
open Go
def pc_laws_FnExactPropSet : PC :=
  .seq (.reg [⟨(some 4), .box 4 (.t 0), none, []⟩, ⟨(some 5), .box 4 (.t 1), none, []⟩, ⟨(some 7), .box 4 (.t 3), none, []⟩, ⟨(some 8), .mv (.c (.b false)), none, []⟩] false) (.seq (.seq (.reg [⟨(some 22), .mv (.t 2), none, []⟩, ⟨(some 23), .lens (.t 22), none, []⟩, ⟨(some 24), .bin .gtr (.t 23) (.c (.i .i64 1048576)), none, []⟩] false) (.cond (.t 24) (.seq (.reg [⟨(some 8), .mv (.c (.b true)), none, []⟩] false) (.ret)) (.skip))) (.seq (.reg [⟨(some 9), .mv (.c (.i .i64 1048576)), none, []⟩] false) (.seq (.reg [⟨(some 25), .load (some 4) (.t 4), none, []⟩, ⟨(some 26), .mv (.t 9), none, []⟩, ⟨(some 27), .call (.ev [] .own) 39 [(.t 25), (.t 26)], none, []⟩, ⟨(some 9), .mv (.t 27), none, []⟩] false) (.seq (.seq (.reg [⟨(some 28), .mv (.t 9), none, []⟩, ⟨(some 29), .bin .lss (.t 28) (.c (.i .i64 0)), none, []⟩] false) (.cond (.t 29) (.seq (.reg [⟨(some 8), .mv (.c (.b true)), none, []⟩] false) (.ret)) (.skip))) (.seq (.reg [⟨(some 30), .load (some 4) (.t 5), none, []⟩, ⟨(some 31), .mv (.t 9), none, []⟩, ⟨(some 32), .call (.ev [] .own) 14 [(.t 30), (.t 31)], none, []⟩, ⟨(some 9), .mv (.t 32), none, []⟩] false) (.seq (.seq (.reg [⟨(some 33), .mv (.t 9), none, []⟩, ⟨(some 34), .bin .lss (.t 33) (.c (.i .i64 0)), none, []⟩] false) (.cond (.t 34) (.seq (.reg [⟨(some 8), .mv (.c (.b true)), none, []⟩] false) (.ret)) (.skip))) (.seq (.reg [⟨(some 35), .load (some 4) (.t 7), none, []⟩, ⟨(some 36), .mv (.t 9), none, []⟩, ⟨(some 37), .call (.ev [] .own) 14 [(.t 35), (.t 36)], none, []⟩, ⟨(some 9), .mv (.t 37), none, []⟩] false) (.seq (.seq (.reg [⟨(some 38), .mv (.t 9), none, []⟩, ⟨(some 39), .bin .lss (.t 38) (.c (.i .i64 0)), none, []⟩] false) (.cond (.t 39) (.seq (.reg [⟨(some 8), .mv (.c (.b true)), none, []⟩] false) (.ret)) (.skip))) (.seq (.reg [⟨(some 41), .load (some 4) (.t 4), none, []⟩, ⟨(some 42), .call (.ev [] .own) 41 [(.t 41)], none, [0]⟩, ⟨(some 43), .load (some 4) (.t 5), none, []⟩, ⟨(some 44), .call (.ev [] .own) 16 [(.t 43)], none, [2, 1]⟩, ⟨(some 45), .mv (.t 2), none, []⟩, ⟨(some 46), .load (some 4) (.t 7), none, []⟩, ⟨(some 47), .call (.ev [] .own) 16 [(.t 46)], none, [5, 3]⟩, ⟨(some 48), .call (.ev [] .imm) 46 [(.t 42), (.t 44), (.t 45), (.t 47)], none, [1, 3, 4, 6, 6]⟩, ⟨(some 40), .mv (.t 48), none, [7]⟩, ⟨(some 49), .ext 0 (.t 40), none, [8]⟩, ⟨(some 50), .ext 1 (.t 40), none, [8]⟩, ⟨(some 10), .alloc [.nl, .nl, .i .i64 0, .i .i64 0], none, []⟩, ⟨none, .store (some 4) (.t 10) (.t 49), none, [11, 9, 7, 0, 1, 2, 3, 4, 5, 6, 7, 8, 9, 11]⟩, ⟨(some 11), .mv (.t 50), none, [10, 12, 0, 1, 2, 3, 4, 5, 6, 7, 8, 9, 10, 11, 12]⟩] true) (.seq (.reg [⟨(some 51), .load (some 4) (.t 4), none, []⟩, ⟨(some 52), .call (.ev [] .own) 41 [(.t 51)], none, []⟩, ⟨(some 12), .alloc [.nl, .nl, .i .i64 0, .i .i64 0], none, []⟩, ⟨none, .store (some 4) (.t 12) (.t 52), none, []⟩] false) (.seq (.reg [⟨(some 53), .load (some 4) (.t 5), none, []⟩, ⟨(some 54), .call (.ev [] .own) 16 [(.t 53)], none, []⟩, ⟨(some 13), .alloc [.i .i64 0, .i .i64 0, .s [], .nl], none, []⟩, ⟨none, .store (some 4) (.t 13) (.t 54), none, []⟩] false) (.seq (.reg [⟨(some 55), .load (some 4) (.t 7), none, []⟩, ⟨(some 56), .call (.ev [] .own) 16 [(.t 55)], none, []⟩, ⟨(some 14), .alloc [.i .i64 0, .i .i64 0, .s [], .nl], none, []⟩, ⟨none, .store (some 4) (.t 14) (.t 56), none, []⟩] false) (.seq (.reg [⟨(some 58), .load (some 4) (.t 12), none, []⟩, ⟨(some 59), .load (some 4) (.t 13), none, []⟩, ⟨(some 60), .mv (.t 2), none, []⟩, ⟨(some 61), .load (some 4) (.t 14), none, []⟩, ⟨(some 62), .call (.ev [] .own) 47 [(.t 58), (.t 59), (.t 60), (.t 61)], none, []⟩, ⟨(some 57), .mv (.t 62), none, []⟩, ⟨(some 63), .ext 0 (.t 57), none, []⟩, ⟨(some 64), .ext 1 (.t 57), none, []⟩, ⟨(some 15), .alloc [.nl, .nl, .i .i64 0, .i .i64 0], none, []⟩, ⟨none, .store (some 4) (.t 15) (.t 63), none, []⟩, ⟨(some 16), .mv (.t 64), none, []⟩] false) (.seq (.seq (.reg [⟨(some 65), .load (some 4) (.t 15), none, []⟩, ⟨(some 66), .load (some 4) (.t 10), none, []⟩, ⟨(some 67), .call (.ev [] .own) 43 [(.t 65), (.t 66)], none, []⟩, ⟨(some 68), .un .not (.t 67), none, []⟩, ⟨(some 69), .mv (.t 68), none, []⟩, ⟨(some 70), .mv (.t 16), (some (69, false)), []⟩, ⟨(some 71), .mv (.t 11), (some (69, false)), []⟩, ⟨(some 72), .beq .neq (.t 70) (.t 71), (some (69, false)), []⟩, ⟨(some 73), .pick (.t 69) (.c (.b true)) (.t 72), none, []⟩] false) (.cond (.t 73) (.seq (.reg [⟨(some 8), .mv (.c (.b false)), none, []⟩] false) (.ret)) (.skip))) (.seq (.seq (.reg [⟨(some 74), .load (some 4) (.t 12), none, []⟩, ⟨(some 75), .load (some 4) (.t 4), none, []⟩, ⟨(some 76), .call (.ev [] .own) 41 [(.t 75)], none, [1]⟩, ⟨(some 77), .call (.ev [] .own) 43 [(.t 74), (.t 76)], none, [0, 2, 2]⟩, ⟨(some 78), .un .not (.t 77), none, [3]⟩] true) (.cond (.t 78) (.seq (.reg [⟨(some 8), .mv (.c (.b false)), none, []⟩] false) (.ret)) (.skip))) (.seq (.seq (.reg [⟨(some 79), .load (some 4) (.t 13), none, []⟩, ⟨(some 80), .load (some 4) (.t 5), none, []⟩, ⟨(some 81), .call (.ev [] .own) 16 [(.t 80)], none, [1]⟩, ⟨(some 82), .call (.ev [] .own) 18 [(.t 79), (.t 81)], none, [0, 2, 2]⟩, ⟨(some 83), .un .not (.t 82), none, [3]⟩] true) (.cond (.t 83) (.seq (.reg [⟨(some 8), .mv (.c (.b false)), none, []⟩] false) (.ret)) (.skip))) (.seq (.seq (.reg [⟨(some 84), .load (some 4) (.t 14), none, []⟩, ⟨(some 85), .load (some 4) (.t 7), none, []⟩, ⟨(some 86), .call (.ev [] .own) 16 [(.t 85)], none, [1]⟩, ⟨(some 87), .call (.ev [] .own) 18 [(.t 84), (.t 86)], none, [0, 2, 2]⟩, ⟨(some 88), .un .not (.t 87), none, [3]⟩] true) (.cond (.t 88) (.seq (.reg [⟨(some 8), .mv (.c (.b false)), none, []⟩] false) (.ret)) (.skip))) (.seq (.reg [⟨(some 17), .mv (.c (.i .i64 1)), none, []⟩] false) (.seq (.reg [⟨(some 89), .load (some 4) (.t 12), none, []⟩, ⟨(some 90), .mv (.t 17), none, []⟩, ⟨(some 91), .call (.ev [0] .own) 44 [(.t 89), (.t 90)], none, []⟩, ⟨(some 17), .mv (.t 91), none, []⟩] false) (.seq (.reg [⟨(some 92), .load (some 4) (.t 13), none, []⟩, ⟨(some 93), .mv (.t 17), none, []⟩, ⟨(some 94), .call (.ev [0] .own) 19 [(.t 92), (.t 93)], none, []⟩, ⟨(some 17), .mv (.t 94), none, []⟩] false) (.seq (.reg [⟨(some 95), .load (some 4) (.t 14), none, []⟩, ⟨(some 96), .mv (.t 17), none, []⟩, ⟨(some 97), .call (.ev [0] .own) 19 [(.t 95), (.t 96)], none, []⟩, ⟨(some 17), .mv (.t 97), none, []⟩] false) (.seq (.seq (.reg [⟨(some 98), .mv (.t 17), none, []⟩, ⟨(some 99), .bin .lss (.t 98) (.c (.i .i64 0)), none, []⟩, ⟨(some 100), .mv (.t 99), none, []⟩, ⟨(some 101), .load (some 4) (.t 15), (some (100, false)), []⟩, ⟨(some 102), .load (some 4) (.t 10), (some (100, false)), []⟩, ⟨(some 103), .call (.ev [] .own) 43 [(.t 101), (.t 102)], (some (100, false)), []⟩, ⟨(some 104), .un .not (.t 103), (some (100, false)), []⟩, ⟨(some 105), .pick (.t 100) (.c (.b true)) (.t 104), none, []⟩, ⟨(some 106), .mv (.t 105), none, []⟩, ⟨(some 107), .mv (.t 16), (some (106, false)), []⟩, ⟨(some 108), .mv (.t 11), (some (106, false)), []⟩, ⟨(some 109), .beq .neq (.t 107) (.t 108), (some (106, false)), []⟩, ⟨(some 110), .pick (.t 106) (.c (.b true)) (.t 109), none, []⟩] false) (.cond (.t 110) (.seq (.reg [⟨(some 8), .mv (.c (.b false)), none, []⟩] false) (.ret)) (.skip))) (.seq (.reg [⟨(some 18), .mv (.c (.i .i64 1)), none, []⟩] false) (.seq (.reg [⟨(some 111), .load (some 4) (.t 15), none, []⟩, ⟨(some 112), .mv (.t 18), none, []⟩, ⟨(some 113), .call (.ev [0] .own) 44 [(.t 111), (.t 112)], none, []⟩, ⟨(some 18), .mv (.t 113), none, []⟩] false) (.seq (.reg [⟨(some 19), .mv (.c (.i .i64 1)), none, []⟩] false) (.seq (.reg [⟨(some 114), .load (some 4) (.t 15), none, []⟩, ⟨(some 115), .mv (.t 19), none, []⟩, ⟨(some 116), .call (.ev [] .own) 45 [(.t 114), (.t 115)], none, []⟩, ⟨(some 19), .mv (.t 116), none, []⟩] false) (.seq (.seq (.reg [⟨(some 117), .mv (.t 19), none, []⟩, ⟨(some 118), .bin .lss (.t 117) (.c (.i .i64 0)), none, []⟩] false) (.cond (.t 118) (.seq (.reg [⟨(some 8), .mv (.c (.b false)), none, []⟩] false) (.ret)) (.skip))) (.seq (.seq (.reg [⟨(some 119), .mv (.t 19), none, []⟩, ⟨(some 120), .mv (.t 18), none, []⟩, ⟨(some 121), .bin .neq (.t 119) (.t 120), none, []⟩] false) (.cond (.t 121) (.seq (.reg [⟨(some 8), .mv (.c (.b false)), none, []⟩] false) (.ret)) (.skip))) (.seq (.reg [⟨(some 123), .load (some 4) (.t 4), none, []⟩, ⟨(some 124), .call (.ev [] .own) 41 [(.t 123)], none, [0]⟩, ⟨(some 125), .load (some 4) (.t 5), none, []⟩, ⟨(some 126), .call (.ev [] .own) 16 [(.t 125)], none, [2, 1]⟩, ⟨(some 127), .mv (.t 2), none, []⟩, ⟨(some 128), .load (some 4) (.t 7), none, []⟩, ⟨(some 129), .call (.ev [] .own) 16 [(.t 128)], none, [5, 3]⟩, ⟨(some 130), .call (.ev [] .own) 47 [(.t 124), (.t 126), (.t 127), (.t 129)], none, [1, 3, 4, 6, 6]⟩, ⟨(some 122), .mv (.t 130), none, [7]⟩, ⟨(some 131), .ext 0 (.t 122), none, [8]⟩, ⟨(some 132), .ext 1 (.t 122), none, [8]⟩, ⟨(some 20), .alloc [.nl, .nl, .i .i64 0, .i .i64 0], none, []⟩, ⟨none, .store (some 4) (.t 20) (.t 131), none, [11, 9, 7, 0, 1, 2, 3, 4, 5, 6, 7, 8, 9, 11]⟩, ⟨(some 21), .mv (.t 132), none, [10, 12, 0, 1, 2, 3, 4, 5, 6, 7, 8, 9, 10, 11, 12]⟩] true) (.seq (.seq (.reg [⟨(some 133), .load (some 4) (.t 20), none, []⟩, ⟨(some 134), .load (some 4) (.t 10), none, []⟩, ⟨(some 135), .call (.ev [] .own) 43 [(.t 133), (.t 134)], none, []⟩, ⟨(some 136), .un .not (.t 135), none, []⟩, ⟨(some 137), .mv (.t 136), none, []⟩, ⟨(some 138), .mv (.t 21), (some (137, false)), []⟩, ⟨(some 139), .mv (.t 11), (some (137, false)), []⟩, ⟨(some 140), .beq .neq (.t 138) (.t 139), (some (137, false)), []⟩, ⟨(some 141), .pick (.t 137) (.c (.b true)) (.t 140), none, []⟩] false) (.cond (.t 141) (.seq (.reg [⟨(some 8), .mv (.c (.b false)), none, []⟩] false) (.ret)) (.skip))) (.seq (.reg [⟨(some 19), .mv (.c (.i .i64 1)), none, []⟩] false) (.seq (.reg [⟨(some 142), .load (some 4) (.t 15), none, []⟩, ⟨(some 143), .mv (.t 19), none, []⟩, ⟨(some 144), .call (.ev [] .own) 45 [(.t 142), (.t 143)], none, []⟩, ⟨(some 19), .mv (.t 144), none, []⟩] false) (.seq (.seq (.reg [⟨(some 145), .mv (.t 19), none, []⟩, ⟨(some 146), .bin .lss (.t 145) (.c (.i .i64 0)), none, []⟩] false) (.cond (.t 146) (.seq (.reg [⟨(some 8), .mv (.c (.b false)), none, []⟩] false) (.ret)) (.skip))) (.seq (.seq (.reg [⟨(some 147), .mv (.t 19), none, []⟩, ⟨(some 148), .mv (.t 18), none, []⟩, ⟨(some 149), .bin .neq (.t 147) (.t 148), none, []⟩] false) (.cond (.t 149) (.seq (.reg [⟨(some 8), .mv (.c (.b false)), none, []⟩] false) (.ret)) (.skip))) (.seq (.reg [⟨(some 8), .mv (.c (.b true)), none, []⟩] false) (.ret))))))))))))))))))))))))))))))))))))
theorem ok_laws_FnExactPropSet : (Try.f9.body).bind (comp Try.prog modes Try.f9.ntmps) = some pc_laws_FnExactPropSet := by kernel_rfl
theorem via_laws_FnExactPropSet {args outs : List T} {r : T} (ha : args.length ≤ 150) (h : W Try.prog modes 150 pc_laws_FnExactPropSet (enter args) (fin Try.prog [.tmp 8] args r outs)) : Ret Try.prog 9 args r outs := Ret.of Try.func9 ok_laws_FnExactPropSet rfl rfl ha h
end Go.Proofs.Ytehdfbhfbidadaa.V
/- The law FnExactPropSet holds of trees: printed by a program of this claim's writer (wip/gen/exlaw.py). -/
namespace Go.Proofs.Ytehdfbhfbidadaa.V
open Go
set_option linter.unusedVariables false
set_option linter.unusedSimpArgs false
set_option maxHeartbeats 32000000
theorem cl_set {α : Type} {c : α → Nat} {l : List α} {k : Nat} {x y : α} (hx : l[k]? = some x) : cl c (l.set k y) + c x = cl c l + c y := by
  obtain ⟨l1, l2, rfl, hl⟩ := split_at hx
  rw [← hl, set_split]
  unfold cl sums
  simp only [List.length_append, List.length_cons, List.map_append, List.map_cons, List.sum_append, List.sum_cons]
  omega
theorem propNext_cnt (nm : Tx) (to : Vl) (ps : List Pr) : cl Pr.cnt (propNext nm to ps) ≤ cl Pr.cnt ps + nm.length + to.cnt + 1 := by
  have h1 : cl Pr.cnt (prOut nm (ps.drop (nmK nm ps))) ≤ cl Pr.cnt (ps.drop (nmK nm ps)) := by unfold prOut; exact cl_filter
  have h2 : cl Pr.cnt (ps.take (nmK nm ps)) + cl Pr.cnt (ps.drop (nmK nm ps)) = cl Pr.cnt ps := by
    rw [← cl_append, List.take_append_drop]
  have h3 : cl Pr.cnt (prNew nm to) ≤ nm.length + to.cnt + 1 := by
    unfold prNew
    split
    · simp [cl, sums]
    · rw [cl_cons]; simp [cl, sums, Pr.cnt]; omega
  unfold propNext
  rw [cl_append, cl_append]; omega
theorem gSetP_cnt {g : Gr} {v : Vl} {ps L : List Pr} (h : propsOf g v = some ps) : (gSetP g v L).cnt + cl Pr.cnt ps = g.cnt + cl Pr.cnt L := by
  rcases props_at h with ⟨hk, i, id, lb, q1, q2, q3⟩ | ⟨hk5, hk, i, id, kd, fr, tt, q1, q2, q3⟩
  · rw [q3]
    have h4 := cl_set (c := Nd.cnt) (y := ⟨id, lb, L⟩) q2
    simp only [Gr.cnt, Nd.cnt] at h4 ⊢
    omega
  · rw [q3]
    have h4 := cl_set (c := Eg.cnt) (y := ⟨id, kd, fr, tt, L⟩) q2
    simp only [Gr.cnt, Eg.cnt] at h4 ⊢
    omega
theorem propSet_cnt (g : Gr) (v : Vl) (nm : Tx) (to : Vl) : (propSet g v nm to).1.cnt ≤ g.cnt + to.cnt + 8 + 1 := by
  have h0 : zG.cnt = 0 := rfl
  unfold propSet
  split
  · split
    · rename_i h
      have hn : nm.length ≤ 8 := nameOk_len h.2.1
      split
      · rename_i ps hp
        split
        · have h1 := gSetP_cnt (L := propNext nm to ps) hp
          have h2 := propNext_cnt nm to ps
          simp only; omega
        · simp only; omega
      · simp only; omega
    · simp only; omega
  · simp only [h0]; omega
theorem FnExactPropSet_t (g : Gr) (hg : g.fit) (v : Vl) (hv : v.fit) (nm : Tx) (hnm : ln nm) (to : Vl) (hto : to.fit) : Rv Try.prog 9 [.agg (sG.I g), .agg (sV.I v), .s nm, .agg (sV.I to)] (.b true) := by
  by_cases hs0 : 1048576 < (nm.length : Int)
  · obtain ⟨l_g, es_g, nn_g, ne_g⟩ := g
    obtain ⟨k_v, n_v, s_v, vl_v⟩ := v
    obtain ⟨k_to, n_to, s_to, vl_to⟩ := to
    refine via_laws_FnExactPropSet (by simp) ?_
    simp [pc_laws_FnExactPropSet, hs0]
    exact fin_val rfl (by simp) (by simp)
  have sz0 := szGraph_c g hg 1048576 (by omega) (by omega)
  by_cases hc0 : (1048576 : Int) - (g.cnt : Nat) < 0
  · rw [left_neg hc0] at sz0
    obtain ⟨l_g, es_g, nn_g, ne_g⟩ := g
    obtain ⟨k_v, n_v, s_v, vl_v⟩ := v
    obtain ⟨k_to, n_to, s_to, vl_to⟩ := to
    refine via_laws_FnExactPropSet (by simp) ?_
    simp [pc_laws_FnExactPropSet, hs0]
    refine callK_val (by simp) sz0 rfl ?_
    simp [hs0]
    exact fin_val rfl (by simp) (by simp)
  rw [left_pos hc0] at sz0
  have sz1 := szValue_c v hv (1048576 - (g.cnt : Nat)) (by omega) (by omega)
  by_cases hc1 : (1048576 : Int) - (g.cnt : Nat) - (v.cnt : Nat) < 0
  · rw [left_neg hc1] at sz1
    obtain ⟨l_g, es_g, nn_g, ne_g⟩ := g
    obtain ⟨k_v, n_v, s_v, vl_v⟩ := v
    obtain ⟨k_to, n_to, s_to, vl_to⟩ := to
    refine via_laws_FnExactPropSet (by simp) ?_
    simp [pc_laws_FnExactPropSet, hs0]
    refine callK_val (by simp) sz0 rfl ?_
    simp [hs0, hc0]
    refine callK_val (by simp) sz1 rfl ?_
    simp [hs0, hc0]
    exact fin_val rfl (by simp) (by simp)
  rw [left_pos hc1] at sz1
  have sz2 := szValue_c to hto (1048576 - (g.cnt : Nat) - (v.cnt : Nat)) (by omega) (by omega)
  by_cases hc2 : (1048576 : Int) - (g.cnt : Nat) - (v.cnt : Nat) - (to.cnt : Nat) < 0
  · rw [left_neg hc2] at sz2
    obtain ⟨l_g, es_g, nn_g, ne_g⟩ := g
    obtain ⟨k_v, n_v, s_v, vl_v⟩ := v
    obtain ⟨k_to, n_to, s_to, vl_to⟩ := to
    refine via_laws_FnExactPropSet (by simp) ?_
    simp [pc_laws_FnExactPropSet, hs0]
    refine callK_val (by simp) sz0 rfl ?_
    simp [hs0, hc0]
    refine callK_val (by simp) sz1 rfl ?_
    simp [hs0, hc0, hc1]
    refine callK_val (by simp) sz2 rfl ?_
    simp [hs0, hc0, hc1]
    exact fin_val rfl (by simp) (by simp)
  rw [left_pos hc2] at sz2
  have hcg : g.cnt ≤ 2 ^ 20 := by omega
  have tog := toGraph_c g (by omega)
  have hcv : v.cnt ≤ 2 ^ 20 := by omega
  have tov := toValue_c v (by omega)
  have hcto : to.cnt ≤ 2 ^ 20 := by omega
  have toto := toValue_c to (by omega)
  obtain ⟨r0, hr0⟩ : ∃ r, r = (propSet g v nm to).1 := ⟨_, rfl⟩
  have hrc0 : r0.cnt ≤ 2 ^ 22 := by
    rw [hr0]; have := propSet_cnt g v nm to; omega
  obtain ⟨r1, hr1⟩ : ∃ r, r = (propSet g v nm to).2 := ⟨_, rfl⟩
  have sp := (specPropSet_c g hg hcg v hv nm hnm to hto hcto)
  have im := PropSet_c g hg hcg v hv nm hnm to hto hcto
  rw [← hr0, ← hr1] at sp im
  have eqr0 := eqGraph_c r0 (by omega)
  have eqg := eqGraph_c g (by omega)
  have eqv := eqValue_c v (by omega)
  have eqto := eqValue_c to (by omega)
  have mkg := markGraph_c g 1 (by omega) (by omega)
  have fag := mkG_far g 1
  have mlg1 : (mkG 1 g).1.nodes.length = g.nodes.length := by cases g; simp [mkG, mkL_len]
  have mlg2 : (mkG 1 g).1.edges.length = g.edges.length := by cases g; simp [mkG, mkL_len]
  obtain ⟨q0, hq0⟩ : ∃ q, q = (mkG 1 g).2 := ⟨_, rfl⟩
  rw [← hq0] at mkg fag
  have negq0 : ¬ q0 < 0 := by omega
  have mkv := markValue_c v q0 (by omega) (by omega)
  have fav := mkVl_far v q0
  have mlv1 : (mkL mkV q0 v.l).1.length = v.l.length := mkL_len (m := mkV) v.l q0
  obtain ⟨q1, hq1⟩ : ∃ q, q = (mkL mkV q0 v.l).2 := ⟨_, rfl⟩
  rw [← hq1] at mkv fav
  have negq1 : ¬ q1 < 0 := by omega
  have mkto := markValue_c to q1 (by omega) (by omega)
  have fato := mkVl_far to q1
  have mlto1 : (mkL mkV q1 to.l).1.length = to.l.length := mkL_len (m := mkV) to.l q1
  obtain ⟨q2, hq2⟩ : ∃ q, q = (mkL mkV q1 to.l).2 := ⟨_, rfl⟩
  rw [← hq2] at mkto fato
  have negq2 : ¬ q2 < 0 := by omega
  have mkr0 := markGraph_c r0 1 (by omega) (by omega)
  have hdr0 := heldGraph_c r0 1 (by omega) (by omega)
  have far0 := mkG_far r0 1
  have mlr01 : (mkG 1 r0).1.nodes.length = r0.nodes.length := by cases r0; simp [mkG, mkL_len]
  have mlr02 : (mkG 1 r0).1.edges.length = r0.edges.length := by cases r0; simp [mkG, mkL_len]
  obtain ⟨p0, hp0⟩ : ∃ q, q = (mkG 1 r0).2 := ⟨_, rfl⟩
  have mgr0 : (mkG 1 r0).1 = ⟨(mkG 1 r0).1.nodes, (mkG 1 r0).1.edges, r0.nn, r0.ne⟩ := by cases r0; rfl
  rw [mgr0] at hdr0
  clear mgr0
  rw [← hp0] at mkr0 far0 hdr0
  have negp0 : ¬ p0 < 0 := by omega
  clear hq0
  clear hq1
  clear hq2
  clear hp0
  generalize hg0 : (mkG 1 g).1.nodes = gm0 at *
  generalize hg1 : (mkG 1 g).1.edges = gm1 at *
  generalize hg2 : (mkL mkV q0 v.l).1 = gm2 at *
  generalize hg3 : (mkL mkV q1 to.l).1 = gm3 at *
  generalize hg4 : (mkG 1 r0).1.nodes = gm4 at *
  generalize hg5 : (mkG 1 r0).1.edges = gm5 at *
  clear hr0 hr1
  obtain ⟨l_g, es_g, nn_g, ne_g⟩ := g
  obtain ⟨k_v, n_v, s_v, vl_v⟩ := v
  obtain ⟨k_to, n_to, s_to, vl_to⟩ := to
  obtain ⟨l_r0, es_r0, nn_r0, ne_r0⟩ := r0
  try simp only [Gr.nodes, Gr.edges, Vl.k, Vl.n, Vl.s, Vl.l] at mlg1 mlg2 mlv1 mlto1 mlr01 mlr02 mkg mkv mkto mkr0 hdr0
  refine via_laws_FnExactPropSet (by simp) ?_
  simp [pc_laws_FnExactPropSet, hs0]
  refine callK_val (by simp) sz0 (by simp [T.noImm]) ?_
  simp [hs0, hc0, hc1, hc2, negq0, negq1, negq2, negp0]
  refine callK_val (by simp) sz1 (by simp [T.noImm]) ?_
  simp [hs0, hc0, hc1, hc2, negq0, negq1, negq2, negp0]
  refine callK_val (by simp) sz2 (by simp [T.noImm]) ?_
  simp [hs0, hc0, hc1, hc2, negq0, negq1, negq2, negp0]
  repeat with_reducible refine need_mk (by decide +kernel) ?_
  refine callK_val (by simp) tog (by simp [T.noImm]) ?_
  simp [hs0, hc0, hc1, hc2, negq0, negq1, negq2, negp0]
  repeat with_reducible refine need_mk (by decide +kernel) ?_
  refine callK_val (by simp) tov (by simp [T.noImm]) ?_
  simp [hs0, hc0, hc1, hc2, negq0, negq1, negq2, negp0]
  repeat with_reducible refine need_mk (by decide +kernel) ?_
  refine callK_val (by simp) toto (by simp [T.noImm]) ?_
  simp [hs0, hc0, hc1, hc2, negq0, negq1, negq2, negp0]
  repeat with_reducible refine need_mk (by decide +kernel) ?_
  refine callK_ri (by simp) sp ?_
  simp [hs0, hc0, hc1, hc2, negq0, negq1, negq2, negp0]
  repeat with_reducible refine need_mk (by decide +kernel) ?_
  refine callK_val (by simp) tog (by simp [T.noImm]) ?_
  simp [hs0, hc0, hc1, hc2, negq0, negq1, negq2, negp0]
  repeat with_reducible refine need_mk (by decide +kernel) ?_
  refine callK_val (by simp) tov (by simp [T.noImm]) ?_
  simp [hs0, hc0, hc1, hc2, negq0, negq1, negq2, negp0]
  repeat with_reducible refine need_mk (by decide +kernel) ?_
  refine callK_val (by simp) toto (by simp [T.noImm]) ?_
  simp [hs0, hc0, hc1, hc2, negq0, negq1, negq2, negp0]
  repeat with_reducible refine need_mk (by decide +kernel) ?_
  refine callK_val (by simp) im (by simp [T.noImm]) ?_
  simp [hs0, hc0, hc1, hc2, negq0, negq1, negq2, negp0]
  repeat with_reducible refine need_mk (by decide +kernel) ?_
  refine callK_val (by simp) eqr0 (by simp [T.noImm]) ?_
  simp [hs0, hc0, hc1, hc2, negq0, negq1, negq2, negp0]
  repeat with_reducible refine need_mk (by decide +kernel) ?_
  refine callK_val (by simp) tog (by simp [T.noImm]) ?_
  simp [hs0, hc0, hc1, hc2, negq0, negq1, negq2, negp0]
  repeat with_reducible refine need_mk (by decide +kernel) ?_
  refine callK_val (by simp) eqg (by simp [T.noImm]) ?_
  simp [hs0, hc0, hc1, hc2, negq0, negq1, negq2, negp0]
  repeat with_reducible refine need_mk (by decide +kernel) ?_
  refine callK_val (by simp) tov (by simp [T.noImm]) ?_
  simp [hs0, hc0, hc1, hc2, negq0, negq1, negq2, negp0]
  repeat with_reducible refine need_mk (by decide +kernel) ?_
  refine callK_val (by simp) eqv (by simp [T.noImm]) ?_
  simp [hs0, hc0, hc1, hc2, negq0, negq1, negq2, negp0]
  repeat with_reducible refine need_mk (by decide +kernel) ?_
  refine callK_val (by simp) toto (by simp [T.noImm]) ?_
  simp [hs0, hc0, hc1, hc2, negq0, negq1, negq2, negp0]
  repeat with_reducible refine need_mk (by decide +kernel) ?_
  refine callK_val (by simp) eqto (by simp [T.noImm]) ?_
  simp [hs0, hc0, hc1, hc2, negq0, negq1, negq2, negp0]
  repeat with_reducible refine need_mk (by decide +kernel) ?_
  refine callK_mut (by simp) mkg (by simp [mlg1, mlg2]; rfl) (by simp) (by simp) rfl (by simp [T.noImm]) ?_
  simp [hs0, hc0, hc1, hc2, negq0, negq1, negq2, negp0]
  repeat with_reducible refine need_mk (by decide +kernel) ?_
  refine callK_mut (by simp) mkv (by simp [mlv1]; rfl) (by simp) (by simp) rfl (by simp [T.noImm]) ?_
  simp [hs0, hc0, hc1, hc2, negq0, negq1, negq2, negp0]
  repeat with_reducible refine need_mk (by decide +kernel) ?_
  refine callK_mut (by simp) mkto (by simp [mlto1]; rfl) (by simp) (by simp) rfl (by simp [T.noImm]) ?_
  simp [hs0, hc0, hc1, hc2, negq0, negq1, negq2, negp0]
  repeat with_reducible refine need_mk (by decide +kernel) ?_
  refine callK_val (by simp) eqr0 (by simp [T.noImm]) ?_
  simp [hs0, hc0, hc1, hc2, negq0, negq1, negq2, negp0]
  repeat with_reducible refine need_mk (by decide +kernel) ?_
  refine callK_mut (by simp) mkr0 (by simp [mlr01, mlr02]; rfl) (by simp) (by simp) rfl (by simp [T.noImm]) ?_
  simp [hs0, hc0, hc1, hc2, negq0, negq1, negq2, negp0]
  repeat with_reducible refine need_mk (by decide +kernel) ?_
  refine callK_val (by simp [mlr01, mlr02, take_map_eq mlr01, take_map_eq mlr02]) hdr0 (by simp [T.noImm]) ?_
  simp [hs0, hc0, hc1, hc2, negq0, negq1, negq2, negp0]
  repeat with_reducible refine need_mk (by decide +kernel) ?_
  refine callK_val (by simp) tog (by simp [T.noImm]) ?_
  simp [hs0, hc0, hc1, hc2, negq0, negq1, negq2, negp0]
  repeat with_reducible refine need_mk (by decide +kernel) ?_
  refine callK_val (by simp) tov (by simp [T.noImm]) ?_
  simp [hs0, hc0, hc1, hc2, negq0, negq1, negq2, negp0]
  repeat with_reducible refine need_mk (by decide +kernel) ?_
  refine callK_val (by simp) toto (by simp [T.noImm]) ?_
  simp [hs0, hc0, hc1, hc2, negq0, negq1, negq2, negp0]
  repeat with_reducible refine need_mk (by decide +kernel) ?_
  refine callK_val (by simp) im (by simp [T.noImm]) ?_
  simp [hs0, hc0, hc1, hc2, negq0, negq1, negq2, negp0]
  repeat with_reducible refine need_mk (by decide +kernel) ?_
  refine callK_val (by simp) eqr0 (by simp [T.noImm]) ?_
  simp [hs0, hc0, hc1, hc2, negq0, negq1, negq2, negp0]
  repeat with_reducible refine need_mk (by decide +kernel) ?_
  refine callK_val (by simp [mlr01, mlr02, take_map_eq mlr01, take_map_eq mlr02]) hdr0 (by simp [T.noImm]) ?_
  simp [hs0, hc0, hc1, hc2, negq0, negq1, negq2, negp0]
  repeat refine need_mk (by decide +kernel) ?_
  exact fin_val rfl (by simp) (by simp)
end Go.Proofs.Ytehdfbhfbidadaa.V
/- Arguments that came in, as kinds of data. -/
namespace Go.Proofs.Ytehdfbhfbidadaa.V
open Go Go.RowKit
set_option linter.unusedVariables false
set_option linter.unusedSimpArgs false
theorem wf_i64 {y : Int} (h : (Lit.int .i64 y).wf = true) : i64 y := by
  simp [Lit.wf, IntKind.min, IntKind.max, IntKind.signed, IntKind.bits] at h
  exact ⟨by omega, by omega⟩
theorem op_int (n : Nat) : OpensT Try.prog n 3 (fun ts => ∃ y, ts = [.i .i64 y] ∧ i64 y) :=
  ot_mono (ot_int Try.underlying3) fun ts ⟨y, h1, h2⟩ => ⟨y, h1, wf_i64 h2⟩
theorem op_string (n : Nat) : OpensT Try.prog n 9 (fun ts => ∃ y : Tx, ts = [.s y] ∧ ln y) :=
  ot_mono (ot_string Try.underlying9) fun ts ⟨y, h1, h2⟩ => ⟨y, h1, by simpa [maxLen] using h2⟩
theorem op_list {α : Type} {f : α → List T} {p : α → Prop} {n : Nat} {t e : TypeId} {sz : Nat} (ht : Try.prog.underlying t = some (.slice e)) (hc : Try.prog.cellsOf e = sz) (h0 : 0 < sz) (he : ∀ m, m < n → OpensT Try.prog m e (fun ts => ∃ a, ts = f a ∧ p a)) :
    OpensT Try.prog n t (fun ts => ∃ l : List α, ts = [.imm (l.map f)] ∧ ln l ∧ ∀ a ∈ l, p a) :=
  ot_mono (ot_slice ht hc h0 he) fun ts ⟨rows, h1, h2, h3⟩ => by
    obtain ⟨l, rfl, hl⟩ := rows_list fun r hr => (h3 r hr).1
    exact ⟨l, h1, by simpa [maxLen] using h2, hl⟩
theorem op_Value (n : Nat) : OpensT Try.prog n 24 (fun ts => ∃ v, ts = sV.I v ∧ v.fit) := by
  induction n using Nat.strongRecOn with
  | _ n ih =>
    refine ot_mono (ot_struct (qs := [(3, fun ts => ∃ y, ts = [.i .i64 y] ∧ i64 y), (3, fun ts => ∃ y, ts = [.i .i64 y] ∧ i64 y), (9, fun ts => ∃ y : Tx, ts = [.s y] ∧ ln y), (22, fun ts => ∃ l : List Vl, ts = [.imm (l.map sV.I)] ∧ ln l ∧ ∀ v ∈ l, v.fit)])
      Try.underlying24 (by kernel_rfl) (by kernel_rfl) ?_) ?_
    · intro m hm p hp
      simp only [List.mem_cons, List.not_mem_nil, or_false] at hp
      rcases hp with rfl | rfl | rfl | rfl
      · exact op_int m
      · exact op_int m
      · exact op_string m
      · exact op_list (sz := 4) Try.underlying22 (by kernel_rfl) (by omega) fun m' hm' => ih m' (by omega)
    · rintro ts ⟨a, r, rfl, ⟨k, rfl, hk⟩, _, b, r, rfl, ⟨n, rfl, hn⟩, _, c, r, rfl, ⟨s, rfl, hs⟩, _, d, r, rfl, ⟨l, rfl, hl, hv⟩, _, rfl⟩
      exact ⟨.mk k n s l, by simp, Vl.fit_mk.2 ⟨hk, hn, hs, hl, hv⟩⟩
theorem op_Prop (n : Nat) : OpensT Try.prog n 206 (fun ts => ∃ v, ts = sP.I v ∧ v.fit) := by
  refine ot_mono (ot_struct (qs := [(9, fun ts => ∃ y : Tx, ts = [.s y] ∧ ln y), (24, fun ts => ∃ v, ts = sV.I v ∧ v.fit)]) Try.underlying206 (by kernel_rfl) (by kernel_rfl) ?_) ?_
  · intro m hm p hp
    simp only [List.mem_cons, List.not_mem_nil, or_false] at hp
    rcases hp with rfl | rfl
    · exact op_string m
    · exact op_Value m
  · rintro ts ⟨a, r, rfl, ⟨s, rfl, hs⟩, _, b, r, rfl, ⟨v, rfl, hv⟩, _, rfl⟩
    exact ⟨⟨s, v⟩, by simp, hs, hv⟩
theorem op_PropS (n : Nat) : OpensT Try.prog n 169 (fun ts => ∃ l : List Pr, ts = [.imm (l.map sP.I)] ∧ ln l ∧ ∀ a ∈ l, a.fit) :=
  op_list (sz := 5) Try.underlying169 (by kernel_rfl) (by omega) fun m _ => op_Prop m
theorem op_StringS (n : Nat) : OpensT Try.prog n 80 (fun ts => ∃ l : List Tx, ts = [.imm (l.map sS.I)] ∧ ln l ∧ ∀ a ∈ l, ln a) :=
  op_list (sz := 1) Try.underlying80 (by kernel_rfl) (by omega) fun m _ => op_string m
theorem op_Node (n : Nat) : OpensT Try.prog n 171 (fun ts => ∃ v, ts = sN.I v ∧ v.fit) := by
  refine ot_mono (ot_struct (qs := [(3, fun ts => ∃ y, ts = [.i .i64 y] ∧ i64 y), (80, fun ts => ∃ l : List Tx, ts = [.imm (l.map sS.I)] ∧ ln l ∧ ∀ a ∈ l, ln a), (169, fun ts => ∃ l : List Pr, ts = [.imm (l.map sP.I)] ∧ ln l ∧ ∀ a ∈ l, a.fit)]) Try.underlying171 (by kernel_rfl) (by kernel_rfl) ?_) ?_
  · intro m hm p hp
    simp only [List.mem_cons, List.not_mem_nil, or_false] at hp
    rcases hp with rfl | rfl | rfl
    · exact op_int m
    · exact op_StringS m
    · exact op_PropS m
  · rintro ts ⟨a, r, rfl, ⟨i, rfl, hi⟩, _, b, r, rfl, ⟨l, rfl, hl⟩, _, c, r, rfl, ⟨p, rfl, hp⟩, _, rfl⟩
    exact ⟨⟨i, l, p⟩, by simp, hi, hl.1, hl.2, hp.1, hp.2⟩
theorem op_Edge (n : Nat) : OpensT Try.prog n 174 (fun ts => ∃ v, ts = sE.I v ∧ v.fit) := by
  refine ot_mono (ot_struct (qs := [(3, fun ts => ∃ y, ts = [.i .i64 y] ∧ i64 y), (9, fun ts => ∃ y : Tx, ts = [.s y] ∧ ln y), (3, fun ts => ∃ y, ts = [.i .i64 y] ∧ i64 y), (3, fun ts => ∃ y, ts = [.i .i64 y] ∧ i64 y), (169, fun ts => ∃ l : List Pr, ts = [.imm (l.map sP.I)] ∧ ln l ∧ ∀ a ∈ l, a.fit)]) Try.underlying174 (by kernel_rfl) (by kernel_rfl) ?_) ?_
  · intro m hm p hp
    simp only [List.mem_cons, List.not_mem_nil, or_false] at hp
    rcases hp with rfl | rfl | rfl | rfl | rfl
    · exact op_int m
    · exact op_string m
    · exact op_int m
    · exact op_int m
    · exact op_PropS m
  · rintro ts ⟨a, r, rfl, ⟨i, rfl, hi⟩, _, b, r, rfl, ⟨k, rfl, hk⟩, _, c, r, rfl, ⟨f, rfl, hf⟩, _, d, r, rfl, ⟨t, rfl, ht⟩, _, e, r, rfl, ⟨p, rfl, hp⟩, _, rfl⟩
    exact ⟨⟨i, k, f, t, p⟩, by simp, hi, hk, hf, ht, hp.1, hp.2⟩
theorem op_Graph (n : Nat) : OpensT Try.prog n 66 (fun ts => ∃ v, ts = sG.I v ∧ v.fit) := by
  refine ot_mono (ot_struct (qs := [(63, fun ts => ∃ l : List Nd, ts = [.imm (l.map sN.I)] ∧ ln l ∧ ∀ a ∈ l, a.fit), (64, fun ts => ∃ l : List Eg, ts = [.imm (l.map sE.I)] ∧ ln l ∧ ∀ a ∈ l, a.fit), (3, fun ts => ∃ y, ts = [.i .i64 y] ∧ i64 y), (3, fun ts => ∃ y, ts = [.i .i64 y] ∧ i64 y)]) Try.underlying66 (by kernel_rfl) (by kernel_rfl) ?_) ?_
  · intro m hm p hp
    simp only [List.mem_cons, List.not_mem_nil, or_false] at hp
    rcases hp with rfl | rfl | rfl | rfl
    · exact op_list (sz := 3) Try.underlying63 (by kernel_rfl) (by omega) fun m _ => op_Node m
    · exact op_list (sz := 5) Try.underlying64 (by kernel_rfl) (by omega) fun m _ => op_Edge m
    · exact op_int m
    · exact op_int m
  · rintro ts ⟨a, r, rfl, ⟨l, rfl, hl⟩, _, b, r, rfl, ⟨es, rfl, he⟩, _, c, r, rfl, ⟨x, rfl, hx⟩, _, d, r, rfl, ⟨y, rfl, hy⟩, _, rfl⟩
    exact ⟨⟨l, es, x, y⟩, by simp, hl.1, hl.2, he.1, he.2, hx, hy⟩
end Go.Proofs.Ytehdfbhfbidadaa.V
