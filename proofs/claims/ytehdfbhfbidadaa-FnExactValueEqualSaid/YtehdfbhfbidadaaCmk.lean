/- Marks: what they write, and that it is held. -/
import Derived.Test.YtehdfbhfbidadaaCto
import Derived.Test.YtehdfbhfbidadaaVpm
namespace Go.Proofs.Ytehdfbhfbidadaa.V
open Go
set_option linter.unusedVariables false
set_option linter.unusedSimpArgs false
set_option maxHeartbeats 4000000
/-! ### texts of numbers -/
def dg (n : Nat) : Tx := if h : n = 0 then [] else dg (n / 10) ++ [UInt8.ofNat (48 + n % 10)]
termination_by n
decreasing_by omega
def mt (k : Int) : Tx := 109 :: (if k ≤ 0 then [48] else dg k.toNat)
theorem dg_step {n : Nat} (h : n ≠ 0) : dg n = dg (n / 10) ++ [UInt8.ofNat (48 + n % 10)] := by
  rw [dg]; simp [h]
theorem dg_len (n : Nat) : (dg n).length ≤ n := by
  induction n using Nat.strongRecOn with
  | _ n ih =>
    by_cases h : n = 0
    · subst h; rw [dg]; simp
    · rw [dg_step h]
      have := ih (n / 10) (by omega)
      simp; omega
theorem markText_c (k : Int) (h : k < 2 ^ 60) : Rv Try.prog 124 [.i .i64 k] (.s (mt k)) := by
  refine via_laws_markText (by simp) ?_
  by_cases h0 : k ≤ 0
  · simp [pc_laws_markText, h0]
    exact fin_val rfl (by simp [mt, h0]) (by simp)
  · simp [pc_laws_markText, h0]
    obtain ⟨n, rfl⟩ : ∃ n : Nat, k = n := ⟨k.toNat, by omega⟩
    refine W_wk (s' := ⟨[(0, .i .i64 n), (3, .s [])], [], 0, 0⟩) (Wk.less rfl (by simp) (by simp) (by simp)) ?_
    refine W_while (m := n) (fun m s => ∃ out : Tx, dg n = dg m ++ out ∧ out.length + m ≤ n ∧ s = ⟨[(0, .i .i64 m), (3, .s out)], [], 0, 0⟩) ⟨[], by simp, by simp, rfl⟩ ?_
    rintro m s ⟨out, h1, h2, rfl⟩
    by_cases hm : m = 0
    · subst hm
      have e0 : dg 0 = [] := by rw [dg]; simp
      have hl : 1 + out.length ≤ 9223372036854775807 := by omega
      simp [hl]
      have hn : ¬ (n : Int) ≤ 0 := by omega
      have hn2 : ¬ n = 0 := by omega
      exact fin_val rfl (by simp [mt, hn2, h1, e0]) (by simp)
    · have hm' : 0 < m := by omega
      have hc : IntKind.u8.wrap (IntKind.i64.wrap (48 + (m : Int).tmod 10)) = ((UInt8.ofNat (48 + m % 10)).toNat : Int) := by
        have e1 : (m : Int).tmod 10 = ((m % 10 : Nat) : Int) := by rw [Int.tmod_eq_emod_of_nonneg (by omega)]; omega
        rw [e1, wrap64 (by omega) (by omega)]
        unfold IntKind.wrap
        simp [IntKind.bits, IntKind.signed] <;> omega
      have hq : IntKind.i64.wrap ((m : Int) / 10) = ((m / 10 : Nat) : Int) := by
        rw [wrap64 (by omega) (by omega)]; omega
      have hl : 1 + out.length ≤ 9223372036854775807 := by omega
      simp [hm', hc, hq, need_mk]
      refine ⟨[UInt8.ofNat (48 + m % 10)], by simp, ?_⟩
      simp [hl]
      refine ⟨_, Wk.to (s' := ⟨[(0, .i .i64 ((m / 10 : Nat) : Int)), (3, .s (UInt8.ofNat (48 + m % 10) :: out))], [], 0, 0⟩) rfl (by simp) (by simp) (by simp) (by simp), m / 10, by omega, UInt8.ofNat (48 + m % 10) :: out, ?_, by simp; omega, rfl⟩
      rw [h1, dg_step hm]; simp
/-! ### element by element -/
section
variable {α : Type} (m : Int → α → α × Int)
def mkL : Int → List α → List α × Int
  | k, [] => ([], k)
  | k, a :: l => ((m k a).1 :: (mkL (m k a).2 l).1, (mkL (m k a).2 l).2)
theorem mkL_append : ∀ (l l' : List α) (k : Int), mkL m k (l ++ l') = ((mkL m k l).1 ++ (mkL m (mkL m k l).2 l').1, (mkL m (mkL m k l).2 l').2)
  | [], l', k => by simp [mkL]
  | a :: l, l', k => by simp [mkL, mkL_append l l']
theorem mkL_len : ∀ (l : List α) (k : Int), (mkL m k l).1.length = l.length
  | [], k => rfl
  | a :: l, k => by simp [mkL, mkL_len l]
/-- The number ahead of an element. -/
def kAt (k : Int) (l : List α) (i : Nat) : Int := (mkL m k (l.take i)).2
/-- The elements ahead, marked. -/
def pAt (k : Int) (l : List α) (i : Nat) : List α := (mkL m k (l.take i)).1
theorem pAt_len {k : Int} {l : List α} {i : Nat} (h : i ≤ l.length) : (pAt m k l i).length = i := by
  unfold pAt; rw [mkL_len]; simp; omega
variable {m}
theorem kAt_succ {k : Int} {l : List α} {i : Nat} {x : α} (h : l[i]? = some x) : kAt m k l (i + 1) = (m (kAt m k l i) x).2 := by
  unfold kAt; rw [List.take_add_one, h, mkL_append]; simp [mkL]
theorem pAt_succ {k : Int} {l : List α} {i : Nat} {x : α} (h : l[i]? = some x) : pAt m k l (i + 1) = pAt m k l i ++ [(m (kAt m k l i) x).1] := by
  unfold pAt kAt; rw [List.take_add_one, h, mkL_append]; simp [mkL]
theorem mkL_get {k : Int} {l : List α} {i : Nat} {x : α} (h : l[i]? = some x) : (mkL m k l).1[i]? = some (m (kAt m k l i) x).1 := by
  have hi : i < l.length := (List.getElem?_eq_some_iff.1 h).1
  have e : l = l.take (i + 1) ++ l.drop (i + 1) := (List.take_append_drop _ _).symm
  have h2 : (mkL m k l).1 = pAt m k l (i + 1) ++ (mkL m (kAt m k l (i + 1)) (l.drop (i + 1))).1 := by
    conv => lhs; rw [e]
    rw [mkL_append]; rfl
  rw [h2, pAt_succ h, List.append_assoc, List.getElem?_append_right (by rw [pAt_len m (by omega)]; exact Nat.le_refl _), pAt_len m (by omega)]
  simp
theorem drop_eq {l : List α} {i : Nat} {x : α} (h : l[i]? = some x) : l.drop i = x :: l.drop (i + 1) := by
  have hi := (List.getElem?_eq_some_iff.1 h)
  obtain ⟨h1, h2⟩ := hi
  rw [List.drop_eq_getElem_cons h1, h2]
theorem kAt_all {k : Int} {l : List α} {i : Nat} (h : l.length ≤ i) : kAt m k l i = (mkL m k l).2 := by unfold kAt; rw [List.take_of_length_le h]
theorem pAt_all {k : Int} {l : List α} {i : Nat} (h : l.length ≤ i) : pAt m k l i = (mkL m k l).1 := by unfold pAt; rw [List.take_of_length_le h]
/-- How far marks go. -/
def Far (m : Int → α → α × Int) (c : α → Nat) : Prop := ∀ k a, k ≤ (m k a).2 ∧ (m k a).2 ≤ k + 8 * (1 + c a)
theorem Far.list {c : α → Nat} {l : List α} (h : ∀ a ∈ l, ∀ k, k ≤ (m k a).2 ∧ (m k a).2 ≤ k + 8 * (1 + c a)) (k : Int) : k ≤ (mkL m k l).2 ∧ (mkL m k l).2 ≤ k + 8 * cl c l := by
  unfold cl
  induction l generalizing k with
  | nil => simp [mkL, sums]
  | cons a l ih =>
    have h1 := h a (by simp) k
    have h2 := ih (fun a ha => h a (by simp [ha])) (m k a).2
    simp only [mkL, List.length_cons, sums, List.map_cons, List.sum_cons] at h2 ⊢
    omega
theorem cl_split {c : α → Nat} {l : List α} {i : Nat} {x : α} (h : l[i]? = some x) : cl c (l.take i) + (1 + c x) ≤ cl c l := by
  have hi : i < l.length := (List.getElem?_eq_some_iff.1 h).1
  have h1 := sums_take (c := c) h
  have h2 := sums_le (c := c) (l := l) (i + 1)
  unfold cl
  simp only [List.length_take]
  omega
theorem Far.at {c : α → Nat} {l : List α} (h : ∀ a ∈ l, ∀ k, k ≤ (m k a).2 ∧ (m k a).2 ≤ k + 8 * (1 + c a)) {k : Int} {i : Nat} {x : α} (hx : l[i]? = some x) : k ≤ kAt m k l i ∧ kAt m k l i + 8 * (1 + c x) ≤ k + 8 * cl c l := by
  have h1 := Far.list (m := m) (c := c) (l := l.take i) (fun a ha => h a (List.mem_of_mem_take ha)) k
  have h2 := cl_split (c := c) hx
  unfold kAt
  omega
end
/-! ### texts -/
def mkStr (k : Int) (_ : Tx) : Tx × Int := (mt k, k + 1)
theorem far_str : ∀ (l : List Tx), ∀ a ∈ l, ∀ k, k ≤ (mkStr k a).2 ∧ (mkStr k a).2 ≤ k + 8 * (1 + List.length a) := by
  intro l a _ k; simp only [mkStr]; omega
/-! ### values -/
mutual
def mkV (k : Int) : Vl → Vl × Int
  | .mk _ _ _ l => (.mk k (k + 1) (mt (k + 2)) (mkVs (k + 3) l).1, (mkVs (k + 3) l).2)
def mkVs (k : Int) : List Vl → List Vl × Int
  | [] => ([], k)
  | v :: l => ((mkV k v).1 :: (mkVs (mkV k v).2 l).1, (mkVs (mkV k v).2 l).2)
end
theorem mkVs_eq : ∀ (l : List Vl) (k : Int), mkVs k l = mkL mkV k l
  | [], k => by simp [mkVs, mkL]
  | v :: l, k => by simp [mkVs, mkL, mkVs_eq l]
theorem mkV_mk (k a b : Int) (s : Tx) (l : List Vl) : mkV k (.mk a b s l) = (.mk k (k + 1) (mt (k + 2)) (mkL mkV (k + 3) l).1, (mkL mkV (k + 3) l).2) := by rw [mkV, mkVs_eq]
theorem far_val (v : Vl) : ∀ k, k ≤ (mkV k v).2 ∧ (mkV k v).2 ≤ k + 8 * (1 + v.cnt) := by
  refine Vl.ind (p := fun v => ∀ k, k ≤ (mkV k v).2 ∧ (mkV k v).2 ≤ k + 8 * (1 + v.cnt)) ?_ v
  intro a b s l ih k
  rw [mkV_mk, Vl.cnt_mk]
  have := Far.list (m := mkV) (c := Vl.cnt) ih (k + 3)
  simp only
  omega
theorem markValueS_of (l : List Vl) (ih : ∀ v ∈ l, ∀ k : Int, 0 ≤ k → k + 8 * cl Vl.cnt v.l ≤ 2 ^ 50 → Ret Try.prog 61 [.own 4 (v.l.map sV.O), .i .i64 k] (.i .i64 (mkL mkV k v.l).2) [.own 4 ((mkL mkV k v.l).1.map sV.O), .dead])
    (k : Int) (h0 : 0 ≤ k) (h : k + 8 * cl Vl.cnt l ≤ 2 ^ 50) : Ret Try.prog 61 [.own 4 (l.map sV.O), .i .i64 k] (.i .i64 (mkL mkV k l).2) [.own 4 ((mkL mkV k l).1.map sV.O), .dead] := by
  have hll : l.length ≤ cl Vl.cnt l := by unfold cl; omega
  refine via_laws_markValueS (by simp) ?_
  simp [pc_laws_markValueS]
  refine W_for (fun i => ⟨[(5, .i .i64 i), (1, .i .i64 (kAt mkV k l i)), (0, .ref 0 0 l.length)], [(0, .arr 4 ((pAt mkV k l i).map sV.O ++ (l.map sV.O).drop i))], 1, 1⟩) l.length (fun i => True) (Wk.less rfl (by simp) (by simp [kAt, mkL]) (by simp [pAt, mkL])) trivial ?_
  intro i hi _
  rcases Nat.lt_or_ge i l.length with h1 | h1
  · obtain ⟨x, hx⟩ : ∃ x, l[i]? = some x := ⟨_, List.getElem?_eq_getElem h1⟩
    have ihx := ih x (List.mem_of_getElem? hx)
    have hw : IntKind.i64.wrap ((i : Int) + 1) = (i : Int) + 1 := wrap1 (by omega)
    have hf := Far.at (c := Vl.cnt) (fun v _ => far_val v) hx (k := k)
    have hk1 := kAt_succ (m := mkV) (k := k) hx
    have hp1 := pAt_succ (m := mkV) (k := k) hx
    have hpl := pAt_len mkV (k := k) hi
    generalize kAt mkV k l i = q at *
    generalize hP : pAt mkV k l i = p at *
    have hw1 : IntKind.i64.wrap (q + 1) = q + 1 := wrap64 (by omega) (by omega)
    have hw2 : IntKind.i64.wrap (q + 1 + 1) = q + 2 := by rw [wrap64 (by omega) (by omega)]; omega
    have hw3 : IntKind.i64.wrap (q + 2 + 1) = q + 3 := by rw [wrap64 (by omega) (by omega)]; omega
    rw [drop_eq (l := l.map sV.O) (x := sV.O x) (by simp [hx])]
    have hg : ∀ r, ((p.map sV.O) ++ r :: (l.map sV.O).drop (i + 1))[i]? = some r := fun r => by rw [List.getElem?_append_right (by simp; omega)]; simp [hpl]
    have hs : ∀ r r', ((p.map sV.O) ++ r :: (l.map sV.O).drop (i + 1)).set i r' = (p.map sV.O) ++ r' :: (l.map sV.O).drop (i + 1) := fun r r' => by rw [List.set_append_right _ _ (by simp; omega)]; simp [hpl]
    obtain ⟨a, b, s, l'⟩ := x
    rw [Vl.cnt_mk] at hf
    rw [mkV_mk] at hk1 hp1
    generalize hB : (l.map sV.O).drop (i + 1) = B at *
    simp [-getElem?_pos, hw, h1, hg, hs, hw1, hw2, hw3]
    refine callK_val (by simp) (markText_c (q + 2) (by omega)) rfl ?_
    simp [-getElem?_pos, hw, h1, hg, hs, hw1, hw2, hw3]
    have hml := mkL_len (m := mkV) l' (q + 3)
    refine callK_mut (by simp) (ihx (q + 3) (by omega) (by simp only [Vl.l]; omega)) (bk := [(4, .arr 4 ((mkL mkV (q + 3) l').1.map sV.O))]) (by simp [hml]) (by simp) (by simp) rfl (by simp [T.noImm]) ?_
    simp [-getElem?_pos, hw, h1, hg, hs, hw1, hw2, hw3]
    refine Wk.trans (Wk.join (b := 0) (r := i) (row := [.i .i64 q, .i .i64 (q + 1), .s (mt (q + 2)), .ref 4 0 l'.length]) (cs := sV.O (.mk q (q + 1) (mt (q + 2)) (mkL mkV (q + 3) l').1)) rfl (by simp [hg]) (by simp [hml, take_map_eq hml]) (by simp)) ?_
    refine Wk.to1 rfl (by simp) (by simp [hk1]) (by simp [hs, hp1]) ?_ (by omega)
    have := Sh.crO sV (l.drop (i + 1))
    rw [List.map_drop, hB] at this
    simp [this]
  · have h2 : ¬ i < l.length := by omega
    have e : List.drop i (l.map sV.O) = [] := List.drop_of_length_le (by simp; omega)
    simp [h2, e]
    refine fin_ret (ts := []) rfl (by simp [kAt_all h1]) (by simp [pAt_all h1, e, mkL_len]) (by simp)
theorem markValueS_c (l : List Vl) (k : Int) (h0 : 0 ≤ k) (h : k + 8 * cl Vl.cnt l ≤ 2 ^ 50) : Ret Try.prog 61 [.own 4 (l.map sV.O), .i .i64 k] (.i .i64 (mkL mkV k l).2) [.own 4 ((mkL mkV k l).1.map sV.O), .dead] := by
  have key : ∀ v : Vl, ∀ k : Int, 0 ≤ k → k + 8 * cl Vl.cnt v.l ≤ 2 ^ 50 → Ret Try.prog 61 [.own 4 (v.l.map sV.O), .i .i64 k] (.i .i64 (mkL mkV k v.l).2) [.own 4 ((mkL mkV k v.l).1.map sV.O), .dead] := by
    intro v
    refine Vl.ind (p := fun v => ∀ k : Int, 0 ≤ k → k + 8 * cl Vl.cnt v.l ≤ 2 ^ 50 → Ret Try.prog 61 [.own 4 (v.l.map sV.O), .i .i64 k] (.i .i64 (mkL mkV k v.l).2) [.own 4 ((mkL mkV k v.l).1.map sV.O), .dead]) ?_ v
    intro a b s l ih k h0 h
    exact markValueS_of l ih k h0 h
  exact key (.mk 0 0 [] l) k h0 h
theorem heldValueS_of (l : List Vl) (ih : ∀ v ∈ l, ∀ k : Int, 0 ≤ k → k + 8 * cl Vl.cnt v.l ≤ 2 ^ 50 → Rv Try.prog 62 [.imm ((mkL mkV k v.l).1.map sV.I), .i .i64 k] (.i .i64 (mkL mkV k v.l).2))
    (k : Int) (h0 : 0 ≤ k) (h : k + 8 * cl Vl.cnt l ≤ 2 ^ 50) : Rv Try.prog 62 [.imm ((mkL mkV k l).1.map sV.I), .i .i64 k] (.i .i64 (mkL mkV k l).2) := by
  have hll : l.length ≤ cl Vl.cnt l := by unfold cl; omega
  refine via_laws_heldValueS (by simp) ?_
  simp [pc_laws_heldValueS]
  have hml := mkL_len (m := mkV) l k
  refine W_for (fun i => ⟨[(5, .i .i64 i), (1, .i .i64 (kAt mkV k l i)), (0, .imm ((mkL mkV k l).1.map sV.I))], [], 0, 0⟩) l.length (fun i => True) (Wk.less rfl (by simp) (by simp [kAt, mkL]) (by simp)) trivial ?_
  intro i hi _
  rcases Nat.lt_or_ge i l.length with h1 | h1
  · obtain ⟨x, hx⟩ : ∃ x, l[i]? = some x := ⟨_, List.getElem?_eq_getElem h1⟩
    have ihx := ih x (List.mem_of_getElem? hx)
    have hw : IntKind.i64.wrap ((i : Int) + 1) = (i : Int) + 1 := wrap1 (by omega)
    have hf := Far.at (c := Vl.cnt) (fun v _ => far_val v) hx (k := k)
    have hk1 := kAt_succ (m := mkV) (k := k) hx
    have hg := mkL_get (m := mkV) (k := k) hx
    generalize kAt mkV k l i = q at *
    have hw1 : IntKind.i64.wrap (q + 1) = q + 1 := wrap64 (by omega) (by omega)
    have hw2 : IntKind.i64.wrap (q + 1 + 1) = q + 2 := by rw [wrap64 (by omega) (by omega)]; omega
    have hw3 : IntKind.i64.wrap (q + 2 + 1) = q + 3 := by rw [wrap64 (by omega) (by omega)]; omega
    obtain ⟨a, b, s, l'⟩ := x
    rw [Vl.cnt_mk] at hf
    rw [mkV_mk] at hk1 hg
    have hf2 := Far.list (m := mkV) (c := Vl.cnt) (l := l') (fun v _ => far_val v) (q + 3)
    have hneg : ¬ (mkL mkV (q + 3) l').2 < 0 := by omega
    generalize hR : (mkL mkV k l).1 = R at *
    simp [-getElem?_pos, hml, hw, h1, hg, hw1, hw2, hw3]
    refine callK_val (by simp) (markText_c (q + 2) (by omega)) rfl ?_
    simp [-getElem?_pos, hml, hw, h1, hg, hw1, hw2, hw3]
    refine callK_val (by simp) (ihx (q + 3) (by omega) (by simp only [Vl.l]; omega)) rfl ?_
    simp [-getElem?_pos, hml, hw, h1, hg, hw1, hw2, hw3, hneg]
    exact Wk.to rfl (by simp) (by simp [hk1]) (by simp) (by simp)
  · have h2 : ¬ i < l.length := by omega
    simp [h2, hml]
    exact fin_val rfl (by simp [kAt_all h1]) (by simp)
theorem heldValueS_c (l : List Vl) (k : Int) (h0 : 0 ≤ k) (h : k + 8 * cl Vl.cnt l ≤ 2 ^ 50) : Rv Try.prog 62 [.imm ((mkL mkV k l).1.map sV.I), .i .i64 k] (.i .i64 (mkL mkV k l).2) := by
  have key : ∀ v : Vl, ∀ k : Int, 0 ≤ k → k + 8 * cl Vl.cnt v.l ≤ 2 ^ 50 → Rv Try.prog 62 [.imm ((mkL mkV k v.l).1.map sV.I), .i .i64 k] (.i .i64 (mkL mkV k v.l).2) := by
    intro v
    refine Vl.ind (p := fun v => ∀ k : Int, 0 ≤ k → k + 8 * cl Vl.cnt v.l ≤ 2 ^ 50 → Rv Try.prog 62 [.imm ((mkL mkV k v.l).1.map sV.I), .i .i64 k] (.i .i64 (mkL mkV k v.l).2)) ?_ v
    intro a b s l ih k h0 h
    exact heldValueS_of l ih k h0 h
  exact key (.mk 0 0 [] l) k h0 h
end Go.Proofs.Ytehdfbhfbidadaa.V
