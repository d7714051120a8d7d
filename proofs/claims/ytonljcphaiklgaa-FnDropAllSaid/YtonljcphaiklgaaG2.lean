/- Texts Ccopy, Cget, Cget2, Cg1, Cg2, Cg3, Cg4, Cg5, Cg6, Cg7, Cg8, Cg9, Cg10, Cm1, Cm2, Cm3, Cm4, Cn1, Cn2, Cn3, Pg, Cwith. -/
import Derived.Test.YtonljcphaiklgaaG1
import Derived.Test.YtonljcphaiklgaaVC
import Derived.Test.YtonljcphaiklgaaVD
/- Copies of values. -/
namespace Go.Proofs.Ytonljcphaiklgaa.V
open Go
set_option linter.unusedVariables false
set_option linter.unusedSimpArgs false
set_option maxHeartbeats 16000000
theorem l1Copy_c (v : Vl) : v.cnt ≤ 2 ^ 20 → Rv Try.prog 133 [.agg (sV.I v)] (.agg (sV.O v)) := by
  refine Vl.ind (p := fun v => v.cnt ≤ 2 ^ 20 → Rv Try.prog 133 [.agg (sV.I v)] (.agg (sV.O v))) ?_ v
  intro k n s l ih hc
  rw [Vl.cnt_mk] at hc
  unfold cl at hc
  refine via_spec_l1Copy (by simp) ?_
  simp [pc_spec_l1Copy]
  refine W_for (fun i => ⟨[(4, .i .i64 i), (1, .ptr 0 0 0), (2, .ptr 1 0 0), (3, .ptr 2 0 0)], [(0, .arr 4 [sV.I (.mk k n s l)]), (1, .arr 4 [[.i .i64 0, .i .i64 0, .s [], .nl]]), (2, .arr 4 [[.i .i64 k, .i .i64 n, .s s, .own 4 ((l.map sV.O).take i)]])], 10, 0⟩) l.length (fun _ => True) ?_ trivial ?_
  · refine Wk.trans (Wk.join (b := 2) (r := 0) (cs := [.i .i64 k, .i .i64 n, .s s, .own 4 []]) rfl rfl (by simp) (by simp)) ?_
    exact Wk.less rfl (by simp) (by simp) (by simp)
  intro i hi _
  rcases Nat.lt_or_ge i l.length with h1 | h1
  · obtain ⟨x, hx⟩ : ∃ x, l[i]? = some x := ⟨_, List.getElem?_eq_getElem h1⟩
    have hw : IntKind.i64.wrap ((i : Int) + 1) = (i : Int) + 1 := wrap1 (by omega)
    have hmin : min i l.length = i := by omega
    simp [-getElem?_pos, hx, hw, h1, hmin]
    refine callK_val (by simp) (ih x (List.mem_of_getElem? hx) (by have := sums_mem (c := Vl.cnt) (List.mem_of_getElem? hx); omega)) (by simp [T.noImm]) ?_
    have htt : List.take i (List.take i (l.map sV.O)) = List.take i (l.map sV.O) := by rw [List.take_take]; simp
    have hlA : (List.take i (l.map sV.O)).length = i := by simp; omega
    have hnew := fill_new sV.O hx
    have hcA : cleanR (List.take i (l.map sV.O)) = true := by rw [← List.map_take]; exact sV.crO _
    have hbig : (i + 1) * 56 ≤ 35184372088832 := by omega
    obtain ⟨k', n', s', l'⟩ := x
    simp [-getElem?_pos, hx, hw, h1, hmin, htt, hbig]
    generalize List.take i (l.map sV.O) = A at *
    refine need_mk ⟨by decide +kernel, by decide +kernel⟩ (need_mk (by decide +kernel) ?_)
    have hg := app1_get hlA
    have hs := app1_set hlA
    have ht := app1_take hlA
    refine Wk.trans (Wk.join (b := 82) (r := i) (cs := sV.O (.mk k' n' s' l')) rfl (by simp [hg]; rfl) (by simp) (by simp)) ?_
    refine Wk.trans (Wk.join (b := 2) (r := 0) (cs := [.i .i64 k, .i .i64 n, .s s, .own 4 ((l.map sV.O).take (i + 1))]) rfl rfl (by simp [hnew, hs, hcA, hlA, ht]) (by simp)) ?_
    exact Wk.to rfl (by simp) (by simp) (by simp [Blk.names]) (by simp)
  · have h2 : ¬ i < l.length := by omega
    have e : (l.map sV.O).take i = l.map sV.O := List.take_of_length_le (by simp; omega)
    simp [h2, e]
    exact fin_own (by simp; rfl) (by simp) (by simp) (by simp)
/-- An ok value is ok with more room. -/
theorem okV_mono : ∀ (d : Nat) (v : Vl), okV d v = true → okV (d + 1) v = true := by
  intro d
  induction d with
  | zero => intro v h; simp [okV] at h
  | succ d ih =>
    rintro ⟨k, n, s, l⟩ h
    have hall : l.all (okV d) = true → l.all (okV (d + 1)) = true := fun h => by
      rw [List.all_eq_true] at h ⊢
      exact fun v hv => ih v (h v hv)
    unfold okV at h ⊢
    by_cases k4 : k = 4
    · subst k4
      simp only [show ¬ (4 : Int) = 0 by omega, show ¬ (4 : Int) = 1 by omega, show ¬ (4 : Int) = 2 by omega, show ¬ (4 : Int) = 3 by omega, show ¬ ((4 : Int) = 5 ∨ (4 : Int) = 6) by omega, if_false, if_true, Bool.and_eq_true] at h ⊢
      exact ⟨h.1, hall h.2⟩
    · simp only [k4, if_false] at h ⊢
      exact h
/-- What is in an ok value's list. -/
theorem okV_list {d : Nat} {k n : Int} {s : Tx} {l : List Vl} (h : okV (d + 1) (.mk k n s l) = true) : ∀ v ∈ l, okV (d + 1) v = true := by
  intro v hv
  refine okV_mono d v ?_
  unfold okV at h
  by_cases k4 : k = 4
  · subst k4
    simp only [show ¬ (4 : Int) = 0 by omega, show ¬ (4 : Int) = 1 by omega, show ¬ (4 : Int) = 2 by omega, show ¬ (4 : Int) = 3 by omega, show ¬ ((4 : Int) = 5 ∨ (4 : Int) = 6) by omega, if_false, if_true, Bool.and_eq_true] at h
    exact List.all_eq_true.1 h.2 v hv
  · have : l = [] := by
      simp only [k4, if_false] at h
      split at h
      · simp at h; exact h.2
      · split at h
        · simp at h; exact h.2
        · split at h
          · simp at h; exact h.2
          · split at h
            · simp at h; exact h.2
            · split at h
              · simp at h; exact h.2
              · simp at h
    simp [this] at hv
theorem cloneValues_of (l : List Vl) (hl : l.length ≤ 2 ^ 20) (h : ∀ v ∈ l, Rv Try.prog 99 [.agg (sV.I v)] (.agg (sV.O v))) : Rv Try.prog 128 [.imm (l.map sV.I)] (.own 4 (l.map sV.O)) := by
  refine via_impl_cloneValues (by simp) ?_
  by_cases h0 : l.length = 0
  · obtain rfl : l = [] := List.length_eq_zero_iff.1 h0
    simp [pc_impl_cloneValues]
    exact fin_own rfl (by simp) (by simp) (by simp)
  · have h0' : ¬ l = [] := fun h => h0 (by simp [h])
    have hb1 : (l.length : Int) * 56 ≤ 35184372088832 := by omega
    have hb2 : (l.length : Int) ≤ 35184372088832 := by omega
    simp [pc_impl_cloneValues, h0, h0', hb1, hb2]
    refine W_for (fun i => ⟨[(14, .i .i64 i), (13, .i .i64 l.length), (12, .imm (l.map sV.I)), (3, .ref 0 0 l.length)], [(0, .arr 4 ((l.map sV.O).take i ++ List.replicate (l.length - i) [.i .i64 0, .i .i64 0, .s [], .nl]))], 10, 0⟩) l.length (fun i => True) (Wk.less rfl (by simp) (by simp) (by simp)) trivial ?_
    intro i hi _
    rcases Nat.lt_or_ge i l.length with h2 | h2
    · obtain ⟨v, hx⟩ : ∃ v, l[i]? = some v := ⟨_, List.getElem?_eq_getElem h2⟩
      have hw2 : IntKind.i64.wrap ((i : Int) + 1) = (i : Int) + 1 := wrap1 (by omega)
      have hrow := fill_row sV.O l (z := [.i .i64 0, .i .i64 0, .s [], .nl]) h2
      have hset := fill_set sV.O l (z := [.i .i64 0, .i .i64 0, .s [], .nl]) h2
      have hnew := fill_new sV.O hx
      have hg := fun r => fill_get sV.O (l := l) (r := r) (z := [.i .i64 0, .i .i64 0, .s [], .nl]) h2
      have hs2 := fun r r' => fill_set2 sV.O (l := l) (r := r) (r' := r') (z := [.i .i64 0, .i .i64 0, .s [], .nl]) h2
      have hcl := fill_clean sV (l := l) (z := [.i .i64 0, .i .i64 0, .s [], .nl]) (by rfl) (i + 1) (l.length - (i + 1))
      simp [-getElem?_pos, hx, hw2, h2]
      refine callK_val (by simp) (h v (List.mem_of_getElem? hx)) (by simp [T.noImm]) ?_
      obtain ⟨k', n', s', l'⟩ := v
      simp [-getElem?_pos, hx, hw2, h2, hrow, hset]
      refine Wk.trans (Wk.join (b := 0) (r := i) (cs := sV.O (.mk k' n' s' l')) rfl (by simp [hg]; rfl) (by simp) (by simp)) ?_
      exact Wk.to1 rfl (by simp) (by simp) (by simp [hs2, hnew]) hcl (by omega)
    · have h4 : ¬ i < l.length := by omega
      have h5 : l.length - i = 0 := by omega
      have e : (l.map sV.O).take i = l.map sV.O := List.take_of_length_le (by simp; omega)
      simp [h4, h5, e]
      exact fin_own (by simp; rfl) (by simp) (by simp) (by simp)
theorem cloneValue_c (v : Vl) : v.fit → v.cnt ≤ 2 ^ 20 → vOk v = true → Rv Try.prog 99 [.agg (sV.I v)] (.agg (sV.O v)) := by
  refine Vl.ind (p := fun v => v.fit → v.cnt ≤ 2 ^ 20 → vOk v = true → Rv Try.prog 99 [.agg (sV.I v)] (.agg (sV.O v))) ?_ v
  intro k n s l ih hf hc hok
  obtain ⟨_, _, hs, hl, hv⟩ := Vl.fit_mk.1 hf
  rw [Vl.cnt_mk] at hc
  unfold cl at hc
  have hlist := okV_list hok
  refine via_impl_cloneValue (by simp) ?_
  simp [pc_impl_cloneValue]
  refine callK_val (by simp) (ValueOk_c _ hf) rfl ?_
  simp [hok]
  refine callK_val (by simp) (cloneValues_of l (by omega) (fun v hm => ih v hm (hv v hm) (by have := sums_mem (c := Vl.cnt) hm; omega) (hlist v hm))) (by simp [T.noImm]) ?_
  simp
  exact fin_own (by simp; rfl) (by simp) (by simp) (by simp)
end Go.Proofs.Ytonljcphaiklgaa.V
/- Props by name. -/
namespace Go.Proofs.Ytonljcphaiklgaa.V
open Go
set_option linter.unusedVariables false
set_option linter.unusedSimpArgs false
set_option maxHeartbeats 16000000
def zV : Vl := .mk 0 0 [] []
theorem l2Edge_c (g : Gr) (hl : ln g.edges) (id : Int) : Rv Try.prog 79 [.agg (sG.I g), .i .i64 id] (.i .i64 (posOf Eg.id id g.edges)) := by
  obtain ⟨ns, l, nn, ne⟩ := g
  simp only at hl ⊢
  refine via_spec_l2Edge (by simp) ?_
  simp [pc_spec_l2Edge]
  refine W_for (fun i => ⟨[(5, .i .i64 i), (2, .ptr 0 0 0), (1, .i .i64 id)], [(0, .arr 4 [sG.I ⟨ns, l, nn, ne⟩])], 1, 0⟩) l.length (fun i => ∀ j y, j < i → l[j]? = some y → y.id ≠ id) (Wk.less rfl (by simp) (by simp) (by simp)) (by simp) ?_
  intro i hi hv
  rcases Nat.lt_or_ge i l.length with h1 | h1
  · obtain ⟨⟨a, b, c, d, e⟩, hx⟩ : ∃ x, l[i]? = some x := ⟨_, List.getElem?_eq_getElem h1⟩
    have hw : IntKind.i64.wrap ((i : Int) + 1) = (i : Int) + 1 := wrap1 (by omega)
    by_cases h : a = id
    · simp [-getElem?_pos, hx, hw, h1, h]
      exact fin_val rfl (by simp [posOf_at (f := Eg.id) hx h hv]) (by simp)
    · simp [-getElem?_pos, hx, hw, h1, h]
      refine ⟨fun j y hj hy => ?_, Wk.to1 rfl (by simp) (by simp) (by simp) (by simp) (by omega)⟩
      rcases Nat.lt_or_ge j i with h6 | h6
      · exact hv j y h6 hy
      · obtain rfl : j = i := by omega
        rw [hx] at hy; simp at hy; subst hy; exact h
  · have h2 : ¬ i < l.length := by omega
    simp [h2]
    refine fin_val rfl ?_ (by simp)
    rw [posOf_none fun j y hy => hv j y (by have := (List.getElem?_eq_some_iff.1 hy).1; omega) hy]
    simp
/-- Props of a node or an edge, if it is there. -/
def propsOf (g : Gr) (v : Vl) : Option (List Pr) :=
  if v.k = 5 then (g.nodes.find? (fun x => decide (x.id = v.n))).map Nd.props
  else if v.k = 6 then (g.edges.find? (fun x => decide (x.id = v.n))).map Eg.props else none
theorem find_pos {α : Type} {f : α → Int} {id : Int} {l : List α} : (∃ (i : Nat) (x : α), posOf f id l = i ∧ l[i]? = some x ∧ l.find? (fun x => decide (f x = id)) = some x) ∨ (posOf f id l = -1 ∧ l.find? (fun x => decide (f x = id)) = none) := by
  rcases posOf_cases f id l with ⟨i, x, h1, h2, h3, h4⟩ | ⟨h1, h2⟩
  · left
    refine ⟨i, x, h1, h2, ?_⟩
    rw [List.find?_eq_some_iff_getElem]
    obtain ⟨hi, rfl⟩ := List.getElem?_eq_some_iff.1 h2
    exact ⟨by simpa using h3, i, hi, rfl, fun j hj => by simpa using h4 j _ hj (List.getElem?_eq_getElem (by omega))⟩
  · right
    refine ⟨h1, ?_⟩
    rw [List.find?_eq_none]
    exact fun x hx => by simpa using h2 x hx
/-- Under a name; nothing if there is none. -/
def getP (ps : List Pr) (nm : Tx) : Vl := ((ps.find? (fun p => decide (p.name = nm))).map Pr.val).getD zV
def propGet (g : Gr) (v : Vl) (nm : Tx) : Vl := match propsOf g v with | some ps => getP ps nm | none => zV
theorem getP_at {ps : List Pr} {nm : Tx} {i : Nat} {p : Pr} (hx : ps[i]? = some p) (h : p.name = nm) (hn : ∀ (j : Nat) (q : Pr), j < i → ps[j]? = some q → q.name ≠ nm) : getP ps nm = p.val := by
  unfold getP
  have : ps.find? (fun p => decide (p.name = nm)) = some p := by
    rw [List.find?_eq_some_iff_getElem]
    obtain ⟨hi, rfl⟩ := List.getElem?_eq_some_iff.1 hx
    exact ⟨by simpa using h, i, hi, rfl, fun j hj => by simpa using hn j _ hj (List.getElem?_eq_getElem (by omega))⟩
  rw [this]; rfl
theorem getP_none {ps : List Pr} {nm : Tx} (h : ∀ (j : Nat) (q : Pr), ps[j]? = some q → q.name ≠ nm) : getP ps nm = zV := by
  unfold getP
  have : ps.find? (fun p => decide (p.name = nm)) = none := by
    rw [List.find?_eq_none]
    intro p hp
    obtain ⟨j, hj⟩ := List.mem_iff_getElem?.1 hp
    simpa using h j p hj
  rw [this]; rfl
theorem l2Of_c (g : Gr) (hf : ln g.nodes ∧ ln g.edges) (v : Vl) : Rv Try.prog 130 [.agg (sG.I g), .agg (sV.I v)] (match propsOf g v with | some ps => .tup [.imm (ps.map sP.I), .b true] | none => .tup [.own 5 [], .b false]) := by
  obtain ⟨l, es, nn, ne⟩ := g
  obtain ⟨k, n, s, vl⟩ := v
  refine via_spec_l2Of (by simp) ?_
  simp [pc_spec_l2Of]
  refine callK_val (by simp) (l2Node_c ⟨l, es, nn, ne⟩ hf.1 n) rfl ?_
  simp
  refine callK_val (by simp) (l2Edge_c ⟨l, es, nn, ne⟩ hf.2 n) rfl ?_
  by_cases k5 : k = 5
  · subst k5
    rcases find_pos (f := Nd.id) (id := n) (l := l) with ⟨i, ⟨a, b, c⟩, h1, h2, h3⟩ | ⟨h1, h3⟩
    · have hp : propsOf ⟨l, es, nn, ne⟩ (.mk 5 n s vl) = some c := by unfold propsOf; simp only [Vl.k, Vl.n, if_true]; exact congrArg (Option.map Nd.props) h3
      simp [-getElem?_pos, h1, h2, hp]
      exact fin_own rfl (by simp) (by simp) (by simp)
    · have hp : propsOf ⟨l, es, nn, ne⟩ (.mk 5 n s vl) = none := by unfold propsOf; simp only [Vl.k, Vl.n, if_true]; exact congrArg (Option.map Nd.props) h3
      simp [-getElem?_pos, h1, hp]
      exact fin_own rfl (by simp) (by simp) (by simp)
  · by_cases k6 : k = 6
    · subst k6
      rcases find_pos (f := Eg.id) (id := n) (l := es) with ⟨i, ⟨a, b, c, d, e⟩, h1, h2, h3⟩ | ⟨h1, h3⟩
      · have hp : propsOf ⟨l, es, nn, ne⟩ (.mk 6 n s vl) = some e := by unfold propsOf; simp only [Vl.k, Vl.n, if_true, show ¬ (6 : Int) = 5 by omega, if_false]; exact congrArg (Option.map Eg.props) h3
        simp [-getElem?_pos, h1, h2, hp]
        exact fin_own rfl (by simp) (by simp) (by simp)
      · have hp : propsOf ⟨l, es, nn, ne⟩ (.mk 6 n s vl) = none := by unfold propsOf; simp only [Vl.k, Vl.n, if_true, show ¬ (6 : Int) = 5 by omega, if_false]; exact congrArg (Option.map Eg.props) h3
        simp [-getElem?_pos, h1, hp]
        exact fin_own rfl (by simp) (by simp) (by simp)
    · have hp : propsOf ⟨l, es, nn, ne⟩ (.mk k n s vl) = none := by simp only [propsOf, Vl.k, Vl.n, k5, k6, if_false]
      simp [-getElem?_pos, k5, k6, hp]
      exact fin_own rfl (by simp) (by simp) (by simp)
/-- What a prop's value is bounded by. -/
theorem cnt_props {g : Gr} {v : Vl} {ps : List Pr} (h : propsOf g v = some ps) : cl Pr.cnt ps ≤ g.cnt := by
  unfold propsOf at h
  split at h
  · obtain ⟨x, h1, rfl⟩ := Option.map_eq_some_iff.1 h
    have hm := List.mem_of_find?_eq_some h1
    have h2 := sums_mem (c := Nd.cnt) hm
    simp only [Nd.cnt] at h2
    unfold Gr.cnt cl at *
    omega
  · split at h
    · obtain ⟨x, h1, rfl⟩ := Option.map_eq_some_iff.1 h
      have hm := List.mem_of_find?_eq_some h1
      have h2 := sums_mem (c := Eg.cnt) hm
      simp only [Eg.cnt] at h2
      unfold Gr.cnt cl at *
      omega
    · exact absurd h (by simp)
theorem l2Get_c (g : Gr) (hf : ln g.nodes ∧ ln g.edges) (hc : g.cnt ≤ 2 ^ 20) (v : Vl) (nm : Tx) : Rv Try.prog 103 [.agg (sG.I g), .agg (sV.I v), .s nm] (.agg (sV.O (propGet g v nm))) := by
  have hO := l2Of_c g hf v
  obtain ⟨l, es, nn, ne⟩ := g
  obtain ⟨k, n, s, vl⟩ := v
  refine via_spec_l2Get (by simp) ?_
  simp [pc_spec_l2Get]
  refine callK_imm (by simp) hO ?_
  have key : ∀ ps : List Pr, cl Pr.cnt ps ≤ 2 ^ 20 → ∃ r, r = getP ps nm := fun ps _ => ⟨_, rfl⟩
  cases hp : propsOf ⟨l, es, nn, ne⟩ (.mk k n s vl) with
  | none =>
    have hr : propGet ⟨l, es, nn, ne⟩ (.mk k n s vl) nm = zV := by simp [propGet, hp]
    simp [hr]
    refine W_for (fun i => ⟨[(9, .i .i64 0), (7, .imm []), (6, .ptr 2 0 0)], [(2, .arr 4 [[.i .i64 0, .i .i64 0, .s [], .nl]])], 20, 0⟩) 0 (fun _ => True) (Wk.less rfl (by simp) (by simp) (by simp)) trivial ?_
    intro i hi _
    simp
    exact fin_own (by simp; rfl) (by simp [zV, hr]) (by simp) (by simp [zV, hr])
  | some ps =>
    have hr : propGet ⟨l, es, nn, ne⟩ (.mk k n s vl) nm = getP ps nm := by simp [propGet, hp]
    have hcp := cnt_props hp
    unfold cl at hcp
    simp [hr]
    refine W_for (fun i => ⟨[(9, .i .i64 i), (7, .imm (ps.map sP.I)), (6, .ptr 2 0 0), (2, .s nm)], [(2, .arr 4 [[.i .i64 0, .i .i64 0, .s [], .nl]])], 20, 0⟩) ps.length (fun i => ∀ j q, j < i → ps[j]? = some q → q.name ≠ nm) (Wk.less rfl (by simp) (by simp) (by simp)) (by simp) ?_
    intro i hi hv
    rcases Nat.lt_or_ge i ps.length with h1 | h1
    · obtain ⟨⟨nm', w⟩, hx⟩ : ∃ x, ps[i]? = some x := ⟨_, List.getElem?_eq_getElem h1⟩
      have hw : IntKind.i64.wrap ((i : Int) + 1) = (i : Int) + 1 := wrap1 (by omega)
      by_cases h : nm' = nm
      · have hg := getP_at hx h hv
        simp [-getElem?_pos, hx, hw, h1, h]
        refine callK_val (by simp) (l1Copy_c w (by have := sums_mem (c := Pr.cnt) (List.mem_of_getElem? hx); simp only [Pr.cnt] at this; omega)) (by simp [T.noImm]) ?_
        obtain ⟨k', n', s', l'⟩ := w
        simp [-getElem?_pos, hx, hw, h1, h]
        exact fin_own (by simp; rfl) (by simp [hr, hg]) (by simp) (by simp [hr, hg])
      · simp [-getElem?_pos, hx, hw, h1, h]
        refine ⟨fun j y hj hy => ?_, Wk.to1 rfl (by simp) (by simp) (by simp) (by simp) (by omega)⟩
        rcases Nat.lt_or_ge j i with h6 | h6
        · exact hv j y h6 hy
        · obtain rfl : j = i := by omega
          rw [hx] at hy; simp at hy; subst hy; exact h
    · have h2 : ¬ i < ps.length := by omega
      have hg := getP_none fun j q hq => hv j q (by have := (List.getElem?_eq_some_iff.1 hq).1; omega) hq
      simp [h2]
      exact fin_own (by simp; rfl) (by simp [zV, hr, hg]) (by simp) (by simp [zV, hr, hg])
open Classical in
theorem specPropGet_c (g : Gr) (hf : g.fit) (hc : g.cnt ≤ 2 ^ 20) (v : Vl) (hv : v.fit) (nm : Tx) : Rv Try.prog 48 [.agg (sG.I g), .agg (sV.I v), .s nm] (.agg (sV.O (if GOk g ∧ vOk v = true then propGet g v nm else zV))) := by
  have h1 := specGraphOk_c g hf
  have h2 := specValueOk_c v hv
  have h3 := l2Get_c g ⟨hf.1, hf.2.2.1⟩ hc v nm
  have hz : ∀ b : Bool, b = true ∨ b = false := fun b => by cases b <;> simp
  obtain ⟨l, es, nn, ne⟩ := g
  obtain ⟨k, n, s, vl⟩ := v
  refine via_spec_PropGet (by simp) ?_
  simp [pc_spec_PropGet]
  refine callK_val (by simp) h1 rfl ?_
  by_cases g1 : GOk ⟨l, es, nn, ne⟩
  · simp [g1]
    refine callK_val (by simp) h2 rfl ?_
    by_cases g2 : vOk (.mk k n s vl) = true
    · simp [g1, g2]
      refine callK_val (by simp) h3 (by simp [T.noImm]) ?_
      obtain ⟨⟨k', n', s', l'⟩, hr⟩ : ∃ r, propGet ⟨l, es, nn, ne⟩ (.mk k n s vl) nm = r := ⟨_, rfl⟩
      simp [g1, g2, hr]
      exact fin_own (by simp; rfl) (by simp [g1, g2, hr]) (by simp) (by simp [g1, g2, hr])
    · simp [g1, g2]
      exact fin_own (by simp; rfl) (by simp [zV, g1, g2]) (by simp) (by simp [zV, g1, g2])
  · simp [g1]
    exact fin_own (by simp; rfl) (by simp [zV, g1]) (by simp) (by simp [zV, g1])
end Go.Proofs.Ytonljcphaiklgaa.V
/- Props by name: the program's word. -/
namespace Go.Proofs.Ytonljcphaiklgaa.V
open Go
set_option linter.unusedVariables false
set_option linter.unusedSimpArgs false
set_option maxHeartbeats 16000000
def zT : List T := [.i .i64 0, .i .i64 0, .s [], .nl]
def getT (ps : List Pr) (nm : Tx) : T := match ps.find? (fun p => decide (p.name = nm)) with | some p => .agg (sV.I p.val) | none => .agg zT
theorem getT_some {ps : List Pr} {nm : Tx} {i : Nat} {p : Pr} (hx : ps[i]? = some p) (h : p.name = nm) (hn : ∀ (j : Nat) (q : Pr), j < i → ps[j]? = some q → q.name ≠ nm) : getT ps nm = .agg (sV.I p.val) := by
  unfold getT
  have : ps.find? (fun p => decide (p.name = nm)) = some p := by
    rw [List.find?_eq_some_iff_getElem]
    obtain ⟨hi, rfl⟩ := List.getElem?_eq_some_iff.1 hx
    exact ⟨by simpa using h, i, hi, rfl, fun j hj => by simpa using hn j _ hj (List.getElem?_eq_getElem (by omega))⟩
  rw [this]
theorem getT_none {ps : List Pr} {nm : Tx} (h : ∀ (j : Nat) (q : Pr), ps[j]? = some q → q.name ≠ nm) : getT ps nm = .agg zT := by
  unfold getT
  have : ps.find? (fun p => decide (p.name = nm)) = none := by
    rw [List.find?_eq_none]
    intro p hp
    obtain ⟨j, hj⟩ := List.mem_iff_getElem?.1 hp
    simpa using h j p hj
  rw [this]
theorem getT_cases (ps : List Pr) (nm : Tx) : (∃ p ∈ ps, getT ps nm = .agg (sV.I p.val) ∧ getP ps nm = p.val) ∨ (getT ps nm = .agg zT ∧ getP ps nm = zV) := by
  unfold getT getP
  cases h : ps.find? (fun p => decide (p.name = nm)) with
  | none => right; simp
  | some p => left; exact ⟨p, List.mem_of_find?_eq_some h, by simp, by simp⟩
theorem propOf_c (ps : List Pr) (hl : ps.length ≤ 2 ^ 20) (nm : Tx) : Rv Try.prog 132 [.imm (ps.map sP.I), .s nm] (getT ps nm) := by
  refine via_impl_propOf (by simp) ?_
  simp [pc_impl_propOf]
  refine W_for (fun i => ⟨[(9, .i .i64 i), (8, .i .i64 ps.length), (7, .imm (ps.map sP.I)), (4, .ptr 0 0 0), (1, .s nm)], [(0, .arr 4 [[.i .i64 0, .i .i64 0, .s [], .nl]])], 20, 0⟩) ps.length (fun i => ∀ j q, j < i → ps[j]? = some q → q.name ≠ nm) (Wk.less rfl (by simp) (by simp) (by simp)) (by simp) ?_
  intro i hi hv
  rcases Nat.lt_or_ge i ps.length with h1 | h1
  · obtain ⟨⟨nm', w⟩, hx⟩ : ∃ x, ps[i]? = some x := ⟨_, List.getElem?_eq_getElem h1⟩
    have hw : IntKind.i64.wrap ((i : Int) + 1) = (i : Int) + 1 := wrap1 (by omega)
    by_cases h : nm' = nm
    · have hg := getT_some hx h hv
      obtain ⟨k', n', s', l'⟩ := w
      simp [-getElem?_pos, hx, hw, h1, h]
      exact fin_own (by simp; rfl) (by simp [hg]) (by simp) (by simp [hg])
    · obtain ⟨k', n', s', l'⟩ := w
      simp [-getElem?_pos, hx, hw, h1, h]
      refine ⟨fun j y hj hy => ?_, Wk.to1 rfl (by simp) (by simp) (by simp) (by simp) (by omega)⟩
      rcases Nat.lt_or_ge j i with h6 | h6
      · exact hv j y h6 hy
      · obtain rfl : j = i := by omega
        rw [hx] at hy; simp at hy; subst hy; exact h
  · have h2 : ¬ i < ps.length := by omega
    have hg := getT_none fun j q hq => hv j q (by have := (List.getElem?_eq_some_iff.1 hq).1; omega) hq
    simp [h2]
    exact fin_own (by simp; rfl) (by simp [zT, hg]) (by simp) (by simp [zT, hg])
theorem propsAt_v (g : Gr) (hf : g.nodes.length ≤ 2 ^ 20 ∧ g.edges.length ≤ 2 ^ 20) (v : Vl) : Vw Try.prog 97 [.agg (sG.I g), .agg (sV.I v)] [] (match propsOf g v with | some ps => .pim [.imm (ps.map sP.I)] | none => .np) := by
  have ok1 : okCall Try.prog 51 = true := by kernel_rfl
  have ok2 : okCall Try.prog 53 = true := by kernel_rfl
  obtain ⟨l, es, nn, ne⟩ := g
  obtain ⟨k, n, s, vl⟩ := v
  obtain ⟨hf1, hf2⟩ := hf
  simp only at hf1 hf2
  have hr : ∀ o : Option (List Pr), (match o with | some ps => T.pim [.imm (ps.map sP.I)] | none => .np).names = [] := fun o => by cases o <;> simp
  refine see_impl_propsAt 0 (by simp) (by simp) (by rw [hr]; simp) (by simp) (by simp) ?_
  by_cases k5 : k = 5
  · subst k5
    simp [pc_impl_propsAt]
    refine hookH_view (nodesOf_v (.imm (l.map sN.I)) (.imm (es.map sE.I)) rfl rfl nn ne) rfl ok1 (by simp) ?_
    simp
    refine callK_val (by simp) (placeN_c l (by omega) n) rfl ?_
    rcases find_pos (f := Nd.id) (id := n) (l := l) with ⟨i, ⟨a, b, c⟩, h1, h2, h3⟩ | ⟨h1, h3⟩
    · have hp : propsOf ⟨l, es, nn, ne⟩ (.mk 5 n s vl) = some c := by unfold propsOf; simp only [Vl.k, Vl.n, if_true]; exact congrArg (Option.map Nd.props) h3
      simp [-getElem?_pos, h1, h2]
      exact fin_view rfl (by simp [hp]) (by simp)
    · have hp : propsOf ⟨l, es, nn, ne⟩ (.mk 5 n s vl) = none := by unfold propsOf; simp only [Vl.k, Vl.n, if_true]; exact congrArg (Option.map Nd.props) h3
      simp [-getElem?_pos, h1]
      exact fin_view rfl (by simp [hp]) (by simp)
  · by_cases k6 : k = 6
    · subst k6
      simp [pc_impl_propsAt]
      refine hookH_view (edgesIn_v (.imm (l.map sN.I)) (.imm (es.map sE.I)) rfl rfl nn ne) rfl ok2 (by simp) ?_
      simp
      refine callK_val (by simp) (placeE_c es (by omega) n) rfl ?_
      rcases find_pos (f := Eg.id) (id := n) (l := es) with ⟨i, ⟨a, b, c, d, e⟩, h1, h2, h3⟩ | ⟨h1, h3⟩
      · have hp : propsOf ⟨l, es, nn, ne⟩ (.mk 6 n s vl) = some e := by unfold propsOf; simp only [Vl.k, Vl.n, if_true, show ¬ (6 : Int) = 5 by omega, if_false]; exact congrArg (Option.map Eg.props) h3
        simp [-getElem?_pos, h1, h2]
        exact fin_view rfl (by simp [hp]) (by simp)
      · have hp : propsOf ⟨l, es, nn, ne⟩ (.mk 6 n s vl) = none := by unfold propsOf; simp only [Vl.k, Vl.n, if_true, show ¬ (6 : Int) = 5 by omega, if_false]; exact congrArg (Option.map Eg.props) h3
        simp [-getElem?_pos, h1]
        exact fin_view rfl (by simp [hp]) (by simp)
    · have hp : propsOf ⟨l, es, nn, ne⟩ (.mk k n s vl) = none := by simp only [propsOf, Vl.k, Vl.n, k5, k6, if_false]
      simp [pc_impl_propsAt, k5, k6]
      exact fin_view rfl (by simp [hp]) (by simp)
def propT (g : Gr) (v : Vl) (nm : Tx) : T := match propsOf g v with | some ps => getT ps nm | none => .agg zT
theorem propIn_c (g : Gr) (hc : g.cnt ≤ 2 ^ 20) (v : Vl) (nm : Tx) : Rv Try.prog 102 [.agg (sG.I g), .agg (sV.I v), .s nm] (propT g v nm) := by
  have ok1 : okCall Try.prog 97 = true := by kernel_rfl
  have hl : g.nodes.length ≤ 2 ^ 20 ∧ g.edges.length ≤ 2 ^ 20 := by unfold Gr.cnt cl at hc; omega
  have hp := propsAt_v g hl v
  have hcp := fun ps h => cnt_props (g := g) (v := v) (ps := ps) h
  obtain ⟨l, es, nn, ne⟩ := g
  obtain ⟨k, n, s, vl⟩ := v
  refine via_impl_propIn (by simp) ?_
  simp [pc_impl_propIn]
  simp at hp
  refine hookH_view hp rfl ok1 (by simp) ?_
  cases hq : propsOf ⟨l, es, nn, ne⟩ (.mk k n s vl) with
  | none =>
    simp
    exact fin_own (by simp; rfl) (by simp [propT, hq, zT]) (by simp) (by simp [propT, hq, zT])
  | some ps =>
    have := hcp ps hq
    unfold cl at this
    simp
    refine callK_imm (by simp) (propOf_c ps (by omega) nm) ?_
    rcases getT_cases ps nm with ⟨⟨nm', k', n', s', l'⟩, _, h1, _⟩ | ⟨h1, _⟩
    · simp [h1]
      exact fin_own (by simp; rfl) (by simp [propT, hq, h1]) (by simp) (by simp [propT, hq, h1])
    · simp [h1, zT]
      exact fin_own (by simp; rfl) (by simp [propT, hq, h1, zT]) (by simp) (by simp [propT, hq, h1, zT])
/-- What is under a name in an ok graph is ok, fits, and is not too large. -/
theorem getP_ok {ps : List Pr} (h : PropsOk ps) (nm : Tx) : vOk (getP ps nm) = true := by
  rcases getT_cases ps nm with ⟨p, hp, _, h1⟩ | ⟨_, h1⟩
  · rw [h1]
    obtain ⟨j, hj⟩ := List.mem_iff_getElem?.1 hp
    have := (h.1 j p hj).1
    simp only [prOk, sto, Bool.and_eq_true] at this
    exact this.2.1
  · rw [h1]; rfl
theorem props_ok {g : Gr} (h : GOk g) {v : Vl} {ps : List Pr} (hp : propsOf g v = some ps) : PropsOk ps := by
  unfold propsOf at hp
  split at hp
  · obtain ⟨x, h1, rfl⟩ := Option.map_eq_some_iff.1 hp
    exact (h.nok x (List.mem_of_find?_eq_some h1)).2
  · split at hp
    · obtain ⟨x, h1, rfl⟩ := Option.map_eq_some_iff.1 hp
      exact (h.eok x (List.mem_of_find?_eq_some h1)).2.1
    · exact absurd hp (by simp)
theorem props_fit {g : Gr} (h : g.fit) {v : Vl} {ps : List Pr} (hp : propsOf g v = some ps) : ∀ p ∈ ps, p.fit := by
  unfold propsOf at hp
  split at hp
  · obtain ⟨x, h1, rfl⟩ := Option.map_eq_some_iff.1 hp
    exact (h.2.1 x (List.mem_of_find?_eq_some h1)).2.2.2.2
  · split at hp
    · obtain ⟨x, h1, rfl⟩ := Option.map_eq_some_iff.1 hp
      exact (h.2.2.2.1 x (List.mem_of_find?_eq_some h1)).2.2.2.2.2
    · exact absurd hp (by simp)
open Classical in
theorem PropGet_c (g : Gr) (hf : g.fit) (hc : g.cnt ≤ 2 ^ 20) (v : Vl) (hv : v.fit) (nm : Tx) : Rv Try.prog 46 [.agg (sG.I g), .agg (sV.I v), .s nm] (.agg (sV.O (if GOk g ∧ vOk v = true then propGet g v nm else zV))) := by
  have h1 := GraphOk_c g hf
  have h2 := ValueOk_c v hv
  have h3 := propIn_c g hc v nm
  have zf : zV.fit := by simp [zV, Vl.fit_mk, i64, ln]
  have zc : zV.cnt ≤ 2 ^ 20 := by simp [zV, Vl.cnt_mk, cl, sums]
  have zo : vOk zV = true := rfl
  have hz := cloneValue_c zV zf zc zo
  have hps := fun ps h => And.intro (cnt_props (g := g) (v := v) (ps := ps) h) (props_fit hf (v := v) (ps := ps) h)
  have hpk := fun (hg : GOk g) ps h => props_ok hg (v := v) (ps := ps) h
  obtain ⟨l, es, nn, ne⟩ := g
  obtain ⟨k, n, s, vl⟩ := v
  refine via_impl_PropGet (by simp) ?_
  simp [pc_impl_PropGet]
  refine callK_val (by simp) h1 rfl ?_
  by_cases g1 : GOk ⟨l, es, nn, ne⟩
  · simp [g1]
    refine callK_val (by simp) h2 rfl ?_
    by_cases g2 : vOk (.mk k n s vl) = true
    · simp [g1, g2]
      refine callK_imm (by simp) h3 ?_
      cases hq : propsOf ⟨l, es, nn, ne⟩ (.mk k n s vl) with
      | none =>
        have e1 : propT ⟨l, es, nn, ne⟩ (.mk k n s vl) nm = .agg zT := by simp [propT, hq]
        have e2 : propGet ⟨l, es, nn, ne⟩ (.mk k n s vl) nm = zV := by simp [propGet, hq]
        simp [g1, g2, e1, zT]
        refine callK_val (xs := [.agg (sV.I zV)]) (by simp [zV]) hz (by simp [T.noImm]) ?_
        simp [zV]
        exact fin_own (by simp; rfl) (by simp [g1, g2, e2, zV]) (by simp) (by simp [g1, g2, e2, zV])
      | some ps =>
        obtain ⟨hcp, hfp⟩ := hps ps hq
        have hok := getP_ok (hpk g1 ps hq) nm
        have e2 : propGet ⟨l, es, nn, ne⟩ (.mk k n s vl) nm = getP ps nm := by simp [propGet, hq]
        rcases getT_cases ps nm with ⟨⟨nm', w⟩, hm, t1, t2⟩ | ⟨t1, t2⟩
        · have e1 : propT ⟨l, es, nn, ne⟩ (.mk k n s vl) nm = .agg (sV.I w) := by simp [propT, hq, t1]
          have hcw : w.cnt ≤ 2 ^ 20 := by
            have := sums_mem (c := Pr.cnt) hm
            unfold cl at hcp
            simp only [Pr.cnt] at this; omega
          have hcl := cloneValue_c w (hfp _ hm).2 hcw (by rw [t2] at hok; exact hok)
          obtain ⟨k', n', s', l'⟩ := w
          simp [g1, g2, e1]
          refine callK_val (by simp) hcl (by simp [T.noImm]) ?_
          simp
          exact fin_own (by simp; rfl) (by simp [g1, g2, e2, t2]) (by simp) (by simp [g1, g2, e2, t2])
        · have e1 : propT ⟨l, es, nn, ne⟩ (.mk k n s vl) nm = .agg zT := by simp [propT, hq, t1]
          simp [g1, g2, e1, zT]
          refine callK_val (xs := [.agg (sV.I zV)]) (by simp [zV]) hz (by simp [T.noImm]) ?_
          simp [zV]
          exact fin_own (by simp; rfl) (by simp [g1, g2, e2, t2, zV]) (by simp) (by simp [g1, g2, e2, t2, zV])
    · simp [g1, g2]
      exact fin_own (by simp; rfl) (by simp [zV, g1, g2]) (by simp) (by simp [zV, g1, g2])
  · simp [g1]
    exact fin_own (by simp; rfl) (by simp [zV, g1]) (by simp) (by simp [zV, g1])
end Go.Proofs.Ytonljcphaiklgaa.V
/- Copies of texts, props, nodes, edges, graphs. -/
namespace Go.Proofs.Ytonljcphaiklgaa.V
open Go
set_option linter.unusedVariables false
set_option linter.unusedSimpArgs false
set_option maxHeartbeats 16000000
theorem cloneTexts_c (l : List Tx) (hl : l.length ≤ 2 ^ 20) : Rv Try.prog 84 [.imm (l.map sS.I)] (.own 1 (l.map sS.O)) := by
  refine via_impl_cloneTexts (by simp) ?_
  by_cases h0 : l.length = 0
  · obtain rfl : l = [] := List.length_eq_zero_iff.1 h0
    simp [pc_impl_cloneTexts]
    exact fin_own rfl (by simp) (by simp) (by simp)
  · have h0' : ¬ l = [] := fun h => h0 (by simp [h])
    have hb1 : (l.length : Int) * 16 ≤ 35184372088832 := by omega
    have hb2 : (l.length : Int) ≤ 35184372088832 := by omega
    simp [pc_impl_cloneTexts, h0, h0', hb1, hb2]
    refine hookH_copy (sz := 1) (e := 9) (i := Try.t9) (dT := 31) (sT := 31) (rows := List.replicate l.length [.s []]) (by simp [hget]) rfl rfl (by kernel_rfl) (by kernel_rfl) (by kernel_rfl) (by simp) (by simp [T.cell]) (by simp) (by omega) ?_
    simp
    exact fin_own rfl (by simp) (by simp) (by simp)
theorem cloneProps_c (l : List Pr) (hl : l.length ≤ 2 ^ 20) (h : ∀ p ∈ l, Rv Try.prog 99 [.agg (sV.I p.val)] (.agg (sV.O p.val))) : Rv Try.prog 85 [.imm (l.map sP.I)] (.own 5 (l.map sP.O)) := by
  refine via_impl_cloneProps (by simp) ?_
  by_cases h0 : l.length = 0
  · obtain rfl : l = [] := List.length_eq_zero_iff.1 h0
    simp [pc_impl_cloneProps]
    exact fin_own rfl (by simp) (by simp) (by simp)
  · have h0' : ¬ l = [] := fun h => h0 (by simp [h])
    have hb1 : (l.length : Int) * 72 ≤ 35184372088832 := by omega
    have hb2 : (l.length : Int) ≤ 35184372088832 := by omega
    simp [pc_impl_cloneProps, h0, h0', hb1, hb2]
    refine W_for (fun i => ⟨[(14, .i .i64 i), (13, .i .i64 l.length), (12, .imm (l.map sP.I)), (3, .ref 0 0 l.length)], [(0, .arr 5 ((l.map sP.O).take i ++ List.replicate (l.length - i) [.s [], .i .i64 0, .i .i64 0, .s [], .nl]))], 20, 0⟩) l.length (fun i => True) (Wk.less rfl (by simp) (by simp) (by simp)) trivial ?_
    intro i hi _
    rcases Nat.lt_or_ge i l.length with h2 | h2
    · obtain ⟨v, hx⟩ : ∃ v, l[i]? = some v := ⟨_, List.getElem?_eq_getElem h2⟩
      have hw2 : IntKind.i64.wrap ((i : Int) + 1) = (i : Int) + 1 := wrap1 (by omega)
      have hrow := fill_row sP.O l (z := [.s [], .i .i64 0, .i .i64 0, .s [], .nl]) h2
      have hset := fill_set sP.O l (z := [.s [], .i .i64 0, .i .i64 0, .s [], .nl]) h2
      have hnew := fill_new sP.O hx
      have hg := fun r => fill_get sP.O (l := l) (r := r) (z := [.s [], .i .i64 0, .i .i64 0, .s [], .nl]) h2
      have hs2 := fun r r' => fill_set2 sP.O (l := l) (r := r) (r' := r') (z := [.s [], .i .i64 0, .i .i64 0, .s [], .nl]) h2
      have hcl := fill_clean sP (l := l) (z := [.s [], .i .i64 0, .i .i64 0, .s [], .nl]) (by rfl) (i + 1) (l.length - (i + 1))
      have hv := h v (List.mem_of_getElem? hx)
      obtain ⟨nm, k', n', s', l'⟩ := v
      simp only at hv
      simp [-getElem?_pos, hx, hw2, h2]
      repeat refine need_mk (by decide +kernel) ?_
      refine callK_val (by simp) hv (by simp [T.noImm]) ?_
      simp [-getElem?_pos, hx, hw2, h2, hrow, hset]
      repeat refine need_mk (by decide +kernel) ?_
      refine Wk.trans (Wk.join (b := 0) (r := i) (cs := sP.O ⟨nm, .mk k' n' s' l'⟩) rfl (by simp [hg]; rfl) (by simp) (by simp)) ?_
      exact Wk.to1 rfl (by simp) (by simp) (by simp [hs2, hnew]) hcl (by omega)
    · have h4 : ¬ i < l.length := by omega
      have h5 : l.length - i = 0 := by omega
      have e : (l.map sP.O).take i = l.map sP.O := List.take_of_length_le (by simp; omega)
      simp [h4, h5, e]
      exact fin_own (by simp; rfl) (by simp) (by simp) (by simp)
end Go.Proofs.Ytonljcphaiklgaa.V
/- Copies of props by the spec. -/
namespace Go.Proofs.Ytonljcphaiklgaa.V
open Go
set_option linter.unusedVariables false
set_option linter.unusedSimpArgs false
set_option maxHeartbeats 16000000
theorem rns_cl {f : Nat → Nat} : ∀ {ts : List T}, ts.all T.clean = true → rns f ts = ts
  | [], h => by simp [rns]
  | t :: ts, h => by
    simp only [List.all_cons, Bool.and_eq_true] at h
    have : t.rn f = t := by have := h.1; cases t <;> simp [T.clean] at this <;> simp [T.rn]
    simp only [rns, this, rns_cl h.2]
theorem rnr_cl {f : Nat → Nat} : ∀ {rs : List (List T)}, cleanR rs = true → rs.map (rns f) = rs
  | [], h => by simp
  | r :: rs, h => by
    simp only [cleanR, List.all_cons, Bool.and_eq_true] at h
    simp only [List.map_cons, rns_cl h.1]
    rw [rnr_cl (by simpa only [cleanR] using h.2)]
theorem Wk.one {s : St} {b sz nx : Nat} {tm : List (Nat × T)} {rows : List (List T)} (hfb : s.fb = 0) (hnx : 0 < nx) (htm : ∀ p ∈ tm, p.2.rn (fun t => if t = 0 then b else t) = tget s.tm p.1 ∧ ∀ x ∈ p.2.names, x < nx) (hb : hget s.hp b = some (.arr sz rows)) (hcl : cleanR rows = true) : Wk s ⟨tm, [(0, .arr sz rows)], nx, 0⟩ := by
  refine Wk.ren (fun t => if t = 0 then b else t) hfb.symm (by omega) (by omega) htm ?_ (by simp)
  intro p hp
  simp only [List.mem_singleton] at hp
  subst hp
  refine ⟨by simp only [Blk.rn, if_true, rnr_cl hcl]; exact hb, hnx, ?_⟩
  intro x hx
  rw [Blk.names, namesr_clean hcl] at hx
  simp at hx
theorem l2Ps_c (l : List Pr) (hl : l.length ≤ 2 ^ 20) (h : ∀ p ∈ l, p.val.cnt ≤ 2 ^ 20) : Rv Try.prog 115 [.imm (l.map sP.I)] (.own 5 (l.map sP.O)) := by
  refine via_spec_l2Ps (by simp) ?_
  simp [pc_spec_l2Ps]
  refine W_for (fun i => ⟨[(4, .i .i64 i), (3, .ref 0 0 i), (0, .imm (l.map sP.I))], [(0, .arr 5 ((l.map sP.O).take i))], 20, 0⟩) l.length (fun i => True) (Wk.less rfl (by simp) (by simp) (by simp)) trivial ?_
  intro i hi _
  rcases Nat.lt_or_ge i l.length with h2 | h2
  · obtain ⟨v, hx⟩ : ∃ v, l[i]? = some v := ⟨_, List.getElem?_eq_getElem h2⟩
    have hw2 : IntKind.i64.wrap ((i : Int) + 1) = (i : Int) + 1 := wrap1 (by omega)
    have hv := l1Copy_c v.val (h v (List.mem_of_getElem? hx))
    have htt : List.take i (List.take i (l.map sP.O)) = List.take i (l.map sP.O) := by rw [List.take_take]; simp
    have hlA : (List.take i (l.map sP.O)).length = i := by simp; omega
    have hnew := fill_new sP.O hx
    have hcA : cleanR (List.take i (l.map sP.O)) = true := by rw [← List.map_take]; exact sP.crO _
    have hbig : (i + 1) * 72 ≤ 35184372088832 := by omega
    have hmin : min i l.length = i := by omega
    obtain ⟨nm, k', n', s', l'⟩ := v
    simp only at hv
    simp [-getElem?_pos, hx, hw2, h2, hmin]
    repeat refine need_mk (by decide +kernel) ?_
    refine callK_val (by simp) hv (by simp [T.noImm]) ?_
    simp [-getElem?_pos, hx, hw2, h2, hmin, htt, hbig]
    generalize List.take i (l.map sP.O) = A at *
    repeat refine need_mk (by decide +kernel) ?_
    have hg := app1_get hlA
    have hs := app1_set hlA
    refine Wk.trans (Wk.join (b := 132) (r := i) (cs := sP.O ⟨nm, .mk k' n' s' l'⟩) rfl (by simp [hg]; rfl) (by simp) (by simp)) ?_
    have hcN : cleanR (List.take (i + 1) (l.map sP.O)) = true := by rw [← List.map_take]; exact sP.crO _
    exact Wk.one (b := 132) rfl (by simp) (by simp) (by simp [hs, hnew]) hcN
  · have h4 : ¬ i < l.length := by omega
    have e : (l.map sP.O).take i = l.map sP.O := List.take_of_length_le (by simp; omega)
    obtain rfl : i = l.length := by omega
    simp [e]
    exact fin_own (by simp; rfl) (by simp) (by simp) (by simp)
end Go.Proofs.Ytonljcphaiklgaa.V
/- Copies of graphs by the spec. -/
namespace Go.Proofs.Ytonljcphaiklgaa.V
open Go
set_option linter.unusedVariables false
set_option linter.unusedSimpArgs false
set_option maxHeartbeats 16000000
theorem l2Copy_c (g : Gr) (hc : g.cnt ≤ 2 ^ 20) : Rv Try.prog 80 [.agg (sG.I g)] (.agg (sG.O g)) := by
  obtain ⟨l, es, nn, ne⟩ := g
  unfold Gr.cnt cl at hc
  simp only at hc
  have hpN : ∀ x ∈ l, x.labels.length ≤ 2 ^ 20 ∧ x.props.length ≤ 2 ^ 20 ∧ ∀ p ∈ x.props, p.val.cnt ≤ 2 ^ 20 := by
    intro x hx
    have h1 := sums_mem (c := Nd.cnt) hx
    have h0 : x.cnt = x.labels.length + sums List.length x.labels + (x.props.length + sums Pr.cnt x.props) := rfl
    refine ⟨by omega, by omega, fun p hp => ?_⟩
    have h2 := sums_mem (c := Pr.cnt) hp
    have h3 : p.cnt = p.name.length + p.val.cnt := rfl
    omega
  have hpE : ∀ x ∈ es, x.props.length ≤ 2 ^ 20 ∧ ∀ p ∈ x.props, p.val.cnt ≤ 2 ^ 20 := by
    intro x hx
    have h1 := sums_mem (c := Eg.cnt) hx
    have h0 : x.cnt = x.kind.length + (x.props.length + sums Pr.cnt x.props) := rfl
    refine ⟨by omega, fun p hp => ?_⟩
    have h2 := sums_mem (c := Pr.cnt) hp
    have h3 : p.cnt = p.name.length + p.val.cnt := rfl
    omega
  refine via_spec_l2Copy (by simp) ?_
  simp [pc_spec_l2Copy]
  refine W_for (fun i => ⟨[(4, .i .i64 i), (1, .ptr 0 0 0), (2, .ptr 1 0 0), (3, .ptr 2 0 0)], [(0, .arr 4 [sG.I ⟨l, es, nn, ne⟩]), (1, .arr 4 [[.nl, .nl, .i .i64 0, .i .i64 0]]), (2, .arr 4 [[.own 3 ((l.map sN.O).take i), .nl, .i .i64 nn, .i .i64 ne]])], 20, 0⟩) l.length (fun _ => True) ?_ trivial ?_
  · refine Wk.trans (Wk.join (b := 2) (r := 0) (cs := [.own 3 [], .nl, .i .i64 nn, .i .i64 ne]) rfl rfl (by simp) (by simp)) ?_
    exact Wk.less rfl (by simp) (by simp) (by simp)
  intro i hi _
  rcases Nat.lt_or_ge i l.length with h1 | h1
  · obtain ⟨x, hx⟩ : ∃ x, l[i]? = some x := ⟨_, List.getElem?_eq_getElem h1⟩
    have hw : IntKind.i64.wrap ((i : Int) + 1) = (i : Int) + 1 := wrap1 (by omega)
    have hmin : min i l.length = i := by omega
    have htt : List.take i (List.take i (l.map sN.O)) = List.take i (l.map sN.O) := by rw [List.take_take]; simp
    have hlA : (List.take i (l.map sN.O)).length = i := by simp; omega
    have hnew := fill_new sN.O hx
    have hcA : cleanR (List.take i (l.map sN.O)) = true := by rw [← List.map_take]; exact sN.crO _
    have hbig : (i + 1) * 56 ≤ 35184372088832 := by omega
    obtain ⟨hb1, hb2, hb3⟩ := hpN x (List.mem_of_getElem? hx)
    have hps := l2Ps_c x.props hb2 hb3
    obtain ⟨id, lb, ps⟩ := x
    simp only at hb1 hb2 hb3 hps
    have hlb : lb.length * 16 ≤ 35184372088832 := by omega
    simp [-getElem?_pos, hx, hw, h1, hmin, hlb]
    repeat refine need_mk (by decide +kernel) ?_
    refine callK_val (by simp) hps (by simp [T.noImm]) ?_
    simp [-getElem?_pos, hx, hw, h1, hmin, htt, hbig, hlb]
    generalize List.take i (l.map sN.O) = A at *
    repeat refine need_mk (by decide +kernel) ?_
    have hg := app1_get hlA
    have hs := app1_set hlA
    have ht := app1_take hlA
    have hSS : lb.map sS.I = lb.map sS.O := rfl
    refine Wk.trans (Wk.join (b := 126) (r := i) (cs := sN.O ⟨id, lb, ps⟩) rfl (by simp [hg]; rfl) (by simp [hSS]) (by simp)) ?_
    refine Wk.trans (Wk.join (b := 2) (r := 0) (cs := [.own 3 ((l.map sN.O).take (i + 1)), .nl, .i .i64 nn, .i .i64 ne]) rfl rfl (by simp [hnew, hs, hcA, hlA, ht, sN.cO]) (by simp)) ?_
    exact Wk.to rfl (by simp) (by simp) (by simp [Blk.names]) (by simp)
  have h2 : ¬ i < l.length := by omega
  have e : (l.map sN.O).take i = l.map sN.O := List.take_of_length_le (by simp; omega)
  simp [h2, e]
  refine W_for (fun i => ⟨[(6, .i .i64 i), (1, .ptr 0 0 0), (2, .ptr 1 0 0), (3, .ptr 2 0 0)], [(0, .arr 4 [sG.I ⟨l, es, nn, ne⟩]), (1, .arr 4 [[.nl, .nl, .i .i64 0, .i .i64 0]]), (2, .arr 4 [[.own 3 (l.map sN.O), .own 5 ((es.map sE.O).take i), .i .i64 nn, .i .i64 ne]])], 20, 0⟩) es.length (fun _ => True) ?_ trivial ?_
  · refine Wk.trans (Wk.join (b := 2) (r := 0) (cs := [.own 3 (l.map sN.O), .own 5 [], .i .i64 nn, .i .i64 ne]) rfl rfl (by simp) (by simp)) ?_
    exact Wk.less rfl (by simp) (by simp) (by simp)
  clear h2 e h1 hi
  intro i hi _
  rcases Nat.lt_or_ge i es.length with h1 | h1
  · obtain ⟨x, hx⟩ : ∃ x, es[i]? = some x := ⟨_, List.getElem?_eq_getElem h1⟩
    have hw : IntKind.i64.wrap ((i : Int) + 1) = (i : Int) + 1 := wrap1 (by omega)
    have hmin : min i es.length = i := by omega
    have htt : List.take i (List.take i (es.map sE.O)) = List.take i (es.map sE.O) := by rw [List.take_take]; simp
    have hlA : (List.take i (es.map sE.O)).length = i := by simp; omega
    have hnew := fill_new sE.O hx
    have hcA : cleanR (List.take i (es.map sE.O)) = true := by rw [← List.map_take]; exact sE.crO _
    have hbig : (i + 1) * 64 ≤ 35184372088832 := by omega
    obtain ⟨hb2, hb3⟩ := hpE x (List.mem_of_getElem? hx)
    have hps := l2Ps_c x.props hb2 hb3
    obtain ⟨id, kd, fr, to, ps⟩ := x
    simp only at hb2 hb3 hps
    simp [-getElem?_pos, hx, hw, h1, hmin]
    repeat refine need_mk (by decide +kernel) ?_
    refine callK_val (by simp) hps (by simp [T.noImm]) ?_
    simp [-getElem?_pos, hx, hw, h1, hmin, htt, hbig]
    generalize List.take i (es.map sE.O) = A at *
    repeat refine need_mk (by decide +kernel) ?_
    have hg := app1_get hlA
    have hs := app1_set hlA
    have ht := app1_take hlA
    refine Wk.trans (Wk.join (b := 27) (r := i) (cs := sE.O ⟨id, kd, fr, to, ps⟩) rfl (by simp [hg]; rfl) (by simp) (by simp)) ?_
    refine Wk.trans (Wk.join (b := 2) (r := 0) (cs := [.own 3 (l.map sN.O), .own 5 ((es.map sE.O).take (i + 1)), .i .i64 nn, .i .i64 ne]) rfl rfl (by simp [hnew, hs, hcA, hlA, ht, sE.cO]) (by simp)) ?_
    exact Wk.to rfl (by simp) (by simp) (by simp [Blk.names]) (by simp)
  · have h2 : ¬ i < es.length := by omega
    have e : (es.map sE.O).take i = es.map sE.O := List.take_of_length_le (by simp; omega)
    simp [h2, e]
    exact fin_own (by simp; rfl) (by simp) (by simp) (by simp)
end Go.Proofs.Ytonljcphaiklgaa.V
/- Copies of graphs. -/
namespace Go.Proofs.Ytonljcphaiklgaa.V
open Go
set_option linter.unusedVariables false
set_option linter.unusedSimpArgs false
set_option maxHeartbeats 16000000
theorem l2DropEdge_c (g : Gr) (hl : g.edges.length ≤ 2 ^ 20) (id : Int) : Rv Try.prog 81 [.agg (sG.I g), .i .i64 id] (.agg [.imm (g.nodes.map sN.I), .own 5 ((g.edges.filter (fun e => decide (e.id ≠ id))).map sE.I), .i .i64 g.nn, .i .i64 g.ne]) := by
  obtain ⟨l, es, nn, ne⟩ := g
  simp only at hl ⊢
  refine via_spec_l2DropEdge (by simp) ?_
  simp [pc_spec_l2DropEdge]
  refine W_for (fun i => ⟨[(6, .i .i64 i), (5, .ref 2 0 ((es.take i).filter (fun e => decide (e.id ≠ id))).length), (1, .i .i64 id), (2, .ptr 0 0 0), (4, .ptr 1 0 0)], [(0, .arr 4 [sG.I ⟨l, es, nn, ne⟩]), (1, .arr 4 [[.nl, .nl, .i .i64 0, .i .i64 0]]), (2, .arr 5 (((es.take i).filter (fun e => decide (e.id ≠ id))).map sE.I))], 20, 0⟩) es.length (fun _ => True) ?_ trivial ?_
  · exact Wk.less rfl (by simp) (by simp) (by simp)
  intro i hi _
  rcases Nat.lt_or_ge i es.length with h1 | h1
  · obtain ⟨x, hx⟩ : ∃ x, es[i]? = some x := ⟨_, List.getElem?_eq_getElem h1⟩
    have hw : IntKind.i64.wrap ((i : Int) + 1) = (i : Int) + 1 := wrap1 (by omega)
    have hfl : ((es.take i).filter (fun e => decide (e.id ≠ id))).length ≤ i := Nat.le_trans (List.length_filter_le _ _) (by simp; omega)
    have htk : es.take (i + 1) = es.take i ++ [x] := by rw [List.take_add_one, hx]; simp
    obtain ⟨a, b, c, d, e⟩ := x
    by_cases h : a = id
    · have hn : (es.take (i + 1)).filter (fun e => decide (e.id ≠ id)) = (es.take i).filter (fun e => decide (e.id ≠ id)) := by rw [htk, List.filter_append]; simp [h]
      rw [hn]
      generalize (es.take i).filter (fun e => decide (e.id ≠ id)) = A at *
      simp [-getElem?_pos, hx, hw, h1, h]
      exact Wk.to rfl (by simp) (by simp) (by simp [Blk.names, namesr_clean (sE.crI A)]) (by simp)
    · have hn : (es.take (i + 1)).filter (fun e => decide (e.id ≠ id)) = (es.take i).filter (fun e => decide (e.id ≠ id)) ++ [⟨a, b, c, d, e⟩] := by rw [htk, List.filter_append]; simp [h]
      rw [hn]
      generalize (es.take i).filter (fun e => decide (e.id ≠ id)) = A at *
      have hbig : (A.length + 1) * 64 ≤ 35184372088832 := by omega
      simp [-getElem?_pos, hx, hw, h1, h, hbig]
      have hcl := sE.crI (A ++ [⟨a, b, c, d, e⟩])
      have hmp : (A ++ [(⟨a, b, c, d, e⟩ : Eg)]).map sE.I = A.map sE.I ++ [[.i .i64 a, .s b, .i .i64 c, .i .i64 d, .imm (e.map sP.I)]] := by simp
      rw [hmp] at hcl
      generalize A.map sE.I ++ [[.i .i64 a, .s b, .i .i64 c, .i .i64 d, .imm (e.map sP.I)]] = B at *
      refine Wk.ren (fun t => if t = 2 then 21 else t) rfl (by simp) (by simp) (by simp) ?_ (by simp)
      simp [Blk.rn, Blk.names, namesr_clean hcl, rnr_cl hcl]
  · have h2 : ¬ i < es.length := by omega
    have e : es.take i = es := List.take_of_length_le (by omega)
    simp [h2, e]
    exact fin_own (by simp; rfl) (by simp) (by simp) (by simp)
end Go.Proofs.Ytonljcphaiklgaa.V
/- Edges that go. -/
namespace Go.Proofs.Ytonljcphaiklgaa.V
open Go
set_option linter.unusedVariables false
set_option linter.unusedSimpArgs false
set_option maxHeartbeats 16000000
theorem EdgeDrop1_c (e : Eg) (id : Int) : Rv Try.prog 78 [.agg (sE.I e), .pim [.i .i64 id]] (.b (decide (e.id = id))) := by
  obtain ⟨a, b, c, d, ps⟩ := e
  refine via_impl_EdgeDrop_1 (by simp) ?_
  simp [pc_impl_EdgeDrop_1]
  exact fin_val rfl (by simp) (by simp)
/-- A slice that is nil, as one of a block without rows. -/
theorem Wk.nil {s : St} {j k sz : Nat} (h : tget s.tm j = .nl) (hk : s.nx ≤ k) : Wk s ⟨(j, .ref k 0 0) :: s.tm, hset s.hp k (.arr sz []), k + 1, s.fb⟩ := by
  rintro E a w ⟨⟨ρ, O, F, hR⟩, hE⟩
  have h1 := hR.set1 (t := k) (k := .arr sz []) (Ft := []) (M := []) (A' := (· < k + 1)) (ρ' := fun t => if t = k then none else ρ t) (w' := w) (hp0 := s.hp)
    (fun t ht => by omega) (fun t ht => if_neg (by omega)) (fun t ht => by rw [if_neg (by omega)]; exact hR.ρ0 t ht) (fun _ _ => rfl) (fun _ _ h => h) (fun _ _ _ _ _ _ => rfl) (Keep.refl _ _) (by simp) (by omega)
    (by simp only [BR]; exact .inl ⟨trivial, trivial, .inl (by simp)⟩) (by simp) (by simp) (by simp)
  refine ⟨⟨_, O, _, h1.size, h1.defers, h1.fb, h1.ρ0, h1.O0, h1.Olt, h1.Onew, fun i => ?_, h1.hp, h1.nodup, h1.apart, h1.mine, h1.keep⟩, by simp only; omega⟩
  simp only [tget]
  split
  · rename_i e
    subst e
    have := hR.tm j
    rw [h] at this
    simp only [CV, CI] at this
    simp only [CV]
    exact ⟨by omega, .inl ⟨by simp, trivial, trivial, _, this⟩⟩
  · exact h1.tm i
def dE (e : Eg) : List T := [.i .i64 e.id, .s e.kind, .i .i64 e.frm, .i .i64 e.to, .dead]
theorem without_c (l : List Eg) (hl : l.length ≤ 2 ^ 20) (q : Eg → Bool) (f : Nat) (caps : List T) (hf : ∀ e ∈ l, Rv Try.prog f (.agg (sE.I e) :: caps) (.b (q e))) (hok : okCall Try.prog f = true) (g : Nat) (hc : ∀ (s : St) (j : Nat), handed s [] j caps = some caps) (hn : namess caps = []) (hrc : ∀ k : Nat → Nat, rns k caps = caps) : Ret Try.prog 74 [.agg [.own 5 (l.map sE.O), .fn g []], .fn f caps] (.own 5 ((l.filter (fun e => !q e)).map sE.O)) [.agg [.own 5 (l.map dE), .dead], .dead] := by
  refine via_impl_numbered_impl_Edge_without (by simp) ?_
  simp [pc_impl_numbered_impl_Edge_without]
  refine W_for (fun i => ⟨[(11, .i .i64 i), (10, .i .i64 l.length), (9, .ref 0 0 l.length), (5, .ref 2 0 ((l.take i).filter (fun e => !q e)).length), (1, .fn f caps)], [(0, .arr 5 ((l.map dE).take i ++ (l.map sE.O).drop i)), (2, .arr 5 (((l.take i).filter (fun e => !q e)).map sE.O))], 20, 1⟩) l.length (fun _ => True) ?_ trivial ?_
  · exact Wk.trans (Wk.nil (j := 5) (k := 2) (sz := 5) (by simp) (by simp)) (Wk.less rfl (by simp) (by simp) (by simp))
  intro i hi _
  rcases Nat.lt_or_ge i l.length with h1 | h1
  · obtain ⟨x, hx⟩ : ∃ x, l[i]? = some x := ⟨_, List.getElem?_eq_getElem h1⟩
    have hw : IntKind.i64.wrap ((i : Int) + 1) = (i : Int) + 1 := wrap1 (by omega)
    have hfl : ((l.take i).filter (fun e => !q e)).length ≤ i := Nat.le_trans (List.length_filter_le _ _) (by simp; omega)
    have htk : l.take (i + 1) = l.take i ++ [x] := by rw [List.take_add_one, hx]; simp
    have hrow : ((l.map dE).take i ++ (l.map sE.O).drop i)[i]? = some (sE.O x) := by
      have hlen : ((l.map dE).take i).length = i := by simp; omega
      rw [List.getElem?_append_right (by omega), hlen]; simp [hx]
    have hq := hf x (List.mem_of_getElem? hx)
    obtain ⟨a, b, c, d, ps⟩ := x
    simp [-getElem?_pos, hx, hw, h1, hrow]
    refine need_mk hok ?_
    refine callK_val (by simp [hc]) hq rfl ?_
    have hla : ((l.map dE).take i).length = i := by simp; omega
    have hset : ∀ r, ((l.map dE).take i ++ (l.map sE.O).drop i).set i r = (l.map dE).take i ++ r :: (l.map sE.O).drop (i + 1) := by
      intro r
      rw [List.drop_eq_getElem_cons (by simpa using h1), List.set_append_right _ _ (by omega), hla]; simp
    have hset2 : ∀ r r', ((l.map dE).take i ++ r :: (l.map sE.O).drop (i + 1)).set i r' = (l.map dE).take i ++ r' :: (l.map sE.O).drop (i + 1) := by
      intro r r'
      rw [List.set_append_right _ _ (by omega), hla]; simp
    have hgt : ∀ r, ((l.map dE).take i ++ r :: (l.map sE.O).drop (i + 1))[i]? = some r := by
      intro r
      rw [List.getElem?_append_right (by omega), hla]; simp
    have hnew : (l.map dE).take (i + 1) ++ (l.map sE.O).drop (i + 1) = (l.map dE).take i ++ dE ⟨a, b, c, d, ps⟩ :: (l.map sE.O).drop (i + 1) := by
      rw [fill_new dE hx]; simp
    have hc0 : cleanR ((l.map dE).take i ++ dE ⟨a, b, c, d, ps⟩ :: (l.map sE.O).drop (i + 1)) = true := by
      have h3 := sE.crO (l.drop (i + 1))
      simp only [cleanR, List.map_drop] at h3
      simp only [cleanR, List.all_append, List.all_cons, Bool.and_eq_true]
      refine ⟨?_, by simp [dE, T.clean], h3⟩
      have h4 : ∀ m : List Eg, ((m.map dE).all fun r => r.all T.clean) = true := by intro m; simp [dE, T.clean]
      rw [← List.map_take]; exact h4 _
    have hdE : dE ⟨a, b, c, d, ps⟩ = [.i .i64 a, .s b, .i .i64 c, .i .i64 d, .dead] := rfl
    rw [hdE] at hnew hc0
    by_cases hqx : q ⟨a, b, c, d, ps⟩ = true
    · have hn2 : (l.take (i + 1)).filter (fun e => !q e) = (l.take i).filter (fun e => !q e) := by rw [htk, List.filter_append]; simp [hqx]
      rw [hn2]
      have hcA := sE.crO ((l.take i).filter (fun e => !q e))
      simp [-getElem?_pos, hx, hw, h1, hrow, hqx, hset]
      refine Wk.trans (Wk.join (b := 0) (r := i) (cs := [.i .i64 a, .s b, .i .i64 c, .i .i64 d, .dead]) rfl (by simp [hgt]; rfl) (by simp) (by simp)) ?_
      simp only [hnew]
      exact Wk.to rfl (by simp) (by simp [hn]) (by simp [Blk.names, namesr_clean hc0, namesr_clean hcA, hset2]) (by simp)
    · have hn2 : (l.take (i + 1)).filter (fun e => !q e) = (l.take i).filter (fun e => !q e) ++ [⟨a, b, c, d, ps⟩] := by rw [htk, List.filter_append]; simp [hqx]
      rw [hn2]
      generalize (l.take i).filter (fun e => !q e) = A at *
      have hbig : (A.length + 1) * 64 ≤ 35184372088832 := by omega
      simp [-getElem?_pos, hx, hw, h1, hrow, hqx, hset, hbig]
      have hA : (A.map sE.O).length = A.length := by simp
      have hg2 := app1_get hA
      have hs3 := app1_set hA
      have hcB : cleanR (A.map sE.O ++ [[.i .i64 a, .s b, .i .i64 c, .i .i64 d, .own 5 (ps.map sP.O)]]) = true := by
        have := sE.crO (A ++ [⟨a, b, c, d, ps⟩])
        rw [List.map_append] at this
        simpa only [List.map_cons, List.map_nil, sE_O] using this
      refine Wk.trans (Wk.join (b := 0) (r := i) (cs := [.i .i64 a, .s b, .i .i64 c, .i .i64 d, .dead]) rfl (by simp [hgt]; rfl) (by simp) (by simp)) ?_
      refine Wk.trans (Wk.join (b := 25) (r := A.length) (cs := [.i .i64 a, .s b, .i .i64 c, .i .i64 d, .own 5 (ps.map sP.O)]) rfl (by simp [hg2]; rfl) (by simp) (by simp)) ?_
      simp only [hnew]
      refine Wk.ren (fun t => if t = 2 then 25 else t) rfl (by simp) (by simp) (by simp [rns_clean, hn, hrc]) ?_ (by simp)
      simp [Blk.rn, Blk.names, namesr_clean hc0, namesr_clean hcB, rnr_cl hc0, rnr_cl hcB, hset2, hs3]
  · obtain rfl : i = l.length := by omega
    have hcd : cleanR (l.map dE) = true := by simp [cleanR, dE, T.clean]
    have e1 : (l.map dE).take l.length = l.map dE := List.take_of_length_le (by simp)
    have e2 : (l.map sE.O).drop l.length = [] := by simp
    simp [e1, e2]
    exact fin_ret (ts := [2]) rfl (by simp) (by simp [hcd, e1]) (by simp)
end Go.Proofs.Ytonljcphaiklgaa.V
/- Copies of graphs by the program. -/
namespace Go.Proofs.Ytonljcphaiklgaa.V
open Go
set_option linter.unusedVariables false
set_option linter.unusedSimpArgs false
set_option maxHeartbeats 16000000
abbrev zN : List T := [.i .i64 0, .nl, .nl]
abbrev zE : List T := [.i .i64 0, .s [], .i .i64 0, .i .i64 0, .nl]
def cgs (g : Gr) (N E : T) (rest : List (Nat × T)) (nx : Nat) : St := ⟨rest ++ [(1, .ptr 0 0 0), (2, .ptr 1 0 0), (3, .ptr 2 0 0)], [(0, .arr 4 [sG.I g]), (1, .arr 4 [[.nl, .nl, .i .i64 0, .i .i64 0]]), (2, .arr 4 [[N, E, .i .i64 g.nn, .i .i64 g.ne]])], nx, 0⟩
theorem cg_l1 (g : Gr) (hl : g.nodes.length ≤ 2 ^ 20) (hN : ∀ x ∈ g.nodes, x.labels.length ≤ 2 ^ 20 ∧ x.props.length ≤ 2 ^ 20 ∧ ∀ p ∈ x.props, Rv Try.prog 99 [.agg (sV.I p.val)] (.agg (sV.O p.val))) {Q : Exit → St → Prop}
    (hQ : Q (.exit 0) (cgs g (.own 3 (g.nodes.map sN.O)) .nl [(26, .b false), (25, .i .i64 g.nodes.length), (24, .i .i64 g.nodes.length), (23, .imm (g.nodes.map sN.I))] 20)) :
    @loopH Try.prog modes 79 ⟨lb_impl_cloneGraph_0⟩ (cgs g (.own 3 (List.replicate g.nodes.length zN)) .nl [(25, .i .i64 0), (24, .i .i64 g.nodes.length), (23, .imm (g.nodes.map sN.I))] 20) ⟨Q⟩ := by
  obtain ⟨l, es, nn, ne⟩ := g
  simp only at hl hN hQ
  have hrep : ∀ k, cleanR (List.replicate k zN) = true := by intro k; simp [cleanR, T.clean]
  refine W_for (fun i => cgs ⟨l, es, nn, ne⟩ (.own 3 ((l.map sN.O).take i ++ List.replicate (l.length - i) zN)) .nl [(25, .i .i64 i), (24, .i .i64 l.length), (23, .imm (l.map sN.I))] 20) l.length (fun _ => True) (Wk.less rfl (by simp [cgs]) (by simp [cgs]) (by simp [cgs])) trivial ?_
  intro i hi _
  simp only [cgs, List.cons_append, List.nil_append] at hQ ⊢
  rcases Nat.lt_or_ge i l.length with h1 | h1
  · obtain ⟨x, hx⟩ : ∃ x, l[i]? = some x := ⟨_, List.getElem?_eq_getElem h1⟩
    have hw : IntKind.i64.wrap ((i : Int) + 1) = (i : Int) + 1 := wrap1 (by omega)
    have hrow := fill_row sN.O l (z := zN) h1
    have hset := fill_set sN.O l (z := zN) h1
    have hnew := fill_new sN.O hx
    have hg := fun r => fill_get sN.O (l := l) (r := r) (z := zN) h1
    have hs2 := fun r r' => fill_set2 sN.O (l := l) (r := r) (r' := r') (z := zN) h1
    obtain ⟨k1, k2, k3⟩ := hN x (List.mem_of_getElem? hx)
    have ht := cloneTexts_c x.labels k1
    have hps := cloneProps_c x.props k2 k3
    obtain ⟨id, lb, ps⟩ := x
    simp only at ht hps k1 k2
    simp [lb_impl_cloneGraph_0, -getElem?_pos, hx, hw, h1, hrow, hset]
    repeat refine need_mk (by decide +kernel) ?_
    refine callK_val (by simp) ht (by simp [T.noImm]) ?_
    simp [-getElem?_pos, hx, hw, h1, hrow, hset]
    repeat refine need_mk (by decide +kernel) ?_
    refine callK_val (by simp) hps (by simp [T.noImm]) ?_
    have hml : min i l.length + (l.length - i) = l.length := by omega
    have hmi : (min (i : Int) (l.length : Int)) + ((l.length - i : Nat) : Int) = l.length := by omega
    have htl : ∀ r, ((l.map sN.O).take i ++ r :: List.replicate (l.length - (i + 1)) zN).take l.length = (l.map sN.O).take i ++ r :: List.replicate (l.length - (i + 1)) zN := fun r => List.take_of_length_le (by simp; omega)
    have hle : l.length ≤ min i l.length + (l.length - (i + 1) + 1) := by omega
    have hcA : cleanR ((l.map sN.O).take i) = true := by rw [← List.map_take]; exact sN.crO _
    simp [-getElem?_pos, hx, hw, h1, hrow, hset, hml, hmi]
    repeat refine need_mk (by decide +kernel) ?_
    refine Wk.trans (Wk.join (b := 30) (r := i) (cs := sN.O ⟨id, lb, ps⟩) rfl (by simp [hg]; rfl) (by simp) (by simp)) ?_
    refine Wk.trans (Wk.join (b := 2) (r := 0) (cs := [.own 3 ((l.map sN.O).take (i + 1) ++ List.replicate (l.length - (i + 1)) zN), .nl, .i .i64 nn, .i .i64 ne]) rfl rfl (by simp [hs2, hnew, hle, htl, hcA, hrep]) (by simp)) ?_
    exact Wk.to rfl (by simp) (by simp) (by simp [Blk.names]) (by simp)
  · have h2 : ¬ i < l.length := by omega
    obtain rfl : i = l.length := by omega
    have e1 : (l.map sN.O).take l.length = l.map sN.O := List.take_of_length_le (by simp)
    simp [lb_impl_cloneGraph_0, e1]
    exact hQ
theorem cg_l2 (g : Gr) (hl : g.edges.length ≤ 2 ^ 20) (hE : ∀ x ∈ g.edges, x.props.length ≤ 2 ^ 20 ∧ ∀ p ∈ x.props, Rv Try.prog 99 [.agg (sV.I p.val)] (.agg (sV.O p.val))) {Q : Exit → St → Prop}
    (hQ : Q (.exit 2) (cgs g (.own 3 (g.nodes.map sN.O)) (.own 5 (g.edges.map sE.O)) [(57, .b false), (56, .i .i64 g.edges.length), (55, .i .i64 g.edges.length), (54, .imm (g.edges.map sE.I))] 60)) :
    @loopH Try.prog modes 79 ⟨lb_impl_cloneGraph_1⟩ (cgs g (.own 3 (g.nodes.map sN.O)) (.own 5 (List.replicate g.edges.length zE)) [(56, .i .i64 0), (55, .i .i64 g.edges.length), (54, .imm (g.edges.map sE.I))] 60) ⟨Q⟩ := by
  obtain ⟨l, es, nn, ne⟩ := g
  simp only at hl hE hQ
  have hrep : ∀ k, cleanR (List.replicate k zE) = true := by intro k; simp [cleanR, T.clean]
  refine W_for (fun i => cgs ⟨l, es, nn, ne⟩ (.own 3 (l.map sN.O)) (.own 5 ((es.map sE.O).take i ++ List.replicate (es.length - i) zE)) [(56, .i .i64 i), (55, .i .i64 es.length), (54, .imm (es.map sE.I))] 60) es.length (fun _ => True) (Wk.less rfl (by simp [cgs]) (by simp [cgs]) (by simp [cgs])) trivial ?_
  intro i hi _
  simp only [cgs, List.cons_append, List.nil_append] at hQ ⊢
  rcases Nat.lt_or_ge i es.length with h1 | h1
  · obtain ⟨x, hx⟩ : ∃ x, es[i]? = some x := ⟨_, List.getElem?_eq_getElem h1⟩
    have hw : IntKind.i64.wrap ((i : Int) + 1) = (i : Int) + 1 := wrap1 (by omega)
    have hrow := fill_row sE.O es (z := zE) h1
    have hset := fill_set sE.O es (z := zE) h1
    have hnew := fill_new sE.O hx
    have hg := fun r => fill_get sE.O (l := es) (r := r) (z := zE) h1
    have hs2 := fun r r' => fill_set2 sE.O (l := es) (r := r) (r' := r') (z := zE) h1
    obtain ⟨k2, k3⟩ := hE x (List.mem_of_getElem? hx)
    have hps := cloneProps_c x.props k2 k3
    obtain ⟨id, kd, fr, to, ps⟩ := x
    simp only at hps k2
    have hml : min i es.length + (es.length - i) = es.length := by omega
    have hmi : (min (i : Int) (es.length : Int)) + ((es.length - i : Nat) : Int) = es.length := by omega
    have htl : ∀ r, ((es.map sE.O).take i ++ r :: List.replicate (es.length - (i + 1)) zE).take es.length = (es.map sE.O).take i ++ r :: List.replicate (es.length - (i + 1)) zE := fun r => List.take_of_length_le (by simp; omega)
    have hle : es.length ≤ min i es.length + (es.length - (i + 1) + 1) := by omega
    have hcA : cleanR ((es.map sE.O).take i) = true := by rw [← List.map_take]; exact sE.crO _
    simp [lb_impl_cloneGraph_1, -getElem?_pos, hx, hw, h1, hrow, hset, hml, hmi]
    repeat refine need_mk (by decide +kernel) ?_
    refine callK_val (by simp) hps (by simp [T.noImm]) ?_
    simp [-getElem?_pos, hx, hw, h1, hrow, hset, hml, hmi]
    repeat refine need_mk (by decide +kernel) ?_
    refine Wk.trans (Wk.join (b := 70) (r := i) (cs := sE.O ⟨id, kd, fr, to, ps⟩) rfl (by simp [hg]; rfl) (by simp) (by simp)) ?_
    refine Wk.trans (Wk.join (b := 2) (r := 0) (cs := [.own 3 (l.map sN.O), .own 5 ((es.map sE.O).take (i + 1) ++ List.replicate (es.length - (i + 1)) zE), .i .i64 nn, .i .i64 ne]) rfl rfl (by simp [hs2, hnew, hle, htl, hcA, hrep]) (by simp)) ?_
    exact Wk.to rfl (by simp) (by simp) (by simp [Blk.names]) (by simp)
  · have h2 : ¬ i < es.length := by omega
    obtain rfl : i = es.length := by omega
    have e1 : (es.map sE.O).take es.length = es.map sE.O := List.take_of_length_le (by simp)
    simp [lb_impl_cloneGraph_1, e1]
    exact hQ
theorem cloneGraph_c (g : Gr) (hc : g.cnt ≤ 2 ^ 20) (hN : ∀ x ∈ g.nodes, ∀ p ∈ x.props, Rv Try.prog 99 [.agg (sV.I p.val)] (.agg (sV.O p.val))) (hE : ∀ x ∈ g.edges, ∀ p ∈ x.props, Rv Try.prog 99 [.agg (sV.I p.val)] (.agg (sV.O p.val))) : Rv Try.prog 71 [.agg (sG.I g)] (.agg (sG.O g)) := by
  have hpN : ∀ x ∈ g.nodes, x.labels.length ≤ 2 ^ 20 ∧ x.props.length ≤ 2 ^ 20 ∧ ∀ p ∈ x.props, Rv Try.prog 99 [.agg (sV.I p.val)] (.agg (sV.O p.val)) := by
    intro x hx
    have h1 := sums_mem (c := Nd.cnt) hx
    have h0 : x.cnt = x.labels.length + sums List.length x.labels + (x.props.length + sums Pr.cnt x.props) := rfl
    unfold Gr.cnt cl at hc
    exact ⟨by omega, by omega, hN x hx⟩
  have hpE : ∀ x ∈ g.edges, x.props.length ≤ 2 ^ 20 ∧ ∀ p ∈ x.props, Rv Try.prog 99 [.agg (sV.I p.val)] (.agg (sV.O p.val)) := by
    intro x hx
    have h1 := sums_mem (c := Eg.cnt) hx
    have h0 : x.cnt = x.kind.length + (x.props.length + sums Pr.cnt x.props) := rfl
    unfold Gr.cnt cl at hc
    exact ⟨by omega, hE x hx⟩
  have hl1 : g.nodes.length ≤ 2 ^ 20 := by unfold Gr.cnt cl at hc; omega
  have hl2 : g.edges.length ≤ 2 ^ 20 := by unfold Gr.cnt cl at hc; omega
  have L1 := fun {Q} => @cg_l1 g hl1 hpN Q
  have L2 := fun {Q} => @cg_l2 g hl2 hpE Q
  obtain ⟨l, es, nn, ne⟩ := g
  simp only [cgs, List.cons_append, List.nil_append] at L1 L2 hl1 hl2
  refine via_impl_cloneGraph (by simp) ?_
  have hb1 : (l.length : Int) * 56 ≤ 35184372088832 := by omega
  have hb2 : (l.length : Int) ≤ 35184372088832 := by omega
  have hb3 : (es.length : Int) * 64 ≤ 35184372088832 := by omega
  have hb4 : (es.length : Int) ≤ 35184372088832 := by omega
  have hrep : ∀ k, cleanR (List.replicate k zN) = true := by intro k; simp [cleanR, T.clean]
  have hrepE : ∀ k, cleanR (List.replicate k zE) = true := by intro k; simp [cleanR, T.clean]
  by_cases h0 : l.length = 0
  · simp [pc_impl_cloneGraph, h0]
    refine W_wk (s' := ⟨[(25, .i .i64 0), (24, .i .i64 l.length), (23, .imm (l.map sN.I)), (1, .ptr 0 0 0), (2, .ptr 1 0 0), (3, .ptr 2 0 0)], [(0, .arr 4 [sG.I ⟨l, es, nn, ne⟩]), (1, .arr 4 [[.nl, .nl, .i .i64 0, .i .i64 0]]), (2, .arr 4 [[.own 3 (List.replicate l.length zN), .nl, .i .i64 nn, .i .i64 ne]])], 20, 0⟩) ?_ (L1 ?_)
    · refine Wk.trans (Wk.join (b := 2) (r := 0) (cs := [.own 3 [], .nl, .i .i64 nn, .i .i64 ne]) rfl rfl (by simp) (by simp)) ?_
      exact Wk.less rfl (by simp) (by simp [h0]) (by simp [h0])
    · clear h0
      by_cases h3 : es.length = 0
      · simp [h3]
        refine W_wk (s' := ⟨[(56, .i .i64 0), (55, .i .i64 es.length), (54, .imm (es.map sE.I)), (1, .ptr 0 0 0), (2, .ptr 1 0 0), (3, .ptr 2 0 0)], [(0, .arr 4 [sG.I ⟨l, es, nn, ne⟩]), (1, .arr 4 [[.nl, .nl, .i .i64 0, .i .i64 0]]), (2, .arr 4 [[.own 3 (l.map sN.O), .own 5 (List.replicate es.length zE), .i .i64 nn, .i .i64 ne]])], 60, 0⟩) ?_ (L2 ?_)
        · refine Wk.trans (Wk.join (b := 2) (r := 0) (cs := [.own 3 (l.map sN.O), .own 5 [], .i .i64 nn, .i .i64 ne]) rfl rfl (by simp) (by simp)) ?_
          exact Wk.less rfl (by simp) (by simp [h3]) (by simp [h3])
        · simp
          exact fin_own (by simp; rfl) (by simp) (by simp) (by simp)
      · have h3' : 0 < es.length := by omega
        simp [h3', hb3, hb4]
        refine W_wk (s' := ⟨[(56, .i .i64 0), (55, .i .i64 es.length), (54, .imm (es.map sE.I)), (1, .ptr 0 0 0), (2, .ptr 1 0 0), (3, .ptr 2 0 0)], [(0, .arr 4 [sG.I ⟨l, es, nn, ne⟩]), (1, .arr 4 [[.nl, .nl, .i .i64 0, .i .i64 0]]), (2, .arr 4 [[.own 3 (l.map sN.O), .own 5 (List.replicate es.length zE), .i .i64 nn, .i .i64 ne]])], 60, 0⟩) ?_ (L2 ?_)
        · refine Wk.trans (Wk.join (b := 2) (r := 0) (cs := [.own 3 (l.map sN.O), .own 5 (List.replicate es.length zE), .i .i64 nn, .i .i64 ne]) rfl rfl (by simp [hrepE]) (by simp)) ?_
          exact Wk.less rfl (by simp) (by simp) (by simp)
        · simp
          exact fin_own (by simp; rfl) (by simp) (by simp) (by simp)
  · have h0' : 0 < l.length := by omega
    simp [pc_impl_cloneGraph, h0', hb1, hb2]
    refine W_wk (s' := ⟨[(25, .i .i64 0), (24, .i .i64 l.length), (23, .imm (l.map sN.I)), (1, .ptr 0 0 0), (2, .ptr 1 0 0), (3, .ptr 2 0 0)], [(0, .arr 4 [sG.I ⟨l, es, nn, ne⟩]), (1, .arr 4 [[.nl, .nl, .i .i64 0, .i .i64 0]]), (2, .arr 4 [[.own 3 (List.replicate l.length zN), .nl, .i .i64 nn, .i .i64 ne]])], 20, 0⟩) ?_ (L1 ?_)
    · refine Wk.trans (Wk.join (b := 2) (r := 0) (cs := [.own 3 (List.replicate l.length zN), .nl, .i .i64 nn, .i .i64 ne]) rfl rfl (by simp [hrep]) (by simp)) ?_
      exact Wk.less rfl (by simp) (by simp) (by simp)
    · clear h0 h0'
      by_cases h3 : es.length = 0
      · simp [h3]
        refine W_wk (s' := ⟨[(56, .i .i64 0), (55, .i .i64 es.length), (54, .imm (es.map sE.I)), (1, .ptr 0 0 0), (2, .ptr 1 0 0), (3, .ptr 2 0 0)], [(0, .arr 4 [sG.I ⟨l, es, nn, ne⟩]), (1, .arr 4 [[.nl, .nl, .i .i64 0, .i .i64 0]]), (2, .arr 4 [[.own 3 (l.map sN.O), .own 5 (List.replicate es.length zE), .i .i64 nn, .i .i64 ne]])], 60, 0⟩) ?_ (L2 ?_)
        · refine Wk.trans (Wk.join (b := 2) (r := 0) (cs := [.own 3 (l.map sN.O), .own 5 [], .i .i64 nn, .i .i64 ne]) rfl rfl (by simp) (by simp)) ?_
          exact Wk.less rfl (by simp) (by simp [h3]) (by simp [h3])
        · simp
          exact fin_own (by simp; rfl) (by simp) (by simp) (by simp)
      · have h3' : 0 < es.length := by omega
        simp [h3', hb3, hb4]
        refine W_wk (s' := ⟨[(56, .i .i64 0), (55, .i .i64 es.length), (54, .imm (es.map sE.I)), (1, .ptr 0 0 0), (2, .ptr 1 0 0), (3, .ptr 2 0 0)], [(0, .arr 4 [sG.I ⟨l, es, nn, ne⟩]), (1, .arr 4 [[.nl, .nl, .i .i64 0, .i .i64 0]]), (2, .arr 4 [[.own 3 (l.map sN.O), .own 5 (List.replicate es.length zE), .i .i64 nn, .i .i64 ne]])], 60, 0⟩) ?_ (L2 ?_)
        · refine Wk.trans (Wk.join (b := 2) (r := 0) (cs := [.own 3 (l.map sN.O), .own 5 (List.replicate es.length zE), .i .i64 nn, .i .i64 ne]) rfl rfl (by simp [hrepE]) (by simp)) ?_
          exact Wk.less rfl (by simp) (by simp) (by simp)
        · simp
          exact fin_own (by simp; rfl) (by simp) (by simp) (by simp)
end Go.Proofs.Ytonljcphaiklgaa.V
/- Edges dropped. -/
namespace Go.Proofs.Ytonljcphaiklgaa.V
open Go
set_option linter.unusedVariables false
set_option linter.unusedSimpArgs false
set_option maxHeartbeats 16000000
/-- A contract of a call whose result is shared for good. -/
def Ri (P : Program) (f : Nat) (xs : List T) (v : T) : Prop := ∃ r, Rv P f xs r ∧ r.toI = v
theorem callK_ri {P : Program} {s : St} {i f : Nat} {args xs : List T} {v : T} {K : T → Δ → List Nat → Prop} (hx : handed s [] 0 args = some xs) (hr : Ri P f xs v) (hk : K v ((named [] false 0 args).map fun t => (t, none)) (named [] false 0 args)) : callK P s i [] .imm f args K := by
  obtain ⟨r, h1, rfl⟩ := hr
  exact callK_imm hx h1 hk
theorem fin_eaten {P : Program} {s : St} {rs : List ResultVar} {args : List T} {r : T} {xs : List T} (h1 : resK P s rs = some xs) (h2 : rfP s (res1 xs) r) (h4 : (rfN (res1 xs) r).Nodup) : fin P rs args r (args.map fun _ => .dead) .ret s :=
  fin_eat h1 (rfP_ok h2) h4
theorem fin_wk {P : Program} {s s' : St} {rs : List ResultVar} {args outs : List T} {r : T} {e : Exit} (hw : Wk s s') (h : fin P rs args r outs e s') : fin P rs args r outs e s := by
  obtain ⟨h1, s2, h2, h3⟩ := h
  exact ⟨h1, s2, Wk.trans hw h2, h3⟩
def zG : Gr := ⟨[], [], 0, 0⟩
def gDropE (g : Gr) (id : Int) : Gr := { g with edges := g.edges.filter (fun e => !decide (e.id = id)) }
open Classical in
noncomputable def edgeDrop (g : Gr) (id : Int) : Gr × Bool :=
  if GOk g then (if posOf Eg.id id g.edges < 0 then (g, false) else (gDropE g id, true)) else (zG, false)
theorem PropsOk.val {ps : List Pr} (h : PropsOk ps) : ∀ p ∈ ps, vOk p.val = true := by
  intro p hp
  obtain ⟨j, hj⟩ := List.mem_iff_getElem?.1 hp
  have := (h.1 j p hj).1
  simp only [prOk, sto, Bool.and_eq_true] at this
  exact this.2.1
theorem cloneOk {g : Gr} (hf : g.fit) (hc : g.cnt ≤ 2 ^ 20) (hg : GOk g) : Rv Try.prog 71 [.agg (sG.I g)] (.agg (sG.O g)) := by
  refine cloneGraph_c g hc ?_ ?_
  · intro x hx p hp
    have h1 := sums_mem (c := Nd.cnt) hx
    have h0 : x.cnt = x.labels.length + sums List.length x.labels + (x.props.length + sums Pr.cnt x.props) := rfl
    have h2 := sums_mem (c := Pr.cnt) hp
    have h3 : p.cnt = p.name.length + p.val.cnt := rfl
    unfold Gr.cnt cl at hc
    exact cloneValue_c p.val ((hf.2.1 x hx).2.2.2.2 p hp).2 (by omega) (PropsOk.val (hg.nok x hx).2 p hp)
  · intro x hx p hp
    have h1 := sums_mem (c := Eg.cnt) hx
    have h0 : x.cnt = x.kind.length + (x.props.length + sums Pr.cnt x.props) := rfl
    have h2 := sums_mem (c := Pr.cnt) hp
    have h3 : p.cnt = p.name.length + p.val.cnt := rfl
    unfold Gr.cnt cl at hc
    exact cloneValue_c p.val ((hf.2.2.2.1 x hx).2.2.2.2.2 p hp).2 (by omega) (PropsOk.val (hg.eok x hx).2.1 p hp)
theorem EdgeDrop_c (g : Gr) (hf : g.fit) (hc : g.cnt ≤ 2 ^ 20) (id : Int) : Rv Try.prog 28 [.agg (sG.I g), .i .i64 id] (.tup [.agg (sG.O (edgeDrop g id).1), .b (edgeDrop g id).2]) := by
  have ok1 : okCall Try.prog 53 = true := by kernel_rfl
  have ok2 : okCall Try.prog 74 = true := by kernel_rfl
  have ok3 : okCall Try.prog 78 = true := by kernel_rfl
  have h1 := GraphOk_c g hf
  have h2 := cloneOk hf hc
  have hle : g.edges.length ≤ 2 ^ 20 := by unfold Gr.cnt cl at hc; omega
  have h3 := placeE_c g.edges (by omega) id
  obtain ⟨l, es, nn, ne⟩ := g
  refine via_impl_EdgeDrop (by simp) ?_
  by_cases g1 : GOk ⟨l, es, nn, ne⟩
  · have h2 := h2 g1
    simp [pc_impl_EdgeDrop]
    refine callK_val (by simp) h1 rfl ?_
    simp [g1]
    refine callK_val (by simp) h2 (by simp [T.noImm]) ?_
    simp
    refine hookH_view (edgesIn_v (.imm (l.map sN.I)) (.imm (es.map sE.I)) rfl rfl nn ne) rfl ok1 (by simp) ?_
    simp
    repeat refine need_mk (by decide +kernel) ?_
    refine callK_val (by simp) h3 rfl ?_
    simp
    repeat refine need_mk (by decide +kernel) ?_
    by_cases g2 : posOf Eg.id id es < 0
    · simp [g2]
      exact fin_own (by simp; rfl) (by simp [edgeDrop, g1, g2]) (by simp) (by simp [edgeDrop, g1, g2])
    · simp [g2]
      refine hookH_view (edgesIn_v (.ref 3 0 l.length) (.ref 4 0 es.length) rfl rfl nn ne) rfl ok1 (by simp) ?_
      simp
      have hw := without_c es hle (fun e => decide (e.id = id)) 78 [.pim [.i .i64 id]] (fun e _ => EdgeDrop1_c e id) ok3 107 (by intro s j; simp) (by simp) (by intro k; simp)
      have hcd : cleanR (es.map dE) = true := by simp [cleanR, dE, T.clean]
      refine hookH_callX [0] [(4, .arr 5 (es.map sE.O)), (1, .arr 1 [[.i .i64 id]])] hw (by simp [handedX, handedXA, handedXs, handedX1, T.closed]) (bk := [(4, .arr 5 (es.map dE))]) (by simp [backX, backXA, backXs, backX1, T.closed]) rfl ok2 (by simp) (by simp [named]) (by simp [named]) ?_
      simp [dX]
      exact fin_own (by simp; rfl) (by simp [edgeDrop, g1, g2, gDropE]) (by simp) (by simp [edgeDrop, g1, g2, gDropE])
  · simp [pc_impl_EdgeDrop]
    refine callK_val (by simp) h1 rfl ?_
    simp [g1]
    exact fin_own (by simp; rfl) (by simp [edgeDrop, g1, zG]) (by simp) (by simp [edgeDrop, g1, zG])
end Go.Proofs.Ytonljcphaiklgaa.V
/- Nodes added. -/
namespace Go.Proofs.Ytonljcphaiklgaa.V
open Go
set_option linter.unusedVariables false
set_option linter.unusedSimpArgs false
set_option maxHeartbeats 16000000
def gAddN (g : Gr) (lb : List Tx) (ps : List Pr) : Gr := ⟨g.nodes ++ [⟨g.nn, lb, ps⟩], g.edges, g.nn + 1, g.ne⟩
def addNOk (g : Gr) (lb : List Tx) (ps : List Pr) : Prop := LabelsOk lb ∧ PropsOk ps ∧ g.nodes.length < 12 ∧ g.nn < 1000000000
open Classical in
noncomputable def nAdd (g : Gr) (lb : List Tx) (ps : List Pr) : Gr × Bool := if addNOk g lb ps then (gAddN g lb ps, true) else (g, false)
open Classical in
noncomputable def nodeAdd (g : Gr) (lb : List Tx) (ps : List Pr) : Gr × Int × Bool :=
  if GOk g then ((nAdd g lb ps).1, if addNOk g lb ps then g.nn else 0, decide (addNOk g lb ps)) else (zG, 0, false)
theorem l2AddNode_c (g : Gr) (hi : i64 g.nn) (hl1 : g.nodes.length ≤ 2 ^ 40) (lb : List Tx) (hlb : ln lb ∧ ∀ x ∈ lb, ln x) (ps : List Pr) (hps : ln ps ∧ ∀ x ∈ ps, x.fit) (hcp : cl Pr.cnt ps ≤ 2 ^ 20) :
    Ret Try.prog 86 [.agg (sG.O g), .imm (lb.map sS.I), .imm (ps.map sP.I)] (.tup [.agg (sG.O (nAdd g lb ps).1), .b (nAdd g lb ps).2]) [.dead, .dead, .dead] := by
  have h1 := l2Labels_c lb hlb.1 hlb.2
  have h2 := l2Props_c ps hps.1 hps.2
  have hlp : ps.length ≤ 2 ^ 20 := by unfold cl at hcp; omega
  have h3 := l2Ps_c ps hlp (fun p hp => by
    have h2 := sums_mem (c := Pr.cnt) hp
    have h3 : p.cnt = p.name.length + p.val.cnt := rfl
    unfold cl at hcp; omega)
  obtain ⟨l, es, nn, ne⟩ := g
  simp only at hi hl1
  refine via_spec_l2AddNode (by simp) ?_
  by_cases c1 : LabelsOk lb
  · by_cases c2 : PropsOk ps
    · by_cases c3 : 12 ≤ (l.length : Int)
      · have hno : ¬ addNOk ⟨l, es, nn, ne⟩ lb ps := fun h => by have := h.2.2.1; simp only at this; omega
        simp [pc_spec_l2AddNode]
        refine callK_val (by simp) h1 rfl ?_
        simp [c1]
        refine callK_val (by simp) h2 rfl ?_
        simp [c1, c2, c3]
        exact fin_eaten (by simp; rfl) (by simp [nAdd, hno]) (by simp [nAdd, hno])
      · by_cases c4 : 1000000000 ≤ nn
        · have hno : ¬ addNOk ⟨l, es, nn, ne⟩ lb ps := fun h => by have := h.2.2.2; simp only at this; omega
          simp [pc_spec_l2AddNode]
          refine callK_val (by simp) h1 rfl ?_
          simp [c1]
          refine callK_val (by simp) h2 rfl ?_
          simp [c1, c2, c3, c4]
          exact fin_eaten (by simp; rfl) (by simp [nAdd, hno]) (by simp [nAdd, hno])
        · have hyes : addNOk ⟨l, es, nn, ne⟩ lb ps := ⟨c1, c2, by simp only; omega, by simp only; omega⟩
          have hw : IntKind.i64.wrap (nn + 1) = nn + 1 := wrap64 (by have := hi.1; omega) (by omega)
          have hb1 : lb.length * 16 ≤ 35184372088832 := by have := c1.2; omega
          have hb2 : (l.length + 1) * 56 ≤ 35184372088832 := by omega
          simp [pc_spec_l2AddNode]
          refine callK_val (by simp) h1 rfl ?_
          simp [c1]
          refine callK_val (by simp) h2 rfl ?_
          simp [c1, c2, c3, c4, hb1, hb2, hw]
          repeat refine need_mk (by decide +kernel) ?_
          refine callK_val (by simp) h3 (by simp [T.noImm]) ?_
          simp [c1, c2, c3, c4, hb1, hb2, hw]
          repeat refine need_mk (by decide +kernel) ?_
          have hA : (l.map sN.O).length = l.length := by simp
          have hg2 := app1_get hA
          have hs3 := app1_set hA
          have hSS : lb.map sS.I = lb.map sS.O := rfl
          refine fin_wk (Wk.join (b := 92) (r := l.length) (cs := sN.O ⟨nn, lb, ps⟩) rfl (by simp [hg2]; rfl) (by simp [hSS]) (by simp)) ?_
          simp [hs3]
          exact fin_eaten (by simp; rfl) (by simp [nAdd, hyes, gAddN, List.take_of_length_le]) (by simp [nAdd, hyes, gAddN])
    · have hno : ¬ addNOk ⟨l, es, nn, ne⟩ lb ps := fun h => c2 h.2.1
      simp [pc_spec_l2AddNode]
      refine callK_val (by simp) h1 rfl ?_
      simp [c1]
      refine callK_val (by simp) h2 rfl ?_
      simp [c1, c2]
      exact fin_eaten (by simp; rfl) (by simp [nAdd, hno]) (by simp [nAdd, hno])
  · have hno : ¬ addNOk ⟨l, es, nn, ne⟩ lb ps := fun h => c1 h.1
    simp [pc_spec_l2AddNode]
    refine callK_val (by simp) h1 rfl ?_
    simp [c1]
    exact fin_eaten (by simp; rfl) (by simp [nAdd, hno]) (by simp [nAdd, hno])
end Go.Proofs.Ytonljcphaiklgaa.V
/- Nodes added: the two functions. -/
namespace Go.Proofs.Ytonljcphaiklgaa.V
open Go
set_option linter.unusedVariables false
set_option linter.unusedSimpArgs false
set_option maxHeartbeats 16000000
theorem specNodeAdd_c (g : Gr) (hf : g.fit) (hc : g.cnt ≤ 2 ^ 20) (lb : List Tx) (hlb : ln lb ∧ ∀ x ∈ lb, ln x) (ps : List Pr) (hps : ln ps ∧ ∀ x ∈ ps, x.fit) (hcp : cl Pr.cnt ps ≤ 2 ^ 20) :
    Ri Try.prog 32 [.agg (sG.I g), .imm (lb.map sS.I), .imm (ps.map sP.I)] (.tup [.agg (sG.I (nodeAdd g lb ps).1), .i .i64 (nodeAdd g lb ps).2.1, .b (nodeAdd g lb ps).2.2]) := by
  have ok1 : okCall Try.prog 86 = true := by kernel_rfl
  have h1 := specGraphOk_c g hf
  have h2 := l2Copy_c g hc
  have hl1 : g.nodes.length ≤ 2 ^ 20 := by unfold Gr.cnt cl at hc; omega
  have h3 := l2AddNode_c g hf.2.2.2.2.1 (by omega) lb hlb ps hps hcp
  by_cases g1 : GOk g
  · refine ⟨.tup [.agg (sG.O (nAdd g lb ps).1), .i .i64 (nodeAdd g lb ps).2.1, .b (nodeAdd g lb ps).2.2], ?_, by simp [nodeAdd, g1, sG.toO]⟩
    by_cases g2 : addNOk g lb ps
    · have e1 : nAdd g lb ps = (gAddN g lb ps, true) := by simp [nAdd, g2]
      rw [e1] at h3 ⊢
      have e2 : (nodeAdd g lb ps).2.1 = g.nn := by simp [nodeAdd, g1, g2]
      have e3 : (nodeAdd g lb ps).2.2 = true := by simp [nodeAdd, g1, g2]
      rw [e2, e3]
      obtain ⟨l, es, nn, ne⟩ := g
      simp only [gAddN] at h3 ⊢
      refine via_spec_NodeAdd (by simp) ?_
      simp [pc_spec_NodeAdd]
      refine callK_val (by simp) h1 rfl ?_
      simp [g1]
      refine callK_val (by simp) h2 (by simp [T.noImm]) ?_
      simp
      refine hookH_callX [0] [(2, .arr 3 (l.map sN.O)), (3, .arr 5 (es.map sE.O))] h3 (by simp [handedX, handedXA, handedXs, handedX1, T.closed]) (bk := []) (by simp [backX, backXA, backXs, backX1, T.closed]) rfl ok1 (by simp) (by simp [named]) (by simp [named]) ?_
      simp [dX]
      repeat refine need_mk (by decide +kernel) ?_
      exact fin_own (by simp; rfl) (by simp [List.take_of_length_le]) (by simp) (by simp)
    · have e1 : nAdd g lb ps = (g, false) := by simp [nAdd, g2]
      rw [e1] at h3 ⊢
      have e2 : (nodeAdd g lb ps).2.1 = 0 := by simp [nodeAdd, g1, g2]
      have e3 : (nodeAdd g lb ps).2.2 = false := by simp [nodeAdd, g1, g2]
      rw [e2, e3]
      obtain ⟨l, es, nn, ne⟩ := g
      refine via_spec_NodeAdd (by simp) ?_
      simp [pc_spec_NodeAdd]
      refine callK_val (by simp) h1 rfl ?_
      simp [g1]
      refine callK_val (by simp) h2 (by simp [T.noImm]) ?_
      simp
      refine hookH_callX [0] [(2, .arr 3 (l.map sN.O)), (3, .arr 5 (es.map sE.O))] h3 (by simp [handedX, handedXA, handedXs, handedX1, T.closed]) (bk := []) (by simp [backX, backXA, backXs, backX1, T.closed]) rfl ok1 (by simp) (by simp [named]) (by simp [named]) ?_
      simp [dX]
      repeat refine need_mk (by decide +kernel) ?_
      exact fin_own (by simp; rfl) (by simp) (by simp) (by simp)
  · refine ⟨.tup [.agg (sG.O zG), .i .i64 0, .b false], ?_, by simp [nodeAdd, g1, sG.toO]⟩
    obtain ⟨l, es, nn, ne⟩ := g
    refine via_spec_NodeAdd (by simp) ?_
    simp [pc_spec_NodeAdd]
    refine callK_val (by simp) h1 rfl ?_
    simp [g1]
    exact fin_own (by simp; rfl) (by simp [zG]) (by simp) (by simp [zG])
theorem NodeAdd_c (g : Gr) (hf : g.fit) (hc : g.cnt ≤ 2 ^ 20) (lb : List Tx) (hlb : ln lb ∧ ∀ x ∈ lb, ln x) (ps : List Pr) (hps : ln ps ∧ ∀ x ∈ ps, x.fit) (hcp : cl Pr.cnt ps ≤ 2 ^ 20) :
    Rv Try.prog 31 [.agg (sG.I g), .imm (lb.map sS.I), .imm (ps.map sP.I)] (.tup [.agg (sG.O (nodeAdd g lb ps).1), .i .i64 (nodeAdd g lb ps).2.1, .b (nodeAdd g lb ps).2.2]) := by
  have h1 := GraphOk_c g hf
  have h2 := cloneOk hf hc
  have h3 := labelsOk_c lb hlb.1 hlb.2
  have h4 := propsOk_c ps hps.1 hps.2
  have hl1 : g.nodes.length ≤ 2 ^ 20 := by unfold Gr.cnt cl at hc; omega
  have hi := hf.2.2.2.2.1
  by_cases g1 : GOk g
  · replace h2 := h2 g1
    by_cases c1 : LabelsOk lb
    · by_cases c2 : PropsOk ps
      · have hl2 : lb.length ≤ 2 ^ 20 := by have := c1.2; omega
        have hlp : ps.length ≤ 2 ^ 20 := by unfold cl at hcp; omega
        have h5 := cloneTexts_c lb hl2
        have h6 := cloneProps_c ps hlp (fun p hp => by
          have h2 := sums_mem (c := Pr.cnt) hp
          have h3 : p.cnt = p.name.length + p.val.cnt := rfl
          unfold cl at hcp
          exact cloneValue_c p.val (hps.2 p hp).2 (by omega) (PropsOk.val c2 p hp))
        by_cases c3 : 12 ≤ (g.nodes.length : Int)
        · have hno : ¬ addNOk g lb ps := fun h => by have := h.2.2.1; omega
          have e1 : nodeAdd g lb ps = (g, 0, false) := by simp [nodeAdd, nAdd, g1, hno]
          rw [e1]
          obtain ⟨l, es, nn, ne⟩ := g
          refine via_impl_NodeAdd (by simp) ?_
          simp [pc_impl_NodeAdd]
          refine callK_val (by simp) h1 rfl ?_
          simp [g1]
          refine callK_val (by simp) h2 (by simp [T.noImm]) ?_
          simp
          refine callK_val (by simp) h3 rfl ?_
          simp [c1]
          refine callK_val (by simp) h4 rfl ?_
          simp [c1, c2, c3]
          exact fin_own (by simp; rfl) (by simp) (by simp) (by simp)
        · by_cases c4 : 1000000000 ≤ g.nn
          · have hno : ¬ addNOk g lb ps := fun h => by have := h.2.2.2; omega
            have e1 : nodeAdd g lb ps = (g, 0, false) := by simp [nodeAdd, nAdd, g1, hno]
            rw [e1]
            obtain ⟨l, es, nn, ne⟩ := g
            refine via_impl_NodeAdd (by simp) ?_
            simp [pc_impl_NodeAdd]
            refine callK_val (by simp) h1 rfl ?_
            simp [g1]
            refine callK_val (by simp) h2 (by simp [T.noImm]) ?_
            simp
            refine callK_val (by simp) h3 rfl ?_
            simp [c1]
            refine callK_val (by simp) h4 rfl ?_
            simp [c1, c2, c3, c4]
            exact fin_own (by simp; rfl) (by simp) (by simp) (by simp)
          · have hyes : addNOk g lb ps := ⟨c1, c2, by omega, by omega⟩
            have e1 : nodeAdd g lb ps = (gAddN g lb ps, g.nn, true) := by simp [nodeAdd, nAdd, g1, hyes]
            rw [e1]
            obtain ⟨l, es, nn, ne⟩ := g
            simp only at hi hl1 c3 c4
            have hw : IntKind.i64.wrap (nn + 1) = nn + 1 := wrap64 (by have := hi.1; omega) (by omega)
            have hb2 : (l.length + 1) * 56 ≤ 35184372088832 := by omega
            refine via_impl_NodeAdd (by simp) ?_
            simp [pc_impl_NodeAdd]
            refine callK_val (by simp) h1 rfl ?_
            simp [g1]
            refine callK_val (by simp) h2 (by simp [T.noImm]) ?_
            simp
            refine callK_val (by simp) h3 rfl ?_
            simp [c1]
            refine callK_val (by simp) h4 rfl ?_
            simp [c1, c2, c3, c4, hb2, hw]
            repeat refine need_mk (by decide +kernel) ?_
            refine callK_val (by simp) h5 (by simp [T.noImm]) ?_
            simp [c1, c2, c3, c4, hb2, hw]
            repeat refine need_mk (by decide +kernel) ?_
            refine callK_val (by simp) h6 (by simp [T.noImm]) ?_
            simp [c1, c2, c3, c4, hb2, hw]
            repeat refine need_mk (by decide +kernel) ?_
            have hA : (l.map sN.O).length = l.length := by simp
            have hg2 := app1_get hA
            have hs3 := app1_set hA
            refine fin_wk (Wk.join (b := 78) (r := l.length) (cs := sN.O ⟨nn, lb, ps⟩) rfl (by simp [hg2]; rfl) (by simp) (by simp)) ?_
            simp [hs3]
            exact fin_own (by simp; rfl) (by simp [gAddN, List.take_of_length_le]) (by simp) (by simp [gAddN])
      · have hno : ¬ addNOk g lb ps := fun h => c2 h.2.1
        have e1 : nodeAdd g lb ps = (g, 0, false) := by simp [nodeAdd, nAdd, g1, hno]
        rw [e1]
        obtain ⟨l, es, nn, ne⟩ := g
        refine via_impl_NodeAdd (by simp) ?_
        simp [pc_impl_NodeAdd]
        refine callK_val (by simp) h1 rfl ?_
        simp [g1]
        refine callK_val (by simp) h2 (by simp [T.noImm]) ?_
        simp
        refine callK_val (by simp) h3 rfl ?_
        simp [c1]
        refine callK_val (by simp) h4 rfl ?_
        simp [c1, c2]
        exact fin_own (by simp; rfl) (by simp) (by simp) (by simp)
    · have hno : ¬ addNOk g lb ps := fun h => c1 h.1
      have e1 : nodeAdd g lb ps = (g, 0, false) := by simp [nodeAdd, nAdd, g1, hno]
      rw [e1]
      obtain ⟨l, es, nn, ne⟩ := g
      refine via_impl_NodeAdd (by simp) ?_
      simp [pc_impl_NodeAdd]
      refine callK_val (by simp) h1 rfl ?_
      simp [g1]
      refine callK_val (by simp) h2 (by simp [T.noImm]) ?_
      simp
      refine callK_val (by simp) h3 rfl ?_
      simp [c1]
      exact fin_own (by simp; rfl) (by simp) (by simp) (by simp)
  · have e1 : nodeAdd g lb ps = (zG, 0, false) := by simp [nodeAdd, g1]
    rw [e1]
    obtain ⟨l, es, nn, ne⟩ := g
    refine via_impl_NodeAdd (by simp) ?_
    simp [pc_impl_NodeAdd]
    refine callK_val (by simp) h1 rfl ?_
    simp [g1]
    exact fin_own (by simp; rfl) (by simp [zG]) (by simp) (by simp [zG])
end Go.Proofs.Ytonljcphaiklgaa.V
/- Edges added. -/
namespace Go.Proofs.Ytonljcphaiklgaa.V
open Go
set_option linter.unusedVariables false
set_option linter.unusedSimpArgs false
set_option maxHeartbeats 16000000
def gAddE (g : Gr) (kd : Tx) (fr to : Int) (ps : List Pr) : Gr := ⟨g.nodes, g.edges ++ [⟨g.ne, kd, fr, to, ps⟩], g.nn, g.ne + 1⟩
def addEOk (g : Gr) (kd : Tx) (fr to : Int) (ps : List Pr) : Prop := nameOk kd = true ∧ PropsOk ps ∧ 0 ≤ posOf Nd.id fr g.nodes ∧ 0 ≤ posOf Nd.id to g.nodes ∧ g.edges.length < 16 ∧ g.ne < 1000000000
open Classical in
noncomputable def eAdd (g : Gr) (kd : Tx) (fr to : Int) (ps : List Pr) : Gr × Bool := if addEOk g kd fr to ps then (gAddE g kd fr to ps, true) else (g, false)
open Classical in
noncomputable def edgeAdd (g : Gr) (kd : Tx) (fr to : Int) (ps : List Pr) : Gr × Int × Bool :=
  if GOk g then ((eAdd g kd fr to ps).1, if addEOk g kd fr to ps then g.ne else 0, decide (addEOk g kd fr to ps)) else (zG, 0, false)
theorem l2AddEdge_c (g : Gr) (hi : i64 g.ne) (hl0 : g.nodes.length ≤ 2 ^ 40) (hl1 : g.edges.length ≤ 2 ^ 40) (kd : Tx) (hkd : ln kd) (fr to : Int) (ps : List Pr) (hps : ln ps ∧ ∀ x ∈ ps, x.fit) (hcp : cl Pr.cnt ps ≤ 2 ^ 20) :
    Ret Try.prog 88 [.agg (sG.O g), .s kd, .i .i64 fr, .i .i64 to, .imm (ps.map sP.I)] (.tup [.agg (sG.O (eAdd g kd fr to ps).1), .b (eAdd g kd fr to ps).2]) [.dead, .dead, .dead, .dead, .dead] := by
  have h1 := l2Name_c kd hkd
  have h2 := l2Props_c ps hps.1 hps.2
  have hlp : ps.length ≤ 2 ^ 20 := by unfold cl at hcp; omega
  have h3 := l2Ps_c ps hlp (fun p hp => by
    have h2 := sums_mem (c := Pr.cnt) hp
    have h3 : p.cnt = p.name.length + p.val.cnt := rfl
    unfold cl at hcp; omega)
  have hlN : ln g.nodes := by simp only [ln]; omega
  have h4 := l2Node_c g hlN fr
  have h5 := l2Node_c g hlN to
  obtain ⟨l, es, nn, ne⟩ := g
  simp only at hi hl1 hl0
  refine via_spec_l2AddEdge (by simp) ?_
  by_cases c1 : nameOk kd = true
  · by_cases c2 : PropsOk ps
    · by_cases c3 : 0 ≤ posOf Nd.id fr l
      · have d3 : ¬ posOf Nd.id fr l < 0 := by omega
        by_cases c4 : 0 ≤ posOf Nd.id to l
        · have d4 : ¬ posOf Nd.id to l < 0 := by omega
          by_cases c5 : (es.length : Int) < 16
          · have d5 : ¬ 16 ≤ (es.length : Int) := by omega
            by_cases c6 : ne < 1000000000
            · have d6 : ¬ 1000000000 ≤ ne := by omega
              have hyes : addEOk ⟨l, es, nn, ne⟩ kd fr to ps := ⟨c1, c2, c3, c4, by simp only; omega, c6⟩
              have hw : IntKind.i64.wrap (ne + 1) = ne + 1 := wrap64 (by have := hi.1; omega) (by omega)
              have hb2 : (es.length + 1) * 64 ≤ 35184372088832 := by omega
              simp [pc_spec_l2AddEdge]
              refine callK_val (by simp) h1 rfl ?_
              simp [c1]
              refine callK_val (by simp) h2 rfl ?_
              simp [c1, c2]
              refine callK_val (by simp) h4 rfl ?_
              simp [c1, c2, c3, d3]
              refine callK_val (by simp) h5 rfl ?_
              simp [c1, c2, c3, d3, c4, d4, c5, d5, c6, d6, hb2, hw]
              repeat refine need_mk (by decide +kernel) ?_
              refine callK_val (by simp) h3 (by simp [T.noImm]) ?_
              simp [c1, c2, c3, d3, c4, d4, c5, d5, c6, d6, hb2, hw]
              repeat refine need_mk (by decide +kernel) ?_
              have hA : (es.map sE.O).length = es.length := by simp
              have hg2 := app1_get hA
              have hs3 := app1_set hA
              refine fin_wk (Wk.join (b := 92) (r := es.length) (cs := sE.O ⟨ne, kd, fr, to, ps⟩) rfl (by simp [hg2]; rfl) (by simp) (by simp)) ?_
              simp [hs3]
              exact fin_eaten (by simp; rfl) (by simp [eAdd, hyes, gAddE, List.take_of_length_le]) (by simp [eAdd, hyes, gAddE])
            · have d6 : 1000000000 ≤ ne := by omega
              have hno : ¬ addEOk ⟨l, es, nn, ne⟩ kd fr to ps := fun h => c6 h.2.2.2.2.2
              simp [pc_spec_l2AddEdge]
              refine callK_val (by simp) h1 rfl ?_
              simp [c1]
              refine callK_val (by simp) h2 rfl ?_
              simp [c1, c2]
              refine callK_val (by simp) h4 rfl ?_
              simp [c1, c2, c3, d3]
              refine callK_val (by simp) h5 rfl ?_
              simp [c1, c2, c3, d3, c4, d4, c5, d5, c6, d6]
              exact fin_eaten (by simp; rfl) (by simp [eAdd, hno]) (by simp [eAdd, hno])
          · have d5 : 16 ≤ (es.length : Int) := by omega
            have hno : ¬ addEOk ⟨l, es, nn, ne⟩ kd fr to ps := fun h => c5 (by have := h.2.2.2.2.1; simp only at this; omega)
            simp [pc_spec_l2AddEdge]
            refine callK_val (by simp) h1 rfl ?_
            simp [c1]
            refine callK_val (by simp) h2 rfl ?_
            simp [c1, c2]
            refine callK_val (by simp) h4 rfl ?_
            simp [c1, c2, c3, d3]
            refine callK_val (by simp) h5 rfl ?_
            simp [c1, c2, c3, d3, c4, d4, c5, d5]
            exact fin_eaten (by simp; rfl) (by simp [eAdd, hno]) (by simp [eAdd, hno])
        · have d4 : posOf Nd.id to l < 0 := by omega
          have hno : ¬ addEOk ⟨l, es, nn, ne⟩ kd fr to ps := fun h => c4 h.2.2.2.1
          simp [pc_spec_l2AddEdge]
          refine callK_val (by simp) h1 rfl ?_
          simp [c1]
          refine callK_val (by simp) h2 rfl ?_
          simp [c1, c2]
          refine callK_val (by simp) h4 rfl ?_
          simp [c1, c2, c3, d3]
          refine callK_val (by simp) h5 rfl ?_
          simp [c1, c2, c3, d3, c4, d4]
          exact fin_eaten (by simp; rfl) (by simp [eAdd, hno]) (by simp [eAdd, hno])
      · have d3 : posOf Nd.id fr l < 0 := by omega
        have hno : ¬ addEOk ⟨l, es, nn, ne⟩ kd fr to ps := fun h => c3 h.2.2.1
        simp [pc_spec_l2AddEdge]
        refine callK_val (by simp) h1 rfl ?_
        simp [c1]
        refine callK_val (by simp) h2 rfl ?_
        simp [c1, c2]
        refine callK_val (by simp) h4 rfl ?_
        simp [c1, c2, c3, d3]
        exact fin_eaten (by simp; rfl) (by simp [eAdd, hno]) (by simp [eAdd, hno])
    · have hno : ¬ addEOk ⟨l, es, nn, ne⟩ kd fr to ps := fun h => c2 h.2.1
      simp [pc_spec_l2AddEdge]
      refine callK_val (by simp) h1 rfl ?_
      simp [c1]
      refine callK_val (by simp) h2 rfl ?_
      simp [c1, c2]
      exact fin_eaten (by simp; rfl) (by simp [eAdd, hno]) (by simp [eAdd, hno])
  · have hno : ¬ addEOk ⟨l, es, nn, ne⟩ kd fr to ps := fun h => c1 h.1
    simp [pc_spec_l2AddEdge]
    refine callK_val (by simp) h1 rfl ?_
    simp [c1]
    exact fin_eaten (by simp; rfl) (by simp [eAdd, hno]) (by simp [eAdd, hno])
theorem specEdgeAdd_c (g : Gr) (hf : g.fit) (hc : g.cnt ≤ 2 ^ 20) (kd : Tx) (hkd : ln kd) (fr to : Int) (ps : List Pr) (hps : ln ps ∧ ∀ x ∈ ps, x.fit) (hcp : cl Pr.cnt ps ≤ 2 ^ 20) :
    Ri Try.prog 37 [.agg (sG.I g), .s kd, .i .i64 fr, .i .i64 to, .imm (ps.map sP.I)] (.tup [.agg (sG.I (edgeAdd g kd fr to ps).1), .i .i64 (edgeAdd g kd fr to ps).2.1, .b (edgeAdd g kd fr to ps).2.2]) := by
  have ok1 : okCall Try.prog 88 = true := by kernel_rfl
  have h1 := specGraphOk_c g hf
  have h2 := l2Copy_c g hc
  have hl0 : g.nodes.length ≤ 2 ^ 20 := by unfold Gr.cnt cl at hc; omega
  have hl1 : g.edges.length ≤ 2 ^ 20 := by unfold Gr.cnt cl at hc; omega
  have h3 := l2AddEdge_c g hf.2.2.2.2.2 (by omega) (by omega) kd hkd fr to ps hps hcp
  by_cases g1 : GOk g
  · refine ⟨.tup [.agg (sG.O (eAdd g kd fr to ps).1), .i .i64 (edgeAdd g kd fr to ps).2.1, .b (edgeAdd g kd fr to ps).2.2], ?_, by simp [edgeAdd, g1, sG.toO]⟩
    by_cases g2 : addEOk g kd fr to ps
    · have e1 : eAdd g kd fr to ps = (gAddE g kd fr to ps, true) := by simp [eAdd, g2]
      rw [e1] at h3 ⊢
      have e2 : (edgeAdd g kd fr to ps).2.1 = g.ne := by simp [edgeAdd, g1, g2]
      have e3 : (edgeAdd g kd fr to ps).2.2 = true := by simp [edgeAdd, g1, g2]
      rw [e2, e3]
      obtain ⟨l, es, nn, ne⟩ := g
      simp only [gAddE] at h3 ⊢
      refine via_spec_EdgeAdd (by simp) ?_
      simp [pc_spec_EdgeAdd]
      refine callK_val (by simp) h1 rfl ?_
      simp [g1]
      refine callK_val (by simp) h2 (by simp [T.noImm]) ?_
      simp
      refine hookH_callX [0] [(2, .arr 3 (l.map sN.O)), (3, .arr 5 (es.map sE.O))] h3 (by simp [handedX, handedXA, handedXs, handedX1, T.closed]) (bk := []) (by simp [backX, backXA, backXs, backX1, T.closed]) rfl ok1 (by simp) (by simp [named]) (by simp [named]) ?_
      simp [dX]
      repeat refine need_mk (by decide +kernel) ?_
      exact fin_own (by simp; rfl) (by simp [List.take_of_length_le]) (by simp) (by simp)
    · have e1 : eAdd g kd fr to ps = (g, false) := by simp [eAdd, g2]
      rw [e1] at h3 ⊢
      have e2 : (edgeAdd g kd fr to ps).2.1 = 0 := by simp [edgeAdd, g1, g2]
      have e3 : (edgeAdd g kd fr to ps).2.2 = false := by simp [edgeAdd, g1, g2]
      rw [e2, e3]
      obtain ⟨l, es, nn, ne⟩ := g
      refine via_spec_EdgeAdd (by simp) ?_
      simp [pc_spec_EdgeAdd]
      refine callK_val (by simp) h1 rfl ?_
      simp [g1]
      refine callK_val (by simp) h2 (by simp [T.noImm]) ?_
      simp
      refine hookH_callX [0] [(2, .arr 3 (l.map sN.O)), (3, .arr 5 (es.map sE.O))] h3 (by simp [handedX, handedXA, handedXs, handedX1, T.closed]) (bk := []) (by simp [backX, backXA, backXs, backX1, T.closed]) rfl ok1 (by simp) (by simp [named]) (by simp [named]) ?_
      simp [dX]
      repeat refine need_mk (by decide +kernel) ?_
      exact fin_own (by simp; rfl) (by simp [List.take_of_length_le]) (by simp) (by simp)
  · refine ⟨.tup [.agg (sG.O zG), .i .i64 0, .b false], ?_, by simp [edgeAdd, g1, sG.toO]⟩
    obtain ⟨l, es, nn, ne⟩ := g
    refine via_spec_EdgeAdd (by simp) ?_
    simp [pc_spec_EdgeAdd]
    refine callK_val (by simp) h1 rfl ?_
    simp [g1]
    exact fin_own (by simp; rfl) (by simp [zG]) (by simp) (by simp [zG])
theorem EdgeAdd_c (g : Gr) (hf : g.fit) (hc : g.cnt ≤ 2 ^ 20) (kd : Tx) (hkd : ln kd) (fr to : Int) (ps : List Pr) (hps : ln ps ∧ ∀ x ∈ ps, x.fit) (hcp : cl Pr.cnt ps ≤ 2 ^ 20) :
    Rv Try.prog 36 [.agg (sG.I g), .s kd, .i .i64 fr, .i .i64 to, .imm (ps.map sP.I)] (.tup [.agg (sG.O (edgeAdd g kd fr to ps).1), .i .i64 (edgeAdd g kd fr to ps).2.1, .b (edgeAdd g kd fr to ps).2.2]) := by
  have ok1 : okCall Try.prog 51 = true := by kernel_rfl
  have h1 := GraphOk_c g hf
  have h2 := cloneOk hf hc
  have h3 := NameOk_c kd hkd
  have h4 := propsOk_c ps hps.1 hps.2
  have hl0 : g.nodes.length ≤ 2 ^ 20 := by unfold Gr.cnt cl at hc; omega
  have hl1 : g.edges.length ≤ 2 ^ 20 := by unfold Gr.cnt cl at hc; omega
  have h5 := placeN_c g.nodes (by omega) fr
  have h6 := placeN_c g.nodes (by omega) to
  have hi := hf.2.2.2.2.2
  have hlp : ps.length ≤ 2 ^ 20 := by unfold cl at hcp; omega
  have h7 := fun c2 => cloneProps_c ps hlp (fun p hp => by
    have h2 := sums_mem (c := Pr.cnt) hp
    have h3 : p.cnt = p.name.length + p.val.cnt := rfl
    unfold cl at hcp
    exact cloneValue_c p.val (hps.2 p hp).2 (by omega) (PropsOk.val c2 p hp))
  by_cases g1 : GOk g
  · replace h2 := h2 g1
    have eno : ¬ addEOk g kd fr to ps → edgeAdd g kd fr to ps = (g, 0, false) := fun h => by simp [edgeAdd, eAdd, g1, h]
    have eyes : addEOk g kd fr to ps → edgeAdd g kd fr to ps = (gAddE g kd fr to ps, g.ne, true) := fun h => by simp [edgeAdd, eAdd, g1, h]
    obtain ⟨l, es, nn, ne⟩ := g
    simp only at hi hl1 hl0 h5 h6
    refine via_impl_EdgeAdd (by simp) ?_
    by_cases c1 : nameOk kd = true
    · by_cases c2 : PropsOk ps
      · by_cases c3 : (es.length : Int) < 16
        · have d3 : ¬ 16 ≤ (es.length : Int) := by omega
          by_cases c4 : ne < 1000000000
          · have d4 : ¬ 1000000000 ≤ ne := by omega
            by_cases c5 : 0 ≤ posOf Nd.id fr l
            · have d5 : ¬ posOf Nd.id fr l < 0 := by omega
              by_cases c6 : 0 ≤ posOf Nd.id to l
              · have d6 : ¬ posOf Nd.id to l < 0 := by omega
                have hyes : addEOk ⟨l, es, nn, ne⟩ kd fr to ps := ⟨c1, c2, c5, c6, by simp only; omega, c4⟩
                rw [eyes hyes]
                replace h7 := h7 c2
                have hw : IntKind.i64.wrap (ne + 1) = ne + 1 := wrap64 (by have := hi.1; omega) (by omega)
                have hb2 : (es.length + 1) * 64 ≤ 35184372088832 := by omega
                simp [pc_impl_EdgeAdd, g1]
                refine callK_val (by simp) h1 rfl ?_
                simp [g1]
                refine callK_val (by simp) h2 (by simp [T.noImm]) ?_
                simp [g1]
                refine callK_val (by simp) h3 rfl ?_
                simp [g1, c1]
                refine callK_val (by simp) h4 rfl ?_
                simp [g1, c1, c2, c3, d3, c4, d4]
                refine hookH_view (nodesOf_v (.imm (l.map sN.I)) (.imm (es.map sE.I)) rfl rfl nn ne) rfl ok1 (by simp) ?_
                simp [g1, c1, c2, c3, d3, c4, d4]
                repeat refine need_mk (by decide +kernel) ?_
                refine callK_val (by simp) h5 rfl ?_
                simp [g1, c1, c2, c3, d3, c4, d4, c5, d5]
                refine callK_val (by simp) h6 rfl ?_
                simp [g1, c1, c2, c3, d3, c4, d4, c5, d5, c6, d6, hb2, hw]
                repeat refine need_mk (by decide +kernel) ?_
                refine callK_val (by simp) h7 (by simp [T.noImm]) ?_
                simp [g1, c1, c2, c3, d3, c4, d4, c5, d5, c6, d6, hb2, hw]
                repeat refine need_mk (by decide +kernel) ?_
                have hA : (es.map sE.O).length = es.length := by simp
                have hg2 := app1_get hA
                have hs3 := app1_set hA
                refine fin_wk (Wk.join (b := 88) (r := es.length) (cs := sE.O ⟨ne, kd, fr, to, ps⟩) rfl (by simp [hg2]; rfl) (by simp) (by simp)) ?_
                simp [hs3]
                exact fin_own (by simp; rfl) (by simp [gAddE, List.take_of_length_le]) (by simp) (by simp [gAddE])
              · have d6 : posOf Nd.id to l < 0 := by omega
                rw [eno fun h => c6 h.2.2.2.1]
                simp [pc_impl_EdgeAdd, g1]
                refine callK_val (by simp) h1 rfl ?_
                simp [g1]
                refine callK_val (by simp) h2 (by simp [T.noImm]) ?_
                simp [g1]
                refine callK_val (by simp) h3 rfl ?_
                simp [g1, c1]
                refine callK_val (by simp) h4 rfl ?_
                simp [g1, c1, c2, c3, d3, c4, d4]
                refine hookH_view (nodesOf_v (.imm (l.map sN.I)) (.imm (es.map sE.I)) rfl rfl nn ne) rfl ok1 (by simp) ?_
                simp [g1, c1, c2, c3, d3, c4, d4]
                repeat refine need_mk (by decide +kernel) ?_
                refine callK_val (by simp) h5 rfl ?_
                simp [g1, c1, c2, c3, d3, c4, d4, c5, d5]
                refine callK_val (by simp) h6 rfl ?_
                simp [g1, c1, c2, c3, d3, c4, d4, c5, d5, c6, d6]
                exact fin_own (by simp; rfl) (by simp) (by simp) (by simp)
            · have d5 : posOf Nd.id fr l < 0 := by omega
              rw [eno fun h => c5 h.2.2.1]
              simp [pc_impl_EdgeAdd, g1]
              refine callK_val (by simp) h1 rfl ?_
              simp [g1]
              refine callK_val (by simp) h2 (by simp [T.noImm]) ?_
              simp [g1]
              refine callK_val (by simp) h3 rfl ?_
              simp [g1, c1]
              refine callK_val (by simp) h4 rfl ?_
              simp [g1, c1, c2, c3, d3, c4, d4]
              refine hookH_view (nodesOf_v (.imm (l.map sN.I)) (.imm (es.map sE.I)) rfl rfl nn ne) rfl ok1 (by simp) ?_
              simp [g1, c1, c2, c3, d3, c4, d4]
              repeat refine need_mk (by decide +kernel) ?_
              refine callK_val (by simp) h5 rfl ?_
              simp [g1, c1, c2, c3, d3, c4, d4, c5, d5]
              exact fin_own (by simp; rfl) (by simp) (by simp) (by simp)
          · have d4 : 1000000000 ≤ ne := by omega
            rw [eno fun h => c4 h.2.2.2.2.2]
            simp [pc_impl_EdgeAdd, g1]
            refine callK_val (by simp) h1 rfl ?_
            simp [g1]
            refine callK_val (by simp) h2 (by simp [T.noImm]) ?_
            simp [g1]
            refine callK_val (by simp) h3 rfl ?_
            simp [g1, c1]
            refine callK_val (by simp) h4 rfl ?_
            simp [g1, c1, c2, c3, d3, c4, d4]
            exact fin_own (by simp; rfl) (by simp) (by simp) (by simp)
        · have d3 : 16 ≤ (es.length : Int) := by omega
          rw [eno fun h => c3 (by have := h.2.2.2.2.1; simp only at this; omega)]
          simp [pc_impl_EdgeAdd, g1]
          refine callK_val (by simp) h1 rfl ?_
          simp [g1]
          refine callK_val (by simp) h2 (by simp [T.noImm]) ?_
          simp [g1]
          refine callK_val (by simp) h3 rfl ?_
          simp [g1, c1]
          refine callK_val (by simp) h4 rfl ?_
          simp [g1, c1, c2, c3, d3]
          exact fin_own (by simp; rfl) (by simp) (by simp) (by simp)
      · rw [eno fun h => c2 h.2.1]
        simp [pc_impl_EdgeAdd, g1]
        refine callK_val (by simp) h1 rfl ?_
        simp [g1]
        refine callK_val (by simp) h2 (by simp [T.noImm]) ?_
        simp [g1]
        refine callK_val (by simp) h3 rfl ?_
        simp [g1, c1]
        refine callK_val (by simp) h4 rfl ?_
        simp [g1, c1, c2]
        exact fin_own (by simp; rfl) (by simp) (by simp) (by simp)
    · rw [eno fun h => c1 h.1]
      simp [pc_impl_EdgeAdd, g1]
      refine callK_val (by simp) h1 rfl ?_
      simp [g1]
      refine callK_val (by simp) h2 (by simp [T.noImm]) ?_
      simp [g1]
      refine callK_val (by simp) h3 rfl ?_
      simp [g1, c1]
      exact fin_own (by simp; rfl) (by simp) (by simp) (by simp)
  · have e1 : edgeAdd g kd fr to ps = (zG, 0, false) := by simp [edgeAdd, g1]
    rw [e1]
    obtain ⟨l, es, nn, ne⟩ := g
    refine via_impl_EdgeAdd (by simp) ?_
    simp [pc_impl_EdgeAdd]
    refine callK_val (by simp) h1 rfl ?_
    simp [g1]
    exact fin_own (by simp; rfl) (by simp [zG]) (by simp) (by simp [zG])
theorem nameOk_len {s : Tx} (h : nameOk s = true) : s.length ≤ 8 := by
  cases s with
  | nil => simp [nameOk] at h
  | cons c r =>
    simp only [nameOk, Bool.and_eq_true, decide_eq_true_eq] at h
    have := h.1.2
    simp only [List.length_cons]; omega
end Go.Proofs.Ytonljcphaiklgaa.V
/- Edges beside their nodes. -/
namespace Go.Proofs.Ytonljcphaiklgaa.V
open Go
set_option linter.unusedVariables false
set_option linter.unusedSimpArgs false
set_option maxHeartbeats 16000000
abbrev Grp := List (Int × List Int)
def gFind (k : Int) (m : Grp) : Option Nat := m.findIdx? (fun p => decide (p.1 = k))
def gGet (k : Int) (m : Grp) : List Int := match gFind k m with | some j => (match m[j]? with | some p => p.2 | none => []) | none => []
def gAdd (m : Grp) (k i : Int) : Grp := match gFind k m with | some j => m.set j (k, gGet k m ++ [i]) | none => m ++ [(k, [i])]
def gT (m : Grp) : List (T × T) := m.map fun p => (.i .i64 p.1, .own 1 (p.2.map sI.O))
theorem mfind_gT (k : Int) (m : Grp) : mfind (.i .i64 k) (gT m) = gFind k m := by
  induction m with
  | nil => rfl
  | cons p m ih =>
    simp only [gT, List.map_cons] at ih ⊢
    simp only [mfind, ih, gFind, List.findIdx?_cons, tkEq]
theorem gT_key (m : Grp) : ∀ p ∈ gT m, p.1.isKey (.int .i64) = true := by
  intro p hp
  obtain ⟨q, _, rfl⟩ := List.mem_map.1 hp
  rfl
theorem gFind_some {k : Int} {m : Grp} {j : Nat} (h : gFind k m = some j) : ∃ l, m[j]? = some (k, l) ∧ gGet k m = l := by
  have h1 := List.findIdx?_eq_some_iff_getElem.1 h
  obtain ⟨h1, h2, _⟩ := h1
  have hk : (m[j]).1 = k := by simpa using h2
  refine ⟨(m[j]).2, by rw [List.getElem?_eq_getElem h1, ← hk], ?_⟩
  unfold gGet
  simp only [h, List.getElem?_eq_getElem h1]
def gStep (m : Grp) (p : Eg × Nat) : Grp := if p.1.to ≠ p.1.frm then gAdd (gAdd m p.1.frm p.2) p.1.to p.2 else gAdd m p.1.frm p.2
def bsd (es : List Eg) : Grp := es.zipIdx.foldl gStep []
theorem bsd_succ {es : List Eg} {i : Nat} {x : Eg} (h : es[i]? = some x) : bsd (es.take (i + 1)) = gStep (bsd (es.take i)) (x, i) := by
  have hi : i < es.length := (List.getElem?_eq_some_iff.1 h).1
  unfold bsd
  rw [List.take_add_one, h]
  simp only [Option.toList_some, List.zipIdx_append, List.foldl_append, List.zipIdx_cons, List.zipIdx_nil, List.foldl_cons, List.foldl_nil, List.length_take, Nat.zero_add]
  rw [Nat.min_eq_left (by omega)]
theorem mfind_app {k : T} : ∀ (es : List (T × T)) (v : T), tkEq k k = true → mfind k es = none → mfind k (es ++ [(k, v)]) = some es.length
  | [], v, hk, h => by simp [mfind, hk]
  | p :: es, v, hk, h => by
    simp only [mfind] at h
    split at h
    · exact absurd h (by simp)
    · rename_i hp
      have h2 : mfind k es = none := by simpa using h
      simp [mfind, hp, mfind_app es v hk h2]
theorem mfind_set {k c v : T} : ∀ (es : List (T × T)) (j : Nat) (x : T), mfind k es = some j → es[j]? = some (c, x) → mfind k (es.set j (c, v)) = some j
  | [], j, x, h, hx => by simp [mfind] at h
  | p :: es, j, x, h, hx => by
    simp only [mfind] at h
    split at h
    · rename_i hp
      simp only [Option.some.injEq] at h
      subst h
      simp only [List.getElem?_cons_zero, Option.some.injEq] at hx
      subst hx
      simp [mfind, hp]
    · rename_i hp
      obtain ⟨j', h1, rfl⟩ := Option.map_eq_some_iff.1 h
      simp only [List.getElem?_cons_succ] at hx
      simp [mfind, hp, mfind_set es j' x h1 hx]
theorem gT_none {m : Grp} {k i : Int} (h : gFind k m = none) : gT (gAdd m k i) = gT m ++ [(.i .i64 k, .own 1 [[.i .i64 i]])] := by
  simp [gAdd, h, gT]
theorem gT_some {m : Grp} {k i : Int} {j : Nat} {l : List Int} (h : gFind k m = some j) (hl : gGet k m = l) : gT (gAdd m k i) = (gT m).set j (.i .i64 k, .own 1 (l.map sI.O ++ [[.i .i64 i]])) := by
  simp [gAdd, h, gT, hl, List.map_set]
theorem gT_at {m : Grp} {k : Int} {j : Nat} {l : List Int} (h : m[j]? = some (k, l)) : (gT m)[j]? = some (.i .i64 k, .own 1 (l.map sI.O)) := by
  simp [gT, h]
/-- How long a row is at most. -/
def gLen (m : Grp) (n : Nat) : Prop := ∀ p ∈ m, p.2.length ≤ n
theorem gAdd_len {m : Grp} {n : Nat} (h : gLen m n) (k i : Int) : gLen (gAdd m k i) (n + 1) := by
  intro p hp
  unfold gAdd at hp
  cases hf : gFind k m with
  | none =>
    rw [hf] at hp
    simp only [List.mem_append, List.mem_singleton] at hp
    rcases hp with hp | rfl
    · have := h p hp; omega
    · simp
  | some j =>
    rw [hf] at hp
    obtain ⟨l, h1, h2⟩ := gFind_some hf
    have h3 := h _ (List.mem_of_getElem? h1)
    rcases List.mem_or_eq_of_mem_set hp with hp | rfl
    · have := h p hp; omega
    · simp only [h2, List.length_append, List.length_singleton] at h3 ⊢; omega
theorem gT_clean (m : Grp) : ((gT m).map Prod.snd).all T.clean = true := by
  simp only [gT, List.map_map, List.all_map, List.all_eq_true]
  intro p _
  rfl
@[simp] theorem gT_names (m : Grp) : namess ((gT m).map Prod.snd) = [] := namess_clean (gT_clean m)
theorem gT_pl (m : Grp) : ((gT m).map Prod.snd).all T.pl = true := by
  simp only [gT, List.map_map, List.all_map, List.all_eq_true]
  intro p _
  exact sI.crO p.2
theorem gT_set_names {m : Grp} {j : Nat} {rows : List (List T)} : namess (((gT m).map Prod.snd).set j (.own 1 rows)) = [] := by
  refine namess_clean ?_
  rw [List.all_eq_true]
  intro x hx
  rcases List.mem_or_eq_of_mem_set hx with h | rfl
  · exact List.all_eq_true.1 (gT_clean m) x h
  · rfl
theorem gT_set_key (m : Grp) {j : Nat} {k : Int} {v : T} : ∀ p ∈ (gT m).set j (.i .i64 k, v), p.1.isKey (.int .i64) = true := by
  intro p hp
  rcases List.mem_or_eq_of_mem_set hp with h | rfl
  · exact gT_key m p h
  · rfl
theorem besideOf_m (g : Gr) (hl : g.edges.length ≤ 2 ^ 20) : Rm Try.prog 64 [.agg (sG.I g)] (gT (bsd g.edges)) := by
  have um : Try.prog.underlying 91 = some (.map 3 29) := by kernel_rfl
  have uk : Try.prog.underlying 3 = some (.int .i64) := by kernel_rfl
  have uz : (Try.prog.info? 29).bind (·.zero) = some (.slice none 0 0) := by kernel_rfl
  obtain ⟨l, es, nn, ne⟩ := g
  simp only at hl
  refine Rm.of Try.func64 ok_impl_besideOf rfl rfl (by simp) ?_
  simp [pc_impl_besideOf]
  refine hookH_of [] hook_makeMap (by simp) ?_
  simp
  refine W_forS (fun i => ⟨[(10, .i .i64 i), (9, .i .i64 es.length), (8, .imm (es.map sE.I)), (3, .mp 1)], [(1, .mb (gT (bsd (es.take i))))], 20, 0⟩) es.length (fun i => gLen (bsd (es.take i)) (2 * i)) (Wk.less rfl (by simp) (by simp) (by simp [bsd, gT])) (by simp [bsd, gLen]) ?_
  intro i hi hg
  rcases Nat.lt_or_ge i es.length with h1 | h1
  · obtain ⟨x, hx⟩ : ∃ x, es[i]? = some x := ⟨_, List.getElem?_eq_getElem h1⟩
    have hw : IntKind.i64.wrap ((i : Int) + 1) = (i : Int) + 1 := wrap1 (by omega)
    rw [bsd_succ hx]
    generalize bsd (es.take i) = m at *
    obtain ⟨a, b, c, d, ps⟩ := x
    refine WW_seq (WW_of_W ?_)
    simp [h1]
    refine WW_seq (WW_of_W ?_)
    simp
    refine WW_seq (WW_block ?_)
    refine WW_seq (WW_of_W ?_)
    simp [-getElem?_pos, hx, h1]
    refine WW_wk (s' := ⟨[(10, .i .i64 i), (9, .i .i64 es.length), (8, .imm (es.map sE.I)), (3, .mp 1), (4, .i .i64 i), (5, .ptr 20 0 0)], [(1, .mb (gT m)), (20, .arr 5 [[.i .i64 a, .s b, .i .i64 c, .i .i64 d, .imm (ps.map sP.I)]])], 40, 0⟩) (Wk.less rfl (by simp) (by simp) (by simp)) ?_
    have hg1 := gAdd_len hg c i
    refine WW_seq (thn_cut (s2 := ⟨[(10, .i .i64 i), (9, .i .i64 es.length), (8, .imm (es.map sE.I)), (3, .mp 1), (4, .i .i64 i), (5, .ptr 20 0 0)], [(1, .mb (gT (gAdd m c i))), (20, .arr 5 [[.i .i64 a, .s b, .i .i64 c, .i .i64 d, .imm (ps.map sP.I)]])], 40, 0⟩) ?_ ?_)
    · cases hf : gFind c m with
      | none =>
        have hmf : mfind (.i .i64 c) (gT m) = none := by rw [mfind_gT, hf]
        have hma := mfind_app (gT m) (.ref 112 0 1) (k := .i .i64 c) (by simp [tkEq]) hmf
        simp
        refine hookH_of [(1, .mb (gT m))] (hook_lookup0 um uk rfl (gT_key m) uz rfl hmf) (by simp) ?_
        simp [lkV]
        repeat refine need_mk (by decide +kernel) ?_
        refine hookH_of [(1, .mb (gT m))] (hook_update um uk rfl (gT_key m)) (by simp) ?_
        rw [hmf]
        simp
        repeat refine need_mk (by decide +kernel) ?_
        exact Wk.trans (Wk.absorbM (b := 1) (n := 112) (j := (gT m).length) (c := .i .i64 c) (m := 1) (sz := 1) (rows := [[.i .i64 i]]) rfl rfl (by simp) (by simp) rfl (by simp)) (Wk.to rfl (by simp) (by simp) (by simp [Blk.names, gT_none hf]) (by simp))
      | some j =>
        obtain ⟨q, hj, hq⟩ := gFind_some hf
        have hmf : mfind (.i .i64 c) (gT m) = some j := by rw [mfind_gT, hf]
        have hat := gT_at hj
        have hb : (q.length + 1) * 8 ≤ 35184372088832 := by
          have := hg _ (List.mem_of_getElem? hj)
          simp only at this; omega
        simp
        refine hookH_of [(1, .mb (gT m))] (hook_lookup2 um uk rfl (gT_key m) hmf hat) (by simp) ?_
        simp [lkV, hb]
        repeat refine need_mk (by decide +kernel) ?_
        refine hookH_of [(1, .mb ((gT m).set j (.i .i64 c, .ref 88 0 q.length)))] (hook_update um uk rfl (gT_set_key m)) (by simp) ?_
        rw [mfind_set _ _ _ hmf hat]
        simp
        repeat refine need_mk (by decide +kernel) ?_
        have hjl : j < (gT m).length := (List.getElem?_eq_some_iff.1 hat).1
        exact Wk.trans (Wk.absorbM (b := 1) (n := 112) (j := j) (c := .i .i64 c) (m := q.length + 1) (sz := 1) (rows := q.map sI.O ++ [[.i .i64 i]]) rfl rfl (by simp) (by rw [List.getElem?_set_self (by simpa using hjl)]) (by simp) (by simp)) (Wk.to rfl (by simp) (by simp) (by simp [Blk.names, gT_some hf hq, gT_set_names]) (by simp))
    · refine WW_seq (WW_of_W ?_)
      by_cases hd : d = c
      · have hst : gStep m (⟨a, b, c, d, ps⟩, i) = gAdd m c i := by simp [gStep, hd]
        rw [hst]
        simp [hd]
        refine WW_of_W ?_
        simp
        refine WW_of_W ?_
        simp [hw, h1]
        refine ⟨fun p hp => by have := hg1 p hp; omega, ?_⟩
        exact Wk.to rfl (by simp) (by simp) (by simp [Blk.names]) (by simp)
      · have hst : gStep m (⟨a, b, c, d, ps⟩, i) = gAdd (gAdd m c i) d i := by simp [gStep, hd]
        rw [hst]
        generalize gAdd m c i = m1 at *
        have hg2 := gAdd_len hg1 d i
        simp [hd]
        refine WW_wk (s' := ⟨[(10, .i .i64 i), (9, .i .i64 es.length), (8, .imm (es.map sE.I)), (3, .mp 1), (4, .i .i64 i), (5, .ptr 20 0 0), (29, .b true)], [(1, .mb (gT m1)), (20, .arr 5 [[.i .i64 a, .s b, .i .i64 c, .i .i64 d, .imm (ps.map sP.I)]])], 40, 0⟩) (Wk.to rfl (by simp) (by simp) (by simp [Blk.names]) (by simp)) (WW_of_W ?_)
        cases hf : gFind d m1 with
        | none =>
          have hmf : mfind (.i .i64 d) (gT m1) = none := by rw [mfind_gT, hf]
          have hma := mfind_app (gT m1) (.ref 112 0 1) (k := .i .i64 d) (by simp [tkEq]) hmf
          simp
          refine hookH_of [(1, .mb (gT m1))] (hook_lookup0 um uk rfl (gT_key m1) uz rfl hmf) (by simp) ?_
          simp [lkV]
          repeat refine need_mk (by decide +kernel) ?_
          refine hookH_of [(1, .mb (gT m1))] (hook_update um uk rfl (gT_key m1)) (by simp) ?_
          rw [hmf]
          simp
          repeat refine need_mk (by decide +kernel) ?_
          refine WW_wk (s' := ⟨[(10, .i .i64 i), (9, .i .i64 es.length), (8, .imm (es.map sE.I)), (3, .mp 1)], [(1, .mb (gT (gAdd m1 d i)))], 40, 0⟩) (Wk.trans (Wk.absorbM (b := 1) (n := 112) (j := (gT m1).length) (c := .i .i64 d) (m := 1) (sz := 1) (rows := [[.i .i64 i]]) rfl rfl (by simp) (by simp) rfl (by simp)) (Wk.to rfl (by simp) (by simp) (by simp [Blk.names, gT_none hf]) (by simp))) (WW_of_W ?_)
          simp [hw, h1]
          refine ⟨fun p hp => by have := hg2 p hp; omega, ?_⟩
          exact Wk.to rfl (by simp) (by simp) (by simp [Blk.names]) (by simp)
        | some j =>
          obtain ⟨q, hj, hq⟩ := gFind_some hf
          have hmf : mfind (.i .i64 d) (gT m1) = some j := by rw [mfind_gT, hf]
          have hat := gT_at hj
          have hb : (q.length + 1) * 8 ≤ 35184372088832 := by
            have := hg1 _ (List.mem_of_getElem? hj)
            simp only at this; omega
          simp
          refine hookH_of [(1, .mb (gT m1))] (hook_lookup2 um uk rfl (gT_key m1) hmf hat) (by simp) ?_
          simp [lkV, hb]
          repeat refine need_mk (by decide +kernel) ?_
          refine hookH_of [(1, .mb ((gT m1).set j (.i .i64 d, .ref 88 0 q.length)))] (hook_update um uk rfl (gT_set_key m1)) (by simp) ?_
          rw [mfind_set _ _ _ hmf hat]
          simp
          repeat refine need_mk (by decide +kernel) ?_
          have hjl : j < (gT m1).length := (List.getElem?_eq_some_iff.1 hat).1
          refine WW_wk (s' := ⟨[(10, .i .i64 i), (9, .i .i64 es.length), (8, .imm (es.map sE.I)), (3, .mp 1)], [(1, .mb (gT (gAdd m1 d i)))], 40, 0⟩) (Wk.trans (Wk.absorbM (b := 1) (n := 112) (j := j) (c := .i .i64 d) (m := q.length + 1) (sz := 1) (rows := q.map sI.O ++ [[.i .i64 i]]) rfl rfl (by simp) (by rw [List.getElem?_set_self (by simpa using hjl)]) (by simp) (by simp)) (Wk.to rfl (by simp) (by simp) (by simp [Blk.names, gT_some hf hq, gT_set_names]) (by simp))) (WW_of_W ?_)
          simp [hw, h1]
          refine ⟨fun p hp => by have := hg2 p hp; omega, ?_⟩
          exact Wk.to rfl (by simp) (by simp) (by simp [Blk.names]) (by simp)
  · have h2 : ¬ i < es.length := by omega
    refine WW_of_W ?_
    simp [h2]
    rw [List.take_of_length_le h1]
    exact fin_map 1 (Wk.refl _) rfl rfl (gT_pl _)
end Go.Proofs.Ytonljcphaiklgaa.V
/- Edges of a node. -/
namespace Go.Proofs.Ytonljcphaiklgaa.V
open Go
set_option linter.unusedVariables false
set_option linter.unusedSimpArgs false
set_option maxHeartbeats 16000000
theorem gGet_cons (k : Int) (p : Int × List Int) (m : Grp) : gGet k (p :: m) = if p.1 = k then p.2 else gGet k m := by
  unfold gGet gFind
  rw [List.findIdx?_cons]
  by_cases h : p.1 = k
  · simp [h]
  · simp only [h, decide_false, Bool.false_eq_true, if_false]
    cases hf : List.findIdx? (fun p => decide (p.1 = k)) m with
    | none => simp
    | some j => simp
theorem gAdd_cons (k i : Int) (p : Int × List Int) (m : Grp) : gAdd (p :: m) k i = if p.1 = k then (k, p.2 ++ [i]) :: m else p :: gAdd m k i := by
  have hg := gGet_cons k p m
  unfold gAdd
  unfold gFind
  rw [List.findIdx?_cons]
  by_cases h : p.1 = k
  · rw [if_pos h] at hg
    simp [h, hg]
  · rw [if_neg h] at hg
    simp only [h, decide_false, Bool.false_eq_true, if_false]
    cases hf : List.findIdx? (fun p => decide (p.1 = k)) m with
    | none => simp
    | some j => simp [hg]
theorem gGet_add (k k' i : Int) : ∀ m : Grp, gGet k (gAdd m k' i) = if k' = k then gGet k m ++ [i] else gGet k m
  | [] => by
    have h1 : gAdd [] k' i = [(k', [i])] := rfl
    have h2 : gGet k [] = [] := rfl
    rw [h1, gGet_cons, h2]; simp
  | p :: m => by
    rw [gAdd_cons]
    by_cases h : p.1 = k'
    · rw [if_pos h, gGet_cons, gGet_cons, h]
      by_cases h2 : k' = k <;> simp [h2]
    · rw [if_neg h, gGet_cons, gGet_cons, gGet_add k k' i m]
      by_cases h2 : k' = k
      · subst h2; simp [h]
      · simp [h2]
def atN (id : Int) (e : Eg) : Bool := decide (e.frm = id) || decide (e.to = id)
def plAt (id : Int) (es : List Eg) : List (Eg × Nat) := es.zipIdx.filter (fun p => atN id p.1)
theorem gGet_step (k : Int) (m : Grp) (p : Eg × Nat) : gGet k (gStep m p) = gGet k m ++ (if atN k p.1 = true then [(p.2 : Int)] else []) := by
  unfold gStep
  by_cases h : p.1.to = p.1.frm
  · simp only [h, ne_eq, not_true_eq_false, if_false, gGet_add, atN]
    by_cases h2 : p.1.frm = k <;> simp [h2]
  · simp only [ne_eq, h, not_false_eq_true, if_true, gGet_add, atN]
    by_cases h2 : p.1.frm = k
    · have h3 : ¬ p.1.to = k := fun h3 => h (h3.trans h2.symm)
      simp [h2, h3]
    · by_cases h3 : p.1.to = k <;> simp [h2, h3]
theorem gGet_fold (k : Int) : ∀ (l : List (Eg × Nat)) (m : Grp), gGet k (l.foldl gStep m) = gGet k m ++ (l.filter (fun p => atN k p.1)).map (fun p => (p.2 : Int))
  | [], m => by simp
  | p :: l, m => by
    rw [List.foldl_cons, gGet_fold k l, gGet_step, List.filter_cons]
    by_cases h : atN k p.1 = true <;> simp [h]
theorem gGet_bsd (k : Int) (es : List Eg) : gGet k (bsd es) = (plAt k es).map (fun p => (p.2 : Int)) := by
  unfold bsd plAt
  rw [gGet_fold]
  have : gGet k [] = [] := rfl
  rw [this, List.nil_append]
theorem plAt_mem {id : Int} {es : List Eg} {p : Eg × Nat} (h : p ∈ plAt id es) : es[p.2]? = some p.1 := by
  have h1 := (List.mem_filter.1 h).1
  exact List.mem_zipIdx_iff_getElem?.1 h1
def goes (id way : Int) (kd : Tx) (e : Eg) : Bool := (decide (kd = []) || decide (e.kind = kd)) && ((decide (0 ≤ way) && decide (e.frm = id)) || (decide (way ≤ 0) && decide (e.to = id)))
def idsOf (id way : Int) (kd : Tx) (es : List Eg) : List Int := (es.filter (goes id way kd)).map Eg.id
theorem goes_at {id way : Int} {kd : Tx} {e : Eg} (h : goes id way kd e = true) : atN id e = true := by
  simp only [goes, atN, Bool.and_eq_true, Bool.or_eq_true, decide_eq_true_eq] at h ⊢
  rcases h.2 with h | h
  · exact .inl h.2
  · exact .inr h.2
theorem idsOf_pl (id way : Int) (kd : Tx) (es : List Eg) : ((plAt id es).filter (fun p => goes id way kd p.1)).map (fun p => p.1.id) = idsOf id way kd es := by
  unfold plAt idsOf
  rw [List.filter_filter]
  have h1 : ∀ p : Eg × Nat, (goes id way kd p.1 && atN id p.1) = goes id way kd p.1 := fun p => by
    cases h : goes id way kd p.1 with
    | false => rfl
    | true => simp [goes_at h]
  simp only [h1]
  have h2 : ∀ (l : List Eg) (n : Nat), ((l.zipIdx n).filter (fun p => goes id way kd p.1)).map (fun p => p.1.id) = (l.filter (goes id way kd)).map Eg.id := by
    intro l
    induction l with
    | nil => simp
    | cons e l ih =>
      intro n
      rw [List.zipIdx_cons, List.filter_cons, List.filter_cons]
      by_cases h : goes id way kd e = true <;> simp [h, ih]
  exact h2 es 0
theorem idsOf_none {g : Gr} (hg : GOk g) {id way : Int} {kd : Tx} (h : posOf Nd.id id g.nodes < 0) : idsOf id way kd g.edges = [] := by
  unfold idsOf
  rw [List.map_eq_nil_iff, List.filter_eq_nil_iff]
  intro e he hgo
  have h1 := hg.eok e he
  have h2 := goes_at hgo
  simp only [atN, Bool.or_eq_true, decide_eq_true_eq] at h2
  rcases h2 with rfl | rfl
  · have := h1.2.2.1; omega
  · have := h1.2.2.2; omega
open Classical in
noncomputable def edgesOf (g : Gr) (id way : Int) (kd : Tx) : List Int := if GOk g ∧ -1 ≤ way ∧ way ≤ 1 then idsOf id way kd g.edges else []
theorem goesFrom_c (e : Eg) (id way : Int) (kd : Tx) : Rv Try.prog 65 [.agg (sE.I e), .i .i64 id, .i .i64 way, .s kd] (.b (goes id way kd e)) := by
  obtain ⟨a, b, c, d, ps⟩ := e
  refine via_impl_goesFrom (by simp) ?_
  by_cases h1 : kd = [] <;> by_cases h2 : b = kd <;> by_cases h3 : 0 ≤ way <;> by_cases h4 : c = id <;> by_cases h5 : way ≤ 0 <;> by_cases h6 : d = id <;>
    (simp [pc_impl_goesFrom, h1, h2, h3, h4, h5, h6]; try exact fin_val rfl (by simp [goes, h1, h2, h3, h4, h5, h6]) (by simp))
end Go.Proofs.Ytonljcphaiklgaa.V
/- Edges of a node, by the reference. -/
namespace Go.Proofs.Ytonljcphaiklgaa.V
open Go
set_option linter.unusedVariables false
set_option linter.unusedSimpArgs false
set_option maxHeartbeats 16000000
theorem l2Edges_c (g : Gr) (hl : g.edges.length ≤ 2 ^ 20) (id way : Int) (kd : Tx) : Rv Try.prog 68 [.agg (sG.I g), .i .i64 id, .i .i64 way, .s kd] (.own 1 ((idsOf id way kd g.edges).map sI.O)) := by
  obtain ⟨l, es, nn, ne⟩ := g
  simp only at hl
  refine via_spec_l2Edges (by simp) ?_
  simp [pc_spec_l2Edges]
  refine W_forS (fun i => ⟨[(10, .i .i64 i), (9, .ref 1 0 (idsOf id way kd (es.take i)).length), (1, .i .i64 id), (2, .i .i64 way), (3, .s kd), (4, .ptr 0 0 0)], [(0, .arr 4 [sG.I ⟨l, es, nn, ne⟩]), (1, .arr 1 ((idsOf id way kd (es.take i)).map sI.O))], 20, 0⟩) es.length (fun _ => True) ?_ trivial ?_
  · exact Wk.less rfl (by simp) (by simp [idsOf]) (by simp [idsOf])
  intro i hi _
  rcases Nat.lt_or_ge i es.length with h1 | h1
  · obtain ⟨x, hx⟩ : ∃ x, es[i]? = some x := ⟨_, List.getElem?_eq_getElem h1⟩
    have hw : IntKind.i64.wrap ((i : Int) + 1) = (i : Int) + 1 := wrap1 (by omega)
    have hfl : (idsOf id way kd (es.take i)).length ≤ i := by
      unfold idsOf
      rw [List.length_map]
      exact Nat.le_trans (List.length_filter_le _ _) (by simp; omega)
    have htk : es.take (i + 1) = es.take i ++ [x] := by rw [List.take_add_one, hx]; simp
    obtain ⟨a, b, c, d, e⟩ := x
    have hn0 : goes id way kd ⟨a, b, c, d, e⟩ = true → idsOf id way kd (es.take (i + 1)) = idsOf id way kd (es.take i) ++ [a] := fun h => by rw [htk]; unfold idsOf; rw [List.filter_append]; simp [h]
    have hn1 : ¬ goes id way kd ⟨a, b, c, d, e⟩ = true → idsOf id way kd (es.take (i + 1)) = idsOf id way kd (es.take i) := fun h => by rw [htk]; unfold idsOf; rw [List.filter_append]; simp [h]
    generalize idsOf id way kd (es.take i) = A at *
    generalize idsOf id way kd (es.take (i + 1)) = A' at *
    have hbig : (A.length + 1) * 8 ≤ 35184372088832 := by omega
    have hcl0 := sI.crO A
    refine WW_seq (WW_of_W ?_)
    simp [h1]
    refine WW_seq (WW_block (WW_seq (thn_cut (s2 := ⟨[(10, .i .i64 i), (9, .ref 1 0 A.length), (1, .i .i64 id), (2, .i .i64 way), (3, .s kd), (4, .ptr 0 0 0), (11, .ptr 20 0 0)], [(0, .arr 4 [sG.I ⟨l, es, nn, ne⟩]), (1, .arr 1 (A.map sI.O)), (20, .arr 5 [sE.I ⟨a, b, c, d, e⟩])], 30, 0⟩) ?_ ?_)))
    · simp [-getElem?_pos, hx, h1]
      exact Wk.to rfl (by simp) (by simp) (by simp [Blk.names, namesr_clean hcl0]) (by simp)
    refine WW_seq (thn_cut (s2 := ⟨[(10, .i .i64 i), (9, .ref 1 0 A.length), (1, .i .i64 id), (2, .i .i64 way), (3, .s kd), (4, .ptr 0 0 0), (11, .ptr 20 0 0), (12, .b ((decide (0 ≤ way) && decide (c = id)) || (decide (way ≤ 0) && decide (d = id))))], [(0, .arr 4 [sG.I ⟨l, es, nn, ne⟩]), (1, .arr 1 (A.map sI.O)), (20, .arr 5 [sE.I ⟨a, b, c, d, e⟩])], 30, 0⟩) ?_ ?_)
    · by_cases c3 : 0 ≤ way <;> by_cases c4 : c = id <;> by_cases c5 : way ≤ 0 <;> by_cases c6 : d = id <;> (simp [c3, c4, c5, c6]; exact Wk.to rfl (by simp) (by simp [c3, c4, c5, c6]) (by simp [Blk.names, namesr_clean hcl0]) (by simp))
    have hgo : goes id way kd ⟨a, b, c, d, e⟩ = ((decide (kd = []) || decide (b = kd)) && ((decide (0 ≤ way) && decide (c = id)) || (decide (way ≤ 0) && decide (d = id)))) := rfl
    generalize ((decide (0 ≤ way) && decide (c = id)) || (decide (way ≤ 0) && decide (d = id))) = is at *
    refine WW_seq (thn_cut (s2 := ⟨[(10, .i .i64 i), (9, .ref 1 0 A.length), (1, .i .i64 id), (2, .i .i64 way), (3, .s kd), (4, .ptr 0 0 0), (11, .ptr 20 0 0), (54, .b (goes id way kd ⟨a, b, c, d, e⟩))], [(0, .arr 4 [sG.I ⟨l, es, nn, ne⟩]), (1, .arr 1 (A.map sI.O)), (20, .arr 5 [sE.I ⟨a, b, c, d, e⟩])], 30, 0⟩) ?_ ?_)
    · rw [hgo]
      by_cases c1 : kd = [] <;> by_cases c2 : b = kd <;> cases is <;> (simp [c1, c2]; exact Wk.to rfl (by simp) (by simp [c1, c2]) (by simp [Blk.names, namesr_clean hcl0]) (by simp))
    clear hgo
    refine WW_of_W ?_
    by_cases hgo : goes id way kd ⟨a, b, c, d, e⟩ = true
    · rw [hn0 hgo]
      have hcl := sI.crO (A ++ [a])
      rw [List.map_append] at hcl
      simp only [List.map_cons, List.map_nil, sI_O] at hcl
      simp [hgo, hbig]
      refine WW_of_W ?_
      simp [hw, h1]
      refine Wk.ren (fun t => if t = 1 then 31 else t) rfl (by simp) (by simp) (by simp) ?_ (by simp)
      simp [Blk.rn, Blk.names, namesr_clean hcl, rnr_cl hcl]
    · rw [hn1 hgo]
      simp [hgo]
      refine WW_of_W ?_
      simp [hw, h1]
      exact Wk.to rfl (by simp) (by simp) (by simp [Blk.names, namesr_clean hcl0]) (by simp)
  · have h2 : ¬ i < es.length := by omega
    have e : es.take i = es := List.take_of_length_le (by omega)
    refine WW_of_W ?_
    simp [h2, e]
    exact fin_own (by simp; rfl) (by simp) (by simp) (by simp)
end Go.Proofs.Ytonljcphaiklgaa.V
/- Edges of a node: the two functions. -/
namespace Go.Proofs.Ytonljcphaiklgaa.V
open Go
set_option linter.unusedVariables false
set_option linter.unusedSimpArgs false
set_option maxHeartbeats 16000000
theorem specEdgesOf_c (g : Gr) (hf : g.fit) (hc : g.cnt ≤ 2 ^ 20) (id way : Int) (kd : Tx) : Rv Try.prog 20 [.agg (sG.I g), .i .i64 id, .i .i64 way, .s kd] (.own 1 ((edgesOf g id way kd).map sI.O)) := by
  have h1 := specGraphOk_c g hf
  have hle : g.edges.length ≤ 2 ^ 20 := by unfold Gr.cnt cl at hc; omega
  have hln : ln g.nodes := by unfold Gr.cnt cl at hc; simp only [ln]; omega
  have h2 := l2Node_c g hln id
  have h3 := l1In_c way (-1) 1
  have h4 := l2Edges_c g hle id way kd
  by_cases g1 : GOk g
  · by_cases g2 : posOf Nd.id id g.nodes < 0
    · have he : edgesOf g id way kd = [] := by simp [edgesOf, idsOf_none g1 g2]
      rw [he]
      obtain ⟨l, es, nn, ne⟩ := g
      simp only at g2 h2
      refine via_spec_EdgesOf (by simp) ?_
      simp [pc_spec_EdgesOf]
      refine callK_val (by simp) h1 rfl ?_
      simp [g1]
      refine callK_val (by simp) h2 rfl ?_
      simp [g2]
      exact fin_own (by simp; rfl) (by simp) (by simp) (by simp)
    · by_cases g3 : -1 ≤ way ∧ way ≤ 1
      · have he : edgesOf g id way kd = idsOf id way kd g.edges := by simp [edgesOf, g1, g3]
        rw [he]
        obtain ⟨l, es, nn, ne⟩ := g
        simp only at g2 h2
        refine via_spec_EdgesOf (by simp) ?_
        simp [pc_spec_EdgesOf]
        refine callK_val (by simp) h1 rfl ?_
        simp [g1]
        refine callK_val (by simp) h2 rfl ?_
        simp [g2]
        refine callK_val (by simp) h3 rfl ?_
        simp [g2, g3]
        refine callK_val (by simp) h4 (by simp [T.noImm]) ?_
        simp
        exact fin_own (by simp; rfl) (by simp) (by simp) (by simp)
      · have he : edgesOf g id way kd = [] := by simp only [edgesOf]; rw [if_neg (fun h => g3 h.2)]
        have d3 : (decide (-1 ≤ way) && decide (way ≤ 1)) = false := by
          cases hd : (decide (-1 ≤ way) && decide (way ≤ 1)) with
          | false => rfl
          | true => exact absurd (by simpa using hd) g3
        rw [he]
        rw [d3] at h3
        obtain ⟨l, es, nn, ne⟩ := g
        simp only at g2 h2
        refine via_spec_EdgesOf (by simp) ?_
        simp [pc_spec_EdgesOf]
        refine callK_val (by simp) h1 rfl ?_
        simp [g1]
        refine callK_val (by simp) h2 rfl ?_
        simp [g2]
        refine callK_val (by simp) h3 rfl ?_
        simp [g2]
        exact fin_own (by simp; rfl) (by simp) (by simp) (by simp)
  · have he : edgesOf g id way kd = [] := by simp [edgesOf, g1]
    rw [he]
    obtain ⟨l, es, nn, ne⟩ := g
    refine via_spec_EdgesOf (by simp) ?_
    simp [pc_spec_EdgesOf]
    refine callK_val (by simp) h1 rfl ?_
    simp [g1]
    exact fin_own (by simp; rfl) (by simp) (by simp) (by simp)
theorem EdgesOf_c (g : Gr) (hf : g.fit) (hc : g.cnt ≤ 2 ^ 20) (id way : Int) (kd : Tx) : Rv Try.prog 17 [.agg (sG.I g), .i .i64 id, .i .i64 way, .s kd] (.own 1 ((edgesOf g id way kd).map sI.O)) := by
  have um : Try.prog.underlying 91 = some (.map 3 29) := by kernel_rfl
  have uk : Try.prog.underlying 3 = some (.int .i64) := by kernel_rfl
  have uz : (Try.prog.info? 29).bind (·.zero) = some (.slice none 0 0) := by kernel_rfl
  have ok1 : okCall Try.prog 64 = true := by kernel_rfl
  have h1 := GraphOk_c g hf
  have hle : g.edges.length ≤ 2 ^ 20 := by unfold Gr.cnt cl at hc; omega
  have h2 := besideOf_m g hle
  by_cases g1 : GOk g
  · by_cases g2 : way < -1
    · have he : edgesOf g id way kd = [] := by simp only [edgesOf]; rw [if_neg (fun h => by omega)]
      rw [he]
      obtain ⟨l, es, nn, ne⟩ := g
      refine via_impl_EdgesOf (by simp) ?_
      simp [pc_impl_EdgesOf]
      refine callK_val (by simp) h1 rfl ?_
      simp [g1, g2]
      exact fin_own (by simp; rfl) (by simp) (by simp) (by simp)
    · by_cases g3 : 1 < way
      · have he : edgesOf g id way kd = [] := by simp only [edgesOf]; rw [if_neg (fun h => by omega)]
        rw [he]
        obtain ⟨l, es, nn, ne⟩ := g
        refine via_impl_EdgesOf (by simp) ?_
        simp [pc_impl_EdgesOf]
        refine callK_val (by simp) h1 rfl ?_
        simp [g1, g2, g3]
        exact fin_own (by simp; rfl) (by simp) (by simp) (by simp)
      · have he : edgesOf g id way kd = idsOf id way kd g.edges := by simp only [edgesOf]; rw [if_pos ⟨g1, by omega, by omega⟩]
        rw [he]
        obtain ⟨l, es, nn, ne⟩ := g
        simp only at hle h2
        have hget := gGet_bsd id es
        refine via_impl_EdgesOf (by simp) ?_
        simp [pc_impl_EdgesOf]
        refine callK_val (by simp) h1 rfl ?_
        simp [g1, g2, g3]
        refine hookH_of [] (hook_callM rfl ok1 (by simp) h2) (by simp) ?_
        simp
        cases hfk : gFind id (bsd es) with
        | none =>
          have hq0 : gGet id (bsd es) = [] := by unfold gGet; rw [hfk]
          rw [hq0] at hget
          have hpl : plAt id es = [] := List.map_eq_nil_iff.1 hget.symm
          have hids : idsOf id way kd es = [] := by rw [← idsOf_pl, hpl]; rfl
          have hmf : mfind (.i .i64 id) (gT (bsd es)) = none := by rw [mfind_gT, hfk]
          refine hookH_of [(_, .mb (gT (bsd es)))] (hook_lookup0 um uk rfl (gT_key _) uz rfl hmf) (by simp) ?_
          simp [lkV, hids]
          refine W_for (fun i => ⟨[(29, .i .i64 i), (28, .i .i64 0), (9, .nl)], [], 20, 0⟩) 0 (fun _ => True) (Wk.less rfl (by simp) (by simp) (by simp)) trivial ?_
          intro i hi _
          obtain rfl : i = 0 := by omega
          simp
          exact fin_own (by simp; rfl) (by simp [hids]) (by simp) (by simp [hids])
        | some j =>
          obtain ⟨q, hj, hq⟩ := gFind_some hfk
          have hmf : mfind (.i .i64 id) (gT (bsd es)) = some j := by rw [mfind_gT, hfk]
          refine hookH_of [(_, .mb (gT (bsd es)))] (hook_lookup2 um uk rfl (gT_key _) hmf (gT_at hj)) (by simp) ?_
          simp [lkV]
          have hqp : q = (plAt id es).map (fun p => (p.2 : Int)) := by rw [← hq]; exact hget
          have hql : q.length = (plAt id es).length := by rw [hqp]; simp
          have hpm : ∀ p ∈ plAt id es, es[p.2]? = some p.1 := fun p hp => plAt_mem hp
          have hpe : (plAt id es).length ≤ 2 ^ 20 := by
            refine Nat.le_trans (List.length_filter_le _ _) ?_
            simpa using hle
          rw [← idsOf_pl]
          generalize plAt id es = pl at *
          subst hqp
          clear hq hget hmf hj hfk
          have hcl2 : cleanR (pl.map fun p => ([.i .i64 p.2] : List T)) = true := by simp [cleanR, T.clean]
          refine W_forS (fun i => ⟨[(29, .i .i64 i), (28, .i .i64 pl.length), (27, .ref 2 0 pl.length), (9, .ref 3 0 ((pl.take i).filter (fun p => goes id way kd p.1)).length), (1, .i .i64 id), (2, .i .i64 way), (3, .s kd), (4, .ptr 0 0 0)], [(0, .arr 4 [sG.I ⟨l, es, nn, ne⟩]), (2, .arr 1 (pl.map fun p => [.i .i64 p.2])), (3, .arr 1 (((pl.take i).filter (fun p => goes id way kd p.1)).map fun p => [.i .i64 p.1.id]))], 20, 0⟩) pl.length (fun _ => True) ?_ trivial ?_
          · exact Wk.trans (Wk.nil (j := 9) (k := 10) (sz := 1) (by simp) (by simp)) (Wk.ren (fun t => if t = 3 then 10 else t) rfl (by simp) (by intro t ht; simp at ht) (by simp) (by simp [Blk.rn, Blk.names, namesr_clean hcl2, rnr_cl hcl2, Function.comp_def]) (by simp))
          intro i hi _
          rcases Nat.lt_or_ge i pl.length with h3 | h3
          · obtain ⟨p, hp⟩ : ∃ p, pl[i]? = some p := ⟨_, List.getElem?_eq_getElem h3⟩
            have hx := hpm p (List.mem_of_getElem? hp)
            have hw : IntKind.i64.wrap ((i : Int) + 1) = (i : Int) + 1 := wrap1 (by omega)
            have hfl : ((pl.take i).filter (fun p => goes id way kd p.1)).length ≤ i := Nat.le_trans (List.length_filter_le _ _) (by simp; omega)
            have htk : pl.take (i + 1) = pl.take i ++ [p] := by rw [List.take_add_one, hp]; simp
            rw [htk, List.filter_append]
            generalize (pl.take i).filter (fun p => goes id way kd p.1) = A at *
            obtain ⟨⟨a, b, c, d, ps⟩, k⟩ := p
            have hgo := goesFrom_c ⟨a, b, c, d, ps⟩ id way kd
            have hbig : (A.length + 1) * 8 ≤ 35184372088832 := by omega
            have hclA : cleanR (A.map fun p => ([.i .i64 p.1.id] : List T)) = true := by simp [cleanR, T.clean]
            refine WW_of_W ?_
            simp [-getElem?_pos, h3, hp, hx]
            refine callK_val (by simp) hgo rfl ?_
            by_cases hg : goes id way kd ⟨a, b, c, d, ps⟩ = true
            · simp [hg, hbig, hw, h3]
              have hclB : cleanR ((A.map fun p => ([.i .i64 p.1.id] : List T)) ++ [[.i .i64 a]]) = true := by simp [cleanR, T.clean]
              refine Wk.ren (fun t => if t = 3 then 23 else t) rfl (by simp) (by simp) (by simp) ?_ (by simp)
              simp [Blk.rn, Blk.names, namesr_clean hcl2, rnr_cl hcl2, namesr_clean hclB, rnr_cl hclB]
            · simp [hg, hw, h3]
              exact Wk.to rfl (by simp) (by simp) (by simp [Blk.names, namesr_clean hcl2, namesr_clean hclA]) (by simp)
          · have h4 : ¬ i < pl.length := by omega
            refine WW_of_W ?_
            rw [List.take_of_length_le h3]
            simp [h4]
            have hcf : cleanR (List.map (sI.O ∘ fun p => p.fst.id) (List.filter (fun p => goes id way kd p.fst) pl)) = true := by simp [cleanR, T.clean]
            exact fin_own (by simp; rfl) (by simp [hcf]) (by simp) (by simp)
  · have he : edgesOf g id way kd = [] := by simp [edgesOf, g1]
    rw [he]
    obtain ⟨l, es, nn, ne⟩ := g
    refine via_impl_EdgesOf (by simp) ?_
    simp [pc_impl_EdgesOf]
    refine callK_val (by simp) h1 rfl ?_
    simp [g1]
    exact fin_own (by simp; rfl) (by simp) (by simp) (by simp)
end Go.Proofs.Ytonljcphaiklgaa.V
/- Nodes that go. -/
namespace Go.Proofs.Ytonljcphaiklgaa.V
open Go
set_option linter.unusedVariables false
set_option linter.unusedSimpArgs false
set_option maxHeartbeats 16000000
theorem NodeDrop1_c (e : Nd) (id : Int) : Rv Try.prog 73 [.agg (sN.I e), .pim [.i .i64 id]] (.b (decide (e.id = id))) := by
  obtain ⟨a, lb, ps⟩ := e
  refine via_impl_NodeDrop_1 (by simp) ?_
  simp [pc_impl_NodeDrop_1]
  exact fin_val rfl (by simp) (by simp)
theorem NodeDrop2_c (e : Eg) (id : Int) : Rv Try.prog 75 [.agg (sE.I e), .pim [.i .i64 id]] (.b (atN id e)) := by
  obtain ⟨a, b, c, d, ps⟩ := e
  refine via_impl_NodeDrop_2 (by simp) ?_
  by_cases h1 : c = id <;> by_cases h2 : d = id <;> (simp [pc_impl_NodeDrop_2, h1, h2]; exact fin_val rfl (by simp [atN, h1, h2]) (by simp))
def dN (e : Nd) : List T := [.i .i64 e.id, .dead, .dead]
theorem withoutN_c (l : List Nd) (hl : l.length ≤ 2 ^ 20) (q : Nd → Bool) (f : Nat) (caps : List T) (hf : ∀ e ∈ l, Rv Try.prog f (.agg (sN.I e) :: caps) (.b (q e))) (hok : okCall Try.prog f = true) (g : Nat) (hc : ∀ (s : St) (j : Nat), handed s [] j caps = some caps) (hn : namess caps = []) (hrc : ∀ k : Nat → Nat, rns k caps = caps) : Ret Try.prog 72 [.agg [.own 3 (l.map sN.O), .fn g []], .fn f caps] (.own 3 ((l.filter (fun e => !q e)).map sN.O)) [.agg [.own 3 (l.map dN), .dead], .dead] := by
  refine via_impl_numbered_impl_Node_without (by simp) ?_
  simp [pc_impl_numbered_impl_Node_without]
  refine W_for (fun i => ⟨[(11, .i .i64 i), (10, .i .i64 l.length), (9, .ref 0 0 l.length), (5, .ref 2 0 ((l.take i).filter (fun e => !q e)).length), (1, .fn f caps)], [(0, .arr 3 ((l.map dN).take i ++ (l.map sN.O).drop i)), (2, .arr 3 (((l.take i).filter (fun e => !q e)).map sN.O))], 20, 1⟩) l.length (fun _ => True) ?_ trivial ?_
  · exact Wk.trans (Wk.nil (j := 5) (k := 2) (sz := 3) (by simp) (by simp)) (Wk.less rfl (by simp) (by simp) (by simp))
  intro i hi _
  rcases Nat.lt_or_ge i l.length with h1 | h1
  · obtain ⟨x, hx⟩ : ∃ x, l[i]? = some x := ⟨_, List.getElem?_eq_getElem h1⟩
    have hw : IntKind.i64.wrap ((i : Int) + 1) = (i : Int) + 1 := wrap1 (by omega)
    have hfl : ((l.take i).filter (fun e => !q e)).length ≤ i := Nat.le_trans (List.length_filter_le _ _) (by simp; omega)
    have htk : l.take (i + 1) = l.take i ++ [x] := by rw [List.take_add_one, hx]; simp
    have hrow : ((l.map dN).take i ++ (l.map sN.O).drop i)[i]? = some (sN.O x) := by
      have hlen : ((l.map dN).take i).length = i := by simp; omega
      rw [List.getElem?_append_right (by omega), hlen]; simp [hx]
    have hq := hf x (List.mem_of_getElem? hx)
    obtain ⟨a, lb, ps⟩ := x
    simp [-getElem?_pos, hx, hw, h1, hrow]
    refine need_mk hok ?_
    refine callK_val (by simp [hc]) hq rfl ?_
    have hla : ((l.map dN).take i).length = i := by simp; omega
    have hset : ∀ r, ((l.map dN).take i ++ (l.map sN.O).drop i).set i r = (l.map dN).take i ++ r :: (l.map sN.O).drop (i + 1) := by
      intro r
      rw [List.drop_eq_getElem_cons (by simpa using h1), List.set_append_right _ _ (by omega), hla]; simp
    have hset2 : ∀ r r', ((l.map dN).take i ++ r :: (l.map sN.O).drop (i + 1)).set i r' = (l.map dN).take i ++ r' :: (l.map sN.O).drop (i + 1) := by
      intro r r'
      rw [List.set_append_right _ _ (by omega), hla]; simp
    have hgt : ∀ r, ((l.map dN).take i ++ r :: (l.map sN.O).drop (i + 1))[i]? = some r := by
      intro r
      rw [List.getElem?_append_right (by omega), hla]; simp
    have hnew : (l.map dN).take (i + 1) ++ (l.map sN.O).drop (i + 1) = (l.map dN).take i ++ dN ⟨a, lb, ps⟩ :: (l.map sN.O).drop (i + 1) := by
      rw [fill_new dN hx]; simp
    have hc0 : cleanR ((l.map dN).take i ++ dN ⟨a, lb, ps⟩ :: (l.map sN.O).drop (i + 1)) = true := by
      have h3 := sN.crO (l.drop (i + 1))
      simp only [cleanR, List.map_drop] at h3
      simp only [cleanR, List.all_append, List.all_cons, Bool.and_eq_true]
      refine ⟨?_, by simp [dN, T.clean], h3⟩
      have h4 : ∀ m : List Nd, ((m.map dN).all fun r => r.all T.clean) = true := by intro m; simp [dN, T.clean]
      rw [← List.map_take]; exact h4 _
    have hdN : dN ⟨a, lb, ps⟩ = [.i .i64 a, .dead, .dead] := rfl
    rw [hdN] at hnew hc0
    by_cases hqx : q ⟨a, lb, ps⟩ = true
    · have hn2 : (l.take (i + 1)).filter (fun e => !q e) = (l.take i).filter (fun e => !q e) := by rw [htk, List.filter_append]; simp [hqx]
      rw [hn2]
      have hcA := sN.crO ((l.take i).filter (fun e => !q e))
      simp [-getElem?_pos, hx, hw, h1, hrow, hqx, hset]
      refine Wk.trans (Wk.join (b := 0) (r := i) (cs := [.i .i64 a, .dead, .dead]) rfl (by simp [hgt]; rfl) (by simp) (by simp)) ?_
      simp only [hnew]
      exact Wk.to rfl (by simp) (by simp [hn]) (by simp [Blk.names, namesr_clean hc0, namesr_clean hcA, hset2]) (by simp)
    · have hn2 : (l.take (i + 1)).filter (fun e => !q e) = (l.take i).filter (fun e => !q e) ++ [⟨a, lb, ps⟩] := by rw [htk, List.filter_append]; simp [hqx]
      rw [hn2]
      generalize (l.take i).filter (fun e => !q e) = A at *
      have hbig : (A.length + 1) * 56 ≤ 35184372088832 := by omega
      simp [-getElem?_pos, hx, hw, h1, hrow, hqx, hset, hbig]
      have hA : (A.map sN.O).length = A.length := by simp
      have hg2 := app1_get hA
      have hs3 := app1_set hA
      have hcB : cleanR (A.map sN.O ++ [[.i .i64 a, .own 1 (lb.map sS.O), .own 5 (ps.map sP.O)]]) = true := by
        have := sN.crO (A ++ [⟨a, lb, ps⟩])
        rw [List.map_append] at this
        simpa only [List.map_cons, List.map_nil, sN_O] using this
      refine Wk.trans (Wk.join (b := 0) (r := i) (cs := [.i .i64 a, .dead, .dead]) rfl (by simp [hgt]; rfl) (by simp) (by simp)) ?_
      refine Wk.trans (Wk.join (b := 26) (r := A.length) (cs := [.i .i64 a, .own 1 (lb.map sS.O), .own 5 (ps.map sP.O)]) rfl (by simp [hg2]; rfl) (by simp) (by simp)) ?_
      simp only [hnew]
      refine Wk.ren (fun t => if t = 2 then 26 else t) rfl (by simp) (by simp) (by simp [rns_clean, hn, hrc]) ?_ (by simp)
      simp [Blk.rn, Blk.names, namesr_clean hc0, namesr_clean hcB, rnr_cl hc0, rnr_cl hcB, hset2, hs3]
  · obtain rfl : i = l.length := by omega
    have hcd : cleanR (l.map dN) = true := by simp [cleanR, dN, T.clean]
    have e1 : (l.map dN).take l.length = l.map dN := List.take_of_length_le (by simp)
    have e2 : (l.map sN.O).drop l.length = [] := by simp
    simp [e1, e2]
    exact fin_ret (ts := [2]) rfl (by simp) (by simp [hcd, e1]) (by simp)
end Go.Proofs.Ytonljcphaiklgaa.V
/- Nodes dropped: what comes of it. -/
namespace Go.Proofs.Ytonljcphaiklgaa.V
open Go
set_option linter.unusedVariables false
set_option linter.unusedSimpArgs false
set_option maxHeartbeats 16000000
def gDropN (g : Gr) (id : Int) : Gr := ⟨g.nodes.filter (fun n => !decide (n.id = id)), g.edges.filter (fun e => !(idsOf id 0 [] g.edges).contains e.id), g.nn, g.ne⟩
def dropN (g : Gr) (id : Int) (det : Bool) : Gr × Bool := if idsOf id 0 [] g.edges ≠ [] ∧ det = false then (g, false) else (gDropN g id, true)
open Classical in
noncomputable def nodeDrop (g : Gr) (id : Int) (det : Bool) : Gr × Bool := if GOk g then (if posOf Nd.id id g.nodes < 0 then (g, false) else dropN g id det) else (zG, false)
end Go.Proofs.Ytonljcphaiklgaa.V
/- Nodes dropped, by the program. -/
namespace Go.Proofs.Ytonljcphaiklgaa.V
open Go
set_option linter.unusedVariables false
set_option linter.unusedSimpArgs false
set_option maxHeartbeats 16000000
theorem Asc.lt {α : Type} {f : α → Int} {e : Int} {l : List α} (h : Asc f e l) : ∀ (d i : Nat) (x y : α), l[i]? = some x → l[i + d + 1]? = some y → f x < f y
  | 0, i, x, y, hx, hy => by
    have := (h (i + 1) y hy).2.2 x (by omega) (by simpa using hx)
    exact this
  | d + 1, i, x, y, hx, hy => by
    have hlt : i + (d + 1) + 1 < l.length := (List.getElem?_eq_some_iff.1 hy).1
    obtain ⟨z, hz⟩ : ∃ z, l[i + d + 1]? = some z := ⟨_, List.getElem?_eq_getElem (by omega)⟩
    have h1 := Asc.lt h d i x z hx hz
    have h2 := (h (i + (d + 1) + 1) y hy).2.2 z (by omega) (by rw [show i + (d + 1) + 1 - 1 = i + d + 1 by omega]; exact hz)
    omega
theorem Asc.uniq {α : Type} {f : α → Int} {e : Int} {l : List α} (h : Asc f e l) {x y : α} (hx : x ∈ l) (hy : y ∈ l) (he : f x = f y) : x = y := by
  obtain ⟨i, hi⟩ := List.mem_iff_getElem?.1 hx
  obtain ⟨j, hj⟩ := List.mem_iff_getElem?.1 hy
  rcases Nat.lt_trichotomy i j with hlt | rfl | hlt
  · have := h.lt (j - i - 1) i x y hi (by rw [show i + (j - i - 1) + 1 = j by omega]; exact hj)
    omega
  · rw [hi] at hj; exact Option.some.inj hj
  · have := h.lt (i - j - 1) j y x hj (by rw [show j + (i - j - 1) + 1 = i by omega]; exact hi)
    omega
theorem goes0 (id : Int) (e : Eg) : goes id 0 [] e = atN id e := by simp [goes, atN]
theorem drop_edges {g : Gr} (hg : GOk g) (id : Int) : g.edges.filter (fun e => !(idsOf id 0 [] g.edges).contains e.id) = g.edges.filter (fun e => !atN id e) := by
  refine List.filter_congr ?_
  intro e he
  congr 1
  by_cases h : atN id e = true
  · rw [h, List.contains_iff_mem]
    exact List.mem_map.2 ⟨e, List.mem_filter.2 ⟨he, by rw [goes0]; exact h⟩, rfl⟩
  · have h' : atN id e = false := by simpa using h
    rw [h']
    cases hc : (idsOf id 0 [] g.edges).contains e.id with
    | false => rfl
    | true =>
      obtain ⟨e', h1, h2⟩ := List.mem_map.1 (List.contains_iff_mem.1 hc)
      obtain ⟨h3, h4⟩ := List.mem_filter.1 h1
      have := hg.ea.uniq h3 he h2
      subst this
      rw [goes0] at h4
      exact absurd h4 h
theorem idsOf_len (id : Int) (es : List Eg) : (idsOf id 0 [] es).length = (gGet id (bsd es)).length := by
  rw [← idsOf_pl, gGet_bsd, List.length_map, List.length_map]
  congr 1
  rw [List.filter_eq_self]
  intro p hp
  rw [goes0]
  exact (List.mem_filter.1 hp).2
theorem NodeDrop_c (g : Gr) (hf : g.fit) (hc : g.cnt ≤ 2 ^ 20) (id : Int) (det : Bool) : Rv Try.prog 25 [.agg (sG.I g), .i .i64 id, .b det] (.tup [.agg (sG.O (nodeDrop g id det).1), .b (nodeDrop g id det).2]) := by
  have um : Try.prog.underlying 91 = some (.map 3 29) := by kernel_rfl
  have uk : Try.prog.underlying 3 = some (.int .i64) := by kernel_rfl
  have uz : (Try.prog.info? 29).bind (·.zero) = some (.slice none 0 0) := by kernel_rfl
  have ok1 : okCall Try.prog 64 = true := by kernel_rfl
  have ok2 : okCall Try.prog 51 = true := by kernel_rfl
  have ok3 : okCall Try.prog 53 = true := by kernel_rfl
  have ok4 : okCall Try.prog 74 = true := by kernel_rfl
  have ok5 : okCall Try.prog 72 = true := by kernel_rfl
  have ok6 : okCall Try.prog 73 = true := by kernel_rfl
  have ok7 : okCall Try.prog 75 = true := by kernel_rfl
  have h1 := GraphOk_c g hf
  have h2 := cloneOk hf hc
  have hle : g.edges.length ≤ 2 ^ 20 := by unfold Gr.cnt cl at hc; omega
  have hln : g.nodes.length ≤ 2 ^ 20 := by unfold Gr.cnt cl at hc; omega
  have h3 := placeN_c g.nodes (by omega) id
  have h4 := besideOf_m g hle
  by_cases g1 : GOk g
  · replace h2 := h2 g1
    by_cases g2 : posOf Nd.id id g.nodes < 0
    · have e1 : nodeDrop g id det = (g, false) := by simp [nodeDrop, g1, g2]
      rw [e1]
      obtain ⟨l, es, nn, ne⟩ := g
      simp only at g2
      refine via_impl_NodeDrop (by simp) ?_
      simp [pc_impl_NodeDrop]
      refine callK_val (by simp) h1 rfl ?_
      simp [g1]
      refine callK_val (by simp) h2 (by simp [T.noImm]) ?_
      simp
      refine hookH_view (nodesOf_v (.imm (l.map sN.I)) (.imm (es.map sE.I)) rfl rfl nn ne) rfl ok2 (by simp) ?_
      simp
      repeat refine need_mk (by decide +kernel) ?_
      refine callK_val (by simp) h3 rfl ?_
      simp [g2]
      repeat refine need_mk (by decide +kernel) ?_
      exact fin_own (by simp; rfl) (by simp) (by simp) (by simp)
    · have e1 : nodeDrop g id det = dropN g id det := by simp [nodeDrop, g1, g2]
      have e2 := drop_edges g1 id
      have e3 := idsOf_len id g.edges
      rw [e1]
      refine Ret.ofS Try.func25 ok_impl_NodeDrop rfl rfl (by simp) ?_
      obtain ⟨l, es, nn, ne⟩ := g
      simp only at g2 e2 e3 hle hln h4
      refine WW_seq (WW_of_W ?_)
      simp
      refine WW_seq (WW_of_W ?_)
      simp
      refine callK_val (by simp) h1 rfl ?_
      simp [g1]
      refine WW_seq (WW_of_W ?_)
      simp
      refine callK_val (by simp) h2 (by simp [T.noImm]) ?_
      simp
      refine WW_seq (WW_of_W ?_)
      simp
      refine hookH_view (nodesOf_v (.imm (l.map sN.I)) (.imm (es.map sE.I)) rfl rfl nn ne) rfl ok2 (by simp) ?_
      simp
      repeat refine need_mk (by decide +kernel) ?_
      refine callK_val (by simp) h3 rfl ?_
      simp [g2]
      repeat refine need_mk (by decide +kernel) ?_
      have hcN := sN.crO l
      have hcE := sE.crO es
      refine WW_wk (s' := ⟨[(3, .ptr 0 0 0), (4, .ptr 1 0 0), (6, .ptr 2 0 0), (8, .ptr 5 0 0), (2, .b det)], [(0, .arr 4 [[.imm (l.map sN.I), .imm (es.map sE.I), .i .i64 nn, .i .i64 ne]]), (1, .arr 1 [[.i .i64 id]]), (2, .arr 4 [[.nl, .nl, .i .i64 0, .i .i64 0]]), (3, .arr 3 (l.map sN.O)), (4, .arr 5 (es.map sE.O)), (5, .arr 4 [[.ref 3 0 l.length, .ref 4 0 es.length, .i .i64 nn, .i .i64 ne]])], 50, 0⟩) (Wk.to rfl (by simp) (by simp) (by simp [Blk.names, namesr_clean hcN, namesr_clean hcE]) (by simp)) ?_
      clear h1 h2 h3
      by_cases c1 : idsOf id 0 [] es ≠ [] ∧ det = false
      · have e4 : dropN ⟨l, es, nn, ne⟩ id det = (⟨l, es, nn, ne⟩, false) := by unfold dropN; rw [if_pos c1]
        rw [e4]
        obtain ⟨c1, rfl⟩ := c1
        have c2 : 0 < (idsOf id 0 [] es).length := by cases hq : idsOf id 0 [] es with | nil => exact absurd hq c1 | cons a b => simp
        refine WW_seq (WW_of_W ?_)
        simp
        refine hookH_of [] (hook_callM rfl ok1 (by simp) h4) (by simp) ?_
        simp
        cases hfk : gFind id (bsd es) with
        | none =>
          have hq0 : gGet id (bsd es) = [] := by unfold gGet; rw [hfk]
          rw [hq0] at e3
          simp only [List.length_nil] at e3
          omega
        | some j =>
          obtain ⟨q, hj, hq⟩ := gFind_some hfk
          rw [hq] at e3
          have hmf : mfind (.i .i64 id) (gT (bsd es)) = some j := by rw [mfind_gT, hfk]
          refine hookH_of [(_, .mb (gT (bsd es)))] (hook_lookup2 um uk rfl (gT_key _) hmf (gT_at hj)) (by simp) ?_
          simp [lkV]
          repeat refine need_mk (by decide +kernel) ?_
          rw [e3] at c2
          simp [c2]
          exact fin_own (by simp; rfl) (by simp) (by simp) (by simp)

      · have e4 : dropN ⟨l, es, nn, ne⟩ id det = (gDropN ⟨l, es, nn, ne⟩ id, true) := by unfold dropN; rw [if_neg c1]
        rw [e4]
        have e5 : (decide (0 < (idsOf id 0 [] es).length) && !det) = false := by
          cases det with
          | true => simp
          | false =>
            have : idsOf id 0 [] es = [] := by
              cases hq : idsOf id 0 [] es with
              | nil => rfl
              | cons a b => exact absurd ⟨by rw [hq]; simp, rfl⟩ c1
            simp [this]
        refine WW_seq (thn_cut (s2 := ⟨[(3, .ptr 0 0 0), (4, .ptr 1 0 0), (6, .ptr 2 0 0), (8, .ptr 5 0 0)], [(0, .arr 4 [[.imm (l.map sN.I), .imm (es.map sE.I), .i .i64 nn, .i .i64 ne]]), (1, .arr 1 [[.i .i64 id]]), (2, .arr 4 [[.nl, .nl, .i .i64 0, .i .i64 0]]), (3, .arr 3 (l.map sN.O)), (4, .arr 5 (es.map sE.O)), (5, .arr 4 [[.ref 3 0 l.length, .ref 4 0 es.length, .i .i64 nn, .i .i64 ne]])], 90, 0⟩) ?_ ?_)
        · simp
          refine hookH_of [] (hook_callM rfl ok1 (by simp) h4) (by simp) ?_
          simp
          cases hfk : gFind id (bsd es) with
          | none =>
            have hmf : mfind (.i .i64 id) (gT (bsd es)) = none := by rw [mfind_gT, hfk]
            refine hookH_of [(_, .mb (gT (bsd es)))] (hook_lookup0 um uk rfl (gT_key _) uz rfl hmf) (by simp) ?_
            simp [lkV]
            repeat refine need_mk (by decide +kernel) ?_
            exact Wk.to rfl (by simp) (by simp) (by simp [Blk.names, namesr_clean hcN, namesr_clean hcE]) (by simp)
          | some j =>
            obtain ⟨q, hj, hq⟩ := gFind_some hfk
            rw [hq] at e3
            have hmf : mfind (.i .i64 id) (gT (bsd es)) = some j := by rw [mfind_gT, hfk]
            refine hookH_of [(_, .mb (gT (bsd es)))] (hook_lookup2 um uk rfl (gT_key _) hmf (gT_at hj)) (by simp) ?_
            simp [lkV]
            repeat refine need_mk (by decide +kernel) ?_
            rw [e3] at e5
            rcases Nat.lt_or_ge 0 q.length with c2 | c2
            · have hdt : det = true := by simpa [c2] using e5
              simp [c2, hdt]
              exact Wk.to rfl (by simp) (by simp) (by simp [Blk.names, namesr_clean hcN, namesr_clean hcE]) (by simp)
            · have c3 : ¬ 0 < q.length := by omega
              simp [c3]
              exact Wk.to rfl (by simp) (by simp) (by simp [Blk.names, namesr_clean hcN, namesr_clean hcE]) (by simp)

        · refine WW_wk (Wk.share (j := 4) (t := .ptr 1 0 0) (x := .pim [.i .i64 id]) (by simp) (by simp)) ?_
          refine WW_of_W ?_
          simp
          refine hookH_view (nodesOf_v (.ref 3 0 l.length) (.ref 4 0 es.length) rfl rfl nn ne) rfl ok2 (by simp) ?_
          simp
          have hw := withoutN_c l hln (fun e => decide (e.id = id)) 73 [.pim [.i .i64 id]] (fun e _ => NodeDrop1_c e id) ok6 106 (by intro s j; simp) (by simp) (by intro k; simp)
          have hcd : cleanR (l.map dN) = true := by simp [cleanR, dN, T.clean]
          refine hookH_callX [0] [(3, .arr 3 (l.map sN.O))] hw (by simp [handedX, handedXA, handedXs, handedX1, T.closed]) (bk := [(3, .arr 3 (l.map dN))]) (by simp [backX, backXA, backXs, backX1, T.closed]) rfl ok5 (by simp) (by simp [named]) (by simp [named]) ?_
          simp [dX]
          refine hookH_view (edgesIn_v (.ref 90 0 (l.filter (fun e => !decide (e.id = id))).length) (.ref 4 0 es.length) rfl rfl nn ne) rfl ok3 (by simp) ?_
          simp
          have hw2 := without_c es hle (fun e => atN id e) 75 [.pim [.i .i64 id]] (fun e _ => NodeDrop2_c e id) ok7 107 (by intro s j; simp) (by simp) (by intro k; simp)
          have hcd2 : cleanR (es.map dE) = true := by simp [cleanR, dE, T.clean]
          refine hookH_callX [0] [(4, .arr 5 (es.map sE.O))] hw2 (by simp [handedX, handedXA, handedXs, handedX1, T.closed]) (bk := [(4, .arr 5 (es.map dE))]) (by simp [backX, backXA, backXs, backX1, T.closed]) rfl ok4 (by simp [dX]) (by simp [named]) (by simp [named]) ?_
          simp [dX]
          have e6 : es.filter (fun e => !decide (e.id ∈ idsOf id 0 [] es)) = es.filter (fun e => !atN id e) := by simpa using e2
          exact fin_own (by simp; rfl) (by simp [gDropN, e6]) (by simp) (by simp [gDropN, e6])
  · have e1 : nodeDrop g id det = (zG, false) := by simp [nodeDrop, g1]
    rw [e1]
    obtain ⟨l, es, nn, ne⟩ := g
    refine via_impl_NodeDrop (by simp) ?_
    simp [pc_impl_NodeDrop]
    refine callK_val (by simp) h1 rfl ?_
    simp [g1]
    exact fin_own (by simp; rfl) (by simp [zG]) (by simp) (by simp [zG])
end Go.Proofs.Ytonljcphaiklgaa.V
/- Graphs that are ok stay ok: plain facts. -/
namespace Go.Proofs.Ytonljcphaiklgaa.V
open Go
set_option linter.unusedVariables false
set_option linter.unusedSimpArgs false
theorem Asc_iff {α : Type} {f : α → Int} {e : Int} {l : List α} : Asc f e l ↔ (∀ x ∈ l, 0 ≤ f x ∧ f x < e) ∧ l.Pairwise (fun x y => f x < f y) := by
  constructor
  · intro h
    refine ⟨fun x hx => ?_, ?_⟩
    · obtain ⟨i, hi⟩ := List.mem_iff_getElem?.1 hx
      exact ⟨(h i x hi).1, (h i x hi).2.1⟩
    · rw [List.pairwise_iff_getElem]
      intro i j hi hj hij
      exact h.lt (j - i - 1) i _ _ (List.getElem?_eq_getElem hi) (by rw [show i + (j - i - 1) + 1 = j by omega]; exact List.getElem?_eq_getElem hj)
  · rintro ⟨h1, h2⟩ i x hx
    refine ⟨(h1 x (List.mem_of_getElem? hx)).1, (h1 x (List.mem_of_getElem? hx)).2, fun y h0 hy => ?_⟩
    rw [List.pairwise_iff_getElem] at h2
    obtain ⟨a1, rfl⟩ := List.getElem?_eq_some_iff.1 hx
    obtain ⟨a2, rfl⟩ := List.getElem?_eq_some_iff.1 hy
    exact h2 (i - 1) i a2 a1 (by omega)
theorem Asc.filter {α : Type} {f : α → Int} {e : Int} {l : List α} (h : Asc f e l) (q : α → Bool) : Asc f e (l.filter q) := by
  rw [Asc_iff] at h ⊢
  exact ⟨fun x hx => h.1 x (List.mem_filter.1 hx).1, h.2.filter q⟩
theorem Asc.snoc {α : Type} {f : α → Int} {e : Int} {l : List α} (h : Asc f e l) {x : α} (h0 : 0 ≤ e) (hx : f x = e) : Asc f (e + 1) (l ++ [x]) := by
  rw [Asc_iff] at h ⊢
  refine ⟨fun y hy => ?_, ?_⟩
  · rcases List.mem_append.1 hy with hy | hy
    · have := h.1 y hy; omega
    · simp only [List.mem_singleton] at hy; subst hy; omega
  · rw [List.pairwise_append]
    refine ⟨h.2, by simp, fun a ha b hb => ?_⟩
    simp only [List.mem_singleton] at hb
    subst hb
    have := h.1 a ha; omega
theorem posOf_pos {α : Type} {f : α → Int} {id : Int} {l : List α} : 0 ≤ posOf f id l ↔ ∃ x ∈ l, f x = id := by
  rcases posOf_cases f id l with ⟨i, x, h1, h2, h3, _⟩ | ⟨h1, h2⟩
  · exact ⟨fun _ => ⟨x, List.mem_of_getElem? h2, h3⟩, fun _ => by omega⟩
  · exact ⟨fun h => by omega, fun ⟨x, hx, he⟩ => absurd he (h2 x hx)⟩
theorem filter_len {α : Type} {f : α → Int} {e id : Int} {l : List α} (h : Asc f e l) (hp : 0 ≤ posOf f id l) : (l.filter (fun x => !decide (f x = id))).length + 1 = l.length := by
  rw [Asc_iff] at h
  obtain ⟨x, hx, he⟩ := posOf_pos.1 hp
  have h2 := h.2
  clear h hp
  induction l with
  | nil => simp at hx
  | cons a l ih =>
    rw [List.pairwise_cons] at h2
    rcases List.mem_cons.1 hx with rfl | hx
    · have : l.filter (fun x => !decide (f x = id)) = l := by
        rw [List.filter_eq_self]
        intro y hy
        have := h2.1 y hy
        simp; omega
      rw [List.filter_cons_of_neg (by simp [he]), this, List.length_cons]
    · have := h2.1 x hx
      rw [List.filter_cons_of_pos (by simp; omega), List.length_cons, List.length_cons, ih hx h2.2]
theorem GOk.dropE {g : Gr} (h : GOk g) (id : Int) : GOk (gDropE g id) := by
  refine ⟨h.nn, h.ne, h.nl, Nat.le_trans (List.length_filter_le _ _) h.el, h.na, h.ea.filter _, h.nok, fun e he => h.eok e (List.mem_filter.1 he).1⟩
theorem GOk.addN {g : Gr} (h : GOk g) {lb : List Tx} {ps : List Pr} (hc : addNOk g lb ps) : GOk (gAddN g lb ps) := by
  obtain ⟨c1, c2, c3, c4⟩ := hc
  have h1 := h.nn
  refine ⟨by simp only [gAddN]; omega, h.ne, by simp only [gAddN, List.length_append, List.length_singleton]; omega, h.el, h.na.snoc h1.1 rfl, h.ea, ?_, ?_⟩
  · intro x hx
    rcases List.mem_append.1 hx with hx | hx
    · exact h.nok x hx
    · simp only [List.mem_singleton] at hx; subst hx; exact ⟨c1, c2⟩
  · intro e he
    obtain ⟨e1, e2, e3, e4⟩ := h.eok e he
    refine ⟨e1, e2, ?_, ?_⟩
    · obtain ⟨x, hx, q⟩ := posOf_pos.1 e3
      exact posOf_pos.2 ⟨x, List.mem_append.2 (.inl hx), q⟩
    · obtain ⟨x, hx, q⟩ := posOf_pos.1 e4
      exact posOf_pos.2 ⟨x, List.mem_append.2 (.inl hx), q⟩
theorem GOk.addE {g : Gr} (h : GOk g) {kd : Tx} {fr to : Int} {ps : List Pr} (hc : addEOk g kd fr to ps) : GOk (gAddE g kd fr to ps) := by
  obtain ⟨c1, c2, c3, c4, c5, c6⟩ := hc
  have h1 := h.ne
  refine ⟨h.nn, by simp only [gAddE]; omega, h.nl, by simp only [gAddE, List.length_append, List.length_singleton]; omega, h.na, h.ea.snoc h1.1 rfl, h.nok, ?_⟩
  intro e he
  rcases List.mem_append.1 he with he | he
  · exact h.eok e he
  · simp only [List.mem_singleton] at he; subst he; exact ⟨c1, c2, c3, c4⟩
theorem GOk.dropN {g : Gr} (h : GOk g) (id : Int) : GOk (gDropN g id) := by
  have hE := drop_edges h id
  refine ⟨h.nn, h.ne, Nat.le_trans (List.length_filter_le _ _) h.nl, Nat.le_trans (List.length_filter_le _ _) h.el, h.na.filter _, h.ea.filter _, fun x hx => h.nok x (List.mem_filter.1 hx).1, ?_⟩
  intro e he
  simp only [gDropN] at he
  rw [hE] at he
  obtain ⟨he1, he2⟩ := List.mem_filter.1 he
  obtain ⟨e1, e2, e3, e4⟩ := h.eok e he1
  simp only [atN, Bool.not_or, Bool.and_eq_true, Bool.not_eq_true', decide_eq_false_iff_not] at he2
  refine ⟨e1, e2, ?_, ?_⟩
  · obtain ⟨x, hx, q⟩ := posOf_pos.1 e3
    exact posOf_pos.2 ⟨x, List.mem_filter.2 ⟨hx, by simp; intro hh; exact he2.1 (q.symm.trans hh)⟩, q⟩
  · obtain ⟨x, hx, q⟩ := posOf_pos.1 e4
    exact posOf_pos.2 ⟨x, List.mem_filter.2 ⟨hx, by simp; intro hh; exact he2.2 (q.symm.trans hh)⟩, q⟩
/-- What was added last is taken away again. -/
theorem drop_added {g : Gr} (h : GOk g) {lb : List Tx} {ps : List Pr} : gDropN (gAddN g lb ps) g.nn = { g with nn := g.nn + 1 } ∧ idsOf g.nn 0 [] g.edges = [] := by
  have hn := (Asc_iff.1 h.na).1
  have hid : idsOf g.nn 0 [] g.edges = [] := by
    unfold idsOf
    rw [List.map_eq_nil_iff, List.filter_eq_nil_iff]
    intro e he hgo
    rw [goes0] at hgo
    obtain ⟨_, _, e3, e4⟩ := h.eok e he
    obtain ⟨x, hx, q⟩ := posOf_pos.1 e3
    obtain ⟨y, hy, q'⟩ := posOf_pos.1 e4
    have h1 := hn x hx
    have h2 := hn y hy
    simp only [atN, Bool.or_eq_true, decide_eq_true_eq] at hgo
    rcases hgo with hgo | hgo <;> omega
  refine ⟨?_, hid⟩
  have hN : (g.nodes ++ [(⟨g.nn, lb, ps⟩ : Nd)]).filter (fun n : Nd => !decide (n.id = g.nn)) = g.nodes := by
    rw [List.filter_append]
    have : g.nodes.filter (fun n : Nd => !decide (n.id = g.nn)) = g.nodes := by
      rw [List.filter_eq_self]
      intro x hx
      have := hn x hx
      simp; omega
    rw [this]; simp
  simp only [gDropN, gAddN, hN, hid]
  simp
end Go.Proofs.Ytonljcphaiklgaa.V
/- Nodes with a label. -/
namespace Go.Proofs.Ytonljcphaiklgaa.V
open Go
set_option linter.unusedVariables false
set_option linter.unusedSimpArgs false
set_option maxHeartbeats 4000000
theorem hasTo_succ {s : Tx} {l : List Tx} {i : Nat} {x : Tx} (h : ∀ y ∈ l.take i, y ≠ s) (hx : l[i]? = some x) (hn : x ≠ s) : ∀ y ∈ l.take (i + 1), y ≠ s := by
  intro y hy
  rw [List.take_add_one, hx] at hy
  rcases List.mem_append.1 hy with hy | hy
  · exact h y hy
  · simp only [Option.toList_some, List.mem_singleton] at hy; subst hy; exact hn
theorem asHas_c (l : List Tx) (hl : ln l) (s : Tx) : Rv Try.prog 24 [.imm (l.map sS.I), .s s] (.b (decide (s ∈ l))) := by
  refine via_laws_asHas (by simp) ?_
  simp [pc_laws_asHas]
  refine W_for (fun i => ⟨[(5, .i .i64 i), (0, .imm (l.map sS.I)), (1, .s s)], [], 0, 0⟩) l.length (fun i => ∀ y ∈ l.take i, y ≠ s) (Wk.less rfl (by simp) (by simp) (by simp)) (by simp) ?_
  intro i hi hv
  rcases Nat.lt_or_ge i l.length with h2 | h2
  · obtain ⟨x, hx⟩ : ∃ x, l[i]? = some x := ⟨_, List.getElem?_eq_getElem h2⟩
    have hw : IntKind.i64.wrap ((i : Int) + 1) = (i : Int) + 1 := wrap1 (by omega)
    by_cases c : x = s
    · subst c
      have hm := List.mem_of_getElem? hx
      simp [-getElem?_pos, hx, hw, h2]
      exact fin_val rfl (by simp [hm]) (by simp)
    · simp [-getElem?_pos, hx, hw, h2, c]
      refine ⟨?_, Wk.to rfl (by simp) (by simp) (by simp) (by simp)⟩
      simpa using hasTo_succ hv hx c
  · have h3 : ¬ i < l.length := by omega
    rw [List.take_of_length_le (by omega)] at hv
    have hm : ¬ s ∈ l := fun h => hv s h rfl
    simp [h3]
    exact fin_val rfl (by simp [hm]) (by simp)
theorem l2Has_c (l : List Tx) (hl : ln l) (s : Tx) : Rv Try.prog 114 [.imm (l.map sS.I), .s s] (.b (decide (s ∈ l))) := by
  refine via_spec_l2Has (by simp) ?_
  simp [pc_spec_l2Has]
  refine W_for (fun i => ⟨[(5, .i .i64 i), (0, .imm (l.map sS.I)), (1, .s s)], [], 0, 0⟩) l.length (fun i => ∀ y ∈ l.take i, y ≠ s) (Wk.less rfl (by simp) (by simp) (by simp)) (by simp) ?_
  intro i hi hv
  rcases Nat.lt_or_ge i l.length with h2 | h2
  · obtain ⟨x, hx⟩ : ∃ x, l[i]? = some x := ⟨_, List.getElem?_eq_getElem h2⟩
    have hw : IntKind.i64.wrap ((i : Int) + 1) = (i : Int) + 1 := wrap1 (by omega)
    by_cases c : x = s
    · subst c
      have hm := List.mem_of_getElem? hx
      simp [-getElem?_pos, hx, hw, h2]
      exact fin_val rfl (by simp [hm]) (by simp)
    · simp [-getElem?_pos, hx, hw, h2, c]
      refine ⟨?_, Wk.to rfl (by simp) (by simp) (by simp) (by simp)⟩
      simpa using hasTo_succ hv hx c
  · have h3 : ¬ i < l.length := by omega
    rw [List.take_of_length_le (by omega)] at hv
    have hm : ¬ s ∈ l := fun h => hv s h rfl
    simp [h3]
    exact fin_val rfl (by simp [hm]) (by simp)
theorem Index_c (l : List Tx) (hl : ln l) (s : Tx) : ∃ k : Int, (0 ≤ k ↔ s ∈ l) ∧ Rv Try.prog 134 [.imm (l.map sS.I), .s s] (.i .i64 k) := by
  obtain ⟨k, hk, hlt⟩ : ∃ k : Nat, k ≤ l.length ∧ (∀ y ∈ l.take k, y ≠ s) ∧ ((k < l.length ∧ l[k]? = some s) ∨ (k = l.length ∧ ¬ s ∈ l)) := by
    induction l with
    | nil => exact ⟨0, by simp, by simp, .inr (by simp)⟩
    | cons a l ih =>
      by_cases c : a = s
      · exact ⟨0, by simp, by simp, .inl (by simp [c])⟩
      · obtain ⟨k, h1, h2, h3⟩ := ih (by simp only [ln, List.length_cons] at hl ⊢; omega)
        refine ⟨k + 1, by simp; omega, ?_, ?_⟩
        · intro y hy
          rw [List.take_succ_cons] at hy
          rcases List.mem_cons.1 hy with rfl | hy
          · exact c
          · exact h2 y hy
        · rcases h3 with ⟨h3, h4⟩ | ⟨h3, h4⟩
          · exact .inl ⟨by simp; omega, by simpa using h4⟩
          · refine .inr ⟨by simp; omega, ?_⟩
            intro h
            rcases List.mem_cons.1 h with h | h
            · exact c h.symm
            · exact h4 h
  obtain ⟨hbef, hend⟩ := hlt
  refine ⟨if k < l.length then (k : Int) else -1, ?_, ?_⟩
  · rcases hend with ⟨h3, h4⟩ | ⟨h3, h4⟩
    · rw [if_pos h3]; exact ⟨fun _ => List.mem_of_getElem? h4, fun _ => by omega⟩
    · rw [if_neg (by omega)]; exact ⟨fun h => by omega, fun h => absurd h h4⟩
  refine via_slices_Index_string_string (by simp) ?_
  simp [pc_slices_Index_string_string]
  refine W_for (fun i => ⟨[(8, .i .i64 i), (7, .i .i64 l.length), (0, .imm (l.map sS.I)), (1, .s s)], [], 0, 0⟩) k (fun i => True) (Wk.less rfl (by simp) (by simp) (by simp)) trivial ?_
  intro i hi _
  rcases Nat.lt_or_ge i l.length with h2 | h2
  · obtain ⟨x, hx⟩ : ∃ x, l[i]? = some x := ⟨_, List.getElem?_eq_getElem h2⟩
    have hw : IntKind.i64.wrap ((i : Int) + 1) = (i : Int) + 1 := wrap1 (by omega)
    rcases Nat.lt_or_ge i k with h5 | h5
    · have c : ¬ s = x := by
        have := hbef x (List.mem_of_getElem? (i := i) (by rw [List.getElem?_take, if_pos h5]; exact hx))
        exact fun h => this h.symm
      simp [-getElem?_pos, hx, hw, h2, c, h5]
      exact Wk.to rfl (by simp) (by simp) (by simp) (by simp)
    · obtain rfl : i = k := by omega
      have c : s = x := by
        rcases hend with ⟨_, h4⟩ | ⟨h3, _⟩
        · rw [hx] at h4; exact (Option.some.inj h4).symm
        · omega
      subst c
      simp [-getElem?_pos, hx, hw, h2]
      exact fin_val rfl (by simp [h2]) (by simp)
  · have h3 : ¬ i < l.length := by omega
    have h4 : ¬ k < l.length := by omega
    simp [h3]
    exact fin_val rfl (by simp [h4]) (by simp)
theorem Contains_c (l : List Tx) (hl : ln l) (s : Tx) : Rv Try.prog 113 [.imm (l.map sS.I), .s s] (.b (decide (s ∈ l))) := by
  obtain ⟨k, hk, h⟩ := Index_c l hl s
  refine via_slices_Contains_string_string (by simp) ?_
  simp [pc_slices_Contains_string_string]
  refine callK_val (by simp) h rfl ?_
  simp [hk]
  exact fin_val rfl (by simp) (by simp)
def withL (lb : Tx) (n : Nd) : Bool := decide (lb = []) || decide (lb ∈ n.labels)
theorem hasLabel_c (n : Nd) (hn : ln n.labels) (lb : Tx) : Rv Try.prog 69 [.agg (sN.I n), .s lb] (.b (withL lb n)) := by
  obtain ⟨id, ls, ps⟩ := n
  have h := Contains_c ls hn lb
  refine via_impl_hasLabel (by simp) ?_
  by_cases c : lb = []
  · subst c
    simp [pc_impl_hasLabel]
    exact fin_val rfl (by simp [withL]) (by simp)
  · simp [pc_impl_hasLabel, c]
    refine callK_val (by simp) h rfl ?_
    simp [c]
    exact fin_val rfl (by simp [withL, c]) (by simp)
def idsWith (lb : Tx) (l : List Nd) : List Int := (l.filter (withL lb)).map Nd.id
open Classical in
noncomputable def nodesWith (g : Gr) (lb : Tx) : List Int := if GOk g then idsWith lb g.nodes else []
theorem idsWith_succ {lb : Tx} {l : List Nd} {i : Nat} {x : Nd} (hx : l[i]? = some x) : idsWith lb (l.take (i + 1)) = idsWith lb (l.take i) ++ (if withL lb x = true then [x.id] else []) := by
  rw [List.take_add_one, hx]
  simp only [idsWith, Option.toList_some, List.filter_append, List.map_append]
  congr 1
  by_cases c : withL lb x = true
  · simp [c]
  · simp [c]
theorem idsWith_len (lb : Tx) (l : List Nd) (i : Nat) : (idsWith lb (l.take i)).length ≤ i := by
  simp only [idsWith, List.length_map]
  exact Nat.le_trans (List.length_filter_le _ _) (by simp; omega)
set_option maxRecDepth 20000 in
theorem l2With_c (g : Gr) (hf : g.fit) (hc : g.cnt ≤ 2 ^ 20) (lb : Tx) : Rv Try.prog 70 [.agg (sG.I g), .s lb] (.own 1 ((idsWith lb g.nodes).map sI.O)) := by
  have hln : g.nodes.length ≤ 2 ^ 20 := by unfold Gr.cnt cl at hc; omega
  have hN := hf.2.1
  obtain ⟨l, es, nn, ne⟩ := g
  simp only at hln hN
  refine via_spec_l2With (by simp) ?_
  simp [pc_spec_l2With]
  refine W_for (fun i => ⟨[(6, .i .i64 i), (5, .ref 1 0 (idsWith lb (l.take i)).length), (1, .s lb), (2, .ptr 0 0 0)], [(0, .arr 4 [sG.I ⟨l, es, nn, ne⟩]), (1, .arr 1 ((idsWith lb (l.take i)).map sI.O))], 20, 0⟩) l.length (fun i => True) (Wk.less rfl (by simp) (by simp [idsWith]) (by simp [idsWith])) trivial ?_
  intro i hi _
  rcases Nat.lt_or_ge i l.length with h2 | h2
  · obtain ⟨x, hx⟩ : ∃ x, l[i]? = some x := ⟨_, List.getElem?_eq_getElem h2⟩
    have hw : IntKind.i64.wrap ((i : Int) + 1) = (i : Int) + 1 := wrap1 (by omega)
    have hh := l2Has_c x.labels (hN x (List.mem_of_getElem? hx)).2.1 lb
    have hs := idsWith_succ (lb := lb) hx
    have hle := idsWith_len lb l i
    rw [hs]
    generalize idsWith lb (l.take i) = A at *
    have hbig : (A.length + 1) * 8 ≤ 35184372088832 := by omega
    have hcA := sI.crO A
    obtain ⟨id, ls, ps⟩ := x
    simp only at hh
    by_cases c : lb = []
    · have hwl : withL lb ⟨id, ls, ps⟩ = true := by simp [withL, c]
      subst c
      simp [-getElem?_pos, hx, hw, h2, hbig, hwl]
      refine Wk.ren (fun t => if t = 1 then 21 else t) rfl (by simp) (by simp) (by simp) ?_ (by simp)
      have hcB := sI.crO (A ++ [id])
      rw [List.map_append] at hcB
      simp only [List.map_cons, List.map_nil, sI_O] at hcB
      simp [Blk.rn, Blk.names, namesr_clean hcB, rnr_cl hcB]
    · by_cases c2 : lb ∈ ls
      · have hwl : withL lb ⟨id, ls, ps⟩ = true := by simp [withL, c2]
        simp [-getElem?_pos, hx, hw, h2, c, c2]
        refine callK_val (by simp) hh rfl ?_
        simp [-getElem?_pos, hx, hw, h2, c, c2, hbig, hwl]
        refine Wk.ren (fun t => if t = 1 then 21 else t) rfl (by simp) (by simp) (by simp) ?_ (by simp)
        have hcB := sI.crO (A ++ [id])
        rw [List.map_append] at hcB
        simp only [List.map_cons, List.map_nil, sI_O] at hcB
        simp [Blk.rn, Blk.names, namesr_clean hcB, rnr_cl hcB]
      · have hwl : withL lb ⟨id, ls, ps⟩ = false := by simp [withL, c, c2]
        simp [-getElem?_pos, hx, hw, h2, c, c2]
        refine callK_val (by simp) hh rfl ?_
        simp [-getElem?_pos, hx, hw, h2, c, c2, hwl]
        exact Wk.to rfl (by simp) (by simp) (by simp [Blk.names, namesr_clean hcA]) (by simp)
  · obtain rfl : i = l.length := by omega
    simp
    exact fin_own (by simp; rfl) (by simp) (by simp) (by simp)
theorem specNodesWith_c (g : Gr) (hf : g.fit) (hc : g.cnt ≤ 2 ^ 20) (lb : Tx) : Rv Try.prog 23 [.agg (sG.I g), .s lb] (.own 1 ((nodesWith g lb).map sI.O)) := by
  have h1 := specGraphOk_c g hf
  have h2 := l2With_c g hf hc lb
  by_cases g1 : GOk g
  · have e : nodesWith g lb = idsWith lb g.nodes := by simp [nodesWith, g1]
    rw [e]
    obtain ⟨l, es, nn, ne⟩ := g
    refine via_spec_NodesWith (by simp) ?_
    simp [pc_spec_NodesWith]
    refine callK_val (by simp) h1 rfl ?_
    simp [g1]
    refine callK_val (by simp) h2 (by simp [T.noImm]) ?_
    simp
    exact fin_own (by simp; rfl) (by simp) (by simp) (by simp)
  · have e : nodesWith g lb = [] := by simp [nodesWith, g1]
    rw [e]
    obtain ⟨l, es, nn, ne⟩ := g
    refine via_spec_NodesWith (by simp) ?_
    simp [pc_spec_NodesWith]
    refine callK_val (by simp) h1 rfl ?_
    simp [g1]
    exact fin_own (by simp; rfl) (by simp) (by simp) (by simp)
set_option maxRecDepth 20000 in
theorem NodesWith_c (g : Gr) (hf : g.fit) (hc : g.cnt ≤ 2 ^ 20) (lb : Tx) : Rv Try.prog 22 [.agg (sG.I g), .s lb] (.own 1 ((nodesWith g lb).map sI.O)) := by
  have h1 := GraphOk_c g hf
  have hln : g.nodes.length ≤ 2 ^ 20 := by unfold Gr.cnt cl at hc; omega
  have hN := hf.2.1
  by_cases g1 : GOk g
  · have e : nodesWith g lb = idsWith lb g.nodes := by simp [nodesWith, g1]
    rw [e]
    obtain ⟨l, es, nn, ne⟩ := g
    simp only at hln hN
    refine via_impl_NodesWith (by simp) ?_
    simp [pc_impl_NodesWith]
    refine callK_val (by simp) h1 rfl ?_
    simp [g1]
    refine W_for (fun i => ⟨[(14, .i .i64 i), (13, .i .i64 l.length), (12, .imm (l.map sN.I)), (5, .ref 9 0 (idsWith lb (l.take i)).length), (1, .s lb), (2, .ptr 0 0 0)], [(0, .arr 4 [sG.I ⟨l, es, nn, ne⟩]), (9, .arr 1 ((idsWith lb (l.take i)).map sI.O))], 20, 0⟩) l.length (fun i => True) ?_ trivial ?_
    · exact Wk.trans (Wk.nil (j := 5) (k := 9) (sz := 1) (by simp) (by simp)) (Wk.less rfl (by simp) (by simp [idsWith]) (by simp [idsWith]))
    intro i hi _
    rcases Nat.lt_or_ge i l.length with h2 | h2
    · obtain ⟨x, hx⟩ : ∃ x, l[i]? = some x := ⟨_, List.getElem?_eq_getElem h2⟩
      have hw : IntKind.i64.wrap ((i : Int) + 1) = (i : Int) + 1 := wrap1 (by omega)
      have hh := hasLabel_c x (hN x (List.mem_of_getElem? hx)).2.1 lb
      have hs := idsWith_succ (lb := lb) hx
      have hle := idsWith_len lb l i
      rw [hs]
      generalize idsWith lb (l.take i) = A at *
      have hbig : (A.length + 1) * 8 ≤ 35184372088832 := by omega
      have hcA := sI.crO A
      obtain ⟨id, ls, ps⟩ := x
      cases hwl : withL lb ⟨id, ls, ps⟩ with
      | true =>
        rw [hwl] at hh
        simp [-getElem?_pos, hx, hw, h2]
        refine callK_val (by simp) hh rfl ?_
        simp [-getElem?_pos, hx, hw, h2, hbig]
        have hcB := sI.crO (A ++ [id])
        rw [List.map_append] at hcB
        simp only [List.map_cons, List.map_nil, sI_O] at hcB
        refine Wk.ren (fun t => if t = 9 then 23 else t) rfl (by simp) (by simp) (by simp) ?_ (by simp)
        simp [Blk.rn, Blk.names, namesr_clean hcB, rnr_cl hcB]
      | false =>
        rw [hwl] at hh
        simp [-getElem?_pos, hx, hw, h2]
        refine callK_val (by simp) hh rfl ?_
        simp [-getElem?_pos, hx, hw, h2]
        exact Wk.to rfl (by simp) (by simp) (by simp [Blk.names, namesr_clean hcA]) (by simp)
    · obtain rfl : i = l.length := by omega
      simp
      exact fin_own (by simp; rfl) (by simp) (by simp) (by simp)
  · have e : nodesWith g lb = [] := by simp [nodesWith, g1]
    rw [e]
    obtain ⟨l, es, nn, ne⟩ := g
    refine via_impl_NodesWith (by simp) ?_
    simp [pc_impl_NodesWith]
    refine callK_val (by simp) h1 rfl ?_
    simp [g1]
    exact fin_own (by simp; rfl) (by simp) (by simp) (by simp)
end Go.Proofs.Ytonljcphaiklgaa.V
