/- Texts Ccopy, Cget, Cget2, Cg1, Cg2, Cg3, Cg4, Cg5, Cg6, Cg7, Cg8, Cg9, Cg10, Cm1, Cm2, Cm3, Cm4, Cn1, Cn2, Csame, Cwith, Cfind. -/
import Derived.Test.YtehdfbhfbidadaaG1
import Derived.Test.YtehdfbhfbidadaaVC
import Derived.Test.YtehdfbhfbidadaaVD
/- Copies of values. -/
namespace Go.Proofs.Ytehdfbhfbidadaa.V
open Go
set_option linter.unusedVariables false
set_option linter.unusedSimpArgs false
set_option maxHeartbeats 16000000
theorem l1Copy_c (v : Vl) : v.cnt ≤ 2 ^ 20 → Rv Try.prog 120 [.agg (sV.I v)] (.agg (sV.O v)) := by
  refine Vl.ind (p := fun v => v.cnt ≤ 2 ^ 20 → Rv Try.prog 120 [.agg (sV.I v)] (.agg (sV.O v))) ?_ v
  intro k n s l ih hc
  rw [Vl.cnt_mk] at hc
  unfold cl at hc
  refine via_spec_l1Copy (by simp) ?_
  simp [pc_spec_l1Copy]
  refine W_for (fun i => ⟨[(4, .i .i64 i), (1, .ptr 0 0 0), (2, .ptr 1 0 0), (3, .ptr 2 0 0)], [(0, .arr 4 [sV.I (.mk k n s l)]), (1, .arr 4 [[.i .i64 0, .i .i64 0, .s [], .nl]]), (2, .arr 4 [[.i .i64 k, .i .i64 n, .s s, .own 4 ((l.map sV.O).take i)]])], 10, 0⟩) l.length (fun _ => True) ?_ trivial ?_
  · refine Wk.trans (Wk.join (b := 2) (r := 0) (cs := [.i .i64 k, .i .i64 n, .s s, .own 4 []]) rfl rfl (by simp) (by simp)) ?_
    exact Wk.less rfl (by simp) (by simp) (by simp)
  intro i hi _
  rcases Nat.lt_or_ge i l.length with h1 | h1
  · obtain ⟨x, hx⟩ : ∃ x, l[i]? = some x := ⟨_, List.getElem?_eq_getElem h1⟩
    have hw : IntKind.i64.wrap ((i : Int) + 1) = (i : Int) + 1 := wrap1 (by omega)
    have hmin : min i l.length = i := by omega
    simp [-getElem?_pos, hx, hw, h1, hmin]
    refine callK_val (by simp) (ih x (List.mem_of_getElem? hx) (by have := sums_mem (c := Vl.cnt) (List.mem_of_getElem? hx); omega)) (by simp [T.noImm]) ?_
    have htt : List.take i (List.take i (l.map sV.O)) = List.take i (l.map sV.O) := by rw [List.take_take]; simp
    have hlA : (List.take i (l.map sV.O)).length = i := by simp; omega
    have hnew := fill_new sV.O hx
    have hcA : cleanR (List.take i (l.map sV.O)) = true := by rw [← List.map_take]; exact sV.crO _
    have hbig : (i + 1) * 56 ≤ 35184372088832 := by omega
    obtain ⟨k', n', s', l'⟩ := x
    simp [-getElem?_pos, hx, hw, h1, hmin, htt, hbig]
    generalize List.take i (l.map sV.O) = A at *
    refine need_mk ⟨by decide +kernel, by decide +kernel⟩ (need_mk (by decide +kernel) ?_)
    have hg := app1_get hlA
    have hs := app1_set hlA
    have ht := app1_take hlA
    refine Wk.trans (Wk.join (b := 82) (r := i) (cs := sV.O (.mk k' n' s' l')) rfl (by simp [hg]; rfl) (by simp) (by simp)) ?_
    refine Wk.trans (Wk.join (b := 2) (r := 0) (cs := [.i .i64 k, .i .i64 n, .s s, .own 4 ((l.map sV.O).take (i + 1))]) rfl rfl (by simp [hnew, hs, hcA, hlA, ht]) (by simp)) ?_
    exact Wk.to rfl (by simp) (by simp) (by simp [Blk.names]) (by simp)
  · have h2 : ¬ i < l.length := by omega
    have e : (l.map sV.O).take i = l.map sV.O := List.take_of_length_le (by simp; omega)
    simp [h2, e]
    exact fin_own (by simp; rfl) (by simp) (by simp) (by simp)
/-- An ok value is ok with more room. -/
theorem okV_mono : ∀ (d : Nat) (v : Vl), okV d v = true → okV (d + 1) v = true := by
  intro d
  induction d with
  | zero => intro v h; simp [okV] at h
  | succ d ih =>
    rintro ⟨k, n, s, l⟩ h
    have hall : l.all (okV d) = true → l.all (okV (d + 1)) = true := fun h => by
      rw [List.all_eq_true] at h ⊢
      exact fun v hv => ih v (h v hv)
    unfold okV at h ⊢
    by_cases k4 : k = 4
    · subst k4
      simp only [show ¬ (4 : Int) = 0 by omega, show ¬ (4 : Int) = 1 by omega, show ¬ (4 : Int) = 2 by omega, show ¬ (4 : Int) = 3 by omega, show ¬ ((4 : Int) = 5 ∨ (4 : Int) = 6) by omega, if_false, if_true, Bool.and_eq_true] at h ⊢
      exact ⟨h.1, hall h.2⟩
    · simp only [k4, if_false] at h ⊢
      exact h
/-- What is in an ok value's list. -/
theorem okV_list {d : Nat} {k n : Int} {s : Tx} {l : List Vl} (h : okV (d + 1) (.mk k n s l) = true) : ∀ v ∈ l, okV (d + 1) v = true := by
  intro v hv
  refine okV_mono d v ?_
  unfold okV at h
  by_cases k4 : k = 4
  · subst k4
    simp only [show ¬ (4 : Int) = 0 by omega, show ¬ (4 : Int) = 1 by omega, show ¬ (4 : Int) = 2 by omega, show ¬ (4 : Int) = 3 by omega, show ¬ ((4 : Int) = 5 ∨ (4 : Int) = 6) by omega, if_false, if_true, Bool.and_eq_true] at h
    exact List.all_eq_true.1 h.2 v hv
  · have : l = [] := by
      simp only [k4, if_false] at h
      split at h
      · simp at h; exact h.2
      · split at h
        · simp at h; exact h.2
        · split at h
          · simp at h; exact h.2
          · split at h
            · simp at h; exact h.2
            · split at h
              · simp at h; exact h.2
              · simp at h
    simp [this] at hv
theorem cloneValues_of (l : List Vl) (hl : l.length ≤ 2 ^ 20) (h : ∀ v ∈ l, Rv Try.prog 88 [.agg (sV.I v)] (.agg (sV.O v))) : Rv Try.prog 150 [.imm (l.map sV.I)] (.own 4 (l.map sV.O)) := by
  refine via_impl_cloneValues (by simp) ?_
  by_cases h0 : l.length = 0
  · obtain rfl : l = [] := List.length_eq_zero_iff.1 h0
    simp [pc_impl_cloneValues]
    exact fin_own rfl (by simp) (by simp) (by simp)
  · have h0' : ¬ l = [] := fun h => h0 (by simp [h])
    have hb1 : (l.length : Int) * 56 ≤ 35184372088832 := by omega
    have hb2 : (l.length : Int) ≤ 35184372088832 := by omega
    simp [pc_impl_cloneValues, h0, h0', hb1, hb2]
    refine W_for (fun i => ⟨[(14, .i .i64 i), (13, .i .i64 l.length), (12, .imm (l.map sV.I)), (3, .ref 0 0 l.length)], [(0, .arr 4 ((l.map sV.O).take i ++ List.replicate (l.length - i) [.i .i64 0, .i .i64 0, .s [], .nl]))], 10, 0⟩) l.length (fun i => True) (Wk.less rfl (by simp) (by simp) (by simp)) trivial ?_
    intro i hi _
    rcases Nat.lt_or_ge i l.length with h2 | h2
    · obtain ⟨v, hx⟩ : ∃ v, l[i]? = some v := ⟨_, List.getElem?_eq_getElem h2⟩
      have hw2 : IntKind.i64.wrap ((i : Int) + 1) = (i : Int) + 1 := wrap1 (by omega)
      have hrow := fill_row sV.O l (z := [.i .i64 0, .i .i64 0, .s [], .nl]) h2
      have hset := fill_set sV.O l (z := [.i .i64 0, .i .i64 0, .s [], .nl]) h2
      have hnew := fill_new sV.O hx
      have hg := fun r => fill_get sV.O (l := l) (r := r) (z := [.i .i64 0, .i .i64 0, .s [], .nl]) h2
      have hs2 := fun r r' => fill_set2 sV.O (l := l) (r := r) (r' := r') (z := [.i .i64 0, .i .i64 0, .s [], .nl]) h2
      have hcl := fill_clean sV (l := l) (z := [.i .i64 0, .i .i64 0, .s [], .nl]) (by rfl) (i + 1) (l.length - (i + 1))
      simp [-getElem?_pos, hx, hw2, h2]
      refine callK_val (by simp) (h v (List.mem_of_getElem? hx)) (by simp [T.noImm]) ?_
      obtain ⟨k', n', s', l'⟩ := v
      simp [-getElem?_pos, hx, hw2, h2, hrow, hset]
      refine Wk.trans (Wk.join (b := 0) (r := i) (cs := sV.O (.mk k' n' s' l')) rfl (by simp [hg]; rfl) (by simp) (by simp)) ?_
      exact Wk.to1 rfl (by simp) (by simp) (by simp [hs2, hnew]) hcl (by omega)
    · have h4 : ¬ i < l.length := by omega
      have h5 : l.length - i = 0 := by omega
      have e : (l.map sV.O).take i = l.map sV.O := List.take_of_length_le (by simp; omega)
      simp [h4, h5, e]
      exact fin_own (by simp; rfl) (by simp) (by simp) (by simp)
theorem cloneValue_c (v : Vl) : v.fit → v.cnt ≤ 2 ^ 20 → vOk v = true → Rv Try.prog 88 [.agg (sV.I v)] (.agg (sV.O v)) := by
  refine Vl.ind (p := fun v => v.fit → v.cnt ≤ 2 ^ 20 → vOk v = true → Rv Try.prog 88 [.agg (sV.I v)] (.agg (sV.O v))) ?_ v
  intro k n s l ih hf hc hok
  obtain ⟨_, _, hs, hl, hv⟩ := Vl.fit_mk.1 hf
  rw [Vl.cnt_mk] at hc
  unfold cl at hc
  have hlist := okV_list hok
  refine via_impl_cloneValue (by simp) ?_
  simp [pc_impl_cloneValue]
  refine callK_val (by simp) (ValueOk_c _ hf) rfl ?_
  simp [hok]
  refine callK_val (by simp) (cloneValues_of l (by omega) (fun v hm => ih v hm (hv v hm) (by have := sums_mem (c := Vl.cnt) hm; omega) (hlist v hm))) (by simp [T.noImm]) ?_
  simp
  exact fin_own (by simp; rfl) (by simp) (by simp) (by simp)
end Go.Proofs.Ytehdfbhfbidadaa.V
/- Props by name. -/
namespace Go.Proofs.Ytehdfbhfbidadaa.V
open Go
set_option linter.unusedVariables false
set_option linter.unusedSimpArgs false
set_option maxHeartbeats 16000000
def zV : Vl := .mk 0 0 [] []
theorem l2Edge_c (g : Gr) (hl : ln g.edges) (id : Int) : Rv Try.prog 168 [.agg (sG.I g), .i .i64 id] (.i .i64 (posOf Eg.id id g.edges)) := by
  obtain ⟨ns, l, nn, ne⟩ := g
  simp only at hl ⊢
  refine via_spec_l2Edge (by simp) ?_
  simp [pc_spec_l2Edge]
  refine W_for (fun i => ⟨[(5, .i .i64 i), (2, .ptr 0 0 0), (1, .i .i64 id)], [(0, .arr 4 [sG.I ⟨ns, l, nn, ne⟩])], 1, 0⟩) l.length (fun i => ∀ j y, j < i → l[j]? = some y → y.id ≠ id) (Wk.less rfl (by simp) (by simp) (by simp)) (by simp) ?_
  intro i hi hv
  rcases Nat.lt_or_ge i l.length with h1 | h1
  · obtain ⟨⟨a, b, c, d, e⟩, hx⟩ : ∃ x, l[i]? = some x := ⟨_, List.getElem?_eq_getElem h1⟩
    have hw : IntKind.i64.wrap ((i : Int) + 1) = (i : Int) + 1 := wrap1 (by omega)
    by_cases h : a = id
    · simp [-getElem?_pos, hx, hw, h1, h]
      exact fin_val rfl (by simp [posOf_at (f := Eg.id) hx h hv]) (by simp)
    · simp [-getElem?_pos, hx, hw, h1, h]
      refine ⟨fun j y hj hy => ?_, Wk.to1 rfl (by simp) (by simp) (by simp) (by simp) (by omega)⟩
      rcases Nat.lt_or_ge j i with h6 | h6
      · exact hv j y h6 hy
      · obtain rfl : j = i := by omega
        rw [hx] at hy; simp at hy; subst hy; exact h
  · have h2 : ¬ i < l.length := by omega
    simp [h2]
    refine fin_val rfl ?_ (by simp)
    rw [posOf_none fun j y hy => hv j y (by have := (List.getElem?_eq_some_iff.1 hy).1; omega) hy]
    simp
/-- Props of a node or an edge, if it is there. -/
def propsOf (g : Gr) (v : Vl) : Option (List Pr) :=
  if v.k = 5 then (g.nodes.find? (fun x => decide (x.id = v.n))).map Nd.props
  else if v.k = 6 then (g.edges.find? (fun x => decide (x.id = v.n))).map Eg.props else none
theorem find_pos {α : Type} {f : α → Int} {id : Int} {l : List α} : (∃ (i : Nat) (x : α), posOf f id l = i ∧ l[i]? = some x ∧ l.find? (fun x => decide (f x = id)) = some x) ∨ (posOf f id l = -1 ∧ l.find? (fun x => decide (f x = id)) = none) := by
  rcases posOf_cases f id l with ⟨i, x, h1, h2, h3, h4⟩ | ⟨h1, h2⟩
  · left
    refine ⟨i, x, h1, h2, ?_⟩
    rw [List.find?_eq_some_iff_getElem]
    obtain ⟨hi, rfl⟩ := List.getElem?_eq_some_iff.1 h2
    exact ⟨by simpa using h3, i, hi, rfl, fun j hj => by simpa using h4 j _ hj (List.getElem?_eq_getElem (by omega))⟩
  · right
    refine ⟨h1, ?_⟩
    rw [List.find?_eq_none]
    exact fun x hx => by simpa using h2 x hx
/-- Under a name; nothing if there is none. -/
def getP (ps : List Pr) (nm : Tx) : Vl := ((ps.find? (fun p => decide (p.name = nm))).map Pr.val).getD zV
def propGet (g : Gr) (v : Vl) (nm : Tx) : Vl := match propsOf g v with | some ps => getP ps nm | none => zV
theorem getP_at {ps : List Pr} {nm : Tx} {i : Nat} {p : Pr} (hx : ps[i]? = some p) (h : p.name = nm) (hn : ∀ (j : Nat) (q : Pr), j < i → ps[j]? = some q → q.name ≠ nm) : getP ps nm = p.val := by
  unfold getP
  have : ps.find? (fun p => decide (p.name = nm)) = some p := by
    rw [List.find?_eq_some_iff_getElem]
    obtain ⟨hi, rfl⟩ := List.getElem?_eq_some_iff.1 hx
    exact ⟨by simpa using h, i, hi, rfl, fun j hj => by simpa using hn j _ hj (List.getElem?_eq_getElem (by omega))⟩
  rw [this]; rfl
theorem getP_none {ps : List Pr} {nm : Tx} (h : ∀ (j : Nat) (q : Pr), ps[j]? = some q → q.name ≠ nm) : getP ps nm = zV := by
  unfold getP
  have : ps.find? (fun p => decide (p.name = nm)) = none := by
    rw [List.find?_eq_none]
    intro p hp
    obtain ⟨j, hj⟩ := List.mem_iff_getElem?.1 hp
    simpa using h j p hj
  rw [this]; rfl
theorem l2Of_c (g : Gr) (hf : ln g.nodes ∧ ln g.edges) (v : Vl) : Rv Try.prog 144 [.agg (sG.I g), .agg (sV.I v)] (match propsOf g v with | some ps => .tup [.imm (ps.map sP.I), .b true] | none => .tup [.own 5 [], .b false]) := by
  obtain ⟨l, es, nn, ne⟩ := g
  obtain ⟨k, n, s, vl⟩ := v
  refine via_spec_l2Of (by simp) ?_
  simp [pc_spec_l2Of]
  refine callK_val (by simp) (l2Node_c ⟨l, es, nn, ne⟩ hf.1 n) rfl ?_
  simp
  refine callK_val (by simp) (l2Edge_c ⟨l, es, nn, ne⟩ hf.2 n) rfl ?_
  by_cases k5 : k = 5
  · subst k5
    rcases find_pos (f := Nd.id) (id := n) (l := l) with ⟨i, ⟨a, b, c⟩, h1, h2, h3⟩ | ⟨h1, h3⟩
    · have hp : propsOf ⟨l, es, nn, ne⟩ (.mk 5 n s vl) = some c := by unfold propsOf; simp only [Vl.k, Vl.n, if_true]; exact congrArg (Option.map Nd.props) h3
      simp [-getElem?_pos, h1, h2, hp]
      exact fin_own rfl (by simp) (by simp) (by simp)
    · have hp : propsOf ⟨l, es, nn, ne⟩ (.mk 5 n s vl) = none := by unfold propsOf; simp only [Vl.k, Vl.n, if_true]; exact congrArg (Option.map Nd.props) h3
      simp [-getElem?_pos, h1, hp]
      exact fin_own rfl (by simp) (by simp) (by simp)
  · by_cases k6 : k = 6
    · subst k6
      rcases find_pos (f := Eg.id) (id := n) (l := es) with ⟨i, ⟨a, b, c, d, e⟩, h1, h2, h3⟩ | ⟨h1, h3⟩
      · have hp : propsOf ⟨l, es, nn, ne⟩ (.mk 6 n s vl) = some e := by unfold propsOf; simp only [Vl.k, Vl.n, if_true, show ¬ (6 : Int) = 5 by omega, if_false]; exact congrArg (Option.map Eg.props) h3
        simp [-getElem?_pos, h1, h2, hp]
        exact fin_own rfl (by simp) (by simp) (by simp)
      · have hp : propsOf ⟨l, es, nn, ne⟩ (.mk 6 n s vl) = none := by unfold propsOf; simp only [Vl.k, Vl.n, if_true, show ¬ (6 : Int) = 5 by omega, if_false]; exact congrArg (Option.map Eg.props) h3
        simp [-getElem?_pos, h1, hp]
        exact fin_own rfl (by simp) (by simp) (by simp)
    · have hp : propsOf ⟨l, es, nn, ne⟩ (.mk k n s vl) = none := by simp only [propsOf, Vl.k, Vl.n, k5, k6, if_false]
      simp [-getElem?_pos, k5, k6, hp]
      exact fin_own rfl (by simp) (by simp) (by simp)
/-- What a prop's value is bounded by. -/
theorem cnt_props {g : Gr} {v : Vl} {ps : List Pr} (h : propsOf g v = some ps) : cl Pr.cnt ps ≤ g.cnt := by
  unfold propsOf at h
  split at h
  · obtain ⟨x, h1, rfl⟩ := Option.map_eq_some_iff.1 h
    have hm := List.mem_of_find?_eq_some h1
    have h2 := sums_mem (c := Nd.cnt) hm
    simp only [Nd.cnt] at h2
    unfold Gr.cnt cl at *
    omega
  · split at h
    · obtain ⟨x, h1, rfl⟩ := Option.map_eq_some_iff.1 h
      have hm := List.mem_of_find?_eq_some h1
      have h2 := sums_mem (c := Eg.cnt) hm
      simp only [Eg.cnt] at h2
      unfold Gr.cnt cl at *
      omega
    · exact absurd h (by simp)
theorem l2Get_c (g : Gr) (hf : ln g.nodes ∧ ln g.edges) (hc : g.cnt ≤ 2 ^ 20) (v : Vl) (nm : Tx) : Rv Try.prog 78 [.agg (sG.I g), .agg (sV.I v), .s nm] (.agg (sV.O (propGet g v nm))) := by
  have hO := l2Of_c g hf v
  obtain ⟨l, es, nn, ne⟩ := g
  obtain ⟨k, n, s, vl⟩ := v
  refine via_spec_l2Get (by simp) ?_
  simp [pc_spec_l2Get]
  refine callK_imm (by simp) hO ?_
  have key : ∀ ps : List Pr, cl Pr.cnt ps ≤ 2 ^ 20 → ∃ r, r = getP ps nm := fun ps _ => ⟨_, rfl⟩
  cases hp : propsOf ⟨l, es, nn, ne⟩ (.mk k n s vl) with
  | none =>
    have hr : propGet ⟨l, es, nn, ne⟩ (.mk k n s vl) nm = zV := by simp [propGet, hp]
    simp [hr]
    refine W_for (fun i => ⟨[(9, .i .i64 0), (7, .imm []), (6, .ptr 2 0 0)], [(2, .arr 4 [[.i .i64 0, .i .i64 0, .s [], .nl]])], 20, 0⟩) 0 (fun _ => True) (Wk.less rfl (by simp) (by simp) (by simp)) trivial ?_
    intro i hi _
    simp
    exact fin_own (by simp; rfl) (by simp [zV, hr]) (by simp) (by simp [zV, hr])
  | some ps =>
    have hr : propGet ⟨l, es, nn, ne⟩ (.mk k n s vl) nm = getP ps nm := by simp [propGet, hp]
    have hcp := cnt_props hp
    unfold cl at hcp
    simp [hr]
    refine W_for (fun i => ⟨[(9, .i .i64 i), (7, .imm (ps.map sP.I)), (6, .ptr 2 0 0), (2, .s nm)], [(2, .arr 4 [[.i .i64 0, .i .i64 0, .s [], .nl]])], 20, 0⟩) ps.length (fun i => ∀ j q, j < i → ps[j]? = some q → q.name ≠ nm) (Wk.less rfl (by simp) (by simp) (by simp)) (by simp) ?_
    intro i hi hv
    rcases Nat.lt_or_ge i ps.length with h1 | h1
    · obtain ⟨⟨nm', w⟩, hx⟩ : ∃ x, ps[i]? = some x := ⟨_, List.getElem?_eq_getElem h1⟩
      have hw : IntKind.i64.wrap ((i : Int) + 1) = (i : Int) + 1 := wrap1 (by omega)
      by_cases h : nm' = nm
      · have hg := getP_at hx h hv
        simp [-getElem?_pos, hx, hw, h1, h]
        refine callK_val (by simp) (l1Copy_c w (by have := sums_mem (c := Pr.cnt) (List.mem_of_getElem? hx); simp only [Pr.cnt] at this; omega)) (by simp [T.noImm]) ?_
        obtain ⟨k', n', s', l'⟩ := w
        simp [-getElem?_pos, hx, hw, h1, h]
        exact fin_own (by simp; rfl) (by simp [hr, hg]) (by simp) (by simp [hr, hg])
      · simp [-getElem?_pos, hx, hw, h1, h]
        refine ⟨fun j y hj hy => ?_, Wk.to1 rfl (by simp) (by simp) (by simp) (by simp) (by omega)⟩
        rcases Nat.lt_or_ge j i with h6 | h6
        · exact hv j y h6 hy
        · obtain rfl : j = i := by omega
          rw [hx] at hy; simp at hy; subst hy; exact h
    · have h2 : ¬ i < ps.length := by omega
      have hg := getP_none fun j q hq => hv j q (by have := (List.getElem?_eq_some_iff.1 hq).1; omega) hq
      simp [h2]
      exact fin_own (by simp; rfl) (by simp [zV, hr, hg]) (by simp) (by simp [zV, hr, hg])
end Go.Proofs.Ytehdfbhfbidadaa.V
/- Props by name: the program's word. -/
namespace Go.Proofs.Ytehdfbhfbidadaa.V
open Go
set_option linter.unusedVariables false
set_option linter.unusedSimpArgs false
set_option maxHeartbeats 16000000
def zT : List T := [.i .i64 0, .i .i64 0, .s [], .nl]
def getT (ps : List Pr) (nm : Tx) : T := match ps.find? (fun p => decide (p.name = nm)) with | some p => .agg (sV.I p.val) | none => .agg zT
theorem getT_some {ps : List Pr} {nm : Tx} {i : Nat} {p : Pr} (hx : ps[i]? = some p) (h : p.name = nm) (hn : ∀ (j : Nat) (q : Pr), j < i → ps[j]? = some q → q.name ≠ nm) : getT ps nm = .agg (sV.I p.val) := by
  unfold getT
  have : ps.find? (fun p => decide (p.name = nm)) = some p := by
    rw [List.find?_eq_some_iff_getElem]
    obtain ⟨hi, rfl⟩ := List.getElem?_eq_some_iff.1 hx
    exact ⟨by simpa using h, i, hi, rfl, fun j hj => by simpa using hn j _ hj (List.getElem?_eq_getElem (by omega))⟩
  rw [this]
theorem getT_none {ps : List Pr} {nm : Tx} (h : ∀ (j : Nat) (q : Pr), ps[j]? = some q → q.name ≠ nm) : getT ps nm = .agg zT := by
  unfold getT
  have : ps.find? (fun p => decide (p.name = nm)) = none := by
    rw [List.find?_eq_none]
    intro p hp
    obtain ⟨j, hj⟩ := List.mem_iff_getElem?.1 hp
    simpa using h j p hj
  rw [this]
theorem getT_cases (ps : List Pr) (nm : Tx) : (∃ p ∈ ps, getT ps nm = .agg (sV.I p.val) ∧ getP ps nm = p.val) ∨ (getT ps nm = .agg zT ∧ getP ps nm = zV) := by
  unfold getT getP
  cases h : ps.find? (fun p => decide (p.name = nm)) with
  | none => right; simp
  | some p => left; exact ⟨p, List.mem_of_find?_eq_some h, by simp, by simp⟩
theorem propOf_c (ps : List Pr) (hl : ps.length ≤ 2 ^ 20) (nm : Tx) : Rv Try.prog 82 [.imm (ps.map sP.I), .s nm] (getT ps nm) := by
  refine via_impl_propOf (by simp) ?_
  simp [pc_impl_propOf]
  refine W_for (fun i => ⟨[(9, .i .i64 i), (8, .i .i64 ps.length), (7, .imm (ps.map sP.I)), (4, .ptr 0 0 0), (1, .s nm)], [(0, .arr 4 [[.i .i64 0, .i .i64 0, .s [], .nl]])], 20, 0⟩) ps.length (fun i => ∀ j q, j < i → ps[j]? = some q → q.name ≠ nm) (Wk.less rfl (by simp) (by simp) (by simp)) (by simp) ?_
  intro i hi hv
  rcases Nat.lt_or_ge i ps.length with h1 | h1
  · obtain ⟨⟨nm', w⟩, hx⟩ : ∃ x, ps[i]? = some x := ⟨_, List.getElem?_eq_getElem h1⟩
    have hw : IntKind.i64.wrap ((i : Int) + 1) = (i : Int) + 1 := wrap1 (by omega)
    by_cases h : nm' = nm
    · have hg := getT_some hx h hv
      obtain ⟨k', n', s', l'⟩ := w
      simp [-getElem?_pos, hx, hw, h1, h]
      exact fin_own (by simp; rfl) (by simp [hg]) (by simp) (by simp [hg])
    · obtain ⟨k', n', s', l'⟩ := w
      simp [-getElem?_pos, hx, hw, h1, h]
      refine ⟨fun j y hj hy => ?_, Wk.to1 rfl (by simp) (by simp) (by simp) (by simp) (by omega)⟩
      rcases Nat.lt_or_ge j i with h6 | h6
      · exact hv j y h6 hy
      · obtain rfl : j = i := by omega
        rw [hx] at hy; simp at hy; subst hy; exact h
  · have h2 : ¬ i < ps.length := by omega
    have hg := getT_none fun j q hq => hv j q (by have := (List.getElem?_eq_some_iff.1 hq).1; omega) hq
    simp [h2]
    exact fin_own (by simp; rfl) (by simp [zT, hg]) (by simp) (by simp [zT, hg])
theorem propsAt_v (g : Gr) (hf : g.nodes.length ≤ 2 ^ 20 ∧ g.edges.length ≤ 2 ^ 20) (v : Vl) : Vw Try.prog 110 [.agg (sG.I g), .agg (sV.I v)] [] (match propsOf g v with | some ps => .pim [.imm (ps.map sP.I)] | none => .np) := by
  have ok1 : okCall Try.prog 97 = true := by kernel_rfl
  have ok2 : okCall Try.prog 116 = true := by kernel_rfl
  obtain ⟨l, es, nn, ne⟩ := g
  obtain ⟨k, n, s, vl⟩ := v
  obtain ⟨hf1, hf2⟩ := hf
  simp only at hf1 hf2
  have hr : ∀ o : Option (List Pr), (match o with | some ps => T.pim [.imm (ps.map sP.I)] | none => .np).names = [] := fun o => by cases o <;> simp
  refine see_impl_propsAt 0 (by simp) (by simp) (by rw [hr]; simp) (by simp) (by simp) ?_
  by_cases k5 : k = 5
  · subst k5
    simp [pc_impl_propsAt]
    refine hookH_view (nodesOf_v (.imm (l.map sN.I)) (.imm (es.map sE.I)) rfl rfl nn ne) rfl ok1 (by simp) ?_
    simp
    refine callK_val (by simp) (placeN_c l (by omega) n) rfl ?_
    rcases find_pos (f := Nd.id) (id := n) (l := l) with ⟨i, ⟨a, b, c⟩, h1, h2, h3⟩ | ⟨h1, h3⟩
    · have hp : propsOf ⟨l, es, nn, ne⟩ (.mk 5 n s vl) = some c := by unfold propsOf; simp only [Vl.k, Vl.n, if_true]; exact congrArg (Option.map Nd.props) h3
      simp [-getElem?_pos, h1, h2]
      exact fin_view rfl (by simp [hp]) (by simp)
    · have hp : propsOf ⟨l, es, nn, ne⟩ (.mk 5 n s vl) = none := by unfold propsOf; simp only [Vl.k, Vl.n, if_true]; exact congrArg (Option.map Nd.props) h3
      simp [-getElem?_pos, h1]
      exact fin_view rfl (by simp [hp]) (by simp)
  · by_cases k6 : k = 6
    · subst k6
      simp [pc_impl_propsAt]
      refine hookH_view (edgesIn_v (.imm (l.map sN.I)) (.imm (es.map sE.I)) rfl rfl nn ne) rfl ok2 (by simp) ?_
      simp
      refine callK_val (by simp) (placeE_c es (by omega) n) rfl ?_
      rcases find_pos (f := Eg.id) (id := n) (l := es) with ⟨i, ⟨a, b, c, d, e⟩, h1, h2, h3⟩ | ⟨h1, h3⟩
      · have hp : propsOf ⟨l, es, nn, ne⟩ (.mk 6 n s vl) = some e := by unfold propsOf; simp only [Vl.k, Vl.n, if_true, show ¬ (6 : Int) = 5 by omega, if_false]; exact congrArg (Option.map Eg.props) h3
        simp [-getElem?_pos, h1, h2]
        exact fin_view rfl (by simp [hp]) (by simp)
      · have hp : propsOf ⟨l, es, nn, ne⟩ (.mk 6 n s vl) = none := by unfold propsOf; simp only [Vl.k, Vl.n, if_true, show ¬ (6 : Int) = 5 by omega, if_false]; exact congrArg (Option.map Eg.props) h3
        simp [-getElem?_pos, h1]
        exact fin_view rfl (by simp [hp]) (by simp)
    · have hp : propsOf ⟨l, es, nn, ne⟩ (.mk k n s vl) = none := by simp only [propsOf, Vl.k, Vl.n, k5, k6, if_false]
      simp [pc_impl_propsAt, k5, k6]
      exact fin_view rfl (by simp [hp]) (by simp)
def propT (g : Gr) (v : Vl) (nm : Tx) : T := match propsOf g v with | some ps => getT ps nm | none => .agg zT
theorem propIn_c (g : Gr) (hc : g.cnt ≤ 2 ^ 20) (v : Vl) (nm : Tx) : Rv Try.prog 89 [.agg (sG.I g), .agg (sV.I v), .s nm] (propT g v nm) := by
  have ok1 : okCall Try.prog 110 = true := by kernel_rfl
  have hl : g.nodes.length ≤ 2 ^ 20 ∧ g.edges.length ≤ 2 ^ 20 := by unfold Gr.cnt cl at hc; omega
  have hp := propsAt_v g hl v
  have hcp := fun ps h => cnt_props (g := g) (v := v) (ps := ps) h
  obtain ⟨l, es, nn, ne⟩ := g
  obtain ⟨k, n, s, vl⟩ := v
  refine via_impl_propIn (by simp) ?_
  simp [pc_impl_propIn]
  simp at hp
  refine hookH_view hp rfl ok1 (by simp) ?_
  cases hq : propsOf ⟨l, es, nn, ne⟩ (.mk k n s vl) with
  | none =>
    simp
    exact fin_own (by simp; rfl) (by simp [propT, hq, zT]) (by simp) (by simp [propT, hq, zT])
  | some ps =>
    have := hcp ps hq
    unfold cl at this
    simp
    refine callK_imm (by simp) (propOf_c ps (by omega) nm) ?_
    rcases getT_cases ps nm with ⟨⟨nm', k', n', s', l'⟩, _, h1, _⟩ | ⟨h1, _⟩
    · simp [h1]
      exact fin_own (by simp; rfl) (by simp [propT, hq, h1]) (by simp) (by simp [propT, hq, h1])
    · simp [h1, zT]
      exact fin_own (by simp; rfl) (by simp [propT, hq, h1, zT]) (by simp) (by simp [propT, hq, h1, zT])
/-- What is under a name in an ok graph is ok, fits, and is not too large. -/
theorem getP_ok {ps : List Pr} (h : PropsOk ps) (nm : Tx) : vOk (getP ps nm) = true := by
  rcases getT_cases ps nm with ⟨p, hp, _, h1⟩ | ⟨_, h1⟩
  · rw [h1]
    obtain ⟨j, hj⟩ := List.mem_iff_getElem?.1 hp
    have := (h.1 j p hj).1
    simp only [prOk, sto, Bool.and_eq_true] at this
    exact this.2.1
  · rw [h1]; rfl
theorem props_ok {g : Gr} (h : GOk g) {v : Vl} {ps : List Pr} (hp : propsOf g v = some ps) : PropsOk ps := by
  unfold propsOf at hp
  split at hp
  · obtain ⟨x, h1, rfl⟩ := Option.map_eq_some_iff.1 hp
    exact (h.nok x (List.mem_of_find?_eq_some h1)).2
  · split at hp
    · obtain ⟨x, h1, rfl⟩ := Option.map_eq_some_iff.1 hp
      exact (h.eok x (List.mem_of_find?_eq_some h1)).2.1
    · exact absurd hp (by simp)
theorem props_fit {g : Gr} (h : g.fit) {v : Vl} {ps : List Pr} (hp : propsOf g v = some ps) : ∀ p ∈ ps, p.fit := by
  unfold propsOf at hp
  split at hp
  · obtain ⟨x, h1, rfl⟩ := Option.map_eq_some_iff.1 hp
    exact (h.2.1 x (List.mem_of_find?_eq_some h1)).2.2.2.2
  · split at hp
    · obtain ⟨x, h1, rfl⟩ := Option.map_eq_some_iff.1 hp
      exact (h.2.2.2.1 x (List.mem_of_find?_eq_some h1)).2.2.2.2.2
    · exact absurd hp (by simp)
open Classical in
theorem PropGet_c (g : Gr) (hf : g.fit) (hc : g.cnt ≤ 2 ^ 20) (v : Vl) (hv : v.fit) (nm : Tx) : Rv Try.prog 37 [.agg (sG.I g), .agg (sV.I v), .s nm] (.agg (sV.O (if GOk g ∧ vOk v = true then propGet g v nm else zV))) := by
  have h1 := GraphOk_c g hf
  have h2 := ValueOk_c v hv
  have h3 := propIn_c g hc v nm
  have zf : zV.fit := by simp [zV, Vl.fit_mk, i64, ln]
  have zc : zV.cnt ≤ 2 ^ 20 := by simp [zV, Vl.cnt_mk, cl, sums]
  have zo : vOk zV = true := rfl
  have hz := cloneValue_c zV zf zc zo
  have hps := fun ps h => And.intro (cnt_props (g := g) (v := v) (ps := ps) h) (props_fit hf (v := v) (ps := ps) h)
  have hpk := fun (hg : GOk g) ps h => props_ok hg (v := v) (ps := ps) h
  obtain ⟨l, es, nn, ne⟩ := g
  obtain ⟨k, n, s, vl⟩ := v
  refine via_impl_PropGet (by simp) ?_
  simp [pc_impl_PropGet]
  refine callK_val (by simp) h1 rfl ?_
  by_cases g1 : GOk ⟨l, es, nn, ne⟩
  · simp [g1]
    refine callK_val (by simp) h2 rfl ?_
    by_cases g2 : vOk (.mk k n s vl) = true
    · simp [g1, g2]
      refine callK_imm (by simp) h3 ?_
      cases hq : propsOf ⟨l, es, nn, ne⟩ (.mk k n s vl) with
      | none =>
        have e1 : propT ⟨l, es, nn, ne⟩ (.mk k n s vl) nm = .agg zT := by simp [propT, hq]
        have e2 : propGet ⟨l, es, nn, ne⟩ (.mk k n s vl) nm = zV := by simp [propGet, hq]
        simp [g1, g2, e1, zT]
        refine callK_val (xs := [.agg (sV.I zV)]) (by simp [zV]) hz (by simp [T.noImm]) ?_
        simp [zV]
        exact fin_own (by simp; rfl) (by simp [g1, g2, e2, zV]) (by simp) (by simp [g1, g2, e2, zV])
      | some ps =>
        obtain ⟨hcp, hfp⟩ := hps ps hq
        have hok := getP_ok (hpk g1 ps hq) nm
        have e2 : propGet ⟨l, es, nn, ne⟩ (.mk k n s vl) nm = getP ps nm := by simp [propGet, hq]
        rcases getT_cases ps nm with ⟨⟨nm', w⟩, hm, t1, t2⟩ | ⟨t1, t2⟩
        · have e1 : propT ⟨l, es, nn, ne⟩ (.mk k n s vl) nm = .agg (sV.I w) := by simp [propT, hq, t1]
          have hcw : w.cnt ≤ 2 ^ 20 := by
            have := sums_mem (c := Pr.cnt) hm
            unfold cl at hcp
            simp only [Pr.cnt] at this; omega
          have hcl := cloneValue_c w (hfp _ hm).2 hcw (by rw [t2] at hok; exact hok)
          obtain ⟨k', n', s', l'⟩ := w
          simp [g1, g2, e1]
          refine callK_val (by simp) hcl (by simp [T.noImm]) ?_
          simp
          exact fin_own (by simp; rfl) (by simp [g1, g2, e2, t2]) (by simp) (by simp [g1, g2, e2, t2])
        · have e1 : propT ⟨l, es, nn, ne⟩ (.mk k n s vl) nm = .agg zT := by simp [propT, hq, t1]
          simp [g1, g2, e1, zT]
          refine callK_val (xs := [.agg (sV.I zV)]) (by simp [zV]) hz (by simp [T.noImm]) ?_
          simp [zV]
          exact fin_own (by simp; rfl) (by simp [g1, g2, e2, t2, zV]) (by simp) (by simp [g1, g2, e2, t2, zV])
    · simp [g1, g2]
      exact fin_own (by simp; rfl) (by simp [zV, g1, g2]) (by simp) (by simp [zV, g1, g2])
  · simp [g1]
    exact fin_own (by simp; rfl) (by simp [zV, g1]) (by simp) (by simp [zV, g1])
end Go.Proofs.Ytehdfbhfbidadaa.V
/- Copies of texts, props, nodes, edges, graphs. -/
namespace Go.Proofs.Ytehdfbhfbidadaa.V
open Go
set_option linter.unusedVariables false
set_option linter.unusedSimpArgs false
set_option maxHeartbeats 16000000
end Go.Proofs.Ytehdfbhfbidadaa.V
/- Copies of props by the spec. -/
namespace Go.Proofs.Ytehdfbhfbidadaa.V
open Go
set_option linter.unusedVariables false
set_option linter.unusedSimpArgs false
set_option maxHeartbeats 16000000
theorem rns_cl {f : Nat → Nat} : ∀ {ts : List T}, ts.all T.clean = true → rns f ts = ts
  | [], h => by simp [rns]
  | t :: ts, h => by
    simp only [List.all_cons, Bool.and_eq_true] at h
    have : t.rn f = t := by have := h.1; cases t <;> simp [T.clean] at this <;> simp [T.rn]
    simp only [rns, this, rns_cl h.2]
theorem rnr_cl {f : Nat → Nat} : ∀ {rs : List (List T)}, cleanR rs = true → rs.map (rns f) = rs
  | [], h => by simp
  | r :: rs, h => by
    simp only [cleanR, List.all_cons, Bool.and_eq_true] at h
    simp only [List.map_cons, rns_cl h.1]
    rw [rnr_cl (by simpa only [cleanR] using h.2)]
theorem Wk.one {s : St} {b sz nx : Nat} {tm : List (Nat × T)} {rows : List (List T)} (hfb : s.fb = 0) (hnx : 0 < nx) (htm : ∀ p ∈ tm, p.2.rn (fun t => if t = 0 then b else t) = tget s.tm p.1 ∧ ∀ x ∈ p.2.names, x < nx) (hb : hget s.hp b = some (.arr sz rows)) (hcl : cleanR rows = true) : Wk s ⟨tm, [(0, .arr sz rows)], nx, 0⟩ := by
  refine Wk.ren (fun t => if t = 0 then b else t) hfb.symm (by omega) (by omega) htm ?_ (by simp)
  intro p hp
  simp only [List.mem_singleton] at hp
  subst hp
  refine ⟨by simp only [Blk.rn, if_true, rnr_cl hcl]; exact hb, hnx, ?_⟩
  intro x hx
  rw [Blk.names, namesr_clean hcl] at hx
  simp at hx
theorem l2Ps_c (l : List Pr) (hl : l.length ≤ 2 ^ 20) (h : ∀ p ∈ l, p.val.cnt ≤ 2 ^ 20) : Rv Try.prog 153 [.imm (l.map sP.I)] (.own 5 (l.map sP.O)) := by
  refine via_spec_l2Ps (by simp) ?_
  simp [pc_spec_l2Ps]
  refine W_for (fun i => ⟨[(4, .i .i64 i), (3, .ref 0 0 i), (0, .imm (l.map sP.I))], [(0, .arr 5 ((l.map sP.O).take i))], 20, 0⟩) l.length (fun i => True) (Wk.less rfl (by simp) (by simp) (by simp)) trivial ?_
  intro i hi _
  rcases Nat.lt_or_ge i l.length with h2 | h2
  · obtain ⟨v, hx⟩ : ∃ v, l[i]? = some v := ⟨_, List.getElem?_eq_getElem h2⟩
    have hw2 : IntKind.i64.wrap ((i : Int) + 1) = (i : Int) + 1 := wrap1 (by omega)
    have hv := l1Copy_c v.val (h v (List.mem_of_getElem? hx))
    have htt : List.take i (List.take i (l.map sP.O)) = List.take i (l.map sP.O) := by rw [List.take_take]; simp
    have hlA : (List.take i (l.map sP.O)).length = i := by simp; omega
    have hnew := fill_new sP.O hx
    have hcA : cleanR (List.take i (l.map sP.O)) = true := by rw [← List.map_take]; exact sP.crO _
    have hbig : (i + 1) * 72 ≤ 35184372088832 := by omega
    have hmin : min i l.length = i := by omega
    obtain ⟨nm, k', n', s', l'⟩ := v
    simp only at hv
    simp [-getElem?_pos, hx, hw2, h2, hmin]
    repeat refine need_mk (by decide +kernel) ?_
    refine callK_val (by simp) hv (by simp [T.noImm]) ?_
    simp [-getElem?_pos, hx, hw2, h2, hmin, htt, hbig]
    generalize List.take i (l.map sP.O) = A at *
    repeat refine need_mk (by decide +kernel) ?_
    have hg := app1_get hlA
    have hs := app1_set hlA
    refine Wk.trans (Wk.join (b := 132) (r := i) (cs := sP.O ⟨nm, .mk k' n' s' l'⟩) rfl (by simp [hg]; rfl) (by simp) (by simp)) ?_
    have hcN : cleanR (List.take (i + 1) (l.map sP.O)) = true := by rw [← List.map_take]; exact sP.crO _
    exact Wk.one (b := 132) rfl (by simp) (by simp) (by simp [hs, hnew]) hcN
  · have h4 : ¬ i < l.length := by omega
    have e : (l.map sP.O).take i = l.map sP.O := List.take_of_length_le (by simp; omega)
    obtain rfl : i = l.length := by omega
    simp [e]
    exact fin_own (by simp; rfl) (by simp) (by simp) (by simp)
end Go.Proofs.Ytehdfbhfbidadaa.V
/- Copies of graphs by the spec. -/
namespace Go.Proofs.Ytehdfbhfbidadaa.V
open Go
set_option linter.unusedVariables false
set_option linter.unusedSimpArgs false
set_option maxHeartbeats 16000000
theorem l2Copy_c (g : Gr) (hc : g.cnt ≤ 2 ^ 20) : Rv Try.prog 92 [.agg (sG.I g)] (.agg (sG.O g)) := by
  obtain ⟨l, es, nn, ne⟩ := g
  unfold Gr.cnt cl at hc
  simp only at hc
  have hpN : ∀ x ∈ l, x.labels.length ≤ 2 ^ 20 ∧ x.props.length ≤ 2 ^ 20 ∧ ∀ p ∈ x.props, p.val.cnt ≤ 2 ^ 20 := by
    intro x hx
    have h1 := sums_mem (c := Nd.cnt) hx
    have h0 : x.cnt = x.labels.length + sums List.length x.labels + (x.props.length + sums Pr.cnt x.props) := rfl
    refine ⟨by omega, by omega, fun p hp => ?_⟩
    have h2 := sums_mem (c := Pr.cnt) hp
    have h3 : p.cnt = p.name.length + p.val.cnt := rfl
    omega
  have hpE : ∀ x ∈ es, x.props.length ≤ 2 ^ 20 ∧ ∀ p ∈ x.props, p.val.cnt ≤ 2 ^ 20 := by
    intro x hx
    have h1 := sums_mem (c := Eg.cnt) hx
    have h0 : x.cnt = x.kind.length + (x.props.length + sums Pr.cnt x.props) := rfl
    refine ⟨by omega, fun p hp => ?_⟩
    have h2 := sums_mem (c := Pr.cnt) hp
    have h3 : p.cnt = p.name.length + p.val.cnt := rfl
    omega
  refine via_spec_l2Copy (by simp) ?_
  simp [pc_spec_l2Copy]
  refine W_for (fun i => ⟨[(4, .i .i64 i), (1, .ptr 0 0 0), (2, .ptr 1 0 0), (3, .ptr 2 0 0)], [(0, .arr 4 [sG.I ⟨l, es, nn, ne⟩]), (1, .arr 4 [[.nl, .nl, .i .i64 0, .i .i64 0]]), (2, .arr 4 [[.own 3 ((l.map sN.O).take i), .nl, .i .i64 nn, .i .i64 ne]])], 20, 0⟩) l.length (fun _ => True) ?_ trivial ?_
  · refine Wk.trans (Wk.join (b := 2) (r := 0) (cs := [.own 3 [], .nl, .i .i64 nn, .i .i64 ne]) rfl rfl (by simp) (by simp)) ?_
    exact Wk.less rfl (by simp) (by simp) (by simp)
  intro i hi _
  rcases Nat.lt_or_ge i l.length with h1 | h1
  · obtain ⟨x, hx⟩ : ∃ x, l[i]? = some x := ⟨_, List.getElem?_eq_getElem h1⟩
    have hw : IntKind.i64.wrap ((i : Int) + 1) = (i : Int) + 1 := wrap1 (by omega)
    have hmin : min i l.length = i := by omega
    have htt : List.take i (List.take i (l.map sN.O)) = List.take i (l.map sN.O) := by rw [List.take_take]; simp
    have hlA : (List.take i (l.map sN.O)).length = i := by simp; omega
    have hnew := fill_new sN.O hx
    have hcA : cleanR (List.take i (l.map sN.O)) = true := by rw [← List.map_take]; exact sN.crO _
    have hbig : (i + 1) * 56 ≤ 35184372088832 := by omega
    obtain ⟨hb1, hb2, hb3⟩ := hpN x (List.mem_of_getElem? hx)
    have hps := l2Ps_c x.props hb2 hb3
    obtain ⟨id, lb, ps⟩ := x
    simp only at hb1 hb2 hb3 hps
    have hlb : lb.length * 16 ≤ 35184372088832 := by omega
    simp [-getElem?_pos, hx, hw, h1, hmin, hlb]
    repeat refine need_mk (by decide +kernel) ?_
    refine callK_val (by simp) hps (by simp [T.noImm]) ?_
    simp [-getElem?_pos, hx, hw, h1, hmin, htt, hbig, hlb]
    generalize List.take i (l.map sN.O) = A at *
    repeat refine need_mk (by decide +kernel) ?_
    have hg := app1_get hlA
    have hs := app1_set hlA
    have ht := app1_take hlA
    have hSS : lb.map sS.I = lb.map sS.O := rfl
    refine Wk.trans (Wk.join (b := 126) (r := i) (cs := sN.O ⟨id, lb, ps⟩) rfl (by simp [hg]; rfl) (by simp [hSS]) (by simp)) ?_
    refine Wk.trans (Wk.join (b := 2) (r := 0) (cs := [.own 3 ((l.map sN.O).take (i + 1)), .nl, .i .i64 nn, .i .i64 ne]) rfl rfl (by simp [hnew, hs, hcA, hlA, ht, sN.cO]) (by simp)) ?_
    exact Wk.to rfl (by simp) (by simp) (by simp [Blk.names]) (by simp)
  have h2 : ¬ i < l.length := by omega
  have e : (l.map sN.O).take i = l.map sN.O := List.take_of_length_le (by simp; omega)
  simp [h2, e]
  refine W_for (fun i => ⟨[(6, .i .i64 i), (1, .ptr 0 0 0), (2, .ptr 1 0 0), (3, .ptr 2 0 0)], [(0, .arr 4 [sG.I ⟨l, es, nn, ne⟩]), (1, .arr 4 [[.nl, .nl, .i .i64 0, .i .i64 0]]), (2, .arr 4 [[.own 3 (l.map sN.O), .own 5 ((es.map sE.O).take i), .i .i64 nn, .i .i64 ne]])], 20, 0⟩) es.length (fun _ => True) ?_ trivial ?_
  · refine Wk.trans (Wk.join (b := 2) (r := 0) (cs := [.own 3 (l.map sN.O), .own 5 [], .i .i64 nn, .i .i64 ne]) rfl rfl (by simp) (by simp)) ?_
    exact Wk.less rfl (by simp) (by simp) (by simp)
  clear h2 e h1 hi
  intro i hi _
  rcases Nat.lt_or_ge i es.length with h1 | h1
  · obtain ⟨x, hx⟩ : ∃ x, es[i]? = some x := ⟨_, List.getElem?_eq_getElem h1⟩
    have hw : IntKind.i64.wrap ((i : Int) + 1) = (i : Int) + 1 := wrap1 (by omega)
    have hmin : min i es.length = i := by omega
    have htt : List.take i (List.take i (es.map sE.O)) = List.take i (es.map sE.O) := by rw [List.take_take]; simp
    have hlA : (List.take i (es.map sE.O)).length = i := by simp; omega
    have hnew := fill_new sE.O hx
    have hcA : cleanR (List.take i (es.map sE.O)) = true := by rw [← List.map_take]; exact sE.crO _
    have hbig : (i + 1) * 64 ≤ 35184372088832 := by omega
    obtain ⟨hb2, hb3⟩ := hpE x (List.mem_of_getElem? hx)
    have hps := l2Ps_c x.props hb2 hb3
    obtain ⟨id, kd, fr, to, ps⟩ := x
    simp only at hb2 hb3 hps
    simp [-getElem?_pos, hx, hw, h1, hmin]
    repeat refine need_mk (by decide +kernel) ?_
    refine callK_val (by simp) hps (by simp [T.noImm]) ?_
    simp [-getElem?_pos, hx, hw, h1, hmin, htt, hbig]
    generalize List.take i (es.map sE.O) = A at *
    repeat refine need_mk (by decide +kernel) ?_
    have hg := app1_get hlA
    have hs := app1_set hlA
    have ht := app1_take hlA
    refine Wk.trans (Wk.join (b := 27) (r := i) (cs := sE.O ⟨id, kd, fr, to, ps⟩) rfl (by simp [hg]; rfl) (by simp) (by simp)) ?_
    refine Wk.trans (Wk.join (b := 2) (r := 0) (cs := [.own 3 (l.map sN.O), .own 5 ((es.map sE.O).take (i + 1)), .i .i64 nn, .i .i64 ne]) rfl rfl (by simp [hnew, hs, hcA, hlA, ht, sE.cO]) (by simp)) ?_
    exact Wk.to rfl (by simp) (by simp) (by simp [Blk.names]) (by simp)
  · have h2 : ¬ i < es.length := by omega
    have e : (es.map sE.O).take i = es.map sE.O := List.take_of_length_le (by simp; omega)
    simp [h2, e]
    exact fin_own (by simp; rfl) (by simp) (by simp) (by simp)
end Go.Proofs.Ytehdfbhfbidadaa.V
/- Copies of graphs. -/
namespace Go.Proofs.Ytehdfbhfbidadaa.V
open Go
set_option linter.unusedVariables false
set_option linter.unusedSimpArgs false
set_option maxHeartbeats 16000000
theorem l2DropEdge_c (g : Gr) (hl : g.edges.length ≤ 2 ^ 20) (id : Int) : Rv Try.prog 192 [.agg (sG.I g), .i .i64 id] (.agg [.imm (g.nodes.map sN.I), .own 5 ((g.edges.filter (fun e => decide (e.id ≠ id))).map sE.I), .i .i64 g.nn, .i .i64 g.ne]) := by
  obtain ⟨l, es, nn, ne⟩ := g
  simp only at hl ⊢
  refine via_spec_l2DropEdge (by simp) ?_
  simp [pc_spec_l2DropEdge]
  refine W_for (fun i => ⟨[(6, .i .i64 i), (5, .ref 2 0 ((es.take i).filter (fun e => decide (e.id ≠ id))).length), (1, .i .i64 id), (2, .ptr 0 0 0), (4, .ptr 1 0 0)], [(0, .arr 4 [sG.I ⟨l, es, nn, ne⟩]), (1, .arr 4 [[.nl, .nl, .i .i64 0, .i .i64 0]]), (2, .arr 5 (((es.take i).filter (fun e => decide (e.id ≠ id))).map sE.I))], 20, 0⟩) es.length (fun _ => True) ?_ trivial ?_
  · exact Wk.less rfl (by simp) (by simp) (by simp)
  intro i hi _
  rcases Nat.lt_or_ge i es.length with h1 | h1
  · obtain ⟨x, hx⟩ : ∃ x, es[i]? = some x := ⟨_, List.getElem?_eq_getElem h1⟩
    have hw : IntKind.i64.wrap ((i : Int) + 1) = (i : Int) + 1 := wrap1 (by omega)
    have hfl : ((es.take i).filter (fun e => decide (e.id ≠ id))).length ≤ i := Nat.le_trans (List.length_filter_le _ _) (by simp; omega)
    have htk : es.take (i + 1) = es.take i ++ [x] := by rw [List.take_add_one, hx]; simp
    obtain ⟨a, b, c, d, e⟩ := x
    by_cases h : a = id
    · have hn : (es.take (i + 1)).filter (fun e => decide (e.id ≠ id)) = (es.take i).filter (fun e => decide (e.id ≠ id)) := by rw [htk, List.filter_append]; simp [h]
      rw [hn]
      generalize (es.take i).filter (fun e => decide (e.id ≠ id)) = A at *
      simp [-getElem?_pos, hx, hw, h1, h]
      exact Wk.to rfl (by simp) (by simp) (by simp [Blk.names, namesr_clean (sE.crI A)]) (by simp)
    · have hn : (es.take (i + 1)).filter (fun e => decide (e.id ≠ id)) = (es.take i).filter (fun e => decide (e.id ≠ id)) ++ [⟨a, b, c, d, e⟩] := by rw [htk, List.filter_append]; simp [h]
      rw [hn]
      generalize (es.take i).filter (fun e => decide (e.id ≠ id)) = A at *
      have hbig : (A.length + 1) * 64 ≤ 35184372088832 := by omega
      simp [-getElem?_pos, hx, hw, h1, h, hbig]
      have hcl := sE.crI (A ++ [⟨a, b, c, d, e⟩])
      have hmp : (A ++ [(⟨a, b, c, d, e⟩ : Eg)]).map sE.I = A.map sE.I ++ [[.i .i64 a, .s b, .i .i64 c, .i .i64 d, .imm (e.map sP.I)]] := by simp
      rw [hmp] at hcl
      generalize A.map sE.I ++ [[.i .i64 a, .s b, .i .i64 c, .i .i64 d, .imm (e.map sP.I)]] = B at *
      refine Wk.ren (fun t => if t = 2 then 21 else t) rfl (by simp) (by simp) (by simp) ?_ (by simp)
      simp [Blk.rn, Blk.names, namesr_clean hcl, rnr_cl hcl]
  · have h2 : ¬ i < es.length := by omega
    have e : es.take i = es := List.take_of_length_le (by omega)
    simp [h2, e]
    exact fin_own (by simp; rfl) (by simp) (by simp) (by simp)
end Go.Proofs.Ytehdfbhfbidadaa.V
/- Edges that go. -/
namespace Go.Proofs.Ytehdfbhfbidadaa.V
open Go
set_option linter.unusedVariables false
set_option linter.unusedSimpArgs false
set_option maxHeartbeats 16000000
/-- A slice that is nil, as one of a block without rows. -/
theorem Wk.nil {s : St} {j k sz : Nat} (h : tget s.tm j = .nl) (hk : s.nx ≤ k) : Wk s ⟨(j, .ref k 0 0) :: s.tm, hset s.hp k (.arr sz []), k + 1, s.fb⟩ := by
  rintro E a w ⟨⟨ρ, O, F, hR⟩, hE⟩
  have h1 := hR.set1 (t := k) (k := .arr sz []) (Ft := []) (M := []) (A' := (· < k + 1)) (ρ' := fun t => if t = k then none else ρ t) (w' := w) (hp0 := s.hp)
    (fun t ht => by omega) (fun t ht => if_neg (by omega)) (fun t ht => by rw [if_neg (by omega)]; exact hR.ρ0 t ht) (fun _ _ => rfl) (fun _ _ h => h) (fun _ _ _ _ _ _ => rfl) (Keep.refl _ _) (by simp) (by omega)
    (by simp only [BR]; exact .inl ⟨trivial, trivial, .inl (by simp)⟩) (by simp) (by simp) (by simp)
  refine ⟨⟨_, O, _, h1.size, h1.defers, h1.fb, h1.ρ0, h1.O0, h1.Olt, h1.Onew, fun i => ?_, h1.hp, h1.nodup, h1.apart, h1.mine, h1.keep⟩, by simp only; omega⟩
  simp only [tget]
  split
  · rename_i e
    subst e
    have := hR.tm j
    rw [h] at this
    simp only [CV, CI] at this
    simp only [CV]
    exact ⟨by omega, .inl ⟨by simp, trivial, trivial, _, this⟩⟩
  · exact h1.tm i
def dE (e : Eg) : List T := [.i .i64 e.id, .s e.kind, .i .i64 e.frm, .i .i64 e.to, .dead]
end Go.Proofs.Ytehdfbhfbidadaa.V
/- Copies of graphs by the program. -/
namespace Go.Proofs.Ytehdfbhfbidadaa.V
open Go
set_option linter.unusedVariables false
set_option linter.unusedSimpArgs false
set_option maxHeartbeats 16000000
abbrev zN : List T := [.i .i64 0, .nl, .nl]
abbrev zE : List T := [.i .i64 0, .s [], .i .i64 0, .i .i64 0, .nl]
def cgs (g : Gr) (N E : T) (rest : List (Nat × T)) (nx : Nat) : St := ⟨rest ++ [(1, .ptr 0 0 0), (2, .ptr 1 0 0), (3, .ptr 2 0 0)], [(0, .arr 4 [sG.I g]), (1, .arr 4 [[.nl, .nl, .i .i64 0, .i .i64 0]]), (2, .arr 4 [[N, E, .i .i64 g.nn, .i .i64 g.ne]])], nx, 0⟩
end Go.Proofs.Ytehdfbhfbidadaa.V
/- Edges dropped. -/
namespace Go.Proofs.Ytehdfbhfbidadaa.V
open Go
set_option linter.unusedVariables false
set_option linter.unusedSimpArgs false
set_option maxHeartbeats 16000000
/-- A contract of a call whose result is shared for good. -/
def Ri (P : Program) (f : Nat) (xs : List T) (v : T) : Prop := ∃ r, Rv P f xs r ∧ r.toI = v
theorem callK_ri {P : Program} {s : St} {i f : Nat} {args xs : List T} {v : T} {K : T → Δ → List Nat → Prop} (hx : handed s [] 0 args = some xs) (hr : Ri P f xs v) (hk : K v ((named [] false 0 args).map fun t => (t, none)) (named [] false 0 args)) : callK P s i [] .imm f args K := by
  obtain ⟨r, h1, rfl⟩ := hr
  exact callK_imm hx h1 hk
theorem fin_eaten {P : Program} {s : St} {rs : List ResultVar} {args : List T} {r : T} {xs : List T} (h1 : resK P s rs = some xs) (h2 : rfP s (res1 xs) r) (h4 : (rfN (res1 xs) r).Nodup) : fin P rs args r (args.map fun _ => .dead) .ret s :=
  fin_eat h1 (rfP_ok h2) h4
theorem fin_wk {P : Program} {s s' : St} {rs : List ResultVar} {args outs : List T} {r : T} {e : Exit} (hw : Wk s s') (h : fin P rs args r outs e s') : fin P rs args r outs e s := by
  obtain ⟨h1, s2, h2, h3⟩ := h
  exact ⟨h1, s2, Wk.trans hw h2, h3⟩
def zG : Gr := ⟨[], [], 0, 0⟩
def gDropE (g : Gr) (id : Int) : Gr := { g with edges := g.edges.filter (fun e => !decide (e.id = id)) }
open Classical in
noncomputable def edgeDrop (g : Gr) (id : Int) : Gr × Bool :=
  if GOk g then (if posOf Eg.id id g.edges < 0 then (g, false) else (gDropE g id, true)) else (zG, false)
theorem PropsOk.val {ps : List Pr} (h : PropsOk ps) : ∀ p ∈ ps, vOk p.val = true := by
  intro p hp
  obtain ⟨j, hj⟩ := List.mem_iff_getElem?.1 hp
  have := (h.1 j p hj).1
  simp only [prOk, sto, Bool.and_eq_true] at this
  exact this.2.1
end Go.Proofs.Ytehdfbhfbidadaa.V
/- Nodes added. -/
namespace Go.Proofs.Ytehdfbhfbidadaa.V
open Go
set_option linter.unusedVariables false
set_option linter.unusedSimpArgs false
set_option maxHeartbeats 16000000
def gAddN (g : Gr) (lb : List Tx) (ps : List Pr) : Gr := ⟨g.nodes ++ [⟨g.nn, lb, ps⟩], g.edges, g.nn + 1, g.ne⟩
def addNOk (g : Gr) (lb : List Tx) (ps : List Pr) : Prop := LabelsOk lb ∧ PropsOk ps ∧ g.nodes.length < 12 ∧ g.nn < 1000000000
open Classical in
noncomputable def nAdd (g : Gr) (lb : List Tx) (ps : List Pr) : Gr × Bool := if addNOk g lb ps then (gAddN g lb ps, true) else (g, false)
open Classical in
noncomputable def nodeAdd (g : Gr) (lb : List Tx) (ps : List Pr) : Gr × Int × Bool :=
  if GOk g then ((nAdd g lb ps).1, if addNOk g lb ps then g.nn else 0, decide (addNOk g lb ps)) else (zG, 0, false)
theorem l2AddNode_c (g : Gr) (hi : i64 g.nn) (hl1 : g.nodes.length ≤ 2 ^ 40) (lb : List Tx) (hlb : ln lb ∧ ∀ x ∈ lb, ln x) (ps : List Pr) (hps : ln ps ∧ ∀ x ∈ ps, x.fit) (hcp : cl Pr.cnt ps ≤ 2 ^ 20) :
    Ret Try.prog 176 [.agg (sG.O g), .imm (lb.map sS.I), .imm (ps.map sP.I)] (.tup [.agg (sG.O (nAdd g lb ps).1), .b (nAdd g lb ps).2]) [.dead, .dead, .dead] := by
  have h1 := l2Labels_c lb hlb.1 hlb.2
  have h2 := l2Props_c ps hps.1 hps.2
  have hlp : ps.length ≤ 2 ^ 20 := by unfold cl at hcp; omega
  have h3 := l2Ps_c ps hlp (fun p hp => by
    have h2 := sums_mem (c := Pr.cnt) hp
    have h3 : p.cnt = p.name.length + p.val.cnt := rfl
    unfold cl at hcp; omega)
  obtain ⟨l, es, nn, ne⟩ := g
  simp only at hi hl1
  refine via_spec_l2AddNode (by simp) ?_
  by_cases c1 : LabelsOk lb
  · by_cases c2 : PropsOk ps
    · by_cases c3 : 12 ≤ (l.length : Int)
      · have hno : ¬ addNOk ⟨l, es, nn, ne⟩ lb ps := fun h => by have := h.2.2.1; simp only at this; omega
        simp [pc_spec_l2AddNode]
        refine callK_val (by simp) h1 rfl ?_
        simp [c1]
        refine callK_val (by simp) h2 rfl ?_
        simp [c1, c2, c3]
        exact fin_eaten (by simp; rfl) (by simp [nAdd, hno]) (by simp [nAdd, hno])
      · by_cases c4 : 1000000000 ≤ nn
        · have hno : ¬ addNOk ⟨l, es, nn, ne⟩ lb ps := fun h => by have := h.2.2.2; simp only at this; omega
          simp [pc_spec_l2AddNode]
          refine callK_val (by simp) h1 rfl ?_
          simp [c1]
          refine callK_val (by simp) h2 rfl ?_
          simp [c1, c2, c3, c4]
          exact fin_eaten (by simp; rfl) (by simp [nAdd, hno]) (by simp [nAdd, hno])
        · have hyes : addNOk ⟨l, es, nn, ne⟩ lb ps := ⟨c1, c2, by simp only; omega, by simp only; omega⟩
          have hw : IntKind.i64.wrap (nn + 1) = nn + 1 := wrap64 (by have := hi.1; omega) (by omega)
          have hb1 : lb.length * 16 ≤ 35184372088832 := by have := c1.2; omega
          have hb2 : (l.length + 1) * 56 ≤ 35184372088832 := by omega
          simp [pc_spec_l2AddNode]
          refine callK_val (by simp) h1 rfl ?_
          simp [c1]
          refine callK_val (by simp) h2 rfl ?_
          simp [c1, c2, c3, c4, hb1, hb2, hw]
          repeat refine need_mk (by decide +kernel) ?_
          refine callK_val (by simp) h3 (by simp [T.noImm]) ?_
          simp [c1, c2, c3, c4, hb1, hb2, hw]
          repeat refine need_mk (by decide +kernel) ?_
          have hA : (l.map sN.O).length = l.length := by simp
          have hg2 := app1_get hA
          have hs3 := app1_set hA
          have hSS : lb.map sS.I = lb.map sS.O := rfl
          refine fin_wk (Wk.join (b := 92) (r := l.length) (cs := sN.O ⟨nn, lb, ps⟩) rfl (by simp [hg2]; rfl) (by simp [hSS]) (by simp)) ?_
          simp [hs3]
          exact fin_eaten (by simp; rfl) (by simp [nAdd, hyes, gAddN, List.take_of_length_le]) (by simp [nAdd, hyes, gAddN])
    · have hno : ¬ addNOk ⟨l, es, nn, ne⟩ lb ps := fun h => c2 h.2.1
      simp [pc_spec_l2AddNode]
      refine callK_val (by simp) h1 rfl ?_
      simp [c1]
      refine callK_val (by simp) h2 rfl ?_
      simp [c1, c2]
      exact fin_eaten (by simp; rfl) (by simp [nAdd, hno]) (by simp [nAdd, hno])
  · have hno : ¬ addNOk ⟨l, es, nn, ne⟩ lb ps := fun h => c1 h.1
    simp [pc_spec_l2AddNode]
    refine callK_val (by simp) h1 rfl ?_
    simp [c1]
    exact fin_eaten (by simp; rfl) (by simp [nAdd, hno]) (by simp [nAdd, hno])
end Go.Proofs.Ytehdfbhfbidadaa.V
/- Nodes added: the two functions. -/
namespace Go.Proofs.Ytehdfbhfbidadaa.V
open Go
set_option linter.unusedVariables false
set_option linter.unusedSimpArgs false
set_option maxHeartbeats 16000000
end Go.Proofs.Ytehdfbhfbidadaa.V
/- Edges added. -/
namespace Go.Proofs.Ytehdfbhfbidadaa.V
open Go
set_option linter.unusedVariables false
set_option linter.unusedSimpArgs false
set_option maxHeartbeats 16000000
def gAddE (g : Gr) (kd : Tx) (fr to : Int) (ps : List Pr) : Gr := ⟨g.nodes, g.edges ++ [⟨g.ne, kd, fr, to, ps⟩], g.nn, g.ne + 1⟩
def addEOk (g : Gr) (kd : Tx) (fr to : Int) (ps : List Pr) : Prop := nameOk kd = true ∧ PropsOk ps ∧ 0 ≤ posOf Nd.id fr g.nodes ∧ 0 ≤ posOf Nd.id to g.nodes ∧ g.edges.length < 16 ∧ g.ne < 1000000000
open Classical in
noncomputable def eAdd (g : Gr) (kd : Tx) (fr to : Int) (ps : List Pr) : Gr × Bool := if addEOk g kd fr to ps then (gAddE g kd fr to ps, true) else (g, false)
open Classical in
noncomputable def edgeAdd (g : Gr) (kd : Tx) (fr to : Int) (ps : List Pr) : Gr × Int × Bool :=
  if GOk g then ((eAdd g kd fr to ps).1, if addEOk g kd fr to ps then g.ne else 0, decide (addEOk g kd fr to ps)) else (zG, 0, false)
theorem l2AddEdge_c (g : Gr) (hi : i64 g.ne) (hl0 : g.nodes.length ≤ 2 ^ 40) (hl1 : g.edges.length ≤ 2 ^ 40) (kd : Tx) (hkd : ln kd) (fr to : Int) (ps : List Pr) (hps : ln ps ∧ ∀ x ∈ ps, x.fit) (hcp : cl Pr.cnt ps ≤ 2 ^ 20) :
    Ret Try.prog 179 [.agg (sG.O g), .s kd, .i .i64 fr, .i .i64 to, .imm (ps.map sP.I)] (.tup [.agg (sG.O (eAdd g kd fr to ps).1), .b (eAdd g kd fr to ps).2]) [.dead, .dead, .dead, .dead, .dead] := by
  have h1 := l2Name_c kd hkd
  have h2 := l2Props_c ps hps.1 hps.2
  have hlp : ps.length ≤ 2 ^ 20 := by unfold cl at hcp; omega
  have h3 := l2Ps_c ps hlp (fun p hp => by
    have h2 := sums_mem (c := Pr.cnt) hp
    have h3 : p.cnt = p.name.length + p.val.cnt := rfl
    unfold cl at hcp; omega)
  have hlN : ln g.nodes := by simp only [ln]; omega
  have h4 := l2Node_c g hlN fr
  have h5 := l2Node_c g hlN to
  obtain ⟨l, es, nn, ne⟩ := g
  simp only at hi hl1 hl0
  refine via_spec_l2AddEdge (by simp) ?_
  by_cases c1 : nameOk kd = true
  · by_cases c2 : PropsOk ps
    · by_cases c3 : 0 ≤ posOf Nd.id fr l
      · have d3 : ¬ posOf Nd.id fr l < 0 := by omega
        by_cases c4 : 0 ≤ posOf Nd.id to l
        · have d4 : ¬ posOf Nd.id to l < 0 := by omega
          by_cases c5 : (es.length : Int) < 16
          · have d5 : ¬ 16 ≤ (es.length : Int) := by omega
            by_cases c6 : ne < 1000000000
            · have d6 : ¬ 1000000000 ≤ ne := by omega
              have hyes : addEOk ⟨l, es, nn, ne⟩ kd fr to ps := ⟨c1, c2, c3, c4, by simp only; omega, c6⟩
              have hw : IntKind.i64.wrap (ne + 1) = ne + 1 := wrap64 (by have := hi.1; omega) (by omega)
              have hb2 : (es.length + 1) * 64 ≤ 35184372088832 := by omega
              simp [pc_spec_l2AddEdge]
              refine callK_val (by simp) h1 rfl ?_
              simp [c1]
              refine callK_val (by simp) h2 rfl ?_
              simp [c1, c2]
              refine callK_val (by simp) h4 rfl ?_
              simp [c1, c2, c3, d3]
              refine callK_val (by simp) h5 rfl ?_
              simp [c1, c2, c3, d3, c4, d4, c5, d5, c6, d6, hb2, hw]
              repeat refine need_mk (by decide +kernel) ?_
              refine callK_val (by simp) h3 (by simp [T.noImm]) ?_
              simp [c1, c2, c3, d3, c4, d4, c5, d5, c6, d6, hb2, hw]
              repeat refine need_mk (by decide +kernel) ?_
              have hA : (es.map sE.O).length = es.length := by simp
              have hg2 := app1_get hA
              have hs3 := app1_set hA
              refine fin_wk (Wk.join (b := 92) (r := es.length) (cs := sE.O ⟨ne, kd, fr, to, ps⟩) rfl (by simp [hg2]; rfl) (by simp) (by simp)) ?_
              simp [hs3]
              exact fin_eaten (by simp; rfl) (by simp [eAdd, hyes, gAddE, List.take_of_length_le]) (by simp [eAdd, hyes, gAddE])
            · have d6 : 1000000000 ≤ ne := by omega
              have hno : ¬ addEOk ⟨l, es, nn, ne⟩ kd fr to ps := fun h => c6 h.2.2.2.2.2
              simp [pc_spec_l2AddEdge]
              refine callK_val (by simp) h1 rfl ?_
              simp [c1]
              refine callK_val (by simp) h2 rfl ?_
              simp [c1, c2]
              refine callK_val (by simp) h4 rfl ?_
              simp [c1, c2, c3, d3]
              refine callK_val (by simp) h5 rfl ?_
              simp [c1, c2, c3, d3, c4, d4, c5, d5, c6, d6]
              exact fin_eaten (by simp; rfl) (by simp [eAdd, hno]) (by simp [eAdd, hno])
          · have d5 : 16 ≤ (es.length : Int) := by omega
            have hno : ¬ addEOk ⟨l, es, nn, ne⟩ kd fr to ps := fun h => c5 (by have := h.2.2.2.2.1; simp only at this; omega)
            simp [pc_spec_l2AddEdge]
            refine callK_val (by simp) h1 rfl ?_
            simp [c1]
            refine callK_val (by simp) h2 rfl ?_
            simp [c1, c2]
            refine callK_val (by simp) h4 rfl ?_
            simp [c1, c2, c3, d3]
            refine callK_val (by simp) h5 rfl ?_
            simp [c1, c2, c3, d3, c4, d4, c5, d5]
            exact fin_eaten (by simp; rfl) (by simp [eAdd, hno]) (by simp [eAdd, hno])
        · have d4 : posOf Nd.id to l < 0 := by omega
          have hno : ¬ addEOk ⟨l, es, nn, ne⟩ kd fr to ps := fun h => c4 h.2.2.2.1
          simp [pc_spec_l2AddEdge]
          refine callK_val (by simp) h1 rfl ?_
          simp [c1]
          refine callK_val (by simp) h2 rfl ?_
          simp [c1, c2]
          refine callK_val (by simp) h4 rfl ?_
          simp [c1, c2, c3, d3]
          refine callK_val (by simp) h5 rfl ?_
          simp [c1, c2, c3, d3, c4, d4]
          exact fin_eaten (by simp; rfl) (by simp [eAdd, hno]) (by simp [eAdd, hno])
      · have d3 : posOf Nd.id fr l < 0 := by omega
        have hno : ¬ addEOk ⟨l, es, nn, ne⟩ kd fr to ps := fun h => c3 h.2.2.1
        simp [pc_spec_l2AddEdge]
        refine callK_val (by simp) h1 rfl ?_
        simp [c1]
        refine callK_val (by simp) h2 rfl ?_
        simp [c1, c2]
        refine callK_val (by simp) h4 rfl ?_
        simp [c1, c2, c3, d3]
        exact fin_eaten (by simp; rfl) (by simp [eAdd, hno]) (by simp [eAdd, hno])
    · have hno : ¬ addEOk ⟨l, es, nn, ne⟩ kd fr to ps := fun h => c2 h.2.1
      simp [pc_spec_l2AddEdge]
      refine callK_val (by simp) h1 rfl ?_
      simp [c1]
      refine callK_val (by simp) h2 rfl ?_
      simp [c1, c2]
      exact fin_eaten (by simp; rfl) (by simp [eAdd, hno]) (by simp [eAdd, hno])
  · have hno : ¬ addEOk ⟨l, es, nn, ne⟩ kd fr to ps := fun h => c1 h.1
    simp [pc_spec_l2AddEdge]
    refine callK_val (by simp) h1 rfl ?_
    simp [c1]
    exact fin_eaten (by simp; rfl) (by simp [eAdd, hno]) (by simp [eAdd, hno])
theorem nameOk_len {s : Tx} (h : nameOk s = true) : s.length ≤ 8 := by
  cases s with
  | nil => simp [nameOk] at h
  | cons c r =>
    simp only [nameOk, Bool.and_eq_true, decide_eq_true_eq] at h
    have := h.1.2
    simp only [List.length_cons]; omega
end Go.Proofs.Ytehdfbhfbidadaa.V
/- Edges beside their nodes. -/
namespace Go.Proofs.Ytehdfbhfbidadaa.V
open Go
set_option linter.unusedVariables false
set_option linter.unusedSimpArgs false
set_option maxHeartbeats 16000000
abbrev Grp := List (Int × List Int)
def gFind (k : Int) (m : Grp) : Option Nat := m.findIdx? (fun p => decide (p.1 = k))
def gGet (k : Int) (m : Grp) : List Int := match gFind k m with | some j => (match m[j]? with | some p => p.2 | none => []) | none => []
def gAdd (m : Grp) (k i : Int) : Grp := match gFind k m with | some j => m.set j (k, gGet k m ++ [i]) | none => m ++ [(k, [i])]
def gT (m : Grp) : List (T × T) := m.map fun p => (.i .i64 p.1, .own 1 (p.2.map sI.O))
theorem mfind_gT (k : Int) (m : Grp) : mfind (.i .i64 k) (gT m) = gFind k m := by
  induction m with
  | nil => rfl
  | cons p m ih =>
    simp only [gT, List.map_cons] at ih ⊢
    simp only [mfind, ih, gFind, List.findIdx?_cons, tkEq]
theorem gT_key (m : Grp) : ∀ p ∈ gT m, p.1.isKey (.int .i64) = true := by
  intro p hp
  obtain ⟨q, _, rfl⟩ := List.mem_map.1 hp
  rfl
theorem gFind_some {k : Int} {m : Grp} {j : Nat} (h : gFind k m = some j) : ∃ l, m[j]? = some (k, l) ∧ gGet k m = l := by
  have h1 := List.findIdx?_eq_some_iff_getElem.1 h
  obtain ⟨h1, h2, _⟩ := h1
  have hk : (m[j]).1 = k := by simpa using h2
  refine ⟨(m[j]).2, by rw [List.getElem?_eq_getElem h1, ← hk], ?_⟩
  unfold gGet
  simp only [h, List.getElem?_eq_getElem h1]
def gStep (m : Grp) (p : Eg × Nat) : Grp := if p.1.to ≠ p.1.frm then gAdd (gAdd m p.1.frm p.2) p.1.to p.2 else gAdd m p.1.frm p.2
def bsd (es : List Eg) : Grp := es.zipIdx.foldl gStep []
theorem bsd_succ {es : List Eg} {i : Nat} {x : Eg} (h : es[i]? = some x) : bsd (es.take (i + 1)) = gStep (bsd (es.take i)) (x, i) := by
  have hi : i < es.length := (List.getElem?_eq_some_iff.1 h).1
  unfold bsd
  rw [List.take_add_one, h]
  simp only [Option.toList_some, List.zipIdx_append, List.foldl_append, List.zipIdx_cons, List.zipIdx_nil, List.foldl_cons, List.foldl_nil, List.length_take, Nat.zero_add]
  rw [Nat.min_eq_left (by omega)]
theorem mfind_app {k : T} : ∀ (es : List (T × T)) (v : T), tkEq k k = true → mfind k es = none → mfind k (es ++ [(k, v)]) = some es.length
  | [], v, hk, h => by simp [mfind, hk]
  | p :: es, v, hk, h => by
    simp only [mfind] at h
    split at h
    · exact absurd h (by simp)
    · rename_i hp
      have h2 : mfind k es = none := by simpa using h
      simp [mfind, hp, mfind_app es v hk h2]
theorem mfind_set {k c v : T} : ∀ (es : List (T × T)) (j : Nat) (x : T), mfind k es = some j → es[j]? = some (c, x) → mfind k (es.set j (c, v)) = some j
  | [], j, x, h, hx => by simp [mfind] at h
  | p :: es, j, x, h, hx => by
    simp only [mfind] at h
    split at h
    · rename_i hp
      simp only [Option.some.injEq] at h
      subst h
      simp only [List.getElem?_cons_zero, Option.some.injEq] at hx
      subst hx
      simp [mfind, hp]
    · rename_i hp
      obtain ⟨j', h1, rfl⟩ := Option.map_eq_some_iff.1 h
      simp only [List.getElem?_cons_succ] at hx
      simp [mfind, hp, mfind_set es j' x h1 hx]
theorem gT_none {m : Grp} {k i : Int} (h : gFind k m = none) : gT (gAdd m k i) = gT m ++ [(.i .i64 k, .own 1 [[.i .i64 i]])] := by
  simp [gAdd, h, gT]
theorem gT_some {m : Grp} {k i : Int} {j : Nat} {l : List Int} (h : gFind k m = some j) (hl : gGet k m = l) : gT (gAdd m k i) = (gT m).set j (.i .i64 k, .own 1 (l.map sI.O ++ [[.i .i64 i]])) := by
  simp [gAdd, h, gT, hl, List.map_set]
theorem gT_at {m : Grp} {k : Int} {j : Nat} {l : List Int} (h : m[j]? = some (k, l)) : (gT m)[j]? = some (.i .i64 k, .own 1 (l.map sI.O)) := by
  simp [gT, h]
/-- How long a row is at most. -/
def gLen (m : Grp) (n : Nat) : Prop := ∀ p ∈ m, p.2.length ≤ n
theorem gAdd_len {m : Grp} {n : Nat} (h : gLen m n) (k i : Int) : gLen (gAdd m k i) (n + 1) := by
  intro p hp
  unfold gAdd at hp
  cases hf : gFind k m with
  | none =>
    rw [hf] at hp
    simp only [List.mem_append, List.mem_singleton] at hp
    rcases hp with hp | rfl
    · have := h p hp; omega
    · simp
  | some j =>
    rw [hf] at hp
    obtain ⟨l, h1, h2⟩ := gFind_some hf
    have h3 := h _ (List.mem_of_getElem? h1)
    rcases List.mem_or_eq_of_mem_set hp with hp | rfl
    · have := h p hp; omega
    · simp only [h2, List.length_append, List.length_singleton] at h3 ⊢; omega
theorem gT_clean (m : Grp) : ((gT m).map Prod.snd).all T.clean = true := by
  simp only [gT, List.map_map, List.all_map, List.all_eq_true]
  intro p _
  rfl
@[simp] theorem gT_names (m : Grp) : namess ((gT m).map Prod.snd) = [] := namess_clean (gT_clean m)
theorem gT_pl (m : Grp) : ((gT m).map Prod.snd).all T.pl = true := by
  simp only [gT, List.map_map, List.all_map, List.all_eq_true]
  intro p _
  exact sI.crO p.2
theorem gT_set_names {m : Grp} {j : Nat} {rows : List (List T)} : namess (((gT m).map Prod.snd).set j (.own 1 rows)) = [] := by
  refine namess_clean ?_
  rw [List.all_eq_true]
  intro x hx
  rcases List.mem_or_eq_of_mem_set hx with h | rfl
  · exact List.all_eq_true.1 (gT_clean m) x h
  · rfl
theorem gT_set_key (m : Grp) {j : Nat} {k : Int} {v : T} : ∀ p ∈ (gT m).set j (.i .i64 k, v), p.1.isKey (.int .i64) = true := by
  intro p hp
  rcases List.mem_or_eq_of_mem_set hp with h | rfl
  · exact gT_key m p h
  · rfl
end Go.Proofs.Ytehdfbhfbidadaa.V
/- Edges of a node. -/
namespace Go.Proofs.Ytehdfbhfbidadaa.V
open Go
set_option linter.unusedVariables false
set_option linter.unusedSimpArgs false
set_option maxHeartbeats 16000000
theorem gGet_cons (k : Int) (p : Int × List Int) (m : Grp) : gGet k (p :: m) = if p.1 = k then p.2 else gGet k m := by
  unfold gGet gFind
  rw [List.findIdx?_cons]
  by_cases h : p.1 = k
  · simp [h]
  · simp only [h, decide_false, Bool.false_eq_true, if_false]
    cases hf : List.findIdx? (fun p => decide (p.1 = k)) m with
    | none => simp
    | some j => simp
theorem gAdd_cons (k i : Int) (p : Int × List Int) (m : Grp) : gAdd (p :: m) k i = if p.1 = k then (k, p.2 ++ [i]) :: m else p :: gAdd m k i := by
  have hg := gGet_cons k p m
  unfold gAdd
  unfold gFind
  rw [List.findIdx?_cons]
  by_cases h : p.1 = k
  · rw [if_pos h] at hg
    simp [h, hg]
  · rw [if_neg h] at hg
    simp only [h, decide_false, Bool.false_eq_true, if_false]
    cases hf : List.findIdx? (fun p => decide (p.1 = k)) m with
    | none => simp
    | some j => simp [hg]
theorem gGet_add (k k' i : Int) : ∀ m : Grp, gGet k (gAdd m k' i) = if k' = k then gGet k m ++ [i] else gGet k m
  | [] => by
    have h1 : gAdd [] k' i = [(k', [i])] := rfl
    have h2 : gGet k [] = [] := rfl
    rw [h1, gGet_cons, h2]; simp
  | p :: m => by
    rw [gAdd_cons]
    by_cases h : p.1 = k'
    · rw [if_pos h, gGet_cons, gGet_cons, h]
      by_cases h2 : k' = k <;> simp [h2]
    · rw [if_neg h, gGet_cons, gGet_cons, gGet_add k k' i m]
      by_cases h2 : k' = k
      · subst h2; simp [h]
      · simp [h2]
def atN (id : Int) (e : Eg) : Bool := decide (e.frm = id) || decide (e.to = id)
def plAt (id : Int) (es : List Eg) : List (Eg × Nat) := es.zipIdx.filter (fun p => atN id p.1)
theorem gGet_step (k : Int) (m : Grp) (p : Eg × Nat) : gGet k (gStep m p) = gGet k m ++ (if atN k p.1 = true then [(p.2 : Int)] else []) := by
  unfold gStep
  by_cases h : p.1.to = p.1.frm
  · simp only [h, ne_eq, not_true_eq_false, if_false, gGet_add, atN]
    by_cases h2 : p.1.frm = k <;> simp [h2]
  · simp only [ne_eq, h, not_false_eq_true, if_true, gGet_add, atN]
    by_cases h2 : p.1.frm = k
    · have h3 : ¬ p.1.to = k := fun h3 => h (h3.trans h2.symm)
      simp [h2, h3]
    · by_cases h3 : p.1.to = k <;> simp [h2, h3]
theorem gGet_fold (k : Int) : ∀ (l : List (Eg × Nat)) (m : Grp), gGet k (l.foldl gStep m) = gGet k m ++ (l.filter (fun p => atN k p.1)).map (fun p => (p.2 : Int))
  | [], m => by simp
  | p :: l, m => by
    rw [List.foldl_cons, gGet_fold k l, gGet_step, List.filter_cons]
    by_cases h : atN k p.1 = true <;> simp [h]
theorem gGet_bsd (k : Int) (es : List Eg) : gGet k (bsd es) = (plAt k es).map (fun p => (p.2 : Int)) := by
  unfold bsd plAt
  rw [gGet_fold]
  have : gGet k [] = [] := rfl
  rw [this, List.nil_append]
theorem plAt_mem {id : Int} {es : List Eg} {p : Eg × Nat} (h : p ∈ plAt id es) : es[p.2]? = some p.1 := by
  have h1 := (List.mem_filter.1 h).1
  exact List.mem_zipIdx_iff_getElem?.1 h1
def goes (id way : Int) (kd : Tx) (e : Eg) : Bool := (decide (kd = []) || decide (e.kind = kd)) && ((decide (0 ≤ way) && decide (e.frm = id)) || (decide (way ≤ 0) && decide (e.to = id)))
def idsOf (id way : Int) (kd : Tx) (es : List Eg) : List Int := (es.filter (goes id way kd)).map Eg.id
theorem goes_at {id way : Int} {kd : Tx} {e : Eg} (h : goes id way kd e = true) : atN id e = true := by
  simp only [goes, atN, Bool.and_eq_true, Bool.or_eq_true, decide_eq_true_eq] at h ⊢
  rcases h.2 with h | h
  · exact .inl h.2
  · exact .inr h.2
theorem idsOf_pl (id way : Int) (kd : Tx) (es : List Eg) : ((plAt id es).filter (fun p => goes id way kd p.1)).map (fun p => p.1.id) = idsOf id way kd es := by
  unfold plAt idsOf
  rw [List.filter_filter]
  have h1 : ∀ p : Eg × Nat, (goes id way kd p.1 && atN id p.1) = goes id way kd p.1 := fun p => by
    cases h : goes id way kd p.1 with
    | false => rfl
    | true => simp [goes_at h]
  simp only [h1]
  have h2 : ∀ (l : List Eg) (n : Nat), ((l.zipIdx n).filter (fun p => goes id way kd p.1)).map (fun p => p.1.id) = (l.filter (goes id way kd)).map Eg.id := by
    intro l
    induction l with
    | nil => simp
    | cons e l ih =>
      intro n
      rw [List.zipIdx_cons, List.filter_cons, List.filter_cons]
      by_cases h : goes id way kd e = true <;> simp [h, ih]
  exact h2 es 0
theorem idsOf_none {g : Gr} (hg : GOk g) {id way : Int} {kd : Tx} (h : posOf Nd.id id g.nodes < 0) : idsOf id way kd g.edges = [] := by
  unfold idsOf
  rw [List.map_eq_nil_iff, List.filter_eq_nil_iff]
  intro e he hgo
  have h1 := hg.eok e he
  have h2 := goes_at hgo
  simp only [atN, Bool.or_eq_true, decide_eq_true_eq] at h2
  rcases h2 with rfl | rfl
  · have := h1.2.2.1; omega
  · have := h1.2.2.2; omega
open Classical in
noncomputable def edgesOf (g : Gr) (id way : Int) (kd : Tx) : List Int := if GOk g ∧ -1 ≤ way ∧ way ≤ 1 then idsOf id way kd g.edges else []
end Go.Proofs.Ytehdfbhfbidadaa.V
/- Edges of a node, by the reference. -/
namespace Go.Proofs.Ytehdfbhfbidadaa.V
open Go
set_option linter.unusedVariables false
set_option linter.unusedSimpArgs false
set_option maxHeartbeats 16000000
theorem l2Edges_c (g : Gr) (hl : g.edges.length ≤ 2 ^ 20) (id way : Int) (kd : Tx) : Rv Try.prog 191 [.agg (sG.I g), .i .i64 id, .i .i64 way, .s kd] (.own 1 ((idsOf id way kd g.edges).map sI.O)) := by
  obtain ⟨l, es, nn, ne⟩ := g
  simp only at hl
  refine via_spec_l2Edges (by simp) ?_
  simp [pc_spec_l2Edges]
  refine W_forS (fun i => ⟨[(10, .i .i64 i), (9, .ref 1 0 (idsOf id way kd (es.take i)).length), (1, .i .i64 id), (2, .i .i64 way), (3, .s kd), (4, .ptr 0 0 0)], [(0, .arr 4 [sG.I ⟨l, es, nn, ne⟩]), (1, .arr 1 ((idsOf id way kd (es.take i)).map sI.O))], 20, 0⟩) es.length (fun _ => True) ?_ trivial ?_
  · exact Wk.less rfl (by simp) (by simp [idsOf]) (by simp [idsOf])
  intro i hi _
  rcases Nat.lt_or_ge i es.length with h1 | h1
  · obtain ⟨x, hx⟩ : ∃ x, es[i]? = some x := ⟨_, List.getElem?_eq_getElem h1⟩
    have hw : IntKind.i64.wrap ((i : Int) + 1) = (i : Int) + 1 := wrap1 (by omega)
    have hfl : (idsOf id way kd (es.take i)).length ≤ i := by
      unfold idsOf
      rw [List.length_map]
      exact Nat.le_trans (List.length_filter_le _ _) (by simp; omega)
    have htk : es.take (i + 1) = es.take i ++ [x] := by rw [List.take_add_one, hx]; simp
    obtain ⟨a, b, c, d, e⟩ := x
    have hn0 : goes id way kd ⟨a, b, c, d, e⟩ = true → idsOf id way kd (es.take (i + 1)) = idsOf id way kd (es.take i) ++ [a] := fun h => by rw [htk]; unfold idsOf; rw [List.filter_append]; simp [h]
    have hn1 : ¬ goes id way kd ⟨a, b, c, d, e⟩ = true → idsOf id way kd (es.take (i + 1)) = idsOf id way kd (es.take i) := fun h => by rw [htk]; unfold idsOf; rw [List.filter_append]; simp [h]
    generalize idsOf id way kd (es.take i) = A at *
    generalize idsOf id way kd (es.take (i + 1)) = A' at *
    have hbig : (A.length + 1) * 8 ≤ 35184372088832 := by omega
    have hcl0 := sI.crO A
    refine WW_seq (WW_of_W ?_)
    simp [h1]
    refine WW_seq (WW_block (WW_seq (thn_cut (s2 := ⟨[(10, .i .i64 i), (9, .ref 1 0 A.length), (1, .i .i64 id), (2, .i .i64 way), (3, .s kd), (4, .ptr 0 0 0), (11, .ptr 20 0 0)], [(0, .arr 4 [sG.I ⟨l, es, nn, ne⟩]), (1, .arr 1 (A.map sI.O)), (20, .arr 5 [sE.I ⟨a, b, c, d, e⟩])], 30, 0⟩) ?_ ?_)))
    · simp [-getElem?_pos, hx, h1]
      exact Wk.to rfl (by simp) (by simp) (by simp [Blk.names, namesr_clean hcl0]) (by simp)
    refine WW_seq (thn_cut (s2 := ⟨[(10, .i .i64 i), (9, .ref 1 0 A.length), (1, .i .i64 id), (2, .i .i64 way), (3, .s kd), (4, .ptr 0 0 0), (11, .ptr 20 0 0), (12, .b ((decide (0 ≤ way) && decide (c = id)) || (decide (way ≤ 0) && decide (d = id))))], [(0, .arr 4 [sG.I ⟨l, es, nn, ne⟩]), (1, .arr 1 (A.map sI.O)), (20, .arr 5 [sE.I ⟨a, b, c, d, e⟩])], 30, 0⟩) ?_ ?_)
    · by_cases c3 : 0 ≤ way <;> by_cases c4 : c = id <;> by_cases c5 : way ≤ 0 <;> by_cases c6 : d = id <;> (simp [c3, c4, c5, c6]; exact Wk.to rfl (by simp) (by simp [c3, c4, c5, c6]) (by simp [Blk.names, namesr_clean hcl0]) (by simp))
    have hgo : goes id way kd ⟨a, b, c, d, e⟩ = ((decide (kd = []) || decide (b = kd)) && ((decide (0 ≤ way) && decide (c = id)) || (decide (way ≤ 0) && decide (d = id)))) := rfl
    generalize ((decide (0 ≤ way) && decide (c = id)) || (decide (way ≤ 0) && decide (d = id))) = is at *
    refine WW_seq (thn_cut (s2 := ⟨[(10, .i .i64 i), (9, .ref 1 0 A.length), (1, .i .i64 id), (2, .i .i64 way), (3, .s kd), (4, .ptr 0 0 0), (11, .ptr 20 0 0), (54, .b (goes id way kd ⟨a, b, c, d, e⟩))], [(0, .arr 4 [sG.I ⟨l, es, nn, ne⟩]), (1, .arr 1 (A.map sI.O)), (20, .arr 5 [sE.I ⟨a, b, c, d, e⟩])], 30, 0⟩) ?_ ?_)
    · rw [hgo]
      by_cases c1 : kd = [] <;> by_cases c2 : b = kd <;> cases is <;> (simp [c1, c2]; exact Wk.to rfl (by simp) (by simp [c1, c2]) (by simp [Blk.names, namesr_clean hcl0]) (by simp))
    clear hgo
    refine WW_of_W ?_
    by_cases hgo : goes id way kd ⟨a, b, c, d, e⟩ = true
    · rw [hn0 hgo]
      have hcl := sI.crO (A ++ [a])
      rw [List.map_append] at hcl
      simp only [List.map_cons, List.map_nil, sI_O] at hcl
      simp [hgo, hbig]
      refine WW_of_W ?_
      simp [hw, h1]
      refine Wk.ren (fun t => if t = 1 then 31 else t) rfl (by simp) (by simp) (by simp) ?_ (by simp)
      simp [Blk.rn, Blk.names, namesr_clean hcl, rnr_cl hcl]
    · rw [hn1 hgo]
      simp [hgo]
      refine WW_of_W ?_
      simp [hw, h1]
      exact Wk.to rfl (by simp) (by simp) (by simp [Blk.names, namesr_clean hcl0]) (by simp)
  · have h2 : ¬ i < es.length := by omega
    have e : es.take i = es := List.take_of_length_le (by omega)
    refine WW_of_W ?_
    simp [h2, e]
    exact fin_own (by simp; rfl) (by simp) (by simp) (by simp)
end Go.Proofs.Ytehdfbhfbidadaa.V
/- Edges of a node: the two functions. -/
namespace Go.Proofs.Ytehdfbhfbidadaa.V
open Go
set_option linter.unusedVariables false
set_option linter.unusedSimpArgs false
set_option maxHeartbeats 16000000
end Go.Proofs.Ytehdfbhfbidadaa.V
/- Nodes that go. -/
namespace Go.Proofs.Ytehdfbhfbidadaa.V
open Go
set_option linter.unusedVariables false
set_option linter.unusedSimpArgs false
set_option maxHeartbeats 16000000
def dN (e : Nd) : List T := [.i .i64 e.id, .dead, .dead]
end Go.Proofs.Ytehdfbhfbidadaa.V
/- Nodes dropped: what comes of it. -/
namespace Go.Proofs.Ytehdfbhfbidadaa.V
open Go
set_option linter.unusedVariables false
set_option linter.unusedSimpArgs false
set_option maxHeartbeats 16000000
def gDropN (g : Gr) (id : Int) : Gr := ⟨g.nodes.filter (fun n => !decide (n.id = id)), g.edges.filter (fun e => !(idsOf id 0 [] g.edges).contains e.id), g.nn, g.ne⟩
def dropN (g : Gr) (id : Int) (det : Bool) : Gr × Bool := if idsOf id 0 [] g.edges ≠ [] ∧ det = false then (g, false) else (gDropN g id, true)
open Classical in
noncomputable def nodeDrop (g : Gr) (id : Int) (det : Bool) : Gr × Bool := if GOk g then (if posOf Nd.id id g.nodes < 0 then (g, false) else dropN g id det) else (zG, false)
end Go.Proofs.Ytehdfbhfbidadaa.V
/- Whether two values are the same. -/
namespace Go.Proofs.Ytehdfbhfbidadaa.V
open Go
set_option linter.unusedVariables false
set_option linter.unusedSimpArgs false
set_option maxHeartbeats 4000000
noncomputable def sameB (a b : Vl) : Bool := @decide (a = b) (Classical.propDecidable _)
theorem sameB_iff {a b : Vl} : sameB a b = true ↔ a = b := by simp [sameB]
theorem sameB_false {a b : Vl} : sameB a b = false ↔ a ≠ b := by simp [sameB]
theorem takes_succ {l l' : List Vl} {i : Nat} (h : l.take i = l'.take i) {x : Vl} (hx : l[i]? = some x) (hy : l'[i]? = some x) : l.take (i + 1) = l'.take (i + 1) := by
  rw [List.take_add_one, List.take_add_one, h, hx, hy]
theorem takes_no {l l' : List Vl} {i : Nat} {x y : Vl} (hx : l[i]? = some x) (hy : l'[i]? = some y) (h : x ≠ y) : l ≠ l' := by
  rintro rfl; rw [hx] at hy; exact h (Option.some.inj hy)
theorem asV_c (v : Vl) : v.fit → ∀ w : Vl, w.fit → Rv Try.prog 38 [.agg (sV.I v), .agg (sV.I w)] (.b (sameB v w)) := by
  refine Vl.ind (p := fun v => v.fit → ∀ w : Vl, w.fit → Rv Try.prog 38 [.agg (sV.I v), .agg (sV.I w)] (.b (sameB v w))) ?_ v
  intro k n s l ih hf w hw
  obtain ⟨_, _, hs, hl, hv⟩ := Vl.fit_mk.1 hf
  obtain ⟨k', n', s', l'⟩ := w
  obtain ⟨_, _, hs', hl', hv'⟩ := Vl.fit_mk.1 hw
  refine via_laws_asValue (by simp) ?_
  by_cases c1 : k = k'
  · by_cases c2 : n = n'
    · by_cases c3 : s = s'
      · by_cases c4 : l.length = l'.length
        · have c4' : (l.length : Int) = l'.length := by omega
          subst c1 c2 c3
          simp [pc_laws_asValue, c4, c4']
          refine W_for (fun i => ⟨[(5, .i .i64 i), (2, .ptr 0 0 0), (3, .ptr 1 0 0)], [(0, .arr 4 [sV.I (.mk k n s l)]), (1, .arr 4 [sV.I (.mk k n s l')])], 20, 0⟩) l.length (fun i => l.take i = l'.take i) (Wk.less (by simp [c4]) (by simp [c4]) (by simp [c4]) (by simp)) (by simp) ?_
          intro i hi ht
          rcases Nat.lt_or_ge i l.length with h2 | h2
          · obtain ⟨x, hx⟩ : ∃ x, l[i]? = some x := ⟨_, List.getElem?_eq_getElem h2⟩
            obtain ⟨y, hy⟩ : ∃ y, l'[i]? = some y := ⟨_, List.getElem?_eq_getElem (by omega)⟩
            have h2' : i < l'.length := by omega
            have hw : IntKind.i64.wrap ((i : Int) + 1) = (i : Int) + 1 := wrap1 (by omega)
            have hc := ih x (List.mem_of_getElem? hx) (hv x (List.mem_of_getElem? hx)) y (hv' y (List.mem_of_getElem? hy))
            simp [-getElem?_pos, hx, hy, hw, h2, h2', c4]
            refine callK_val (by simp) hc rfl ?_
            cases e : sameB x y with
            | true =>
              rw [sameB_iff] at e; subst e
              simp [-getElem?_pos, hx, hy, hw, h2, h2', c4]
              exact ⟨takes_succ ht hx hy, Wk.to rfl (by simp [c4]) (by simp [c4]) (by simp [Blk.names]) (by simp)⟩
            | false =>
              rw [sameB_false] at e
              have : sameB (.mk k n s l) (.mk k n s l') = false := by
                rw [sameB_false]; intro h; injection h with _ _ _ h; exact takes_no hx hy e h
              simp [-getElem?_pos, hx, hy, hw, h2, h2', c4]
              exact fin_val rfl (by simp [this]) (by simp)
          · have h3 : ¬ i < l.length := by omega
            have h3' : ¬ i < l'.length := by omega
            have : l = l' := by
              have := ht; rwa [List.take_of_length_le (by omega), List.take_of_length_le (by omega)] at this
            simp [h3, h3', c4]
            exact fin_val rfl (by simp [sameB_iff.2, this]) (by simp)
        · have c4' : ¬ (l.length : Int) = l'.length := by omega
          have : sameB (.mk k n s l) (.mk k' n' s' l') = false := by
            rw [sameB_false]; intro h; injection h with _ _ _ h; exact c4 (by rw [h])
          rw [this]
          simp [pc_laws_asValue, c1, c2, c3, c4, c4']
          exact fin_val rfl (by simp) (by simp)
      · have : sameB (.mk k n s l) (.mk k' n' s' l') = false := by
          rw [sameB_false]; intro h; injection h with _ _ h _; exact c3 h
        rw [this]
        simp [pc_laws_asValue, c1, c2, c3]
        exact fin_val rfl (by simp) (by simp)
    · have : sameB (.mk k n s l) (.mk k' n' s' l') = false := by
        rw [sameB_false]; intro h; injection h with _ h _ _; exact c2 h
      rw [this]
      simp [pc_laws_asValue, c1, c2]
      exact fin_val rfl (by simp) (by simp)
  · have : sameB (.mk k n s l) (.mk k' n' s' l') = false := by
      rw [sameB_false]; intro h; injection h with h _ _ _; exact c1 h
    rw [this]
    simp [pc_laws_asValue, c1]
    exact fin_val rfl (by simp) (by simp)
theorem l1Same_c (v : Vl) : v.fit → ∀ w : Vl, w.fit → Rv Try.prog 119 [.agg (sV.I v), .agg (sV.I w)] (.b (sameB v w)) := by
  refine Vl.ind (p := fun v => v.fit → ∀ w : Vl, w.fit → Rv Try.prog 119 [.agg (sV.I v), .agg (sV.I w)] (.b (sameB v w))) ?_ v
  intro k n s l ih hf w hw
  obtain ⟨_, _, hs, hl, hv⟩ := Vl.fit_mk.1 hf
  obtain ⟨k', n', s', l'⟩ := w
  obtain ⟨_, _, hs', hl', hv'⟩ := Vl.fit_mk.1 hw
  refine via_spec_l1Same (by simp) ?_
  by_cases c1 : k = k'
  · by_cases c2 : n = n'
    · by_cases c3 : s = s'
      · by_cases c4 : l.length = l'.length
        · have c4' : (l.length : Int) = l'.length := by omega
          subst c1 c2 c3
          simp [pc_spec_l1Same, c4, c4']
          refine W_for (fun i => ⟨[(5, .i .i64 i), (2, .ptr 0 0 0), (3, .ptr 1 0 0)], [(0, .arr 4 [sV.I (.mk k n s l)]), (1, .arr 4 [sV.I (.mk k n s l')])], 20, 0⟩) l.length (fun i => l.take i = l'.take i) (Wk.less (by simp [c4]) (by simp [c4]) (by simp [c4]) (by simp)) (by simp) ?_
          intro i hi ht
          rcases Nat.lt_or_ge i l.length with h2 | h2
          · obtain ⟨x, hx⟩ : ∃ x, l[i]? = some x := ⟨_, List.getElem?_eq_getElem h2⟩
            obtain ⟨y, hy⟩ : ∃ y, l'[i]? = some y := ⟨_, List.getElem?_eq_getElem (by omega)⟩
            have h2' : i < l'.length := by omega
            have hw : IntKind.i64.wrap ((i : Int) + 1) = (i : Int) + 1 := wrap1 (by omega)
            have hc := ih x (List.mem_of_getElem? hx) (hv x (List.mem_of_getElem? hx)) y (hv' y (List.mem_of_getElem? hy))
            simp [-getElem?_pos, hx, hy, hw, h2, h2', c4]
            refine callK_val (by simp) hc rfl ?_
            cases e : sameB x y with
            | true =>
              rw [sameB_iff] at e; subst e
              simp [-getElem?_pos, hx, hy, hw, h2, h2', c4]
              exact ⟨takes_succ ht hx hy, Wk.to rfl (by simp [c4]) (by simp [c4]) (by simp [Blk.names]) (by simp)⟩
            | false =>
              rw [sameB_false] at e
              have : sameB (.mk k n s l) (.mk k n s l') = false := by
                rw [sameB_false]; intro h; injection h with _ _ _ h; exact takes_no hx hy e h
              simp [-getElem?_pos, hx, hy, hw, h2, h2', c4]
              exact fin_val rfl (by simp [this]) (by simp)
          · have h3 : ¬ i < l.length := by omega
            have h3' : ¬ i < l'.length := by omega
            have : l = l' := by
              have := ht; rwa [List.take_of_length_le (by omega), List.take_of_length_le (by omega)] at this
            simp [h3, h3', c4]
            exact fin_val rfl (by simp [sameB_iff.2, this]) (by simp)
        · have c4' : ¬ (l.length : Int) = l'.length := by omega
          have : sameB (.mk k n s l) (.mk k' n' s' l') = false := by
            rw [sameB_false]; intro h; injection h with _ _ _ h; exact c4 (by rw [h])
          rw [this]
          simp [pc_spec_l1Same, c1, c2, c3, c4, c4']
          exact fin_val rfl (by simp) (by simp)
      · have : sameB (.mk k n s l) (.mk k' n' s' l') = false := by
          rw [sameB_false]; intro h; injection h with _ _ h _; exact c3 h
        rw [this]
        simp [pc_spec_l1Same, c1, c2, c3]
        exact fin_val rfl (by simp) (by simp)
    · have : sameB (.mk k n s l) (.mk k' n' s' l') = false := by
        rw [sameB_false]; intro h; injection h with _ h _ _; exact c2 h
      rw [this]
      simp [pc_spec_l1Same, c1, c2]
      exact fin_val rfl (by simp) (by simp)
  · have : sameB (.mk k n s l) (.mk k' n' s' l') = false := by
      rw [sameB_false]; intro h; injection h with h _ _ _; exact c1 h
    rw [this]
    simp [pc_spec_l1Same, c1]
    exact fin_val rfl (by simp) (by simp)
theorem sameOf_c (v : Vl) : v.fit → ∀ w : Vl, w.fit → Rv Try.prog 81 [.agg (sV.I v), .agg (sV.I w)] (.b (sameB v w)) := by
  refine Vl.ind (p := fun v => v.fit → ∀ w : Vl, w.fit → Rv Try.prog 81 [.agg (sV.I v), .agg (sV.I w)] (.b (sameB v w))) ?_ v
  intro k n s l ih hf w hw
  obtain ⟨_, _, hs, hl, hv⟩ := Vl.fit_mk.1 hf
  obtain ⟨k', n', s', l'⟩ := w
  obtain ⟨_, _, hs', hl', hv'⟩ := Vl.fit_mk.1 hw
  refine via_impl_sameOf (by simp) ?_
  by_cases c1 : k = k'
  · by_cases c2 : n = n'
    · by_cases c3 : s = s'
      · by_cases c4 : l.length = l'.length
        · have c4' : (l.length : Int) = l'.length := by omega
          subst c1 c2 c3
          simp [pc_impl_sameOf, c4, c4']
          refine W_for (fun i => ⟨[(37, .i .i64 i), (36, .i .i64 l.length), (2, .ptr 0 0 0), (3, .ptr 1 0 0)], [(0, .arr 4 [sV.I (.mk k n s l)]), (1, .arr 4 [sV.I (.mk k n s l')])], 20, 0⟩) l.length (fun i => l.take i = l'.take i) (Wk.less (by simp [c4]) (by simp [c4]) (by simp [c4]) (by simp)) (by simp) ?_
          intro i hi ht
          rcases Nat.lt_or_ge i l.length with h2 | h2
          · obtain ⟨x, hx⟩ : ∃ x, l[i]? = some x := ⟨_, List.getElem?_eq_getElem h2⟩
            obtain ⟨y, hy⟩ : ∃ y, l'[i]? = some y := ⟨_, List.getElem?_eq_getElem (by omega)⟩
            have h2' : i < l'.length := by omega
            have hw : IntKind.i64.wrap ((i : Int) + 1) = (i : Int) + 1 := wrap1 (by omega)
            have hc := ih x (List.mem_of_getElem? hx) (hv x (List.mem_of_getElem? hx)) y (hv' y (List.mem_of_getElem? hy))
            simp [-getElem?_pos, hx, hy, hw, h2, h2', c4]
            refine callK_val (by simp) hc rfl ?_
            cases e : sameB x y with
            | true =>
              rw [sameB_iff] at e; subst e
              simp [-getElem?_pos, hx, hy, hw, h2, h2', c4]
              exact ⟨takes_succ ht hx hy, Wk.to rfl (by simp [c4]) (by simp [c4]) (by simp [Blk.names]) (by simp)⟩
            | false =>
              rw [sameB_false] at e
              have : sameB (.mk k n s l) (.mk k n s l') = false := by
                rw [sameB_false]; intro h; injection h with _ _ _ h; exact takes_no hx hy e h
              simp [-getElem?_pos, hx, hy, hw, h2, h2', c4]
              exact fin_val rfl (by simp [this]) (by simp)
          · have h3 : ¬ i < l.length := by omega
            have h3' : ¬ i < l'.length := by omega
            have : l = l' := by
              have := ht; rwa [List.take_of_length_le (by omega), List.take_of_length_le (by omega)] at this
            simp [h3, h3', c4]
            exact fin_val rfl (by simp [sameB_iff.2, this]) (by simp)
        · have c4' : ¬ (l.length : Int) = l'.length := by omega
          have : sameB (.mk k n s l) (.mk k' n' s' l') = false := by
            rw [sameB_false]; intro h; injection h with _ _ _ h; exact c4 (by rw [h])
          rw [this]
          simp [pc_impl_sameOf, c1, c2, c3, c4, c4']
          exact fin_val rfl (by simp) (by simp)
      · have : sameB (.mk k n s l) (.mk k' n' s' l') = false := by
          rw [sameB_false]; intro h; injection h with _ _ h _; exact c3 h
        rw [this]
        simp [pc_impl_sameOf, c1, c2, c3]
        exact fin_val rfl (by simp) (by simp)
    · have : sameB (.mk k n s l) (.mk k' n' s' l') = false := by
        rw [sameB_false]; intro h; injection h with _ h _ _; exact c2 h
      rw [this]
      simp [pc_impl_sameOf, c1, c2]
      exact fin_val rfl (by simp) (by simp)
  · have : sameB (.mk k n s l) (.mk k' n' s' l') = false := by
      rw [sameB_false]; intro h; injection h with h _ _ _; exact c1 h
    rw [this]
    simp [pc_impl_sameOf, c1]
    exact fin_val rfl (by simp) (by simp)
end Go.Proofs.Ytehdfbhfbidadaa.V
/- Nodes with a label. -/
namespace Go.Proofs.Ytehdfbhfbidadaa.V
open Go
set_option linter.unusedVariables false
set_option linter.unusedSimpArgs false
set_option maxHeartbeats 4000000
theorem hasTo_succ {s : Tx} {l : List Tx} {i : Nat} {x : Tx} (h : ∀ y ∈ l.take i, y ≠ s) (hx : l[i]? = some x) (hn : x ≠ s) : ∀ y ∈ l.take (i + 1), y ≠ s := by
  intro y hy
  rw [List.take_add_one, hx] at hy
  rcases List.mem_append.1 hy with hy | hy
  · exact h y hy
  · simp only [Option.toList_some, List.mem_singleton] at hy; subst hy; exact hn
theorem l2Has_c (l : List Tx) (hl : ln l) (s : Tx) : Rv Try.prog 182 [.imm (l.map sS.I), .s s] (.b (decide (s ∈ l))) := by
  refine via_spec_l2Has (by simp) ?_
  simp [pc_spec_l2Has]
  refine W_for (fun i => ⟨[(5, .i .i64 i), (0, .imm (l.map sS.I)), (1, .s s)], [], 0, 0⟩) l.length (fun i => ∀ y ∈ l.take i, y ≠ s) (Wk.less rfl (by simp) (by simp) (by simp)) (by simp) ?_
  intro i hi hv
  rcases Nat.lt_or_ge i l.length with h2 | h2
  · obtain ⟨x, hx⟩ : ∃ x, l[i]? = some x := ⟨_, List.getElem?_eq_getElem h2⟩
    have hw : IntKind.i64.wrap ((i : Int) + 1) = (i : Int) + 1 := wrap1 (by omega)
    by_cases c : x = s
    · subst c
      have hm := List.mem_of_getElem? hx
      simp [-getElem?_pos, hx, hw, h2]
      exact fin_val rfl (by simp [hm]) (by simp)
    · simp [-getElem?_pos, hx, hw, h2, c]
      refine ⟨?_, Wk.to rfl (by simp) (by simp) (by simp) (by simp)⟩
      simpa using hasTo_succ hv hx c
  · have h3 : ¬ i < l.length := by omega
    rw [List.take_of_length_le (by omega)] at hv
    have hm : ¬ s ∈ l := fun h => hv s h rfl
    simp [h3]
    exact fin_val rfl (by simp [hm]) (by simp)
theorem Index_c (l : List Tx) (hl : ln l) (s : Tx) : ∃ k : Int, (0 ≤ k ↔ s ∈ l) ∧ Rv Try.prog 181 [.imm (l.map sS.I), .s s] (.i .i64 k) := by
  obtain ⟨k, hk, hlt⟩ : ∃ k : Nat, k ≤ l.length ∧ (∀ y ∈ l.take k, y ≠ s) ∧ ((k < l.length ∧ l[k]? = some s) ∨ (k = l.length ∧ ¬ s ∈ l)) := by
    induction l with
    | nil => exact ⟨0, by simp, by simp, .inr (by simp)⟩
    | cons a l ih =>
      by_cases c : a = s
      · exact ⟨0, by simp, by simp, .inl (by simp [c])⟩
      · obtain ⟨k, h1, h2, h3⟩ := ih (by simp only [ln, List.length_cons] at hl ⊢; omega)
        refine ⟨k + 1, by simp; omega, ?_, ?_⟩
        · intro y hy
          rw [List.take_succ_cons] at hy
          rcases List.mem_cons.1 hy with rfl | hy
          · exact c
          · exact h2 y hy
        · rcases h3 with ⟨h3, h4⟩ | ⟨h3, h4⟩
          · exact .inl ⟨by simp; omega, by simpa using h4⟩
          · refine .inr ⟨by simp; omega, ?_⟩
            intro h
            rcases List.mem_cons.1 h with h | h
            · exact c h.symm
            · exact h4 h
  obtain ⟨hbef, hend⟩ := hlt
  refine ⟨if k < l.length then (k : Int) else -1, ?_, ?_⟩
  · rcases hend with ⟨h3, h4⟩ | ⟨h3, h4⟩
    · rw [if_pos h3]; exact ⟨fun _ => List.mem_of_getElem? h4, fun _ => by omega⟩
    · rw [if_neg (by omega)]; exact ⟨fun h => by omega, fun h => absurd h h4⟩
  refine via_slices_Index_string_string (by simp) ?_
  simp [pc_slices_Index_string_string]
  refine W_for (fun i => ⟨[(8, .i .i64 i), (7, .i .i64 l.length), (0, .imm (l.map sS.I)), (1, .s s)], [], 0, 0⟩) k (fun i => True) (Wk.less rfl (by simp) (by simp) (by simp)) trivial ?_
  intro i hi _
  rcases Nat.lt_or_ge i l.length with h2 | h2
  · obtain ⟨x, hx⟩ : ∃ x, l[i]? = some x := ⟨_, List.getElem?_eq_getElem h2⟩
    have hw : IntKind.i64.wrap ((i : Int) + 1) = (i : Int) + 1 := wrap1 (by omega)
    rcases Nat.lt_or_ge i k with h5 | h5
    · have c : ¬ s = x := by
        have := hbef x (List.mem_of_getElem? (i := i) (by rw [List.getElem?_take, if_pos h5]; exact hx))
        exact fun h => this h.symm
      simp [-getElem?_pos, hx, hw, h2, c, h5]
      exact Wk.to rfl (by simp) (by simp) (by simp) (by simp)
    · obtain rfl : i = k := by omega
      have c : s = x := by
        rcases hend with ⟨_, h4⟩ | ⟨h3, _⟩
        · rw [hx] at h4; exact (Option.some.inj h4).symm
        · omega
      subst c
      simp [-getElem?_pos, hx, hw, h2]
      exact fin_val rfl (by simp [h2]) (by simp)
  · have h3 : ¬ i < l.length := by omega
    have h4 : ¬ k < l.length := by omega
    simp [h3]
    exact fin_val rfl (by simp [h4]) (by simp)
theorem Contains_c (l : List Tx) (hl : ln l) (s : Tx) : Rv Try.prog 145 [.imm (l.map sS.I), .s s] (.b (decide (s ∈ l))) := by
  obtain ⟨k, hk, h⟩ := Index_c l hl s
  refine via_slices_Contains_string_string (by simp) ?_
  simp [pc_slices_Contains_string_string]
  refine callK_val (by simp) h rfl ?_
  simp [hk]
  exact fin_val rfl (by simp) (by simp)
def withL (lb : Tx) (n : Nd) : Bool := decide (lb = []) || decide (lb ∈ n.labels)
theorem hasLabel_c (n : Nd) (hn : ln n.labels) (lb : Tx) : Rv Try.prog 80 [.agg (sN.I n), .s lb] (.b (withL lb n)) := by
  obtain ⟨id, ls, ps⟩ := n
  have h := Contains_c ls hn lb
  refine via_impl_hasLabel (by simp) ?_
  by_cases c : lb = []
  · subst c
    simp [pc_impl_hasLabel]
    exact fin_val rfl (by simp [withL]) (by simp)
  · simp [pc_impl_hasLabel, c]
    refine callK_val (by simp) h rfl ?_
    simp [c]
    exact fin_val rfl (by simp [withL, c]) (by simp)
def idsWith (lb : Tx) (l : List Nd) : List Int := (l.filter (withL lb)).map Nd.id
open Classical in
noncomputable def nodesWith (g : Gr) (lb : Tx) : List Int := if GOk g then idsWith lb g.nodes else []
theorem idsWith_succ {lb : Tx} {l : List Nd} {i : Nat} {x : Nd} (hx : l[i]? = some x) : idsWith lb (l.take (i + 1)) = idsWith lb (l.take i) ++ (if withL lb x = true then [x.id] else []) := by
  rw [List.take_add_one, hx]
  simp only [idsWith, Option.toList_some, List.filter_append, List.map_append]
  congr 1
  by_cases c : withL lb x = true
  · simp [c]
  · simp [c]
theorem idsWith_len (lb : Tx) (l : List Nd) (i : Nat) : (idsWith lb (l.take i)).length ≤ i := by
  simp only [idsWith, List.length_map]
  exact Nat.le_trans (List.length_filter_le _ _) (by simp; omega)
set_option maxRecDepth 20000 in
theorem l2With_c (g : Gr) (hf : g.fit) (hc : g.cnt ≤ 2 ^ 20) (lb : Tx) : Rv Try.prog 146 [.agg (sG.I g), .s lb] (.own 1 ((idsWith lb g.nodes).map sI.O)) := by
  have hln : g.nodes.length ≤ 2 ^ 20 := by unfold Gr.cnt cl at hc; omega
  have hN := hf.2.1
  obtain ⟨l, es, nn, ne⟩ := g
  simp only at hln hN
  refine via_spec_l2With (by simp) ?_
  simp [pc_spec_l2With]
  refine W_for (fun i => ⟨[(6, .i .i64 i), (5, .ref 1 0 (idsWith lb (l.take i)).length), (1, .s lb), (2, .ptr 0 0 0)], [(0, .arr 4 [sG.I ⟨l, es, nn, ne⟩]), (1, .arr 1 ((idsWith lb (l.take i)).map sI.O))], 20, 0⟩) l.length (fun i => True) (Wk.less rfl (by simp) (by simp [idsWith]) (by simp [idsWith])) trivial ?_
  intro i hi _
  rcases Nat.lt_or_ge i l.length with h2 | h2
  · obtain ⟨x, hx⟩ : ∃ x, l[i]? = some x := ⟨_, List.getElem?_eq_getElem h2⟩
    have hw : IntKind.i64.wrap ((i : Int) + 1) = (i : Int) + 1 := wrap1 (by omega)
    have hh := l2Has_c x.labels (hN x (List.mem_of_getElem? hx)).2.1 lb
    have hs := idsWith_succ (lb := lb) hx
    have hle := idsWith_len lb l i
    rw [hs]
    generalize idsWith lb (l.take i) = A at *
    have hbig : (A.length + 1) * 8 ≤ 35184372088832 := by omega
    have hcA := sI.crO A
    obtain ⟨id, ls, ps⟩ := x
    simp only at hh
    by_cases c : lb = []
    · have hwl : withL lb ⟨id, ls, ps⟩ = true := by simp [withL, c]
      subst c
      simp [-getElem?_pos, hx, hw, h2, hbig, hwl]
      refine Wk.ren (fun t => if t = 1 then 21 else t) rfl (by simp) (by simp) (by simp) ?_ (by simp)
      have hcB := sI.crO (A ++ [id])
      rw [List.map_append] at hcB
      simp only [List.map_cons, List.map_nil, sI_O] at hcB
      simp [Blk.rn, Blk.names, namesr_clean hcB, rnr_cl hcB]
    · by_cases c2 : lb ∈ ls
      · have hwl : withL lb ⟨id, ls, ps⟩ = true := by simp [withL, c2]
        simp [-getElem?_pos, hx, hw, h2, c, c2]
        refine callK_val (by simp) hh rfl ?_
        simp [-getElem?_pos, hx, hw, h2, c, c2, hbig, hwl]
        refine Wk.ren (fun t => if t = 1 then 21 else t) rfl (by simp) (by simp) (by simp) ?_ (by simp)
        have hcB := sI.crO (A ++ [id])
        rw [List.map_append] at hcB
        simp only [List.map_cons, List.map_nil, sI_O] at hcB
        simp [Blk.rn, Blk.names, namesr_clean hcB, rnr_cl hcB]
      · have hwl : withL lb ⟨id, ls, ps⟩ = false := by simp [withL, c, c2]
        simp [-getElem?_pos, hx, hw, h2, c, c2]
        refine callK_val (by simp) hh rfl ?_
        simp [-getElem?_pos, hx, hw, h2, c, c2, hwl]
        exact Wk.to rfl (by simp) (by simp) (by simp [Blk.names, namesr_clean hcA]) (by simp)
  · obtain rfl : i = l.length := by omega
    simp
    exact fin_own (by simp; rfl) (by simp) (by simp) (by simp)
set_option maxRecDepth 20000 in
theorem NodesWith_c (g : Gr) (hf : g.fit) (hc : g.cnt ≤ 2 ^ 20) (lb : Tx) : Rv Try.prog 36 [.agg (sG.I g), .s lb] (.own 1 ((nodesWith g lb).map sI.O)) := by
  have h1 := GraphOk_c g hf
  have hln : g.nodes.length ≤ 2 ^ 20 := by unfold Gr.cnt cl at hc; omega
  have hN := hf.2.1
  by_cases g1 : GOk g
  · have e : nodesWith g lb = idsWith lb g.nodes := by simp [nodesWith, g1]
    rw [e]
    obtain ⟨l, es, nn, ne⟩ := g
    simp only at hln hN
    refine via_impl_NodesWith (by simp) ?_
    simp [pc_impl_NodesWith]
    refine callK_val (by simp) h1 rfl ?_
    simp [g1]
    refine W_for (fun i => ⟨[(14, .i .i64 i), (13, .i .i64 l.length), (12, .imm (l.map sN.I)), (5, .ref 9 0 (idsWith lb (l.take i)).length), (1, .s lb), (2, .ptr 0 0 0)], [(0, .arr 4 [sG.I ⟨l, es, nn, ne⟩]), (9, .arr 1 ((idsWith lb (l.take i)).map sI.O))], 20, 0⟩) l.length (fun i => True) ?_ trivial ?_
    · exact Wk.trans (Wk.nil (j := 5) (k := 9) (sz := 1) (by simp) (by simp)) (Wk.less rfl (by simp) (by simp [idsWith]) (by simp [idsWith]))
    intro i hi _
    rcases Nat.lt_or_ge i l.length with h2 | h2
    · obtain ⟨x, hx⟩ : ∃ x, l[i]? = some x := ⟨_, List.getElem?_eq_getElem h2⟩
      have hw : IntKind.i64.wrap ((i : Int) + 1) = (i : Int) + 1 := wrap1 (by omega)
      have hh := hasLabel_c x (hN x (List.mem_of_getElem? hx)).2.1 lb
      have hs := idsWith_succ (lb := lb) hx
      have hle := idsWith_len lb l i
      rw [hs]
      generalize idsWith lb (l.take i) = A at *
      have hbig : (A.length + 1) * 8 ≤ 35184372088832 := by omega
      have hcA := sI.crO A
      obtain ⟨id, ls, ps⟩ := x
      cases hwl : withL lb ⟨id, ls, ps⟩ with
      | true =>
        rw [hwl] at hh
        simp [-getElem?_pos, hx, hw, h2]
        refine callK_val (by simp) hh rfl ?_
        simp [-getElem?_pos, hx, hw, h2, hbig]
        have hcB := sI.crO (A ++ [id])
        rw [List.map_append] at hcB
        simp only [List.map_cons, List.map_nil, sI_O] at hcB
        refine Wk.ren (fun t => if t = 9 then 23 else t) rfl (by simp) (by simp) (by simp) ?_ (by simp)
        simp [Blk.rn, Blk.names, namesr_clean hcB, rnr_cl hcB]
      | false =>
        rw [hwl] at hh
        simp [-getElem?_pos, hx, hw, h2]
        refine callK_val (by simp) hh rfl ?_
        simp [-getElem?_pos, hx, hw, h2]
        exact Wk.to rfl (by simp) (by simp) (by simp [Blk.names, namesr_clean hcA]) (by simp)
    · obtain rfl : i = l.length := by omega
      simp
      exact fin_own (by simp; rfl) (by simp) (by simp) (by simp)
  · have e : nodesWith g lb = [] := by simp [nodesWith, g1]
    rw [e]
    obtain ⟨l, es, nn, ne⟩ := g
    refine via_impl_NodesWith (by simp) ?_
    simp [pc_impl_NodesWith]
    refine callK_val (by simp) h1 rfl ?_
    simp [g1]
    exact fin_own (by simp; rfl) (by simp) (by simp) (by simp)
end Go.Proofs.Ytehdfbhfbidadaa.V
/- What is found by a prop. -/
namespace Go.Proofs.Ytehdfbhfbidadaa.V
open Go
set_option linter.unusedVariables false
set_option linter.unusedSimpArgs false
set_option maxHeartbeats 8000000
theorem Asc.lt' {α : Type} {f : α → Int} {e : Int} {l : List α} (h : Asc f e l) : ∀ (d i : Nat) (x y : α), l[i]? = some x → l[i + d + 1]? = some y → f x < f y
  | 0, i, x, y, hx, hy => by
    have := (h (i + 1) y hy).2.2 x (by omega) (by simpa using hx)
    exact this
  | d + 1, i, x, y, hx, hy => by
    have hlt : i + (d + 1) + 1 < l.length := (List.getElem?_eq_some_iff.1 hy).1
    obtain ⟨z, hz⟩ : ∃ z, l[i + d + 1]? = some z := ⟨_, List.getElem?_eq_getElem (by omega)⟩
    have h1 := Asc.lt' h d i x z hx hz
    have h2 := (h (i + (d + 1) + 1) y hy).2.2 z (by omega) (by rw [show i + (d + 1) + 1 - 1 = i + d + 1 by omega]; exact hz)
    omega
noncomputable def hasV (nm : Tx) (v : Vl) (x : Nd) : Bool := decide ((getP x.props nm).k ≠ 0) && sameB (getP x.props nm) v
noncomputable def findL (lb nm : Tx) (v : Vl) (l : List Nd) : List Int := (l.filter (fun x => withL lb x && hasV nm v x)).map Nd.id
open Classical in
noncomputable def findBy (g : Gr) (lb nm : Tx) (v : Vl) : List Int := if GOk g ∧ vOk v = true ∧ lb ≠ [] then findL lb nm v g.nodes else []
theorem findL_succ {lb nm : Tx} {v : Vl} {l : List Nd} {i : Nat} {x : Nd} (hx : l[i]? = some x) : findL lb nm v (l.take (i + 1)) = findL lb nm v (l.take i) ++ (if (withL lb x && hasV nm v x) = true then [x.id] else []) := by
  rw [List.take_add_one, hx]
  simp only [findL, Option.toList_some, List.filter_append, List.map_append]
  congr 1
  by_cases c : (withL lb x && hasV nm v x) = true
  · rw [if_pos c, List.filter_cons]; simp only [c, if_true]; rfl
  · have c' : (withL lb x && hasV nm v x) = false := by simpa using c
    rw [if_neg c, List.filter_cons]; simp only [c', Bool.false_eq_true, if_false]; rfl
theorem findL_len (lb nm : Tx) (v : Vl) (l : List Nd) (i : Nat) : (findL lb nm v (l.take i)).length ≤ i := by
  simp only [findL, List.length_map]
  exact Nat.le_trans (List.length_filter_le _ _) (by simp; omega)
/-- Of the nodes with a label. -/
theorem findL_filter (lb nm : Tx) (v : Vl) (l : List Nd) : findL lb nm v l = ((l.filter (withL lb)).filter (hasV nm v)).map Nd.id := by
  simp only [findL, List.filter_filter]
  congr 1
  exact List.filter_congr fun x _ => by rw [Bool.and_comm]
theorem propGet_at {g : Gr} (h : GOk g) {x : Nd} (hx : x ∈ g.nodes) (nm : Tx) : propGet g (.mk 5 x.id [] []) nm = getP x.props nm := by
  have hf : g.nodes.find? (fun y => decide (y.id = x.id)) = some x := by
    obtain ⟨i, hi⟩ := List.mem_iff_getElem?.1 hx
    obtain ⟨hi1, hi2⟩ := List.getElem?_eq_some_iff.1 hi
    rw [List.find?_eq_some_iff_getElem]
    refine ⟨by simp, i, hi1, hi2, fun j hj => ?_⟩
    have := h.na.lt' (i - j - 1) j g.nodes[j] x (List.getElem?_eq_getElem (by omega)) (by rw [show j + (i - j - 1) + 1 = i by omega]; exact hi)
    simp only [Bool.not_eq_true', decide_eq_false_iff_not]
    omega
  have hp : propsOf g (.mk 5 x.id [] []) = some x.props := by
    unfold propsOf; simp only [Vl.k, Vl.n, if_true]
    exact (congrArg (Option.map Nd.props) hf).trans rfl
  unfold propGet
  rw [hp]
theorem getP_fit {g : Gr} (hf : g.fit) {x : Nd} (hx : x ∈ g.nodes) (nm : Tx) : (getP x.props nm).fit := by
  rcases getT_cases x.props nm with ⟨p, hp, _, h1⟩ | ⟨_, h1⟩
  · rw [h1]; exact ((hf.2.1 x hx).2.2.2.2 p hp).2
  · rw [h1]; simp [zV, Vl.fit_mk, i64, ln]
/-- A value that is nothing is found nowhere. -/
theorem hasV_null {nm : Tx} {v : Vl} (hv : v.k = 0) (x : Nd) : hasV nm v x = false := by
  unfold hasV
  cases h : sameB (getP x.props nm) v with
  | false => simp
  | true => rw [sameB_iff] at h; rw [h, hv]; rfl
theorem hasV_same {nm : Tx} {v : Vl} (hv : v.k ≠ 0) (x : Nd) : hasV nm v x = sameB (getP x.props nm) v := by
  unfold hasV
  cases h : sameB (getP x.props nm) v with
  | false => simp
  | true => rw [sameB_iff] at h; rw [h, decide_eq_true hv]; rfl
set_option maxRecDepth 20000 in
theorem l3By_c (g : Gr) (hg : GOk g) (hf : g.fit) (hc : g.cnt ≤ 2 ^ 20) (lb nm : Tx) (v : Vl) (hv : v.fit) : Rv Try.prog 83 [.agg (sG.I g), .s lb, .s nm, .agg (sV.I v)] (.own 1 ((findL lb nm v g.nodes).map sI.O)) := by
  have hln : g.nodes.length ≤ 2 ^ 20 := by unfold Gr.cnt cl at hc; omega
  have hln2 : g.edges.length ≤ 2 ^ 20 := by unfold Gr.cnt cl at hc; omega
  have h1 := l2With_c g hf hc lb
  have hget : ∀ x ∈ g.nodes.filter (withL lb), Rv Try.prog 78 [.agg (sG.I g), .agg (sV.I (.mk 5 x.id [] [])), .s nm] (.agg (sV.O (getP x.props nm))) ∧ Rv Try.prog 119 [.agg (sV.I (getP x.props nm)), .agg (sV.I v)] (.b (sameB (getP x.props nm) v)) := by
    intro x hx
    have hx' := (List.mem_filter.1 hx).1
    have := l2Get_c g ⟨by unfold ln; omega, by unfold ln; omega⟩ hc (.mk 5 x.id [] []) nm
    rw [propGet_at hg hx'] at this
    exact ⟨this, l1Same_c _ (getP_fit hf hx' nm) _ hv⟩
  have hfl := findL_filter lb nm v g.nodes
  have hids : idsWith lb g.nodes = (g.nodes.filter (withL lb)).map Nd.id := rfl
  have hlL : (g.nodes.filter (withL lb)).length ≤ 2 ^ 20 := Nat.le_trans (List.length_filter_le _ _) hln
  rw [hfl]
  generalize idsWith lb g.nodes = M at *
  generalize g.nodes.filter (withL lb) = L at *
  have hMl : M.length = L.length := by rw [hids]; simp
  have hMg : ∀ (i : Nat) (x : Nd), L[i]? = some x → M[i]? = some x.id := fun i x hx => by rw [hids, List.getElem?_map, hx]; rfl
  clear hfl hids
  have hsuc : ∀ (i : Nat) (x : Nd), L[i]? = some x → ((L.take (i + 1)).filter (hasV nm v)).map Nd.id = ((L.take i).filter (hasV nm v)).map Nd.id ++ (if hasV nm v x = true then [x.id] else []) := by
    intro i x hx
    rw [List.take_add_one, hx]
    simp only [Option.toList_some, List.filter_append, List.map_append]
    congr 1
    by_cases c : hasV nm v x = true
    · simp [c]
    · simp [c]
  have hlen : ∀ i, (((L.take i).filter (hasV nm v)).map Nd.id).length ≤ i := by
    intro i
    rw [List.length_map]
    exact Nat.le_trans (List.length_filter_le _ _) (by simp; omega)
  obtain ⟨R, hR⟩ : ∃ R, R = (L.filter (hasV nm v)).map Nd.id := ⟨_, rfl⟩
  rw [← hR]
  obtain ⟨l, es, nn, ne⟩ := g
  obtain ⟨k, n, s, vl⟩ := v
  refine via_spec_l3By (by simp) ?_
  simp [pc_spec_l3By]
  refine callK_val (by simp) h1 (by simp [T.noImm]) ?_
  simp
  refine W_for (fun i => ⟨[(11, .i .i64 i), (10, .ref 3 0 M.length), (9, .ref 2 0 (((L.take i).filter (hasV nm (.mk k n s vl))).map Nd.id).length), (2, .s nm), (4, .ptr 0 0 0), (7, .ptr 1 0 0)], [(0, .arr 4 [sG.I ⟨l, es, nn, ne⟩]), (1, .arr 4 [sV.I (.mk k n s vl)]), (2, .arr 1 ((((L.take i).filter (hasV nm (.mk k n s vl))).map Nd.id).map sI.O)), (3, .arr 1 (M.map sI.O))], 20, 0⟩) L.length (fun i => True) (Wk.less rfl (by simp) (by simp) (by simp)) trivial ?_
  intro i hi _
  rcases Nat.lt_or_ge i L.length with h2 | h2
  · obtain ⟨x, hx⟩ : ∃ x, L[i]? = some x := ⟨_, List.getElem?_eq_getElem h2⟩
    have hw : IntKind.i64.wrap ((i : Int) + 1) = (i : Int) + 1 := wrap1 (by omega)
    obtain ⟨hh, hs⟩ := hget x (List.mem_of_getElem? hx)
    have hsu := hsuc i x hx
    have hle := hlen i
    rw [hsu]
    have hhv : hasV nm (.mk k n s vl) x = (decide ((getP x.props nm).k ≠ 0) && sameB (getP x.props nm) (.mk k n s vl)) := rfl
    generalize ((L.take i).filter (hasV nm (.mk k n s vl))).map Nd.id = B at *
    have hbig : (B.length + 1) * 8 ≤ 35184372088832 := by omega
    have hcB := sI.crO B
    have hcL := sI.crO M
    have ha1 := hMg i x hx
    have ha : (M.map sI.O)[i]? = some [.i .i64 x.id] := by rw [List.getElem?_map, ha1]; rfl
    have h2' : i < M.length := by omega
    generalize getP x.props nm = r at *
    generalize hasV nm (.mk k n s vl) x = q at *
    obtain ⟨id, ls, ps⟩ := x
    obtain ⟨k', n', s', l'⟩ := r
    simp only [Vl.k] at hhv
    simp only at ha ha1
    simp [-getElem?_pos, hw, h2', ha, ha1]
    repeat with_reducible refine need_mk (by decide +kernel) ?_
    refine callK_val (by simp) hh (by simp [T.noImm]) ?_
    by_cases k0 : k' = 0
    · have hq : q = false := by rw [hhv]; simp [k0]
      subst hq
      simp [-getElem?_pos, hw, h2', ha, ha1, k0]
      repeat with_reducible refine need_mk (by decide +kernel) ?_
      exact ⟨h2, Wk.to rfl (by simp) (by simp) (by simp [Blk.names, namesr_clean hcB, namesr_clean hcL]) (by simp)⟩
    · cases e : sameB (.mk k' n' s' l') (.mk k n s vl) with
      | true =>
        have hq : q = true := by rw [hhv, e]; simp [k0]
        rw [e] at hs
        subst hq
        simp [-getElem?_pos, hw, h2', ha, ha1, k0]
        repeat with_reducible refine need_mk (by decide +kernel) ?_
        refine callK_val (by simp) hs (by simp [T.noImm]) ?_
        simp [-getElem?_pos, hw, h2', ha, ha1, k0, hbig]
        repeat with_reducible refine need_mk (by decide +kernel) ?_
        have hcD := sI.crO (B ++ [id])
        rw [List.map_append] at hcD
        simp only [List.map_cons, List.map_nil, sI_O] at hcD
        refine ⟨h2, Wk.ren (fun t => if t = 2 then 101 else t) rfl (by simp) (by simp) (by simp) ?_ (by simp)⟩
        simp [Blk.rn, Blk.names, namesr_clean hcD, rnr_cl hcD, namesr_clean hcL, rnr_cl hcL]
      | false =>
        have hq : q = false := by rw [hhv, e]; simp
        rw [e] at hs
        subst hq
        simp [-getElem?_pos, hw, h2', ha, ha1, k0]
        repeat with_reducible refine need_mk (by decide +kernel) ?_
        refine callK_val (by simp) hs (by simp [T.noImm]) ?_
        simp [-getElem?_pos, hw, h2', ha, ha1, k0, hbig]
        repeat with_reducible refine need_mk (by decide +kernel) ?_
        exact ⟨h2, Wk.to rfl (by simp) (by simp) (by simp [Blk.names, namesr_clean hcB, namesr_clean hcL]) (by simp)⟩
  · have h3 : i = M.length := by omega
    have h4 : i = L.length := by omega
    subst h4
    have e0 : ((L.take L.length).filter (hasV nm (.mk k n s vl))).map Nd.id = R := by rw [hR, List.take_length]
    rw [e0]
    simp [h3]
    exact fin_own (by simp; rfl) (by simp) (by simp) (by simp)
theorem specFindBy_c (g : Gr) (hf : g.fit) (hc : g.cnt ≤ 2 ^ 20) (lb nm : Tx) (v : Vl) (hv : v.fit) : Rv Try.prog 33 [.agg (sG.I g), .s lb, .s nm, .agg (sV.I v)] (.own 1 ((findBy g lb nm v).map sI.O)) := by
  have h1 := specGraphOk_c g hf
  have h2 := specValueOk_c v hv
  by_cases g1 : GOk g
  · have h3 := l3By_c g g1 hf hc lb nm v hv
    have e : findBy g lb nm v = if vOk v = true ∧ lb ≠ [] then findL lb nm v g.nodes else [] := by simp [findBy, g1]
    rw [e]
    generalize findL lb nm v g.nodes = R at *
    obtain ⟨l, es, nn, ne⟩ := g
    obtain ⟨k, n, s, vl⟩ := v
    cases c1 : vOk (.mk k n s vl) with
    | false =>
      rw [c1] at h2
      refine via_spec_FindBy (by simp) ?_
      simp [pc_spec_FindBy]
      refine callK_val (by simp) h1 rfl ?_
      simp [g1]
      refine callK_val (by simp) h2 rfl ?_
      simp
      exact fin_own (by simp; rfl) (by simp) (by simp) (by simp)
    | true =>
      rw [c1] at h2
      by_cases c2 : lb = []
      · refine via_spec_FindBy (by simp) ?_
        simp [pc_spec_FindBy]
        refine callK_val (by simp) h1 rfl ?_
        simp [g1]
        refine callK_val (by simp) h2 rfl ?_
        simp [c2]
        exact fin_own (by simp; rfl) (by simp) (by simp) (by simp)
      · refine via_spec_FindBy (by simp) ?_
        simp [pc_spec_FindBy]
        refine callK_val (by simp) h1 rfl ?_
        simp [g1]
        refine callK_val (by simp) h2 rfl ?_
        simp [c2]
        refine callK_val (by simp) h3 (by simp [T.noImm]) ?_
        simp
        exact fin_own (by simp; rfl) (by simp [c2]) (by simp) (by simp [c2])
  · have e : findBy g lb nm v = [] := by simp [findBy, g1]
    rw [e]
    obtain ⟨l, es, nn, ne⟩ := g
    obtain ⟨k, n, s, vl⟩ := v
    refine via_spec_FindBy (by simp) ?_
    simp [pc_spec_FindBy]
    refine callK_val (by simp) h1 rfl ?_
    simp [g1]
    exact fin_own (by simp; rfl) (by simp) (by simp) (by simp)
set_option maxRecDepth 20000 in
theorem FindBy_c (g : Gr) (hf : g.fit) (hc : g.cnt ≤ 2 ^ 20) (lb nm : Tx) (v : Vl) (hv : v.fit) : Rv Try.prog 31 [.agg (sG.I g), .s lb, .s nm, .agg (sV.I v)] (.own 1 ((findBy g lb nm v).map sI.O)) := by
  have h1 := GraphOk_c g hf
  have h2 := ValueOk_c v hv
  have hln : g.nodes.length ≤ 2 ^ 20 := by unfold Gr.cnt cl at hc; omega
  have hN := hf.2.1
  by_cases g1 : GOk g
  · have hprop : ∀ x ∈ g.nodes, Rv Try.prog 82 [.imm (x.props.map sP.I), .s nm] (getT x.props nm) ∧ Rv Try.prog 81 [.agg (sV.I (getP x.props nm)), .agg (sV.I v)] (.b (sameB (getP x.props nm) v)) := by
      intro x hx
      have hps : x.props.length ≤ 2 ^ 20 := by
        have h3 := sums_mem (c := Nd.cnt) hx
        simp only [Nd.cnt] at h3
        unfold Gr.cnt cl at hc
        unfold cl at h3
        omega
      exact ⟨propOf_c x.props hps nm, sameOf_c _ (getP_fit hf hx nm) _ hv⟩
    by_cases hcond : vOk v = true ∧ lb ≠ [] ∧ v.k ≠ 0
    · obtain ⟨c1, c2, c3⟩ := hcond
      rw [c1] at h2
      have e : findBy g lb nm v = findL lb nm v g.nodes := by simp [findBy, g1, c1, c2]
      have hss := fun x => hasV_same (nm := nm) c3 x
      have hsuc := fun i x (hx : g.nodes[i]? = some x) => findL_succ (lb := lb) (nm := nm) (v := v) hx
      have hlen := fun i => findL_len lb nm v g.nodes i
      rw [e]
      obtain ⟨R, hR⟩ : ∃ R, R = findL lb nm v g.nodes := ⟨_, rfl⟩
      rw [← hR]
      obtain ⟨l, es, nn, ne⟩ := g
      obtain ⟨k, n, s, vl⟩ := v
      simp only [Vl.k] at c3
      simp only at hln hN hprop hR hsuc hlen
      refine via_impl_FindBy (by simp) ?_
      simp [pc_impl_FindBy]
      refine callK_val (by simp) h1 rfl ?_
      simp [g1]
      refine callK_val (by simp) h2 rfl ?_
      simp [c2, c3]
      refine W_for (fun i => ⟨[(32, .i .i64 i), (31, .i .i64 l.length), (30, .imm (l.map sN.I)), (9, .ref 9 0 (findL lb nm (.mk k n s vl) (l.take i)).length), (1, .s lb), (2, .s nm), (4, .ptr 0 0 0), (7, .ptr 1 0 0)], [(0, .arr 4 [sG.I ⟨l, es, nn, ne⟩]), (1, .arr 4 [sV.I (.mk k n s vl)]), (9, .arr 1 ((findL lb nm (.mk k n s vl) (l.take i)).map sI.O))], 20, 0⟩) l.length (fun i => True) ?_ trivial ?_
      · exact Wk.trans (Wk.nil (j := 9) (k := 9) (sz := 1) (by simp) (by simp)) (Wk.less rfl (by simp) (by simp [findL]) (by simp [findL]))
      intro i hi _
      rcases Nat.lt_or_ge i l.length with h2 | h2
      · obtain ⟨x, hx⟩ : ∃ x, l[i]? = some x := ⟨_, List.getElem?_eq_getElem h2⟩
        have hw : IntKind.i64.wrap ((i : Int) + 1) = (i : Int) + 1 := wrap1 (by omega)
        have hh := hasLabel_c x (hN x (List.mem_of_getElem? hx)).2.1 lb
        obtain ⟨hp, hsm⟩ := hprop x (List.mem_of_getElem? hx)
        have hsu := hsuc i x hx
        have hle := hlen i
        have hsx := hss x
        rw [hsu]
        generalize findL lb nm (.mk k n s vl) (l.take i) = B at *
        have hbig : (B.length + 1) * 8 ≤ 35184372088832 := by omega
        have hcB := sI.crO B
        have hgc := getT_cases x.props nm
        rw [hsx]
        generalize hasV nm (.mk k n s vl) x = q0 at *
        clear hsx hsu hsuc hlen hss
        obtain ⟨id, ls, ps⟩ := x
        simp only at hp hsm hgc
        generalize getP ps nm = r at *
        generalize getT ps nm = rT at *
        cases hwl : withL lb ⟨id, ls, ps⟩ with
        | false =>
          rw [hwl] at hh
          simp [-getElem?_pos, hx, hw, h2]
          repeat with_reducible refine need_mk (by first | decide +kernel | simp) ?_
          refine callK_val (by simp) hh rfl ?_
          simp [-getElem?_pos, hx, hw, h2]
          repeat with_reducible refine need_mk (by first | decide +kernel | simp) ?_
          exact Wk.to rfl (by simp) (by simp) (by simp [Blk.names, namesr_clean hcB]) (by simp)
        | true =>
          rw [hwl] at hh
          simp [-getElem?_pos, hx, hw, h2]
          repeat with_reducible refine need_mk (by first | decide +kernel | simp) ?_
          refine callK_val (by simp) hh rfl ?_
          simp [-getElem?_pos, hx, hw, h2]
          repeat with_reducible refine need_mk (by first | decide +kernel | simp) ?_
          refine callK_imm (by simp) hp ?_
          rcases hgc with ⟨⟨pn, pk, pn', ps', pl⟩, hpm, g2, g3⟩ | ⟨g2, g3⟩
          · subst g3
            rw [g2]
            simp only at hsm
            simp [-getElem?_pos, hx, hw, h2]
            repeat with_reducible refine need_mk (by first | decide +kernel | simp) ?_
            refine callK_val (by simp) hsm (by simp [T.noImm]) ?_
            cases q : sameB (.mk pk pn' ps' pl) (.mk k n s vl) with
            | false =>
              simp [-getElem?_pos, hx, hw, h2, hbig]
              repeat with_reducible refine need_mk (by first | decide +kernel | simp) ?_
              exact Wk.to rfl (by simp) (by simp) (by simp [Blk.names, namesr_clean hcB]) (by simp)
            | true =>
              simp [-getElem?_pos, hx, hw, h2, hbig]
              repeat with_reducible refine need_mk (by first | decide +kernel | simp) ?_
              have hcD := sI.crO (B ++ [id])
              rw [List.map_append] at hcD
              simp only [List.map_cons, List.map_nil, sI_O] at hcD
              refine Wk.ren (fun t => if t = 9 then 111 else t) rfl (by simp) (by simp) (by simp) ?_ (by simp)
              simp [Blk.rn, Blk.names, namesr_clean hcD, rnr_cl hcD]
          · subst g3
            rw [g2]
            simp [-getElem?_pos, hx, hw, h2, zT, zV]
            repeat with_reducible refine need_mk (by first | decide +kernel | simp) ?_
            refine callK_val (by simp [zV]) hsm (by simp [T.noImm]) ?_
            cases q : sameB zV (.mk k n s vl) with
            | false =>
              simp [-getElem?_pos, hx, hw, h2, hbig]
              repeat with_reducible refine need_mk (by first | decide +kernel | simp) ?_
              exact Wk.to rfl (by simp) (by simp) (by simp [Blk.names, namesr_clean hcB]) (by simp)
            | true =>
              simp [-getElem?_pos, hx, hw, h2, hbig]
              repeat with_reducible refine need_mk (by first | decide +kernel | simp) ?_
              have hcD := sI.crO (B ++ [id])
              rw [List.map_append] at hcD
              simp only [List.map_cons, List.map_nil, sI_O] at hcD
              refine Wk.ren (fun t => if t = 9 then 111 else t) rfl (by simp) (by simp) (by simp) ?_ (by simp)
              simp [Blk.rn, Blk.names, namesr_clean hcD, rnr_cl hcD]
      · obtain rfl : i = l.length := by omega
        have e0 : findL lb nm (.mk k n s vl) (l.take l.length) = R := by rw [List.take_length, hR]
        rw [e0]
        simp
        exact fin_own (by simp; rfl) (by simp) (by simp) (by simp)
    · have e : findBy g lb nm v = [] := by
        unfold findBy
        by_cases q : GOk g ∧ vOk v = true ∧ lb ≠ []
        · rw [if_pos q]
          have hk : v.k = 0 := by
            rcases Classical.em (v.k = 0) with h | h
            · exact h
            · exact absurd ⟨q.2.1, q.2.2, h⟩ hcond
          unfold findL
          rw [show (g.nodes.filter fun x => withL lb x && hasV nm v x) = [] from List.filter_eq_nil_iff.2 fun x _ => by simp [hasV_null hk]]
          rfl
        · rw [if_neg q]
      rw [e]
      obtain ⟨l, es, nn, ne⟩ := g
      obtain ⟨k, n, s, vl⟩ := v
      cases c1 : vOk (.mk k n s vl) with
      | false =>
        rw [c1] at h2
        refine via_impl_FindBy (by simp) ?_
        simp [pc_impl_FindBy]
        refine callK_val (by simp) h1 rfl ?_
        simp [g1]
        refine callK_val (by simp) h2 rfl ?_
        simp
        exact fin_own (by simp; rfl) (by simp) (by simp) (by simp)
      | true =>
        rw [c1] at h2
        by_cases c2 : lb = []
        · refine via_impl_FindBy (by simp) ?_
          simp [pc_impl_FindBy]
          refine callK_val (by simp) h1 rfl ?_
          simp [g1]
          refine callK_val (by simp) h2 rfl ?_
          simp [c2]
          exact fin_own (by simp; rfl) (by simp) (by simp) (by simp)
        · have c3 : k = 0 := by
            rcases Classical.em (k = 0) with h | h
            · exact h
            · exact absurd ⟨c1, c2, h⟩ hcond
          refine via_impl_FindBy (by simp) ?_
          simp [pc_impl_FindBy]
          refine callK_val (by simp) h1 rfl ?_
          simp [g1]
          refine callK_val (by simp) h2 rfl ?_
          simp [c2, c3]
          exact fin_own (by simp; rfl) (by simp) (by simp) (by simp)
  · have e : findBy g lb nm v = [] := by simp [findBy, g1]
    rw [e]
    obtain ⟨l, es, nn, ne⟩ := g
    obtain ⟨k, n, s, vl⟩ := v
    refine via_impl_FindBy (by simp) ?_
    simp [pc_impl_FindBy]
    refine callK_val (by simp) h1 rfl ?_
    simp [g1]
    exact fin_own (by simp; rfl) (by simp) (by simp) (by simp)
end Go.Proofs.Ytehdfbhfbidadaa.V
