/- Props by name. -/
import Derived.Test.YtcchmhmbjhgfdaaCgok2
import Derived.Test.YtcchmhmbjhgfdaaCcopy
namespace Go.Proofs.Ytcchmhmbjhgfdaa.V
open Go
set_option linter.unusedVariables false
set_option linter.unusedSimpArgs false
set_option maxHeartbeats 16000000
def zV : Vl := .mk 0 0 [] []
theorem l2Edge_c (g : Gr) (hl : ln g.edges) (id : Int) : Rv Try.prog 118 [.agg (sG.I g), .i .i64 id] (.i .i64 (posOf Eg.id id g.edges)) := by
  obtain ⟨ns, l, nn, ne⟩ := g
  simp only at hl ⊢
  refine via_spec_l2Edge (by simp) ?_
  simp [pc_spec_l2Edge]
  refine W_for (fun i => ⟨[(5, .i .i64 i), (2, .ptr 0 0 0), (1, .i .i64 id)], [(0, .arr 4 [sG.I ⟨ns, l, nn, ne⟩])], 1, 0⟩) l.length (fun i => ∀ j y, j < i → l[j]? = some y → y.id ≠ id) (Wk.less rfl (by simp) (by simp) (by simp)) (by simp) ?_
  intro i hi hv
  rcases Nat.lt_or_ge i l.length with h1 | h1
  · obtain ⟨⟨a, b, c, d, e⟩, hx⟩ : ∃ x, l[i]? = some x := ⟨_, List.getElem?_eq_getElem h1⟩
    have hw : IntKind.i64.wrap ((i : Int) + 1) = (i : Int) + 1 := wrap1 (by omega)
    by_cases h : a = id
    · simp [-getElem?_pos, hx, hw, h1, h]
      exact fin_val rfl (by simp [posOf_at (f := Eg.id) hx h hv]) (by simp)
    · simp [-getElem?_pos, hx, hw, h1, h]
      refine ⟨fun j y hj hy => ?_, Wk.to1 rfl (by simp) (by simp) (by simp) (by simp) (by omega)⟩
      rcases Nat.lt_or_ge j i with h6 | h6
      · exact hv j y h6 hy
      · obtain rfl : j = i := by omega
        rw [hx] at hy; simp at hy; subst hy; exact h
  · have h2 : ¬ i < l.length := by omega
    simp [h2]
    refine fin_val rfl ?_ (by simp)
    rw [posOf_none fun j y hy => hv j y (by have := (List.getElem?_eq_some_iff.1 hy).1; omega) hy]
    simp
/-- Props of a node or an edge, if it is there. -/
def propsOf (g : Gr) (v : Vl) : Option (List Pr) :=
  if v.k = 5 then (g.nodes.find? (fun x => decide (x.id = v.n))).map Nd.props
  else if v.k = 6 then (g.edges.find? (fun x => decide (x.id = v.n))).map Eg.props else none
theorem find_pos {α : Type} {f : α → Int} {id : Int} {l : List α} : (∃ (i : Nat) (x : α), posOf f id l = i ∧ l[i]? = some x ∧ l.find? (fun x => decide (f x = id)) = some x) ∨ (posOf f id l = -1 ∧ l.find? (fun x => decide (f x = id)) = none) := by
  rcases posOf_cases f id l with ⟨i, x, h1, h2, h3, h4⟩ | ⟨h1, h2⟩
  · left
    refine ⟨i, x, h1, h2, ?_⟩
    rw [List.find?_eq_some_iff_getElem]
    obtain ⟨hi, rfl⟩ := List.getElem?_eq_some_iff.1 h2
    exact ⟨by simpa using h3, i, hi, rfl, fun j hj => by simpa using h4 j _ hj (List.getElem?_eq_getElem (by omega))⟩
  · right
    refine ⟨h1, ?_⟩
    rw [List.find?_eq_none]
    exact fun x hx => by simpa using h2 x hx
/-- Under a name; nothing if there is none. -/
def getP (ps : List Pr) (nm : Tx) : Vl := ((ps.find? (fun p => decide (p.name = nm))).map Pr.val).getD zV
def propGet (g : Gr) (v : Vl) (nm : Tx) : Vl := match propsOf g v with | some ps => getP ps nm | none => zV
theorem getP_at {ps : List Pr} {nm : Tx} {i : Nat} {p : Pr} (hx : ps[i]? = some p) (h : p.name = nm) (hn : ∀ (j : Nat) (q : Pr), j < i → ps[j]? = some q → q.name ≠ nm) : getP ps nm = p.val := by
  unfold getP
  have : ps.find? (fun p => decide (p.name = nm)) = some p := by
    rw [List.find?_eq_some_iff_getElem]
    obtain ⟨hi, rfl⟩ := List.getElem?_eq_some_iff.1 hx
    exact ⟨by simpa using h, i, hi, rfl, fun j hj => by simpa using hn j _ hj (List.getElem?_eq_getElem (by omega))⟩
  rw [this]; rfl
theorem getP_none {ps : List Pr} {nm : Tx} (h : ∀ (j : Nat) (q : Pr), ps[j]? = some q → q.name ≠ nm) : getP ps nm = zV := by
  unfold getP
  have : ps.find? (fun p => decide (p.name = nm)) = none := by
    rw [List.find?_eq_none]
    intro p hp
    obtain ⟨j, hj⟩ := List.mem_iff_getElem?.1 hp
    simpa using h j p hj
  rw [this]; rfl
theorem l2Of_c (g : Gr) (hf : ln g.nodes ∧ ln g.edges) (v : Vl) : Rv Try.prog 163 [.agg (sG.I g), .agg (sV.I v)] (match propsOf g v with | some ps => .tup [.imm (ps.map sP.I), .b true] | none => .tup [.own 5 [], .b false]) := by
  obtain ⟨l, es, nn, ne⟩ := g
  obtain ⟨k, n, s, vl⟩ := v
  refine via_spec_l2Of (by simp) ?_
  simp [pc_spec_l2Of]
  refine callK_val (by simp) (l2Node_c ⟨l, es, nn, ne⟩ hf.1 n) rfl ?_
  simp
  refine callK_val (by simp) (l2Edge_c ⟨l, es, nn, ne⟩ hf.2 n) rfl ?_
  by_cases k5 : k = 5
  · subst k5
    rcases find_pos (f := Nd.id) (id := n) (l := l) with ⟨i, ⟨a, b, c⟩, h1, h2, h3⟩ | ⟨h1, h3⟩
    · have hp : propsOf ⟨l, es, nn, ne⟩ (.mk 5 n s vl) = some c := by unfold propsOf; simp only [Vl.k, Vl.n, if_true]; exact congrArg (Option.map Nd.props) h3
      simp [-getElem?_pos, h1, h2, hp]
      exact fin_own rfl (by simp) (by simp) (by simp)
    · have hp : propsOf ⟨l, es, nn, ne⟩ (.mk 5 n s vl) = none := by unfold propsOf; simp only [Vl.k, Vl.n, if_true]; exact congrArg (Option.map Nd.props) h3
      simp [-getElem?_pos, h1, hp]
      exact fin_own rfl (by simp) (by simp) (by simp)
  · by_cases k6 : k = 6
    · subst k6
      rcases find_pos (f := Eg.id) (id := n) (l := es) with ⟨i, ⟨a, b, c, d, e⟩, h1, h2, h3⟩ | ⟨h1, h3⟩
      · have hp : propsOf ⟨l, es, nn, ne⟩ (.mk 6 n s vl) = some e := by unfold propsOf; simp only [Vl.k, Vl.n, if_true, show ¬ (6 : Int) = 5 by omega, if_false]; exact congrArg (Option.map Eg.props) h3
        simp [-getElem?_pos, h1, h2, hp]
        exact fin_own rfl (by simp) (by simp) (by simp)
      · have hp : propsOf ⟨l, es, nn, ne⟩ (.mk 6 n s vl) = none := by unfold propsOf; simp only [Vl.k, Vl.n, if_true, show ¬ (6 : Int) = 5 by omega, if_false]; exact congrArg (Option.map Eg.props) h3
        simp [-getElem?_pos, h1, hp]
        exact fin_own rfl (by simp) (by simp) (by simp)
    · have hp : propsOf ⟨l, es, nn, ne⟩ (.mk k n s vl) = none := by simp only [propsOf, Vl.k, Vl.n, k5, k6, if_false]
      simp [-getElem?_pos, k5, k6, hp]
      exact fin_own rfl (by simp) (by simp) (by simp)
/-- What a prop's value is bounded by. -/
theorem cnt_props {g : Gr} {v : Vl} {ps : List Pr} (h : propsOf g v = some ps) : cl Pr.cnt ps ≤ g.cnt := by
  unfold propsOf at h
  split at h
  · obtain ⟨x, h1, rfl⟩ := Option.map_eq_some_iff.1 h
    have hm := List.mem_of_find?_eq_some h1
    have h2 := sums_mem (c := Nd.cnt) hm
    simp only [Nd.cnt] at h2
    unfold Gr.cnt cl at *
    omega
  · split at h
    · obtain ⟨x, h1, rfl⟩ := Option.map_eq_some_iff.1 h
      have hm := List.mem_of_find?_eq_some h1
      have h2 := sums_mem (c := Eg.cnt) hm
      simp only [Eg.cnt] at h2
      unfold Gr.cnt cl at *
      omega
    · exact absurd h (by simp)
theorem l2Get_c (g : Gr) (hf : ln g.nodes ∧ ln g.edges) (hc : g.cnt ≤ 2 ^ 20) (v : Vl) (nm : Tx) : Rv Try.prog 95 [.agg (sG.I g), .agg (sV.I v), .s nm] (.agg (sV.O (propGet g v nm))) := by
  have hO := l2Of_c g hf v
  obtain ⟨l, es, nn, ne⟩ := g
  obtain ⟨k, n, s, vl⟩ := v
  refine via_spec_l2Get (by simp) ?_
  simp [pc_spec_l2Get]
  refine callK_imm (by simp) hO ?_
  have key : ∀ ps : List Pr, cl Pr.cnt ps ≤ 2 ^ 20 → ∃ r, r = getP ps nm := fun ps _ => ⟨_, rfl⟩
  cases hp : propsOf ⟨l, es, nn, ne⟩ (.mk k n s vl) with
  | none =>
    have hr : propGet ⟨l, es, nn, ne⟩ (.mk k n s vl) nm = zV := by simp [propGet, hp]
    simp [hr]
    refine W_for (fun i => ⟨[(9, .i .i64 0), (7, .imm []), (6, .ptr 2 0 0)], [(2, .arr 4 [[.i .i64 0, .i .i64 0, .s [], .nl]])], 20, 0⟩) 0 (fun _ => True) (Wk.less rfl (by simp) (by simp) (by simp)) trivial ?_
    intro i hi _
    simp
    exact fin_own (by simp; rfl) (by simp [zV, hr]) (by simp) (by simp [zV, hr])
  | some ps =>
    have hr : propGet ⟨l, es, nn, ne⟩ (.mk k n s vl) nm = getP ps nm := by simp [propGet, hp]
    have hcp := cnt_props hp
    unfold cl at hcp
    simp [hr]
    refine W_for (fun i => ⟨[(9, .i .i64 i), (7, .imm (ps.map sP.I)), (6, .ptr 2 0 0), (2, .s nm)], [(2, .arr 4 [[.i .i64 0, .i .i64 0, .s [], .nl]])], 20, 0⟩) ps.length (fun i => ∀ j q, j < i → ps[j]? = some q → q.name ≠ nm) (Wk.less rfl (by simp) (by simp) (by simp)) (by simp) ?_
    intro i hi hv
    rcases Nat.lt_or_ge i ps.length with h1 | h1
    · obtain ⟨⟨nm', w⟩, hx⟩ : ∃ x, ps[i]? = some x := ⟨_, List.getElem?_eq_getElem h1⟩
      have hw : IntKind.i64.wrap ((i : Int) + 1) = (i : Int) + 1 := wrap1 (by omega)
      by_cases h : nm' = nm
      · have hg := getP_at hx h hv
        simp [-getElem?_pos, hx, hw, h1, h]
        refine callK_val (by simp) (l1Copy_c w (by have := sums_mem (c := Pr.cnt) (List.mem_of_getElem? hx); simp only [Pr.cnt] at this; omega)) (by simp [T.noImm]) ?_
        obtain ⟨k', n', s', l'⟩ := w
        simp [-getElem?_pos, hx, hw, h1, h]
        exact fin_own (by simp; rfl) (by simp [hr, hg]) (by simp) (by simp [hr, hg])
      · simp [-getElem?_pos, hx, hw, h1, h]
        refine ⟨fun j y hj hy => ?_, Wk.to1 rfl (by simp) (by simp) (by simp) (by simp) (by omega)⟩
        rcases Nat.lt_or_ge j i with h6 | h6
        · exact hv j y h6 hy
        · obtain rfl : j = i := by omega
          rw [hx] at hy; simp at hy; subst hy; exact h
    · have h2 : ¬ i < ps.length := by omega
      have hg := getP_none fun j q hq => hv j q (by have := (List.getElem?_eq_some_iff.1 hq).1; omega) hq
      simp [h2]
      exact fin_own (by simp; rfl) (by simp [zV, hr, hg]) (by simp) (by simp [zV, hr, hg])
open Classical in
theorem specPropGet_c (g : Gr) (hf : g.fit) (hc : g.cnt ≤ 2 ^ 20) (v : Vl) (hv : v.fit) (nm : Tx) : Rv Try.prog 29 [.agg (sG.I g), .agg (sV.I v), .s nm] (.agg (sV.O (if GOk g ∧ vOk v = true then propGet g v nm else zV))) := by
  have h1 := specGraphOk_c g hf
  have h2 := specValueOk_c v hv
  have h3 := l2Get_c g ⟨hf.1, hf.2.2.1⟩ hc v nm
  have hz : ∀ b : Bool, b = true ∨ b = false := fun b => by cases b <;> simp
  obtain ⟨l, es, nn, ne⟩ := g
  obtain ⟨k, n, s, vl⟩ := v
  refine via_spec_PropGet (by simp) ?_
  simp [pc_spec_PropGet]
  refine callK_val (by simp) h1 rfl ?_
  by_cases g1 : GOk ⟨l, es, nn, ne⟩
  · simp [g1]
    refine callK_val (by simp) h2 rfl ?_
    by_cases g2 : vOk (.mk k n s vl) = true
    · simp [g1, g2]
      refine callK_val (by simp) h3 (by simp [T.noImm]) ?_
      obtain ⟨⟨k', n', s', l'⟩, hr⟩ : ∃ r, propGet ⟨l, es, nn, ne⟩ (.mk k n s vl) nm = r := ⟨_, rfl⟩
      simp [g1, g2, hr]
      exact fin_own (by simp; rfl) (by simp [g1, g2, hr]) (by simp) (by simp [g1, g2, hr])
    · simp [g1, g2]
      exact fin_own (by simp; rfl) (by simp [zV, g1, g2]) (by simp) (by simp [zV, g1, g2])
  · simp [g1]
    exact fin_own (by simp; rfl) (by simp [zV, g1]) (by simp) (by simp [zV, g1])
end Go.Proofs.Ytcchmhmbjhgfdaa.V
