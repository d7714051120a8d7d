/- Props by name: the program's word. -/
import Derived.Test.YtcchmhmbjhgfdaaCget
namespace Go.Proofs.Ytcchmhmbjhgfdaa.V
open Go
set_option linter.unusedVariables false
set_option linter.unusedSimpArgs false
set_option maxHeartbeats 16000000
def zT : List T := [.i .i64 0, .i .i64 0, .s [], .nl]
def getT (ps : List Pr) (nm : Tx) : T := match ps.find? (fun p => decide (p.name = nm)) with | some p => .agg (sV.I p.val) | none => .agg zT
theorem getT_some {ps : List Pr} {nm : Tx} {i : Nat} {p : Pr} (hx : ps[i]? = some p) (h : p.name = nm) (hn : ∀ (j : Nat) (q : Pr), j < i → ps[j]? = some q → q.name ≠ nm) : getT ps nm = .agg (sV.I p.val) := by
  unfold getT
  have : ps.find? (fun p => decide (p.name = nm)) = some p := by
    rw [List.find?_eq_some_iff_getElem]
    obtain ⟨hi, rfl⟩ := List.getElem?_eq_some_iff.1 hx
    exact ⟨by simpa using h, i, hi, rfl, fun j hj => by simpa using hn j _ hj (List.getElem?_eq_getElem (by omega))⟩
  rw [this]
theorem getT_none {ps : List Pr} {nm : Tx} (h : ∀ (j : Nat) (q : Pr), ps[j]? = some q → q.name ≠ nm) : getT ps nm = .agg zT := by
  unfold getT
  have : ps.find? (fun p => decide (p.name = nm)) = none := by
    rw [List.find?_eq_none]
    intro p hp
    obtain ⟨j, hj⟩ := List.mem_iff_getElem?.1 hp
    simpa using h j p hj
  rw [this]
theorem getT_cases (ps : List Pr) (nm : Tx) : (∃ p ∈ ps, getT ps nm = .agg (sV.I p.val) ∧ getP ps nm = p.val) ∨ (getT ps nm = .agg zT ∧ getP ps nm = zV) := by
  unfold getT getP
  cases h : ps.find? (fun p => decide (p.name = nm)) with
  | none => right; simp
  | some p => left; exact ⟨p, List.mem_of_find?_eq_some h, by simp, by simp⟩
theorem propOf_c (ps : List Pr) (hl : ps.length ≤ 2 ^ 20) (nm : Tx) : Rv Try.prog 105 [.imm (ps.map sP.I), .s nm] (getT ps nm) := by
  refine via_impl_propOf (by simp) ?_
  simp [pc_impl_propOf]
  refine W_for (fun i => ⟨[(9, .i .i64 i), (8, .i .i64 ps.length), (7, .imm (ps.map sP.I)), (4, .ptr 0 0 0), (1, .s nm)], [(0, .arr 4 [[.i .i64 0, .i .i64 0, .s [], .nl]])], 20, 0⟩) ps.length (fun i => ∀ j q, j < i → ps[j]? = some q → q.name ≠ nm) (Wk.less rfl (by simp) (by simp) (by simp)) (by simp) ?_
  intro i hi hv
  rcases Nat.lt_or_ge i ps.length with h1 | h1
  · obtain ⟨⟨nm', w⟩, hx⟩ : ∃ x, ps[i]? = some x := ⟨_, List.getElem?_eq_getElem h1⟩
    have hw : IntKind.i64.wrap ((i : Int) + 1) = (i : Int) + 1 := wrap1 (by omega)
    by_cases h : nm' = nm
    · have hg := getT_some hx h hv
      obtain ⟨k', n', s', l'⟩ := w
      simp [-getElem?_pos, hx, hw, h1, h]
      exact fin_own (by simp; rfl) (by simp [hg]) (by simp) (by simp [hg])
    · obtain ⟨k', n', s', l'⟩ := w
      simp [-getElem?_pos, hx, hw, h1, h]
      refine ⟨fun j y hj hy => ?_, Wk.to1 rfl (by simp) (by simp) (by simp) (by simp) (by omega)⟩
      rcases Nat.lt_or_ge j i with h6 | h6
      · exact hv j y h6 hy
      · obtain rfl : j = i := by omega
        rw [hx] at hy; simp at hy; subst hy; exact h
  · have h2 : ¬ i < ps.length := by omega
    have hg := getT_none fun j q hq => hv j q (by have := (List.getElem?_eq_some_iff.1 hq).1; omega) hq
    simp [h2]
    exact fin_own (by simp; rfl) (by simp [zT, hg]) (by simp) (by simp [zT, hg])
theorem propsAt_v (g : Gr) (hf : g.nodes.length ≤ 2 ^ 20 ∧ g.edges.length ≤ 2 ^ 20) (v : Vl) : Vw Try.prog 132 [.agg (sG.I g), .agg (sV.I v)] [] (match propsOf g v with | some ps => .pim [.imm (ps.map sP.I)] | none => .np) := by
  have ok1 : okCall Try.prog 76 = true := by kernel_rfl
  have ok2 : okCall Try.prog 78 = true := by kernel_rfl
  obtain ⟨l, es, nn, ne⟩ := g
  obtain ⟨k, n, s, vl⟩ := v
  obtain ⟨hf1, hf2⟩ := hf
  simp only at hf1 hf2
  have hr : ∀ o : Option (List Pr), (match o with | some ps => T.pim [.imm (ps.map sP.I)] | none => .np).names = [] := fun o => by cases o <;> simp
  refine see_impl_propsAt 0 (by simp) (by simp) (by rw [hr]; simp) (by simp) (by simp) ?_
  by_cases k5 : k = 5
  · subst k5
    simp [pc_impl_propsAt]
    refine hookH_view (nodesOf_v (.imm (l.map sN.I)) (.imm (es.map sE.I)) rfl rfl nn ne) rfl ok1 (by simp) ?_
    simp
    refine callK_val (by simp) (placeN_c l (by omega) n) rfl ?_
    rcases find_pos (f := Nd.id) (id := n) (l := l) with ⟨i, ⟨a, b, c⟩, h1, h2, h3⟩ | ⟨h1, h3⟩
    · have hp : propsOf ⟨l, es, nn, ne⟩ (.mk 5 n s vl) = some c := by unfold propsOf; simp only [Vl.k, Vl.n, if_true]; exact congrArg (Option.map Nd.props) h3
      simp [-getElem?_pos, h1, h2]
      exact fin_view rfl (by simp [hp]) (by simp)
    · have hp : propsOf ⟨l, es, nn, ne⟩ (.mk 5 n s vl) = none := by unfold propsOf; simp only [Vl.k, Vl.n, if_true]; exact congrArg (Option.map Nd.props) h3
      simp [-getElem?_pos, h1]
      exact fin_view rfl (by simp [hp]) (by simp)
  · by_cases k6 : k = 6
    · subst k6
      simp [pc_impl_propsAt]
      refine hookH_view (edgesIn_v (.imm (l.map sN.I)) (.imm (es.map sE.I)) rfl rfl nn ne) rfl ok2 (by simp) ?_
      simp
      refine callK_val (by simp) (placeE_c es (by omega) n) rfl ?_
      rcases find_pos (f := Eg.id) (id := n) (l := es) with ⟨i, ⟨a, b, c, d, e⟩, h1, h2, h3⟩ | ⟨h1, h3⟩
      · have hp : propsOf ⟨l, es, nn, ne⟩ (.mk 6 n s vl) = some e := by unfold propsOf; simp only [Vl.k, Vl.n, if_true, show ¬ (6 : Int) = 5 by omega, if_false]; exact congrArg (Option.map Eg.props) h3
        simp [-getElem?_pos, h1, h2]
        exact fin_view rfl (by simp [hp]) (by simp)
      · have hp : propsOf ⟨l, es, nn, ne⟩ (.mk 6 n s vl) = none := by unfold propsOf; simp only [Vl.k, Vl.n, if_true, show ¬ (6 : Int) = 5 by omega, if_false]; exact congrArg (Option.map Eg.props) h3
        simp [-getElem?_pos, h1]
        exact fin_view rfl (by simp [hp]) (by simp)
    · have hp : propsOf ⟨l, es, nn, ne⟩ (.mk k n s vl) = none := by simp only [propsOf, Vl.k, Vl.n, k5, k6, if_false]
      simp [pc_impl_propsAt, k5, k6]
      exact fin_view rfl (by simp [hp]) (by simp)
def propT (g : Gr) (v : Vl) (nm : Tx) : T := match propsOf g v with | some ps => getT ps nm | none => .agg zT
theorem propIn_c (g : Gr) (hc : g.cnt ≤ 2 ^ 20) (v : Vl) (nm : Tx) : Rv Try.prog 99 [.agg (sG.I g), .agg (sV.I v), .s nm] (propT g v nm) := by
  have ok1 : okCall Try.prog 132 = true := by kernel_rfl
  have hl : g.nodes.length ≤ 2 ^ 20 ∧ g.edges.length ≤ 2 ^ 20 := by unfold Gr.cnt cl at hc; omega
  have hp := propsAt_v g hl v
  have hcp := fun ps h => cnt_props (g := g) (v := v) (ps := ps) h
  obtain ⟨l, es, nn, ne⟩ := g
  obtain ⟨k, n, s, vl⟩ := v
  refine via_impl_propIn (by simp) ?_
  simp [pc_impl_propIn]
  simp at hp
  refine hookH_view hp rfl ok1 (by simp) ?_
  cases hq : propsOf ⟨l, es, nn, ne⟩ (.mk k n s vl) with
  | none =>
    simp
    exact fin_own (by simp; rfl) (by simp [propT, hq, zT]) (by simp) (by simp [propT, hq, zT])
  | some ps =>
    have := hcp ps hq
    unfold cl at this
    simp
    refine callK_imm (by simp) (propOf_c ps (by omega) nm) ?_
    rcases getT_cases ps nm with ⟨⟨nm', k', n', s', l'⟩, _, h1, _⟩ | ⟨h1, _⟩
    · simp [h1]
      exact fin_own (by simp; rfl) (by simp [propT, hq, h1]) (by simp) (by simp [propT, hq, h1])
    · simp [h1, zT]
      exact fin_own (by simp; rfl) (by simp [propT, hq, h1, zT]) (by simp) (by simp [propT, hq, h1, zT])
/-- What is under a name in an ok graph is ok, fits, and is not too large. -/
theorem getP_ok {ps : List Pr} (h : PropsOk ps) (nm : Tx) : vOk (getP ps nm) = true := by
  rcases getT_cases ps nm with ⟨p, hp, _, h1⟩ | ⟨_, h1⟩
  · rw [h1]
    obtain ⟨j, hj⟩ := List.mem_iff_getElem?.1 hp
    have := (h.1 j p hj).1
    simp only [prOk, sto, Bool.and_eq_true] at this
    exact this.2.1
  · rw [h1]; rfl
theorem props_ok {g : Gr} (h : GOk g) {v : Vl} {ps : List Pr} (hp : propsOf g v = some ps) : PropsOk ps := by
  unfold propsOf at hp
  split at hp
  · obtain ⟨x, h1, rfl⟩ := Option.map_eq_some_iff.1 hp
    exact (h.nok x (List.mem_of_find?_eq_some h1)).2
  · split at hp
    · obtain ⟨x, h1, rfl⟩ := Option.map_eq_some_iff.1 hp
      exact (h.eok x (List.mem_of_find?_eq_some h1)).2.1
    · exact absurd hp (by simp)
theorem props_fit {g : Gr} (h : g.fit) {v : Vl} {ps : List Pr} (hp : propsOf g v = some ps) : ∀ p ∈ ps, p.fit := by
  unfold propsOf at hp
  split at hp
  · obtain ⟨x, h1, rfl⟩ := Option.map_eq_some_iff.1 hp
    exact (h.2.1 x (List.mem_of_find?_eq_some h1)).2.2.2.2
  · split at hp
    · obtain ⟨x, h1, rfl⟩ := Option.map_eq_some_iff.1 hp
      exact (h.2.2.2.1 x (List.mem_of_find?_eq_some h1)).2.2.2.2.2
    · exact absurd hp (by simp)
open Classical in
theorem PropGet_c (g : Gr) (hf : g.fit) (hc : g.cnt ≤ 2 ^ 20) (v : Vl) (hv : v.fit) (nm : Tx) : Rv Try.prog 31 [.agg (sG.I g), .agg (sV.I v), .s nm] (.agg (sV.O (if GOk g ∧ vOk v = true then propGet g v nm else zV))) := by
  have h1 := GraphOk_c g hf
  have h2 := ValueOk_c v hv
  have h3 := propIn_c g hc v nm
  have zf : zV.fit := by simp [zV, Vl.fit_mk, i64, ln]
  have zc : zV.cnt ≤ 2 ^ 20 := by simp [zV, Vl.cnt_mk, cl, sums]
  have zo : vOk zV = true := rfl
  have hz := cloneValue_c zV zf zc zo
  have hps := fun ps h => And.intro (cnt_props (g := g) (v := v) (ps := ps) h) (props_fit hf (v := v) (ps := ps) h)
  have hpk := fun (hg : GOk g) ps h => props_ok hg (v := v) (ps := ps) h
  obtain ⟨l, es, nn, ne⟩ := g
  obtain ⟨k, n, s, vl⟩ := v
  refine via_impl_PropGet (by simp) ?_
  simp [pc_impl_PropGet]
  refine callK_val (by simp) h1 rfl ?_
  by_cases g1 : GOk ⟨l, es, nn, ne⟩
  · simp [g1]
    refine callK_val (by simp) h2 rfl ?_
    by_cases g2 : vOk (.mk k n s vl) = true
    · simp [g1, g2]
      refine callK_imm (by simp) h3 ?_
      cases hq : propsOf ⟨l, es, nn, ne⟩ (.mk k n s vl) with
      | none =>
        have e1 : propT ⟨l, es, nn, ne⟩ (.mk k n s vl) nm = .agg zT := by simp [propT, hq]
        have e2 : propGet ⟨l, es, nn, ne⟩ (.mk k n s vl) nm = zV := by simp [propGet, hq]
        simp [g1, g2, e1, zT]
        refine callK_val (xs := [.agg (sV.I zV)]) (by simp [zV]) hz (by simp [T.noImm]) ?_
        simp [zV]
        exact fin_own (by simp; rfl) (by simp [g1, g2, e2, zV]) (by simp) (by simp [g1, g2, e2, zV])
      | some ps =>
        obtain ⟨hcp, hfp⟩ := hps ps hq
        have hok := getP_ok (hpk g1 ps hq) nm
        have e2 : propGet ⟨l, es, nn, ne⟩ (.mk k n s vl) nm = getP ps nm := by simp [propGet, hq]
        rcases getT_cases ps nm with ⟨⟨nm', w⟩, hm, t1, t2⟩ | ⟨t1, t2⟩
        · have e1 : propT ⟨l, es, nn, ne⟩ (.mk k n s vl) nm = .agg (sV.I w) := by simp [propT, hq, t1]
          have hcw : w.cnt ≤ 2 ^ 20 := by
            have := sums_mem (c := Pr.cnt) hm
            unfold cl at hcp
            simp only [Pr.cnt] at this; omega
          have hcl := cloneValue_c w (hfp _ hm).2 hcw (by rw [t2] at hok; exact hok)
          obtain ⟨k', n', s', l'⟩ := w
          simp [g1, g2, e1]
          refine callK_val (by simp) hcl (by simp [T.noImm]) ?_
          simp
          exact fin_own (by simp; rfl) (by simp [g1, g2, e2, t2]) (by simp) (by simp [g1, g2, e2, t2])
        · have e1 : propT ⟨l, es, nn, ne⟩ (.mk k n s vl) nm = .agg zT := by simp [propT, hq, t1]
          simp [g1, g2, e1, zT]
          refine callK_val (xs := [.agg (sV.I zV)]) (by simp [zV]) hz (by simp [T.noImm]) ?_
          simp [zV]
          exact fin_own (by simp; rfl) (by simp [g1, g2, e2, t2, zV]) (by simp) (by simp [g1, g2, e2, t2, zV])
    · simp [g1, g2]
      exact fin_own (by simp; rfl) (by simp [zV, g1, g2]) (by simp) (by simp [zV, g1, g2])
  · simp [g1]
    exact fin_own (by simp; rfl) (by simp [zV, g1]) (by simp) (by simp [zV, g1])
end Go.Proofs.Ytcchmhmbjhgfdaa.V
