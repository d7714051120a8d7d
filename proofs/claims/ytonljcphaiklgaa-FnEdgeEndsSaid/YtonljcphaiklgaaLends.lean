/- The law EdgeEnds holds of trees. -/
import Derived.Test.YtonljcphaiklgaaG3
import Derived.Test.YtonljcphaiklgaaG2
import Derived.Test.YtonljcphaiklgaaVfFnEdgeEnds
namespace Go.Proofs.Ytonljcphaiklgaa.V
open Go
set_option linter.unusedVariables false
set_option linter.unusedSimpArgs false
set_option maxHeartbeats 4000000
theorem one_at {α : Type} {f : α → Int} {e id : Int} {l : List α} (h : Asc f e l) (hp : 0 ≤ posOf f id l) : sums (fun x => if f x = id then 1 else 0) l = 1 := by
  have h1 := filter_len h hp
  have h2 : ∀ l : List α, (l.filter (fun x => !decide (f x = id))).length + sums (fun x => if f x = id then 1 else 0) l = l.length := by
    intro l
    induction l with
    | nil => rfl
    | cons a l ih =>
      by_cases c : f a = id
      · simp [c, sums] at ih ⊢; omega
      · simp [c, sums] at ih ⊢; omega
  have := h2 l; omega
def ends (way : Int) (es : List Eg) (l : List Nd) : Nat := sums (fun n => (idsOf n.id way [] es).length) l
theorem sums_add {α : Type} (a b : α → Nat) (l : List α) : sums (fun x => a x + b x) l = sums a l + sums b l := by
  induction l with
  | nil => rfl
  | cons x l ih => simp only [sums, List.map_cons, List.sum_cons] at ih ⊢; omega
theorem sums_congr {α : Type} {a b : α → Nat} {l : List α} (h : ∀ x ∈ l, a x = b x) : sums a l = sums b l := by
  simp only [sums]; rw [List.map_congr_left h]
theorem ends_all {way : Int} {at_ : Eg → Int} (hat : ∀ id e, goes id way [] e = decide (at_ e = id)) {k : Int} {l : List Nd} (hl : Asc Nd.id k l) : ∀ (es : List Eg), (∀ e ∈ es, 0 ≤ posOf Nd.id (at_ e) l) → ends way es l = es.length
  | [], _ => by
    have : ∀ l : List Nd, ends way [] l = 0 := by
      intro l
      induction l with
      | nil => rfl
      | cons a l ih => simp only [ends, sums, List.map_cons, List.sum_cons, idsOf, List.filter_nil, List.map_nil, List.length_nil] at ih ⊢; omega
    simp [this]
  | e :: es, h => by
    have ih := ends_all hat hl es (fun x hx => h x (by simp [hx]))
    have h1 := one_at hl (h e (by simp))
    have h2 : ends way (e :: es) l = sums (fun n => (if n.id = at_ e then 1 else 0) + (idsOf n.id way [] es).length) l := by
      refine sums_congr (fun n _ => ?_)
      simp only [idsOf, List.length_map]
      by_cases c : at_ e = n.id
      · rw [List.filter_cons_of_pos (by rw [hat]; simpa using c), if_pos c.symm, List.length_cons]; omega
      · rw [List.filter_cons_of_neg (by rw [hat]; simpa using c), if_neg (fun h => c h.symm)]; omega
    rw [h2, sums_add]
    simp only [ends] at ih
    rw [ih, h1, List.length_cons]; omega
theorem ends_out {g : Gr} (h : GOk g) : ends 1 g.edges g.nodes = g.edges.length := ends_all (at_ := Eg.frm) (by intro id e; simp [goes]) h.na g.edges (fun e he => (h.eok e he).2.2.1)
theorem ends_in {g : Gr} (h : GOk g) : ends (-1) g.edges g.nodes = g.edges.length := ends_all (at_ := Eg.to) (by intro id e; simp [goes]) h.na g.edges (fun e he => (h.eok e he).2.2.2)
theorem edgesOf_ok {g : Gr} (h : GOk g) {id way : Int} {kd : Tx} (h1 : -1 ≤ way) (h2 : way ≤ 1) : edgesOf g id way kd = idsOf id way kd g.edges := by simp [edgesOf, h, h1, h2]
theorem idsOf_le (id way : Int) (kd : Tx) (es : List Eg) : (idsOf id way kd es).length ≤ es.length := by
  simp only [idsOf, List.length_map]; exact List.length_filter_le _ _
set_option maxRecDepth 20000 in
theorem FnEdgeEnds_t (code : List UInt8) (_ : code.length ≤ 9223372036854775807) : Rv Try.prog 3 [.imm (u8T code)] (.b true) := by
  have hl := u8T_len code
  by_cases c : 1048576 < (code.length : Int)
  · refine via_laws_FnEdgeEnds (by simp) ?_
    simp [pc_laws_FnEdgeEnds, hl, c]
    exact fin_val rfl (by simp) (by simp)
  obtain ⟨g, ⟨hf, hcnt⟩, hd⟩ := DrawGraphOk_d code
  have h1 := GraphOk_c g hf
  have h2 := specGraphOk_c g hf
  by_cases g1 : GOk g
  · have hE := fun id way => EdgesOf_c g hf (by omega) id way []
    have e1 := ends_out g1
    have e2 := ends_in g1
    have h10 := fun id => edgesOf_ok g1 (id := id) (way := 1) (kd := []) (by omega) (by omega)
    have h11 := fun id => edgesOf_ok g1 (id := id) (way := -1) (kd := []) (by omega) (by omega)
    have hel := g1.el
    have hnl := g1.nl
    obtain ⟨l, es, nn, ne⟩ := g
    simp only at e1 e2 h10 h11 hel hnl
    refine via_laws_FnEdgeEnds (by simp) ?_
    simp [pc_laws_FnEdgeEnds, hl, c]
    refine callK_ri (by simp) hd ?_
    simp
    refine callK_val (by simp) h1 rfl ?_
    simp [g1]
    refine callK_val (by simp) h2 rfl ?_
    simp [g1]
    have hle : ∀ way i, ends way es (l.take i) ≤ 12 * 16 := by
      intro way i
      have h1 := sums_bound (c := fun n : Nd => (idsOf n.id way [] es).length) (B := 16) (l := l.take i) (fun n _ => Nat.le_trans (idsOf_le _ _ _ _) hel)
      have h2 : (l.take i).length * 16 ≤ 12 * 16 := Nat.mul_le_mul_right _ (by rw [List.length_take]; omega)
      exact Nat.le_trans h1 h2
    refine W_for (fun i => ⟨[(7, .i .i64 i), (5, .i .i64 (ends 1 es (l.take i))), (6, .i .i64 (ends (-1) es (l.take i))), (3, .ptr 0 0 0)], [(0, .arr 4 [sG.I ⟨l, es, nn, ne⟩])], 20, 0⟩) l.length (fun i => True) (Wk.less rfl (by simp) (by simp [ends, sums]) (by simp)) trivial ?_
    intro i hi _
    rcases Nat.lt_or_ge i l.length with h3 | h3
    · obtain ⟨x, hx⟩ : ∃ x, l[i]? = some x := ⟨_, List.getElem?_eq_getElem h3⟩
      have hw : IntKind.i64.wrap ((i : Int) + 1) = (i : Int) + 1 := wrap1 (by omega)
      have s1 : ends 1 es (l.take (i + 1)) = ends 1 es (l.take i) + (idsOf x.id 1 [] es).length := sums_take hx
      have s2 : ends (-1) es (l.take (i + 1)) = ends (-1) es (l.take i) + (idsOf x.id (-1) [] es).length := sums_take hx
      have b1 := hle 1 (i + 1)
      have b2 := hle (-1) (i + 1)
      rw [s1] at b1 ⊢
      rw [s2] at b2 ⊢
      have hA := hE x.id 1
      have hB := hE x.id (-1)
      rw [h10] at hA
      rw [h11] at hB
      have w1 : IntKind.i64.wrap ((ends 1 es (l.take i) : Int) + ((idsOf x.id 1 [] es).length : Int)) = (ends 1 es (l.take i) : Int) + ((idsOf x.id 1 [] es).length : Int) := wrap64 (by omega) (by omega)
      have w2 : IntKind.i64.wrap ((ends (-1) es (l.take i) : Int) + ((idsOf x.id (-1) [] es).length : Int)) = (ends (-1) es (l.take i) : Int) + ((idsOf x.id (-1) [] es).length : Int) := wrap64 (by omega) (by omega)
      obtain ⟨id, lb, ps⟩ := x
      simp only at hA hB w1 w2
      simp [-getElem?_pos, hx, hw, h3]
      refine callK_val (by simp) hA (by simp [T.noImm]) ?_
      simp [-getElem?_pos, hx, hw, h3, w1]
      repeat with_reducible refine need_mk (by decide +kernel) ?_
      refine callK_val (by simp) hB (by simp [T.noImm]) ?_
      simp [-getElem?_pos, hx, hw, h3, w2]
      repeat with_reducible refine need_mk (by decide +kernel) ?_
      exact Wk.to rfl (by simp) (by simp [w1, w2]) (by simp [Blk.names]) (by simp)
    · obtain rfl : i = l.length := by omega
      simp [e1, e2]
      exact fin_val rfl (by simp) (by simp)
  · obtain ⟨l, es, nn, ne⟩ := g
    refine via_laws_FnEdgeEnds (by simp) ?_
    simp [pc_laws_FnEdgeEnds, hl, c]
    refine callK_ri (by simp) hd ?_
    simp
    refine callK_val (by simp) h1 rfl ?_
    simp [g1]
    refine callK_val (by simp) h2 rfl ?_
    simp [g1]
    refine callK_val (by simp) h2 rfl ?_
    simp [g1]
    exact fin_val rfl (by simp) (by simp)
end Go.Proofs.Ytonljcphaiklgaa.V
