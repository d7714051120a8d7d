/- Graphs: sizes, copies, equality. -/
import Derived.Test.YtcchmhmbjhgfdaaPGVal
import Derived.Test.YtcchmhmbjhgfdaaPDec
import Derived.Test.YtcchmhmbjhgfdaaGx6
import Derived.Test.YtcchmhmbjhgfdaaGx8
import Derived.Test.YtcchmhmbjhgfdaaGx10
import Derived.Test.YtcchmhmbjhgfdaaGx5
namespace Go.Proofs.Ytcchmhmbjhgfdaa.Pur
open Go.RowKit Go.Proofs.Ytcchmhmbjhgfdaa.G Go.Proofs.YtcchmhmbjhgfdaaW.PrintWords Go.Proofs.YtcchmhmbjhgfdaaW.PrintLast
set_option linter.unusedVariables false
set_option linter.unusedSimpArgs false

abbrev LP := S136
abbrev LN := S170
abbrev LG := S173
theorem rd_lp {l : List LP} {i : Nat} (h : i < l.length) : rd_T136 l (i : Int) = l[i] := getD_nat h
theorem rd_ln {l : List LN} {i : Nat} (h : i < l.length) : rd_T170 l (i : Int) = l[i] := getD_nat h
theorem rd_lg {l : List LG} {i : Nat} (h : i < l.length) : rd_T173 l (i : Int) = l[i] := getD_nat h
def SmLP (x : LP) : Prop := SmT x.f0 ∧ SmL x.f1
def SmLN (x : LN) : Prop := Few SmT x.f1 ∧ Few SmLP x.f2
def SmLG (x : LG) : Prop := SmT x.f1 ∧ Few SmLP x.f4
def cP (x : LP) : IP := ⟨x.f0, cV x.f1⟩
def cN (x : LN) : IN := ⟨x.f0, x.f1, x.f2.map cP⟩
def cG (x : LG) : IG := ⟨x.f0, x.f1, x.f2, x.f3, x.f4.map cP⟩
theorem SmP.of {x : LP} (h : SmLP x) : SmP (cP x) := ⟨h.1, Sm.of h.2⟩
theorem SmN.of {x : LN} (h : SmLN x) : SmN (cN x) := ⟨h.1, h.2.map fun _ => SmP.of⟩
theorem SmG.of {x : LG} (h : SmLG x) : SmG (cG x) := ⟨h.1, h.2.map fun _ => SmP.of⟩

theorem szStringS_ev {l : List ByteArray} (hl : l.length ≤ maxLen) (hs : ∀ x ∈ l, x.size ≤ maxLen) {left : Int} (h0 : 0 ≤ left) (h1 : left ≤ 1048576) : Sz (fun k => laws_szStringS.f k l left) left (Few SmT l) := by
  unfold laws_szStringS.f
  refine Sz.list (L := fun k left i => laws_szStringS.l0 k l left i) (step := fun _ x left => some (wrap64 (left - (x.size : Int)))) (P := SmT) h0 h1 hl
    (fun k left i h => by simp only [laws_szStringS.l0]; rw [if_neg (by omega)])
    (fun k left i h hb => by simp only [laws_szStringS.l0]; rw [if_pos (by omega), if_pos (by omega), rd_st h, wrap64_succ h hb]; rfl)
    (fun x hx left h0 h1 => ?_)
  have := hs x hx
  unfold maxLen at this
  exact ⟨_, Ev.some _, by rw [wrap64_id (by omega) (by omega)]; omega, fun h => by rw [wrap64_id (by omega) (by omega)] at h; show x.size ≤ _; omega⟩
theorem szProp_ev {x : LP} (ok : Ok136 x) {left : Int} (h0 : 0 ≤ left) (h1 : left ≤ 1048576) : Sz (fun k => laws_szProp.f k x.f0 x.f1.f0 x.f1.f1 x.f1.f2 x.f1.f3 left) left (SmLP x) := by
  obtain ⟨k0, k1⟩ := ok.all
  unfold laws_szProp.f
  exact Sz.less (g := fun k t => (laws_szValue.f k x.f1.f0 x.f1.f1 x.f1.f2 x.f1.f3 t).bind fun t107 => if t107 < 0 then some (-1) else some t107) h0 h1 k0 (fun h => Sz.last h (szValue_ev k1 _ h (by omega)))
theorem szPropS_ev {l : List LP} (hl : l.length ≤ maxLen) (ok : ∀ x ∈ l, Ok136 x) {left : Int} (h0 : 0 ≤ left) (h1 : left ≤ 1048576) : Sz (fun k => laws_szPropS.f k l left) left (Few SmLP l) := by
  unfold laws_szPropS.f
  exact Sz.list (L := fun k left i => laws_szPropS.l0 k l left i) (step := fun k x left => laws_szProp.f k x.f0 x.f1.f0 x.f1.f1 x.f1.f2 x.f1.f3 left) (P := SmLP) h0 h1 hl
    (fun k left i h => by simp only [laws_szPropS.l0]; rw [if_neg (by omega)])
    (fun k left i h hb => by simp only [laws_szPropS.l0]; rw [if_pos (by omega), if_pos (by omega), rd_lp h, wrap64_succ h hb])
    (by intro x hx left h0 h1; exact szProp_ev (ok x hx) h0 h1)
theorem szNode_ev {x : LN} (ok : Ok170 x) {left : Int} (h0 : 0 ≤ left) (h1 : left ≤ 1048576) : Sz (fun k => laws_szNode.f k x.f0 x.f1 x.f2 left) left (SmLN x) := by
  obtain ⟨k0, k1, k2, k3, k4⟩ := ok.all
  unfold laws_szNode.f
  exact Sz.bind (g := fun k t => (laws_szPropS.f k x.f2 t).bind fun t112 => if t112 < 0 then some (-1) else some t112) h0 (szStringS_ev k1 k2 h0 h1) (fun r h h' => Sz.last h (szPropS_ev k3 k4 h (by omega)))
theorem szNodeS_ev {l : List LN} (hl : l.length ≤ maxLen) (ok : ∀ x ∈ l, Ok170 x) {left : Int} (h0 : 0 ≤ left) (h1 : left ≤ 1048576) : Sz (fun k => laws_szNodeS.f k l left) left (Few SmLN l) := by
  unfold laws_szNodeS.f
  exact Sz.list (L := fun k left i => laws_szNodeS.l0 k l left i) (step := fun k x left => laws_szNode.f k x.f0 x.f1 x.f2 left) (P := SmLN) h0 h1 hl
    (fun k left i h => by simp only [laws_szNodeS.l0]; rw [if_neg (by omega)])
    (fun k left i h hb => by simp only [laws_szNodeS.l0]; rw [if_pos (by omega), if_pos (by omega), rd_ln h, wrap64_succ h hb])
    (by intro x hx left h0 h1; exact szNode_ev (ok x hx) h0 h1)
theorem szEdge_ev {x : LG} (ok : Ok173 x) {left : Int} (h0 : 0 ≤ left) (h1 : left ≤ 1048576) : Sz (fun k => laws_szEdge.f k x.f0 x.f1 x.f2 x.f3 x.f4 left) left (SmLG x) := by
  obtain ⟨k0, k1, k2, k3, k4, k5⟩ := ok.all
  unfold laws_szEdge.f
  exact Sz.less (g := fun k t => (laws_szPropS.f k x.f4 t).bind fun t116 => if t116 < 0 then some (-1) else some t116) h0 h1 k1 (fun h => Sz.last h (szPropS_ev k4 k5 h (by omega)))
theorem szEdgeS_ev {l : List LG} (hl : l.length ≤ maxLen) (ok : ∀ x ∈ l, Ok173 x) {left : Int} (h0 : 0 ≤ left) (h1 : left ≤ 1048576) : Sz (fun k => laws_szEdgeS.f k l left) left (Few SmLG l) := by
  unfold laws_szEdgeS.f
  exact Sz.list (L := fun k left i => laws_szEdgeS.l0 k l left i) (step := fun k x left => laws_szEdge.f k x.f0 x.f1 x.f2 x.f3 x.f4 left) (P := SmLG) h0 h1 hl
    (fun k left i h => by simp only [laws_szEdgeS.l0]; rw [if_neg (by omega)])
    (fun k left i h hb => by simp only [laws_szEdgeS.l0]; rw [if_pos (by omega), if_pos (by omega), rd_lg h, wrap64_succ h hb])
    (by intro x hx left h0 h1; exact szEdge_ev (ok x hx) h0 h1)
theorem szGraph_ev {x : S25} (ok : Ok25 x) {left : Int} (h0 : 0 ≤ left) (h1 : left ≤ 1048576) : Sz (fun k => laws_szGraph.f k x.f0 x.f1 x.f2 x.f3 left) left (Few SmLN x.f0 ∧ Few SmLG x.f1) := by
  obtain ⟨k0, k1, k2, k3, k4, k5⟩ := ok.all
  unfold laws_szGraph.f
  exact Sz.bind (g := fun k t => (laws_szEdgeS.f k x.f1 t).bind fun t121 => if t121 < 0 then some (-1) else some t121) h0 (szNodeS_ev k0 k1 h0 h1) (fun r h h' => Sz.last h (szEdgeS_ev k2 k3 h (by omega)))

theorem toStringS_ev {l : List ByteArray} (hl : l.length ≤ 1048576) : Ev (fun k => laws_toStringS.f k l) l := by
  unfold laws_toStringS.f
  simp only [if_pos (show 0 ≤ (l.length : Int) by omega), Int.toNat_natCast, if_pos (show l.length ≤ 17592186044416 by omega)]
  have h := toLoop l (fun k out i => laws_toStringS.l0 k l out i) (fun _ x => some x) id
    (fun k out i h => by simp only [laws_toStringS.l0]; rw [if_neg (by omega)])
    (fun k out i h ho => by simp only [laws_toStringS.l0]; rw [if_pos (by omega), if_pos (by omega), if_pos (by omega), rd_st h, wrap64_succ h (by omega)]; rfl)
    (fun x hx => Ev.some _) l.length 0 (List.replicate l.length (⟨#[]⟩ : ByteArray)) (by omega) (by simp)
  simpa using h
theorem toProp_ev {x : LP} (h : SmLP x) : Ev (fun k => laws_toProp.f k x.f0 x.f1.f0 x.f1.f1 x.f1.f2 x.f1.f3) ((cP x).f0, (cP x).f1.f0, (cP x).f1.f1, (cP x).f1.f2, (cP x).f1.f3) := by
  unfold laws_toProp.f
  exact Ev.bind (toValue_ev h.2) (Ev.some _)
theorem toPropS_ev {l : List LP} (h : Few SmLP l) : Ev (fun k => laws_toPropS.f k l) (l.map cP) := by
  have hl := h.1
  unfold laws_toPropS.f
  simp only [if_pos (show 0 ≤ (l.length : Int) by omega), Int.toNat_natCast, if_pos (show l.length ≤ 3909374676536 by omega)]
  have h := toLoop l (fun k out i => laws_toPropS.l0 k l out i) (fun k x => (laws_toProp.f k x.f0 x.f1.f0 x.f1.f1 x.f1.f2 x.f1.f3).bind fun b => some (⟨b.1, ⟨b.2.1, b.2.2.1, b.2.2.2.1, b.2.2.2.2⟩⟩ : IP)) cP
    (fun k out i h => by simp only [laws_toPropS.l0]; rw [if_neg (by omega)])
    (fun k out i h ho => by
      simp only [laws_toPropS.l0]
      rw [if_pos (by omega), if_pos (by omega), rd_lp h, wrap64_succ h (by omega)]
      cases laws_toProp.f k l[i].f0 l[i].f1.f0 l[i].f1.f1 l[i].f1.f2 l[i].f1.f3 with
      | none => rfl
      | some b => simp only [Option.bind_some]; rw [if_pos (by omega)]; rfl)
    (fun x hx => Ev.bind (toProp_ev (h.2 x hx)) (Ev.eq (Ev.some _) (by generalize cP x = y; obtain ⟨a, ⟨b, c, d, e⟩⟩ := y; rfl))) l.length 0 (List.replicate l.length z140) (by omega) (by simp)
  simpa using h
theorem toNode_ev {x : LN} (h : SmLN x) : Ev (fun k => laws_toNode.f k x.f0 x.f1 x.f2) ((cN x).f0, (cN x).f1, (cN x).f2) := by
  unfold laws_toNode.f
  exact Ev.bind (toStringS_ev h.1.1) (Ev.bind (toPropS_ev h.2) (Ev.some _))
theorem toNodeS_ev {l : List LN} (h : Few SmLN l) : Ev (fun k => laws_toNodeS.f k l) (l.map cN) := by
  have hl := h.1
  unfold laws_toNodeS.f
  simp only [if_pos (show 0 ≤ (l.length : Int) by omega), Int.toNat_natCast, if_pos (show l.length ≤ 5026338869833 by omega)]
  have h := toLoop l (fun k out i => laws_toNodeS.l0 k l out i) (fun k x => (laws_toNode.f k x.f0 x.f1 x.f2).bind fun b => some (⟨b.1, b.2.1, b.2.2⟩ : IN)) cN
    (fun k out i h => by simp only [laws_toNodeS.l0]; rw [if_neg (by omega)])
    (fun k out i h ho => by
      simp only [laws_toNodeS.l0]
      rw [if_pos (by omega), if_pos (by omega), rd_ln h, wrap64_succ h (by omega)]
      cases laws_toNode.f k l[i].f0 l[i].f1 l[i].f2 with
      | none => rfl
      | some b => simp only [Option.bind_some]; rw [if_pos (by omega)]; rfl)
    (fun x hx => Ev.bind (toNode_ev (h.2 x hx)) (Ev.eq (Ev.some _) (by generalize cN x = y; cases y; rfl))) l.length 0 (List.replicate l.length z99) (by omega) (by simp)
  simpa using h
theorem toEdge_ev {x : LG} (h : SmLG x) : Ev (fun k => laws_toEdge.f k x.f0 x.f1 x.f2 x.f3 x.f4) ((cG x).f0, (cG x).f1, (cG x).f2, (cG x).f3, (cG x).f4) := by
  unfold laws_toEdge.f
  exact Ev.bind (toPropS_ev h.2) (Ev.some _)
theorem toEdgeS_ev {l : List LG} (h : Few SmLG l) : Ev (fun k => laws_toEdgeS.f k l) (l.map cG) := by
  have hl := h.1
  unfold laws_toEdgeS.f
  simp only [if_pos (show 0 ≤ (l.length : Int) by omega), Int.toNat_natCast]
  refine Ev.pos (by omega) ?_
  have h := toLoop l (fun k out i => laws_toEdgeS.l0 k l out i) (fun k x => (laws_toEdge.f k x.f0 x.f1 x.f2 x.f3 x.f4).bind fun b => some (⟨b.1, b.2.1, b.2.2.1, b.2.2.2.1, b.2.2.2.2⟩ : IG)) cG
    (fun k out i h => by simp only [laws_toEdgeS.l0]; rw [if_neg (by omega)])
    (fun k out i h ho => by
      simp only [laws_toEdgeS.l0]
      rw [if_pos (by omega), if_pos (by omega), rd_lg h, wrap64_succ h (by omega)]
      cases laws_toEdge.f k l[i].f0 l[i].f1 l[i].f2 l[i].f3 l[i].f4 with
      | none => rfl
      | some b => simp only [Option.bind_some]; rw [if_pos (by omega)]; rfl)
    (fun x hx => Ev.bind (toEdge_ev (h.2 x hx)) (Ev.eq (Ev.some _) (by generalize cG x = y; cases y; rfl))) l.length 0 (List.replicate l.length z104) (by omega) (by simp)
  simpa using h
theorem toGraph_ev {ns : List LN} {es : List LG} {a b : Int} (hn : Few SmLN ns) (he : Few SmLG es) : Ev (fun k => laws_toGraph.f k ns es a b) (ns.map cN, es.map cG, a, b) := by
  unfold laws_toGraph.f
  exact Ev.bind (toNodeS_ev hn) (Ev.bind (toEdgeS_ev he) (Ev.some _))

theorem eqStringS_refl {l : List ByteArray} (hl : l.length ≤ 1048576) : Ev (fun k => laws_eqStringS.f k l l) true := by
  unfold laws_eqStringS.f
  simp only [if_true]
  exact eqLoop l (fun k i => laws_eqStringS.l0 k l l i) (fun _ x y => some (decide (x.toList = y.toList)))
    (fun k i h => by simp only [laws_eqStringS.l0]; rw [if_neg (by omega)])
    (fun k i h => by simp only [laws_eqStringS.l0, if_true]; rw [if_pos (by omega), if_pos (by omega), if_pos (by omega), wrap64_succ h (by omega)]; simp)
    (fun x hx => Ev.eq (Ev.some _) (by simp)) l.length 0 (by omega)
theorem eqProp_refl {x : IP} (h : SmP x) : Ev (fun k => laws_eqProp.f k x.f0 x.f1.f0 x.f1.f1 x.f1.f2 x.f1.f3 x.f0 x.f1.f0 x.f1.f1 x.f1.f2 x.f1.f3) true := by
  unfold laws_eqProp.f
  simp only [if_true]
  exact Ev.bind (eqValue_refl h.2) (Ev.pos rfl (Ev.some _))
theorem eqPropS_refl {l : List IP} (h : Few SmP l) : Ev (fun k => laws_eqPropS.f k l l) true := by
  have hl := h.1
  unfold laws_eqPropS.f
  simp only [if_true]
  exact eqLoop l (fun k i => laws_eqPropS.l0 k l l i) (fun k x y => laws_eqProp.f k x.f0 x.f1.f0 x.f1.f1 x.f1.f2 x.f1.f3 y.f0 y.f1.f0 y.f1.f1 y.f1.f2 y.f1.f3)
    (fun k i h => by simp only [laws_eqPropS.l0]; rw [if_neg (by omega)])
    (fun k i h => by simp only [laws_eqPropS.l0]; rw [if_pos (by omega), if_pos (by omega), if_pos (by omega), rd_ip h, wrap64_succ h (by omega)])
    (fun x hx => eqProp_refl (h.2 x hx)) l.length 0 (by omega)
theorem eqNode_refl {x : IN} (h : SmN x) : Ev (fun k => laws_eqNode.f k x.f0 x.f1 x.f2 x.f0 x.f1 x.f2) true := by
  unfold laws_eqNode.f
  simp only [if_true]
  exact Ev.bind (eqStringS_refl h.1.1) (Ev.pos rfl (Ev.bind (eqPropS_refl h.2) (Ev.pos rfl (Ev.some _))))
theorem eqNodeS_refl {l : List IN} (h : Few SmN l) : Ev (fun k => laws_eqNodeS.f k l l) true := by
  have hl := h.1
  unfold laws_eqNodeS.f
  simp only [if_true]
  exact eqLoop l (fun k i => laws_eqNodeS.l0 k l l i) (fun k x y => laws_eqNode.f k x.f0 x.f1 x.f2 y.f0 y.f1 y.f2)
    (fun k i h => by simp only [laws_eqNodeS.l0]; rw [if_neg (by omega)])
    (fun k i h => by simp only [laws_eqNodeS.l0]; rw [if_pos (by omega), if_pos (by omega), if_pos (by omega), rd_in h, wrap64_succ h (by omega)])
    (fun x hx => eqNode_refl (h.2 x hx)) l.length 0 (by omega)
theorem eqEdge_refl {x : IG} (h : SmG x) : Ev (fun k => laws_eqEdge.f k x.f0 x.f1 x.f2 x.f3 x.f4 x.f0 x.f1 x.f2 x.f3 x.f4) true := by
  unfold laws_eqEdge.f
  simp only [if_true]
  exact Ev.bind (eqPropS_refl h.2) (Ev.pos rfl (Ev.some _))
theorem eqEdgeS_refl {l : List IG} (h : Few SmG l) : Ev (fun k => laws_eqEdgeS.f k l l) true := by
  have hl := h.1
  unfold laws_eqEdgeS.f
  simp only [if_true]
  exact eqLoop l (fun k i => laws_eqEdgeS.l0 k l l i) (fun k x y => laws_eqEdge.f k x.f0 x.f1 x.f2 x.f3 x.f4 y.f0 y.f1 y.f2 y.f3 y.f4)
    (fun k i h => by simp only [laws_eqEdgeS.l0]; rw [if_neg (by omega)])
    (fun k i h => by simp only [laws_eqEdgeS.l0]; rw [if_pos (by omega), if_pos (by omega), if_pos (by omega), rd_ig h, wrap64_succ h (by omega)])
    (fun x hx => eqEdge_refl (h.2 x hx)) l.length 0 (by omega)
theorem eqGraph_refl {ns : List IN} {es : List IG} {a b : Int} (hn : Few SmN ns) (he : Few SmG es) : Ev (fun k => laws_eqGraph.f k ns es a b ns es a b) true := by
  unfold laws_eqGraph.f
  simp only [if_true]
  exact Ev.bind (eqNodeS_refl hn) (Ev.pos rfl (Ev.bind (eqEdgeS_refl he) (Ev.pos rfl (Ev.some _))))
end Go.Proofs.Ytcchmhmbjhgfdaa.Pur
