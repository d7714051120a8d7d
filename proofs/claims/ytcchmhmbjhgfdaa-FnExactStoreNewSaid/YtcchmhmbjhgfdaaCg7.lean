/- Edges dropped. -/
import Derived.Test.YtcchmhmbjhgfdaaCg6
namespace Go.Proofs.Ytcchmhmbjhgfdaa.V
open Go
set_option linter.unusedVariables false
set_option linter.unusedSimpArgs false
set_option maxHeartbeats 16000000
/-- A contract of a call whose result is shared for good. -/
def Ri (P : Program) (f : Nat) (xs : List T) (v : T) : Prop := ∃ r, Rv P f xs r ∧ r.toI = v
theorem callK_ri {P : Program} {s : St} {i f : Nat} {args xs : List T} {v : T} {K : T → Δ → List Nat → Prop} (hx : handed s [] 0 args = some xs) (hr : Ri P f xs v) (hk : K v ((named [] false 0 args).map fun t => (t, none)) (named [] false 0 args)) : callK P s i [] .imm f args K := by
  obtain ⟨r, h1, rfl⟩ := hr
  exact callK_imm hx h1 hk
theorem fin_eaten {P : Program} {s : St} {rs : List ResultVar} {args : List T} {r : T} {xs : List T} (h1 : resK P s rs = some xs) (h2 : rfP s (res1 xs) r) (h4 : (rfN (res1 xs) r).Nodup) : fin P rs args r (args.map fun _ => .dead) .ret s :=
  fin_eat h1 (rfP_ok h2) h4
theorem fin_wk {P : Program} {s s' : St} {rs : List ResultVar} {args outs : List T} {r : T} {e : Exit} (hw : Wk s s') (h : fin P rs args r outs e s') : fin P rs args r outs e s := by
  obtain ⟨h1, s2, h2, h3⟩ := h
  exact ⟨h1, s2, Wk.trans hw h2, h3⟩
def zG : Gr := ⟨[], [], 0, 0⟩
def gDropE (g : Gr) (id : Int) : Gr := { g with edges := g.edges.filter (fun e => !decide (e.id = id)) }
open Classical in
noncomputable def edgeDrop (g : Gr) (id : Int) : Gr × Bool :=
  if GOk g then (if posOf Eg.id id g.edges < 0 then (g, false) else (gDropE g id, true)) else (zG, false)
theorem PropsOk.val {ps : List Pr} (h : PropsOk ps) : ∀ p ∈ ps, vOk p.val = true := by
  intro p hp
  obtain ⟨j, hj⟩ := List.mem_iff_getElem?.1 hp
  have := (h.1 j p hj).1
  simp only [prOk, sto, Bool.and_eq_true] at this
  exact this.2.1
theorem cloneOk {g : Gr} (hf : g.fit) (hc : g.cnt ≤ 2 ^ 20) (hg : GOk g) : Rv Try.prog 110 [.agg (sG.I g)] (.agg (sG.O g)) := by
  refine cloneGraph_c g hc ?_ ?_
  · intro x hx p hp
    have h1 := sums_mem (c := Nd.cnt) hx
    have h0 : x.cnt = x.labels.length + sums List.length x.labels + (x.props.length + sums Pr.cnt x.props) := rfl
    have h2 := sums_mem (c := Pr.cnt) hp
    have h3 : p.cnt = p.name.length + p.val.cnt := rfl
    unfold Gr.cnt cl at hc
    exact cloneValue_c p.val ((hf.2.1 x hx).2.2.2.2 p hp).2 (by omega) (PropsOk.val (hg.nok x hx).2 p hp)
  · intro x hx p hp
    have h1 := sums_mem (c := Eg.cnt) hx
    have h0 : x.cnt = x.kind.length + (x.props.length + sums Pr.cnt x.props) := rfl
    have h2 := sums_mem (c := Pr.cnt) hp
    have h3 : p.cnt = p.name.length + p.val.cnt := rfl
    unfold Gr.cnt cl at hc
    exact cloneValue_c p.val ((hf.2.2.2.1 x hx).2.2.2.2.2 p hp).2 (by omega) (PropsOk.val (hg.eok x hx).2.1 p hp)
theorem EdgeDrop_c (g : Gr) (hf : g.fit) (hc : g.cnt ≤ 2 ^ 20) (id : Int) : Rv Try.prog 51 [.agg (sG.I g), .i .i64 id] (.tup [.agg (sG.O (edgeDrop g id).1), .b (edgeDrop g id).2]) := by
  have ok1 : okCall Try.prog 78 = true := by kernel_rfl
  have ok2 : okCall Try.prog 121 = true := by kernel_rfl
  have ok3 : okCall Try.prog 122 = true := by kernel_rfl
  have h1 := GraphOk_c g hf
  have h2 := cloneOk hf hc
  have hle : g.edges.length ≤ 2 ^ 20 := by unfold Gr.cnt cl at hc; omega
  have h3 := placeE_c g.edges (by omega) id
  obtain ⟨l, es, nn, ne⟩ := g
  refine via_impl_EdgeDrop (by simp) ?_
  by_cases g1 : GOk ⟨l, es, nn, ne⟩
  · have h2 := h2 g1
    simp [pc_impl_EdgeDrop]
    refine callK_val (by simp) h1 rfl ?_
    simp [g1]
    refine callK_val (by simp) h2 (by simp [T.noImm]) ?_
    simp
    refine hookH_view (edgesIn_v (.imm (l.map sN.I)) (.imm (es.map sE.I)) rfl rfl nn ne) rfl ok1 (by simp) ?_
    simp
    repeat refine need_mk (by decide +kernel) ?_
    refine callK_val (by simp) h3 rfl ?_
    simp
    repeat refine need_mk (by decide +kernel) ?_
    by_cases g2 : posOf Eg.id id es < 0
    · simp [g2]
      exact fin_own (by simp; rfl) (by simp [edgeDrop, g1, g2]) (by simp) (by simp [edgeDrop, g1, g2])
    · simp [g2]
      refine hookH_view (edgesIn_v (.ref 3 0 l.length) (.ref 4 0 es.length) rfl rfl nn ne) rfl ok1 (by simp) ?_
      simp
      have hw := without_c es hle (fun e => decide (e.id = id)) 122 [.pim [.i .i64 id]] (fun e _ => EdgeDrop1_c e id) ok3 155 (by intro s j; simp) (by simp) (by intro k; simp)
      have hcd : cleanR (es.map dE) = true := by simp [cleanR, dE, T.clean]
      refine hookH_callX [0] [(4, .arr 5 (es.map sE.O)), (1, .arr 1 [[.i .i64 id]])] hw (by simp [handedX, handedXA, handedXs, handedX1, T.closed]) (bk := [(4, .arr 5 (es.map dE))]) (by simp [backX, backXA, backXs, backX1, T.closed]) rfl ok2 (by simp) (by simp [named]) (by simp [named]) ?_
      simp [dX]
      exact fin_own (by simp; rfl) (by simp [edgeDrop, g1, g2, gDropE]) (by simp) (by simp [edgeDrop, g1, g2, gDropE])
  · simp [pc_impl_EdgeDrop]
    refine callK_val (by simp) h1 rfl ?_
    simp [g1]
    exact fin_own (by simp; rfl) (by simp [edgeDrop, g1, zG]) (by simp) (by simp [edgeDrop, g1, zG])
theorem specEdgeDrop_c (g : Gr) (hf : g.fit) (hc : g.cnt ≤ 2 ^ 20) (id : Int) : Ri Try.prog 50 [.agg (sG.I g), .i .i64 id] (.tup [.agg (sG.I (edgeDrop g id).1), .b (edgeDrop g id).2]) := by
  have h1 := specGraphOk_c g hf
  have h2 := l2Copy_c g hc
  have hle : g.edges.length ≤ 2 ^ 20 := by unfold Gr.cnt cl at hc; omega
  have h3 := l2Edge_c g hf.2.2.1 id
  have h4 := l2DropEdge_c g hle id
  obtain ⟨l, es, nn, ne⟩ := g
  by_cases g1 : GOk ⟨l, es, nn, ne⟩
  · by_cases g2 : posOf Eg.id id es < 0
    · refine ⟨.tup [.agg (sG.O ⟨l, es, nn, ne⟩), .b false], ?_, by simp [edgeDrop, g1, g2]⟩
      refine via_spec_EdgeDrop (by simp) ?_
      simp [pc_spec_EdgeDrop]
      refine callK_val (by simp) h1 rfl ?_
      simp [g1]
      refine callK_val (by simp) h3 rfl ?_
      simp [g2]
      refine callK_val (by simp) h2 (by simp [T.noImm]) ?_
      simp
      exact fin_own (by simp; rfl) (by simp) (by simp) (by simp)
    · refine ⟨.tup [.agg (sG.I (gDropE ⟨l, es, nn, ne⟩ id)), .b true], ?_, by simp [edgeDrop, g1, g2]⟩
      refine via_spec_EdgeDrop (by simp) ?_
      simp [pc_spec_EdgeDrop]
      refine callK_val (by simp) h1 rfl ?_
      simp [g1]
      refine callK_val (by simp) h3 rfl ?_
      simp [g2]
      refine callK_val (by simp) h2 (by simp [T.noImm]) ?_
      simp
      refine callK_imm (by simp) h4 ?_
      simp
      exact fin_own (by simp; rfl) (by simp [gDropE]) (by simp) (by simp [gDropE])
  · refine ⟨.tup [.agg (sG.O zG), .b false], ?_, by simp [edgeDrop, g1, sG.toO]⟩
    refine via_spec_EdgeDrop (by simp) ?_
    simp [pc_spec_EdgeDrop]
    refine callK_val (by simp) h1 rfl ?_
    simp [g1]
    exact fin_own (by simp; rfl) (by simp [zG]) (by simp) (by simp [zG])
end Go.Proofs.Ytcchmhmbjhgfdaa.V
