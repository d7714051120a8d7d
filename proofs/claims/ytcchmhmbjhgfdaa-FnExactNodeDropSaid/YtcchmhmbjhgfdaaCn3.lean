/- Nodes dropped, by the program. -/
import Derived.Test.YtcchmhmbjhgfdaaCn2
namespace Go.Proofs.Ytcchmhmbjhgfdaa.V
open Go
set_option linter.unusedVariables false
set_option linter.unusedSimpArgs false
set_option maxHeartbeats 16000000
theorem Asc.lt {α : Type} {f : α → Int} {e : Int} {l : List α} (h : Asc f e l) : ∀ (d i : Nat) (x y : α), l[i]? = some x → l[i + d + 1]? = some y → f x < f y
  | 0, i, x, y, hx, hy => by
    have := (h (i + 1) y hy).2.2 x (by omega) (by simpa using hx)
    exact this
  | d + 1, i, x, y, hx, hy => by
    have hlt : i + (d + 1) + 1 < l.length := (List.getElem?_eq_some_iff.1 hy).1
    obtain ⟨z, hz⟩ : ∃ z, l[i + d + 1]? = some z := ⟨_, List.getElem?_eq_getElem (by omega)⟩
    have h1 := Asc.lt h d i x z hx hz
    have h2 := (h (i + (d + 1) + 1) y hy).2.2 z (by omega) (by rw [show i + (d + 1) + 1 - 1 = i + d + 1 by omega]; exact hz)
    omega
theorem Asc.uniq {α : Type} {f : α → Int} {e : Int} {l : List α} (h : Asc f e l) {x y : α} (hx : x ∈ l) (hy : y ∈ l) (he : f x = f y) : x = y := by
  obtain ⟨i, hi⟩ := List.mem_iff_getElem?.1 hx
  obtain ⟨j, hj⟩ := List.mem_iff_getElem?.1 hy
  rcases Nat.lt_trichotomy i j with hlt | rfl | hlt
  · have := h.lt (j - i - 1) i x y hi (by rw [show i + (j - i - 1) + 1 = j by omega]; exact hj)
    omega
  · rw [hi] at hj; exact Option.some.inj hj
  · have := h.lt (i - j - 1) j y x hj (by rw [show j + (i - j - 1) + 1 = i by omega]; exact hi)
    omega
theorem goes0 (id : Int) (e : Eg) : goes id 0 [] e = atN id e := by simp [goes, atN]
theorem drop_edges {g : Gr} (hg : GOk g) (id : Int) : g.edges.filter (fun e => !(idsOf id 0 [] g.edges).contains e.id) = g.edges.filter (fun e => !atN id e) := by
  refine List.filter_congr ?_
  intro e he
  congr 1
  by_cases h : atN id e = true
  · rw [h, List.contains_iff_mem]
    exact List.mem_map.2 ⟨e, List.mem_filter.2 ⟨he, by rw [goes0]; exact h⟩, rfl⟩
  · have h' : atN id e = false := by simpa using h
    rw [h']
    cases hc : (idsOf id 0 [] g.edges).contains e.id with
    | false => rfl
    | true =>
      obtain ⟨e', h1, h2⟩ := List.mem_map.1 (List.contains_iff_mem.1 hc)
      obtain ⟨h3, h4⟩ := List.mem_filter.1 h1
      have := hg.ea.uniq h3 he h2
      subst this
      rw [goes0] at h4
      exact absurd h4 h
theorem idsOf_len (id : Int) (es : List Eg) : (idsOf id 0 [] es).length = (gGet id (bsd es)).length := by
  rw [← idsOf_pl, gGet_bsd, List.length_map, List.length_map]
  congr 1
  rw [List.filter_eq_self]
  intro p hp
  rw [goes0]
  exact (List.mem_filter.1 hp).2
theorem NodeDrop_c (g : Gr) (hf : g.fit) (hc : g.cnt ≤ 2 ^ 20) (id : Int) (det : Bool) : Rv Try.prog 53 [.agg (sG.I g), .i .i64 id, .b det] (.tup [.agg (sG.O (nodeDrop g id det).1), .b (nodeDrop g id det).2]) := by
  have um : Try.prog.underlying 121 = some (.map 3 35) := by kernel_rfl
  have uk : Try.prog.underlying 3 = some (.int .i64) := by kernel_rfl
  have uz : (Try.prog.info? 35).bind (·.zero) = some (.slice none 0 0) := by kernel_rfl
  have ok1 : okCall Try.prog 87 = true := by kernel_rfl
  have ok2 : okCall Try.prog 76 = true := by kernel_rfl
  have ok3 : okCall Try.prog 78 = true := by kernel_rfl
  have ok4 : okCall Try.prog 121 = true := by kernel_rfl
  have ok5 : okCall Try.prog 124 = true := by kernel_rfl
  have ok6 : okCall Try.prog 125 = true := by kernel_rfl
  have ok7 : okCall Try.prog 126 = true := by kernel_rfl
  have h1 := GraphOk_c g hf
  have h2 := cloneOk hf hc
  have hle : g.edges.length ≤ 2 ^ 20 := by unfold Gr.cnt cl at hc; omega
  have hln : g.nodes.length ≤ 2 ^ 20 := by unfold Gr.cnt cl at hc; omega
  have h3 := placeN_c g.nodes (by omega) id
  have h4 := besideOf_m g hle
  by_cases g1 : GOk g
  · replace h2 := h2 g1
    by_cases g2 : posOf Nd.id id g.nodes < 0
    · have e1 : nodeDrop g id det = (g, false) := by simp [nodeDrop, g1, g2]
      rw [e1]
      obtain ⟨l, es, nn, ne⟩ := g
      simp only at g2
      refine via_impl_NodeDrop (by simp) ?_
      simp [pc_impl_NodeDrop]
      refine callK_val (by simp) h1 rfl ?_
      simp [g1]
      refine callK_val (by simp) h2 (by simp [T.noImm]) ?_
      simp
      refine hookH_view (nodesOf_v (.imm (l.map sN.I)) (.imm (es.map sE.I)) rfl rfl nn ne) rfl ok2 (by simp) ?_
      simp
      repeat refine need_mk (by decide +kernel) ?_
      refine callK_val (by simp) h3 rfl ?_
      simp [g2]
      repeat refine need_mk (by decide +kernel) ?_
      exact fin_own (by simp; rfl) (by simp) (by simp) (by simp)
    · have e1 : nodeDrop g id det = dropN g id det := by simp [nodeDrop, g1, g2]
      have e2 := drop_edges g1 id
      have e3 := idsOf_len id g.edges
      rw [e1]
      refine Ret.ofS Try.func53 ok_impl_NodeDrop rfl rfl (by simp) ?_
      obtain ⟨l, es, nn, ne⟩ := g
      simp only at g2 e2 e3 hle hln h4
      refine WW_seq (WW_of_W ?_)
      simp
      refine WW_seq (WW_of_W ?_)
      simp
      refine callK_val (by simp) h1 rfl ?_
      simp [g1]
      refine WW_seq (WW_of_W ?_)
      simp
      refine callK_val (by simp) h2 (by simp [T.noImm]) ?_
      simp
      refine WW_seq (WW_of_W ?_)
      simp
      refine hookH_view (nodesOf_v (.imm (l.map sN.I)) (.imm (es.map sE.I)) rfl rfl nn ne) rfl ok2 (by simp) ?_
      simp
      repeat refine need_mk (by decide +kernel) ?_
      refine callK_val (by simp) h3 rfl ?_
      simp [g2]
      repeat refine need_mk (by decide +kernel) ?_
      have hcN := sN.crO l
      have hcE := sE.crO es
      refine WW_wk (s' := ⟨[(3, .ptr 0 0 0), (4, .ptr 1 0 0), (6, .ptr 2 0 0), (8, .ptr 5 0 0), (2, .b det)], [(0, .arr 4 [[.imm (l.map sN.I), .imm (es.map sE.I), .i .i64 nn, .i .i64 ne]]), (1, .arr 1 [[.i .i64 id]]), (2, .arr 4 [[.nl, .nl, .i .i64 0, .i .i64 0]]), (3, .arr 3 (l.map sN.O)), (4, .arr 5 (es.map sE.O)), (5, .arr 4 [[.ref 3 0 l.length, .ref 4 0 es.length, .i .i64 nn, .i .i64 ne]])], 50, 0⟩) (Wk.to rfl (by simp) (by simp) (by simp [Blk.names, namesr_clean hcN, namesr_clean hcE]) (by simp)) ?_
      clear h1 h2 h3
      by_cases c1 : idsOf id 0 [] es ≠ [] ∧ det = false
      · have e4 : dropN ⟨l, es, nn, ne⟩ id det = (⟨l, es, nn, ne⟩, false) := by unfold dropN; rw [if_pos c1]
        rw [e4]
        obtain ⟨c1, rfl⟩ := c1
        have c2 : 0 < (idsOf id 0 [] es).length := by cases hq : idsOf id 0 [] es with | nil => exact absurd hq c1 | cons a b => simp
        refine WW_seq (WW_of_W ?_)
        simp
        refine hookH_of [] (hook_callM rfl ok1 (by simp) h4) (by simp) ?_
        simp
        cases hfk : gFind id (bsd es) with
        | none =>
          have hq0 : gGet id (bsd es) = [] := by unfold gGet; rw [hfk]
          rw [hq0] at e3
          simp only [List.length_nil] at e3
          omega
        | some j =>
          obtain ⟨q, hj, hq⟩ := gFind_some hfk
          rw [hq] at e3
          have hmf : mfind (.i .i64 id) (gT (bsd es)) = some j := by rw [mfind_gT, hfk]
          refine hookH_of [(_, .mb (gT (bsd es)))] (hook_lookup2 um uk rfl (gT_key _) hmf (gT_at hj)) (by simp) ?_
          simp [lkV]
          repeat refine need_mk (by decide +kernel) ?_
          rw [e3] at c2
          simp [c2]
          exact fin_own (by simp; rfl) (by simp) (by simp) (by simp)

      · have e4 : dropN ⟨l, es, nn, ne⟩ id det = (gDropN ⟨l, es, nn, ne⟩ id, true) := by unfold dropN; rw [if_neg c1]
        rw [e4]
        have e5 : (decide (0 < (idsOf id 0 [] es).length) && !det) = false := by
          cases det with
          | true => simp
          | false =>
            have : idsOf id 0 [] es = [] := by
              cases hq : idsOf id 0 [] es with
              | nil => rfl
              | cons a b => exact absurd ⟨by rw [hq]; simp, rfl⟩ c1
            simp [this]
        refine WW_seq (thn_cut (s2 := ⟨[(3, .ptr 0 0 0), (4, .ptr 1 0 0), (6, .ptr 2 0 0), (8, .ptr 5 0 0)], [(0, .arr 4 [[.imm (l.map sN.I), .imm (es.map sE.I), .i .i64 nn, .i .i64 ne]]), (1, .arr 1 [[.i .i64 id]]), (2, .arr 4 [[.nl, .nl, .i .i64 0, .i .i64 0]]), (3, .arr 3 (l.map sN.O)), (4, .arr 5 (es.map sE.O)), (5, .arr 4 [[.ref 3 0 l.length, .ref 4 0 es.length, .i .i64 nn, .i .i64 ne]])], 90, 0⟩) ?_ ?_)
        · simp
          refine hookH_of [] (hook_callM rfl ok1 (by simp) h4) (by simp) ?_
          simp
          cases hfk : gFind id (bsd es) with
          | none =>
            have hmf : mfind (.i .i64 id) (gT (bsd es)) = none := by rw [mfind_gT, hfk]
            refine hookH_of [(_, .mb (gT (bsd es)))] (hook_lookup0 um uk rfl (gT_key _) uz rfl hmf) (by simp) ?_
            simp [lkV]
            repeat refine need_mk (by decide +kernel) ?_
            exact Wk.to rfl (by simp) (by simp) (by simp [Blk.names, namesr_clean hcN, namesr_clean hcE]) (by simp)
          | some j =>
            obtain ⟨q, hj, hq⟩ := gFind_some hfk
            rw [hq] at e3
            have hmf : mfind (.i .i64 id) (gT (bsd es)) = some j := by rw [mfind_gT, hfk]
            refine hookH_of [(_, .mb (gT (bsd es)))] (hook_lookup2 um uk rfl (gT_key _) hmf (gT_at hj)) (by simp) ?_
            simp [lkV]
            repeat refine need_mk (by decide +kernel) ?_
            rw [e3] at e5
            rcases Nat.lt_or_ge 0 q.length with c2 | c2
            · have hdt : det = true := by simpa [c2] using e5
              simp [c2, hdt]
              exact Wk.to rfl (by simp) (by simp) (by simp [Blk.names, namesr_clean hcN, namesr_clean hcE]) (by simp)
            · have c3 : ¬ 0 < q.length := by omega
              simp [c3]
              exact Wk.to rfl (by simp) (by simp) (by simp [Blk.names, namesr_clean hcN, namesr_clean hcE]) (by simp)

        · refine WW_wk (Wk.share (j := 4) (t := .ptr 1 0 0) (x := .pim [.i .i64 id]) (by simp) (by simp)) ?_
          refine WW_of_W ?_
          simp
          refine hookH_view (nodesOf_v (.ref 3 0 l.length) (.ref 4 0 es.length) rfl rfl nn ne) rfl ok2 (by simp) ?_
          simp
          have hw := withoutN_c l hln (fun e => decide (e.id = id)) 125 [.pim [.i .i64 id]] (fun e _ => NodeDrop1_c e id) ok6 154 (by intro s j; simp) (by simp) (by intro k; simp)
          have hcd : cleanR (l.map dN) = true := by simp [cleanR, dN, T.clean]
          refine hookH_callX [0] [(3, .arr 3 (l.map sN.O))] hw (by simp [handedX, handedXA, handedXs, handedX1, T.closed]) (bk := [(3, .arr 3 (l.map dN))]) (by simp [backX, backXA, backXs, backX1, T.closed]) rfl ok5 (by simp) (by simp [named]) (by simp [named]) ?_
          simp [dX]
          refine hookH_view (edgesIn_v (.ref 90 0 (l.filter (fun e => !decide (e.id = id))).length) (.ref 4 0 es.length) rfl rfl nn ne) rfl ok3 (by simp) ?_
          simp
          have hw2 := without_c es hle (fun e => atN id e) 126 [.pim [.i .i64 id]] (fun e _ => NodeDrop2_c e id) ok7 155 (by intro s j; simp) (by simp) (by intro k; simp)
          have hcd2 : cleanR (es.map dE) = true := by simp [cleanR, dE, T.clean]
          refine hookH_callX [0] [(4, .arr 5 (es.map sE.O))] hw2 (by simp [handedX, handedXA, handedXs, handedX1, T.closed]) (bk := [(4, .arr 5 (es.map dE))]) (by simp [backX, backXA, backXs, backX1, T.closed]) rfl ok4 (by simp [dX]) (by simp [named]) (by simp [named]) ?_
          simp [dX]
          have e6 : es.filter (fun e => !decide (e.id ∈ idsOf id 0 [] es)) = es.filter (fun e => !atN id e) := by simpa using e2
          exact fin_own (by simp; rfl) (by simp [gDropN, e6]) (by simp) (by simp [gDropN, e6])
  · have e1 : nodeDrop g id det = (zG, false) := by simp [nodeDrop, g1]
    rw [e1]
    obtain ⟨l, es, nn, ne⟩ := g
    refine via_impl_NodeDrop (by simp) ?_
    simp [pc_impl_NodeDrop]
    refine callK_val (by simp) h1 rfl ?_
    simp [g1]
    exact fin_own (by simp; rfl) (by simp [zG]) (by simp) (by simp [zG])
end Go.Proofs.Ytcchmhmbjhgfdaa.V
