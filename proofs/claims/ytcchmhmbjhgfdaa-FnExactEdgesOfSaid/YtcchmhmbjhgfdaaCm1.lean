/- Edges beside their nodes. -/
import Derived.Test.YtcchmhmbjhgfdaaVD
import Derived.Test.YtcchmhmbjhgfdaaCg10
namespace Go.Proofs.Ytcchmhmbjhgfdaa.V
open Go
set_option linter.unusedVariables false
set_option linter.unusedSimpArgs false
set_option maxHeartbeats 16000000
abbrev Grp := List (Int × List Int)
def gFind (k : Int) (m : Grp) : Option Nat := m.findIdx? (fun p => decide (p.1 = k))
def gGet (k : Int) (m : Grp) : List Int := match gFind k m with | some j => (match m[j]? with | some p => p.2 | none => []) | none => []
def gAdd (m : Grp) (k i : Int) : Grp := match gFind k m with | some j => m.set j (k, gGet k m ++ [i]) | none => m ++ [(k, [i])]
def gT (m : Grp) : List (T × T) := m.map fun p => (.i .i64 p.1, .own 1 (p.2.map sI.O))
theorem mfind_gT (k : Int) (m : Grp) : mfind (.i .i64 k) (gT m) = gFind k m := by
  induction m with
  | nil => rfl
  | cons p m ih =>
    simp only [gT, List.map_cons] at ih ⊢
    simp only [mfind, ih, gFind, List.findIdx?_cons, tkEq]
theorem gT_key (m : Grp) : ∀ p ∈ gT m, p.1.isKey (.int .i64) = true := by
  intro p hp
  obtain ⟨q, _, rfl⟩ := List.mem_map.1 hp
  rfl
theorem gFind_some {k : Int} {m : Grp} {j : Nat} (h : gFind k m = some j) : ∃ l, m[j]? = some (k, l) ∧ gGet k m = l := by
  have h1 := List.findIdx?_eq_some_iff_getElem.1 h
  obtain ⟨h1, h2, _⟩ := h1
  have hk : (m[j]).1 = k := by simpa using h2
  refine ⟨(m[j]).2, by rw [List.getElem?_eq_getElem h1, ← hk], ?_⟩
  unfold gGet
  simp only [h, List.getElem?_eq_getElem h1]
def gStep (m : Grp) (p : Eg × Nat) : Grp := if p.1.to ≠ p.1.frm then gAdd (gAdd m p.1.frm p.2) p.1.to p.2 else gAdd m p.1.frm p.2
def bsd (es : List Eg) : Grp := es.zipIdx.foldl gStep []
theorem bsd_succ {es : List Eg} {i : Nat} {x : Eg} (h : es[i]? = some x) : bsd (es.take (i + 1)) = gStep (bsd (es.take i)) (x, i) := by
  have hi : i < es.length := (List.getElem?_eq_some_iff.1 h).1
  unfold bsd
  rw [List.take_add_one, h]
  simp only [Option.toList_some, List.zipIdx_append, List.foldl_append, List.zipIdx_cons, List.zipIdx_nil, List.foldl_cons, List.foldl_nil, List.length_take, Nat.zero_add]
  rw [Nat.min_eq_left (by omega)]
theorem mfind_app {k : T} : ∀ (es : List (T × T)) (v : T), tkEq k k = true → mfind k es = none → mfind k (es ++ [(k, v)]) = some es.length
  | [], v, hk, h => by simp [mfind, hk]
  | p :: es, v, hk, h => by
    simp only [mfind] at h
    split at h
    · exact absurd h (by simp)
    · rename_i hp
      have h2 : mfind k es = none := by simpa using h
      simp [mfind, hp, mfind_app es v hk h2]
theorem mfind_set {k c v : T} : ∀ (es : List (T × T)) (j : Nat) (x : T), mfind k es = some j → es[j]? = some (c, x) → mfind k (es.set j (c, v)) = some j
  | [], j, x, h, hx => by simp [mfind] at h
  | p :: es, j, x, h, hx => by
    simp only [mfind] at h
    split at h
    · rename_i hp
      simp only [Option.some.injEq] at h
      subst h
      simp only [List.getElem?_cons_zero, Option.some.injEq] at hx
      subst hx
      simp [mfind, hp]
    · rename_i hp
      obtain ⟨j', h1, rfl⟩ := Option.map_eq_some_iff.1 h
      simp only [List.getElem?_cons_succ] at hx
      simp [mfind, hp, mfind_set es j' x h1 hx]
theorem gT_none {m : Grp} {k i : Int} (h : gFind k m = none) : gT (gAdd m k i) = gT m ++ [(.i .i64 k, .own 1 [[.i .i64 i]])] := by
  simp [gAdd, h, gT]
theorem gT_some {m : Grp} {k i : Int} {j : Nat} {l : List Int} (h : gFind k m = some j) (hl : gGet k m = l) : gT (gAdd m k i) = (gT m).set j (.i .i64 k, .own 1 (l.map sI.O ++ [[.i .i64 i]])) := by
  simp [gAdd, h, gT, hl, List.map_set]
theorem gT_at {m : Grp} {k : Int} {j : Nat} {l : List Int} (h : m[j]? = some (k, l)) : (gT m)[j]? = some (.i .i64 k, .own 1 (l.map sI.O)) := by
  simp [gT, h]
/-- How long a row is at most. -/
def gLen (m : Grp) (n : Nat) : Prop := ∀ p ∈ m, p.2.length ≤ n
theorem gAdd_len {m : Grp} {n : Nat} (h : gLen m n) (k i : Int) : gLen (gAdd m k i) (n + 1) := by
  intro p hp
  unfold gAdd at hp
  cases hf : gFind k m with
  | none =>
    rw [hf] at hp
    simp only [List.mem_append, List.mem_singleton] at hp
    rcases hp with hp | rfl
    · have := h p hp; omega
    · simp
  | some j =>
    rw [hf] at hp
    obtain ⟨l, h1, h2⟩ := gFind_some hf
    have h3 := h _ (List.mem_of_getElem? h1)
    rcases List.mem_or_eq_of_mem_set hp with hp | rfl
    · have := h p hp; omega
    · simp only [h2, List.length_append, List.length_singleton] at h3 ⊢; omega
theorem gT_clean (m : Grp) : ((gT m).map Prod.snd).all T.clean = true := by
  simp only [gT, List.map_map, List.all_map, List.all_eq_true]
  intro p _
  rfl
@[simp] theorem gT_names (m : Grp) : namess ((gT m).map Prod.snd) = [] := namess_clean (gT_clean m)
theorem gT_pl (m : Grp) : ((gT m).map Prod.snd).all T.pl = true := by
  simp only [gT, List.map_map, List.all_map, List.all_eq_true]
  intro p _
  exact sI.crO p.2
theorem gT_set_names {m : Grp} {j : Nat} {rows : List (List T)} : namess (((gT m).map Prod.snd).set j (.own 1 rows)) = [] := by
  refine namess_clean ?_
  rw [List.all_eq_true]
  intro x hx
  rcases List.mem_or_eq_of_mem_set hx with h | rfl
  · exact List.all_eq_true.1 (gT_clean m) x h
  · rfl
theorem gT_set_key (m : Grp) {j : Nat} {k : Int} {v : T} : ∀ p ∈ (gT m).set j (.i .i64 k, v), p.1.isKey (.int .i64) = true := by
  intro p hp
  rcases List.mem_or_eq_of_mem_set hp with h | rfl
  · exact gT_key m p h
  · rfl
theorem besideOf_m (g : Gr) (hl : g.edges.length ≤ 2 ^ 20) : Rm Try.prog 87 [.agg (sG.I g)] (gT (bsd g.edges)) := by
  have um : Try.prog.underlying 121 = some (.map 3 35) := by kernel_rfl
  have uk : Try.prog.underlying 3 = some (.int .i64) := by kernel_rfl
  have uz : (Try.prog.info? 35).bind (·.zero) = some (.slice none 0 0) := by kernel_rfl
  obtain ⟨l, es, nn, ne⟩ := g
  simp only at hl
  refine Rm.of Try.func87 ok_impl_besideOf rfl rfl (by simp) ?_
  simp [pc_impl_besideOf]
  refine hookH_of [] hook_makeMap (by simp) ?_
  simp
  refine W_forS (fun i => ⟨[(10, .i .i64 i), (9, .i .i64 es.length), (8, .imm (es.map sE.I)), (3, .mp 1)], [(1, .mb (gT (bsd (es.take i))))], 20, 0⟩) es.length (fun i => gLen (bsd (es.take i)) (2 * i)) (Wk.less rfl (by simp) (by simp) (by simp [bsd, gT])) (by simp [bsd, gLen]) ?_
  intro i hi hg
  rcases Nat.lt_or_ge i es.length with h1 | h1
  · obtain ⟨x, hx⟩ : ∃ x, es[i]? = some x := ⟨_, List.getElem?_eq_getElem h1⟩
    have hw : IntKind.i64.wrap ((i : Int) + 1) = (i : Int) + 1 := wrap1 (by omega)
    rw [bsd_succ hx]
    generalize bsd (es.take i) = m at *
    obtain ⟨a, b, c, d, ps⟩ := x
    refine WW_seq (WW_of_W ?_)
    simp [h1]
    refine WW_seq (WW_of_W ?_)
    simp
    refine WW_seq (WW_block ?_)
    refine WW_seq (WW_of_W ?_)
    simp [-getElem?_pos, hx, h1]
    refine WW_wk (s' := ⟨[(10, .i .i64 i), (9, .i .i64 es.length), (8, .imm (es.map sE.I)), (3, .mp 1), (4, .i .i64 i), (5, .ptr 20 0 0)], [(1, .mb (gT m)), (20, .arr 5 [[.i .i64 a, .s b, .i .i64 c, .i .i64 d, .imm (ps.map sP.I)]])], 40, 0⟩) (Wk.less rfl (by simp) (by simp) (by simp)) ?_
    have hg1 := gAdd_len hg c i
    refine WW_seq (thn_cut (s2 := ⟨[(10, .i .i64 i), (9, .i .i64 es.length), (8, .imm (es.map sE.I)), (3, .mp 1), (4, .i .i64 i), (5, .ptr 20 0 0)], [(1, .mb (gT (gAdd m c i))), (20, .arr 5 [[.i .i64 a, .s b, .i .i64 c, .i .i64 d, .imm (ps.map sP.I)]])], 40, 0⟩) ?_ ?_)
    · cases hf : gFind c m with
      | none =>
        have hmf : mfind (.i .i64 c) (gT m) = none := by rw [mfind_gT, hf]
        have hma := mfind_app (gT m) (.ref 112 0 1) (k := .i .i64 c) (by simp [tkEq]) hmf
        simp
        refine hookH_of [(1, .mb (gT m))] (hook_lookup0 um uk rfl (gT_key m) uz rfl hmf) (by simp) ?_
        simp [lkV]
        repeat refine need_mk (by decide +kernel) ?_
        refine hookH_of [(1, .mb (gT m))] (hook_update um uk rfl (gT_key m)) (by simp) ?_
        rw [hmf]
        simp
        repeat refine need_mk (by decide +kernel) ?_
        exact Wk.trans (Wk.absorbM (b := 1) (n := 112) (j := (gT m).length) (c := .i .i64 c) (m := 1) (sz := 1) (rows := [[.i .i64 i]]) rfl rfl (by simp) (by simp) rfl (by simp)) (Wk.to rfl (by simp) (by simp) (by simp [Blk.names, gT_none hf]) (by simp))
      | some j =>
        obtain ⟨q, hj, hq⟩ := gFind_some hf
        have hmf : mfind (.i .i64 c) (gT m) = some j := by rw [mfind_gT, hf]
        have hat := gT_at hj
        have hb : (q.length + 1) * 8 ≤ 35184372088832 := by
          have := hg _ (List.mem_of_getElem? hj)
          simp only at this; omega
        simp
        refine hookH_of [(1, .mb (gT m))] (hook_lookup2 um uk rfl (gT_key m) hmf hat) (by simp) ?_
        simp [lkV, hb]
        repeat refine need_mk (by decide +kernel) ?_
        refine hookH_of [(1, .mb ((gT m).set j (.i .i64 c, .ref 88 0 q.length)))] (hook_update um uk rfl (gT_set_key m)) (by simp) ?_
        rw [mfind_set _ _ _ hmf hat]
        simp
        repeat refine need_mk (by decide +kernel) ?_
        have hjl : j < (gT m).length := (List.getElem?_eq_some_iff.1 hat).1
        exact Wk.trans (Wk.absorbM (b := 1) (n := 112) (j := j) (c := .i .i64 c) (m := q.length + 1) (sz := 1) (rows := q.map sI.O ++ [[.i .i64 i]]) rfl rfl (by simp) (by rw [List.getElem?_set_self (by simpa using hjl)]) (by simp) (by simp)) (Wk.to rfl (by simp) (by simp) (by simp [Blk.names, gT_some hf hq, gT_set_names]) (by simp))
    · refine WW_seq (WW_of_W ?_)
      by_cases hd : d = c
      · have hst : gStep m (⟨a, b, c, d, ps⟩, i) = gAdd m c i := by simp [gStep, hd]
        rw [hst]
        simp [hd]
        refine WW_of_W ?_
        simp
        refine WW_of_W ?_
        simp [hw, h1]
        refine ⟨fun p hp => by have := hg1 p hp; omega, ?_⟩
        exact Wk.to rfl (by simp) (by simp) (by simp [Blk.names]) (by simp)
      · have hst : gStep m (⟨a, b, c, d, ps⟩, i) = gAdd (gAdd m c i) d i := by simp [gStep, hd]
        rw [hst]
        generalize gAdd m c i = m1 at *
        have hg2 := gAdd_len hg1 d i
        simp [hd]
        refine WW_wk (s' := ⟨[(10, .i .i64 i), (9, .i .i64 es.length), (8, .imm (es.map sE.I)), (3, .mp 1), (4, .i .i64 i), (5, .ptr 20 0 0), (29, .b true)], [(1, .mb (gT m1)), (20, .arr 5 [[.i .i64 a, .s b, .i .i64 c, .i .i64 d, .imm (ps.map sP.I)]])], 40, 0⟩) (Wk.to rfl (by simp) (by simp) (by simp [Blk.names]) (by simp)) (WW_of_W ?_)
        cases hf : gFind d m1 with
        | none =>
          have hmf : mfind (.i .i64 d) (gT m1) = none := by rw [mfind_gT, hf]
          have hma := mfind_app (gT m1) (.ref 112 0 1) (k := .i .i64 d) (by simp [tkEq]) hmf
          simp
          refine hookH_of [(1, .mb (gT m1))] (hook_lookup0 um uk rfl (gT_key m1) uz rfl hmf) (by simp) ?_
          simp [lkV]
          repeat refine need_mk (by decide +kernel) ?_
          refine hookH_of [(1, .mb (gT m1))] (hook_update um uk rfl (gT_key m1)) (by simp) ?_
          rw [hmf]
          simp
          repeat refine need_mk (by decide +kernel) ?_
          refine WW_wk (s' := ⟨[(10, .i .i64 i), (9, .i .i64 es.length), (8, .imm (es.map sE.I)), (3, .mp 1)], [(1, .mb (gT (gAdd m1 d i)))], 40, 0⟩) (Wk.trans (Wk.absorbM (b := 1) (n := 112) (j := (gT m1).length) (c := .i .i64 d) (m := 1) (sz := 1) (rows := [[.i .i64 i]]) rfl rfl (by simp) (by simp) rfl (by simp)) (Wk.to rfl (by simp) (by simp) (by simp [Blk.names, gT_none hf]) (by simp))) (WW_of_W ?_)
          simp [hw, h1]
          refine ⟨fun p hp => by have := hg2 p hp; omega, ?_⟩
          exact Wk.to rfl (by simp) (by simp) (by simp [Blk.names]) (by simp)
        | some j =>
          obtain ⟨q, hj, hq⟩ := gFind_some hf
          have hmf : mfind (.i .i64 d) (gT m1) = some j := by rw [mfind_gT, hf]
          have hat := gT_at hj
          have hb : (q.length + 1) * 8 ≤ 35184372088832 := by
            have := hg1 _ (List.mem_of_getElem? hj)
            simp only at this; omega
          simp
          refine hookH_of [(1, .mb (gT m1))] (hook_lookup2 um uk rfl (gT_key m1) hmf hat) (by simp) ?_
          simp [lkV, hb]
          repeat refine need_mk (by decide +kernel) ?_
          refine hookH_of [(1, .mb ((gT m1).set j (.i .i64 d, .ref 88 0 q.length)))] (hook_update um uk rfl (gT_set_key m1)) (by simp) ?_
          rw [mfind_set _ _ _ hmf hat]
          simp
          repeat refine need_mk (by decide +kernel) ?_
          have hjl : j < (gT m1).length := (List.getElem?_eq_some_iff.1 hat).1
          refine WW_wk (s' := ⟨[(10, .i .i64 i), (9, .i .i64 es.length), (8, .imm (es.map sE.I)), (3, .mp 1)], [(1, .mb (gT (gAdd m1 d i)))], 40, 0⟩) (Wk.trans (Wk.absorbM (b := 1) (n := 112) (j := j) (c := .i .i64 d) (m := q.length + 1) (sz := 1) (rows := q.map sI.O ++ [[.i .i64 i]]) rfl rfl (by simp) (by rw [List.getElem?_set_self (by simpa using hjl)]) (by simp) (by simp)) (Wk.to rfl (by simp) (by simp) (by simp [Blk.names, gT_some hf hq, gT_set_names]) (by simp))) (WW_of_W ?_)
          simp [hw, h1]
          refine ⟨fun p hp => by have := hg2 p hp; omega, ?_⟩
          exact Wk.to rfl (by simp) (by simp) (by simp [Blk.names]) (by simp)
  · have h2 : ¬ i < es.length := by omega
    refine WW_of_W ?_
    simp [h2]
    rw [List.take_of_length_le h1]
    exact fin_map 1 (Wk.refl _) rfl rfl (gT_pl _)
end Go.Proofs.Ytcchmhmbjhgfdaa.V
