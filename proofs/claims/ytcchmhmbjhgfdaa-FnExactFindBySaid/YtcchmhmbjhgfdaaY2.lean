import Derived.ChangeArms
import Derived.Deep.Slices
import Derived.Lib.SmallJoins
import Derived.Test.YtcchmhmbjhgfdaaY1
namespace Go.Proofs.Ytcchmhmbjhgfdaa.Opn
open Go.RowKit Go.ChangeShapes Go.WideShapes Go.Proofs.YtcchmhmbjhgfdaaW.PrintWords Go.Proofs.YtcchmhmbjhgfdaaW.PrintLast Go.Proofs.YtcchmhmbjhgfdaaW.PrintMore
set_option linter.unusedVariables false
def OpensAt (P : Program) (n : Nat) (t : TypeId) {α : Type} (d : Kd α) (q : α → Prop) : Prop :=
  ∀ (H : Type) (enc : TypeId × Value → H) (w : World) (cs : List Value) (x : DataW H × List MemPlace), DataW.trod enc P w 0 (fun _ => true) true n t cs = some x → ∃ y, d.K w y cs ∧ q y
section
variable {P : Program} {n : Nat} {t : TypeId}
theorem op_int {k : IntKind} (ht : P.underlying t = some (.int k)) : OpensAt P n t (Kd.int k) (fun y => (Lit.int k y).wf = true) := by
  intro H enc w cs x h
  obtain ⟨y, rfl, _, hw⟩ := DataW.trod_int ht h
  exact ⟨y, rfl, hw⟩
theorem op_string (ht : P.underlying t = some .string) : OpensAt P n t Kd.string (fun y => y.size ≤ maxLen) := by
  intro H enc w cs x h
  obtain ⟨y, rfl, _, hw⟩ := DataW.trod_string ht h
  exact ⟨y, rfl, hw⟩
theorem cells_cell {w : World} {a : Addr} {m : Nat} {cs : List Value} (h : w.cells? 0 a m = some cs) : cs.length = m ∧ ∀ i u, cs[i]? = some u → w.cell? (a.add i) = some u := by
  unfold World.cells? at h
  have hl := mapM_some_length h
  refine ⟨by simpa using hl, fun i u hi => ?_⟩
  have hi' : i < m := by
    have := (List.getElem?_eq_some_iff.1 hi).1
    simp at hl; omega
  have hg := mapM_some_get h i i (by simp [hi'])
  rw [hi] at hg
  simpa using hg
theorem op_slice {α : Type} {d : Kd α} {q : α → Prop} {e : TypeId} (ht : P.underlying t = some (.slice e)) (hc : P.cellsOf e = d.sz) (he : ∀ m, m < n → OpensAt P m e d q) :
    OpensAt P n t (Kd.slice e d) (fun l => l.length ≤ maxLen ∧ ∀ y ∈ l, q y) := by
  intro H enc w cs x h
  rcases DataW.trod_slice ht h with ⟨rfl, _⟩ | ⟨a, len, cap, elems, rest, m, rfl, rfl, rfl, hb, hl, hm, hlen, hel, hs1, hs2⟩
  · exact ⟨[], ⟨none, 0, rfl, Nat.le_refl _, rfl, by simp, fun h => absurd h (by simp)⟩, by simp, by simp⟩
  · have key : ∀ i, i < len → ∃ y cs', w.cells? 0 (a.add (i * P.cellsOf e)) (P.cellsOf e) = some cs' ∧ d.K w y cs' ∧ q y := by
      intro i hi
      have h1 := hel i hi
      rw [List.getElem?_eq_getElem (by omega)] at h1
      obtain ⟨cs', h2, h3⟩ := Option.bind_eq_some_iff.1 h1
      obtain ⟨y, hk, hq⟩ := he m (Nat.lt_succ_self m) H enc w cs' _ h3
      exact ⟨y, cs', h2, hk, hq⟩
    obtain ⟨ys, hys⟩ : ∃ ys : List α, ys.length = len ∧ ∀ i y, ys[i]? = some y → ∃ cs', w.cells? 0 (a.add (i * P.cellsOf e)) (P.cellsOf e) = some cs' ∧ d.K w y cs' ∧ q y := by
      clear hel hlen hl hm h hs1 hs2
      induction len with
      | zero => exact ⟨[], rfl, fun i y hi => by simp at hi⟩
      | succ k ih =>
        obtain ⟨ys, h1, h2⟩ := ih (fun i hi => key i (Nat.lt_succ_of_lt hi))
        obtain ⟨y, cs', h3, h4, h5⟩ := key k (Nat.lt_succ_self k)
        refine ⟨ys ++ [y], by simp [h1], fun i z hi => ?_⟩
        by_cases hk : i < k
        · rw [List.getElem?_append_left (by omega)] at hi
          exact h2 i z hi
        · rw [List.getElem?_append_right (by omega)] at hi
          have : i = k := by
            have := (List.getElem?_eq_some_iff.1 hi).1
            simp at this; omega
          subst this
          simp [h1] at hi
          subst hi
          exact ⟨cs', h3, h4, h5⟩
    obtain ⟨hyl, hy⟩ := hys
    subst hyl
    refine ⟨ys, ⟨some a, cap, rfl, hl, rfl, by unfold maxLen at hm; omega, fun _ => ⟨a, rfl, fun j p hp => ?_⟩⟩, Nat.le_trans hl hm, fun y hy' => ?_⟩
    · obtain ⟨cs', h2, hk, _⟩ := hy j p hp
      obtain ⟨h3, h4⟩ := cells_cell h2
      refine ⟨cs', by rw [h3, hc], hk, fun i u hi => ?_⟩
      have := h4 i u hi
      rw [Go.Deep.add_add, hc] at this
      exact this
    · obtain ⟨i, hi, rfl⟩ := List.getElem_of_mem hy'
      obtain ⟨_, _, _, hq⟩ := hy i _ (List.getElem?_eq_getElem hi)
      exact hq
theorem len_cons {l : List Value} {k : Nat} (h : l.length = k + 1) : ∃ c r, l = c :: r ∧ r.length = k := by
  cases l with
  | nil => simp at h
  | cons c r => exact ⟨c, r, rfl, by simpa using h⟩
theorem fields_of {fs : Array Field} {H : Type} {enc : TypeId × Value → H} {w : World} {cs : List Value} {x : DataW H × List MemPlace} (ht : P.underlying t = some (.struct fs)) (h : DataW.trod enc P w 0 (fun _ => true) true n t cs = some x) :
    ∃ m, n = m + 1 ∧ cs.length = P.cellsOf t ∧ ∀ (i : Nat) (f : Field), fs[i]? = some f → ∃ y, DataW.trod enc P w 0 (fun _ => true) true m f.type ((cs.drop f.offset).take (P.cellsOf f.type)) = some y := by
  obtain ⟨xs, m, rfl, _, hl, hn, hf⟩ := DataW.trod_struct ht h
  refine ⟨m, rfl, hl, fun i f hi => ?_⟩
  have h1 := hf i f hi
  have : i < xs.length := by
    rw [hn]
    exact (Array.getElem?_eq_some_iff.1 hi).1
  rw [List.getElem?_eq_getElem this] at h1
  exact ⟨_, h1⟩
end
end Go.Proofs.Ytcchmhmbjhgfdaa.Opn
namespace Go.Proofs.Ytcchmhmbjhgfdaa.Own
open Go.RowKit Go.Proofs.YtcchmhmbjhgfdaaW.PrintWords Go.Proofs.YtcchmhmbjhgfdaaW.PrintLast Go.Proofs.YtcchmhmbjhgfdaaW.PrintMore
set_option linter.unusedVariables false
theorem less_total (a b : List UInt8) : (!(Op.bytesLess a b || a == b)) = Op.bytesLess b a := by
  induction a generalizing b with
  | nil => cases b <;> simp [Op.bytesLess]
  | cons x xs ih =>
    cases b with
    | nil => simp [Op.bytesLess]
    | cons y ys =>
      have h := ih ys
      rcases Nat.lt_trichotomy x.toNat y.toNat with hlt | heq | hgt
      · have h1 : x < y := UInt8.lt_iff_toNat_lt.2 hlt
        have h2 : ¬ y < x := fun h => by have := UInt8.lt_iff_toNat_lt.1 h; omega
        have h3 : ¬ y = x := fun h => by subst h; omega
        simp [Op.bytesLess, h1, h2, h3]
      · have h1 : x = y := UInt8.toNat_inj.1 heq
        subst h1
        simpa [Op.bytesLess] using h
      · have h1 : y < x := UInt8.lt_iff_toNat_lt.2 hgt
        have h2 : ¬ x < y := fun h => by have := UInt8.lt_iff_toNat_lt.1 h; omega
        have h3 : ¬ x = y := fun h => by subst h; omega
        simp [Op.bytesLess, h1, h2, h3]
theorem str_gtr (t : TypeId) (a b : ByteArray) : binOp .gtr t (.string a) (.string b) = pure (.bool (Op.bytesLess b.toList a.toList)) := by
  rw [← less_total]; simp [binOp, Op.stringOp]
theorem str_leq (t : TypeId) (a b : ByteArray) : binOp .leq t (.string a) (.string b) = pure (.bool !(Op.bytesLess b.toList a.toList)) := by
  rw [← less_total a.toList b.toList, Bool.not_not]; simp [binOp, Op.stringOp]
theorem str_geq (t : TypeId) (a b : ByteArray) : binOp .geq t (.string a) (.string b) = pure (.bool !(Op.bytesLess a.toList b.toList)) := by simp [binOp, Op.stringOp]
theorem sto_fn (P : Program) (w : World) (a : Addr) (m : Mode) (f : Fn) (x y : Array Value) : (store a (.func f x y) m).run P w = stored P w a (.func f x y) m := run_store P w a _ m rfl
theorem bel_ {p : Prop} (h : p := by repeat (first | (with_reducible first | exact HB.out | apply below_alloc | apply pw_below_drewN | apply below_drew1 | refine below_set ?_ (Aside0.out (by assumption))) | exact HB.out)) : p := h
theorem bs_ {w W w1 : World} (hb : Below W.heap.size W w1) (h : Below w.heap.size w W := by repeat (first | (with_reducible first | exact HB.out | apply below_alloc | apply pw_below_drewN | apply below_drew1 | refine below_set ?_ (Aside0.out (by assumption))) | exact HB.out)) : Aside0 (Below w.heap.size w w1) := ⟨below_step h hb⟩
theorem bk_ {p q : Prop} (h : Aside0 q) (f : q → p := by intro h_; (with_reducible repeat (first | refine blk_drewN ?_ _ | refine blk_drew ?_ | refine blk_alloc ?_ _)); exact h_) : p := f h.out
theorem bb_ {W0 W w1 : World} {g : Nat} {o : Obj} (h : Aside0 (W0.heap[g]? = some o)) (hb : Below W.heap.size W w1) (f : W0.heap[g]? = some o → W.heap[g]? = some o := by intro h_; (with_reducible repeat (first | refine blk_drewN ?_ _ | refine blk_drew ?_ | refine blk_alloc ?_ _)); exact h_) : Aside0 (w1.heap[g]? = some o) := ⟨blk_below (f h.out) hb⟩
theorem gw_ {w W : World} {g : Nat} (hg : g = W.heap.size) (h : Below w.heap.size w W := by repeat (first | (with_reducible first | exact HB.out | apply below_alloc | apply pw_below_drewN | apply below_drew1 | refine below_set ?_ (Aside0.out (by assumption))) | exact HB.out)) : Aside0 (w.heap.size ≤ g) := ⟨by rw [hg]; exact below_size h⟩
theorem nlt_ {W0 W : World} {g g' : Nat} {o : Obj} (hg : g' = W.heap.size) (h : Aside0 (W0.heap[g]? = some o)) (f : W0.heap[g]? = some o → W.heap[g]? = some o := by intro h_; (with_reducible repeat (first | refine blk_drewN ?_ _ | refine blk_drew ?_ | refine blk_alloc ?_ _)); exact h_) : Aside0 (g ≠ g') := ⟨by rw [hg]; exact Nat.ne_of_lt (blk_lt (f h.out))⟩
theorem ngt_ {W0 W : World} {g g' : Nat} {o : Obj} (hg : g' = W.heap.size) (h : Aside0 (W0.heap[g]? = some o)) (f : W0.heap[g]? = some o → W.heap[g]? = some o := by intro h_; (with_reducible repeat (first | refine blk_drewN ?_ _ | refine blk_drew ?_ | refine blk_alloc ?_ _)); exact h_) : Aside0 (g' ≠ g) := ⟨by rw [hg]; exact Nat.ne_of_gt (blk_lt (f h.out))⟩
theorem mv_ {w w1 : World} {a : Addr} {v : Value} (h : Aside0 (Below w.heap.size w w1)) (hx : w.cell? a = some v) : w1.cell? a = some v := (h.out.cell (World.block_lt_of_cell? w _ hx)).trans hx
theorem rdb_ {p q : Prop} (h : Aside0 q) (f : q → p := by intro h_; repeat (first | exact (Kd.C_below h_ HB.out) | (with_reducible refine Kd.C_alloc ?_ _) | (with_reducible refine Kd.C_drewN ?_ _) | (with_reducible refine Kd.C_drew ?_))) : p := f h.out
theorem ar_ {p : Prop} (h : p := by (try simp only [List.map_toArray, List.map_cons, List.map_nil]); first | done | rfl | (simp only [List.length_drop, List.length_take]; rfl)) : p := h
theorem od_ {p : Prop} [Decidable p] (h : decide p = true := by first | (with_reducible assumption) | assumption) : p := of_decide_eq_true h
theorem re_ {p q : Prop} (h : p := by first | rfl | (simp [errW_none, errW_some] <;> rfl) | (simp [*, errW_none, errW_some] <;> rfl)) (h2 : q := by repeat (first | (with_reducible first | exact HB.out | apply below_alloc | apply pw_below_drewN | apply below_drew1 | refine below_set ?_ (Aside0.out (by assumption))) | exact HB.out)) : p ∧ q := ⟨h, h2⟩
theorem rd_ {p q : Prop} (h : p := by first | rfl | (simp; done) | (simp [*]; done) | (simp [bne]; done) | (simp [bne, *]; done)) (h2 : q := by repeat (first | exact Drawn0.refl _ | apply Drawn0.step)) : p ∧ q := ⟨h, h2⟩
theorem sm_ {p : Prop} (h : p := by first | rfl | (simp; done) | (simp [*]; done) | (simp [bne]; done) | (simp [bne, *]; done)) : p := h
theorem blk2 {W : World} {g t : Nat} {x0 x1 : Value} (h : Aside0 (W.heap[g]? = some (.cells #[x0, x1] t (0, 0)))) : W.cell? ⟨g, 0, none⟩ = some x0 ∧ W.cell? ⟨g, 1, none⟩ = some x1 ∧ W.frozen? ⟨g, 0, none⟩ = false ∧ W.frozen? ⟨g, 1, none⟩ = false := ⟨(blk_cell h.out 0).trans rfl, (blk_cell h.out 1).trans rfl, blk_frozen h.out 0, blk_frozen h.out 1⟩
theorem blk3 {W : World} {g t : Nat} {x0 x1 x2 : Value} (h : Aside0 (W.heap[g]? = some (.cells #[x0, x1, x2] t (0, 0)))) : W.cell? ⟨g, 0, none⟩ = some x0 ∧ W.cell? ⟨g, 1, none⟩ = some x1 ∧ W.cell? ⟨g, 2, none⟩ = some x2 ∧ W.frozen? ⟨g, 0, none⟩ = false ∧ W.frozen? ⟨g, 1, none⟩ = false ∧ W.frozen? ⟨g, 2, none⟩ = false := ⟨(blk_cell h.out 0).trans rfl, (blk_cell h.out 1).trans rfl, (blk_cell h.out 2).trans rfl, blk_frozen h.out 0, blk_frozen h.out 1, blk_frozen h.out 2⟩
theorem blk4 {W : World} {g t : Nat} {x0 x1 x2 x3 : Value} (h : Aside0 (W.heap[g]? = some (.cells #[x0, x1, x2, x3] t (0, 0)))) : W.cell? ⟨g, 0, none⟩ = some x0 ∧ W.cell? ⟨g, 1, none⟩ = some x1 ∧ W.cell? ⟨g, 2, none⟩ = some x2 ∧ W.cell? ⟨g, 3, none⟩ = some x3 ∧ W.frozen? ⟨g, 0, none⟩ = false ∧ W.frozen? ⟨g, 1, none⟩ = false ∧ W.frozen? ⟨g, 2, none⟩ = false ∧ W.frozen? ⟨g, 3, none⟩ = false := ⟨(blk_cell h.out 0).trans rfl, (blk_cell h.out 1).trans rfl, (blk_cell h.out 2).trans rfl, (blk_cell h.out 3).trans rfl, blk_frozen h.out 0, blk_frozen h.out 1, blk_frozen h.out 2, blk_frozen h.out 3⟩
theorem blk5 {W : World} {g t : Nat} {x0 x1 x2 x3 x4 : Value} (h : Aside0 (W.heap[g]? = some (.cells #[x0, x1, x2, x3, x4] t (0, 0)))) : W.cell? ⟨g, 0, none⟩ = some x0 ∧ W.cell? ⟨g, 1, none⟩ = some x1 ∧ W.cell? ⟨g, 2, none⟩ = some x2 ∧ W.cell? ⟨g, 3, none⟩ = some x3 ∧ W.cell? ⟨g, 4, none⟩ = some x4 ∧ W.frozen? ⟨g, 0, none⟩ = false ∧ W.frozen? ⟨g, 1, none⟩ = false ∧ W.frozen? ⟨g, 2, none⟩ = false ∧ W.frozen? ⟨g, 3, none⟩ = false ∧ W.frozen? ⟨g, 4, none⟩ = false := ⟨(blk_cell h.out 0).trans rfl, (blk_cell h.out 1).trans rfl, (blk_cell h.out 2).trans rfl, (blk_cell h.out 3).trans rfl, (blk_cell h.out 4).trans rfl, blk_frozen h.out 0, blk_frozen h.out 1, blk_frozen h.out 2, blk_frozen h.out 3, blk_frozen h.out 4⟩
theorem blkc {W : World} {g t : Nat} {cs : Array Value} (h : Aside0 (W.heap[g]? = some (.cells cs t (0, 0)))) (i : Nat) {v : Value} (hv : cs[i]? = some v := by rfl) : W.cell? ⟨g, i, none⟩ = some v := (blk_cell h.out i).trans hv
theorem cf4 (g : Nat) {W : World} {a : Addr} {x : Option Value} {o0 o1 o2 o3 : Nat} {u0 : Value} {u1 : Value} {u2 : Value} {u3 : Value} (h : a.block ≠ g) (y : W.cell? a = x) : ((((W.setCell ⟨g, o0, none⟩ u0).setCell ⟨g, o1, none⟩ u1).setCell ⟨g, o2, none⟩ u2).setCell ⟨g, o3, none⟩ u3).cell? a = x := (cell_far (p := ⟨g, o3, none⟩) h u3).trans ((cell_far (p := ⟨g, o2, none⟩) h u2).trans ((cell_far (p := ⟨g, o1, none⟩) h u1).trans ((cell_far (p := ⟨g, o0, none⟩) h u0).trans (y))))
theorem rf1 (g : Nat) {α : Type} {d : Kd α} {e base : Nat} {ok : Nat → Prop} {W : World} {v : Value} {xs : List α} {o0 : Nat} {u0 : Value} (h : Kd.R d e W base ok v xs) (hk : ∀ k, ok k → k ≠ g) : Kd.R d e (W.setCell ⟨g, o0, none⟩ u0) base ok v xs := (Kd.R_far (p := ⟨g, o0, none⟩) h hk u0)
theorem rf3 (g : Nat) {α : Type} {d : Kd α} {e base : Nat} {ok : Nat → Prop} {W : World} {v : Value} {xs : List α} {o0 o1 o2 : Nat} {u0 : Value} {u1 : Value} {u2 : Value} (h : Kd.R d e W base ok v xs) (hk : ∀ k, ok k → k ≠ g) : Kd.R d e (((W.setCell ⟨g, o0, none⟩ u0).setCell ⟨g, o1, none⟩ u1).setCell ⟨g, o2, none⟩ u2) base ok v xs := (Kd.R_far (p := ⟨g, o2, none⟩) (Kd.R_far (p := ⟨g, o1, none⟩) (Kd.R_far (p := ⟨g, o0, none⟩) h hk u0) hk u1) hk u2)
theorem rf4 (g : Nat) {α : Type} {d : Kd α} {e base : Nat} {ok : Nat → Prop} {W : World} {v : Value} {xs : List α} {o0 o1 o2 o3 : Nat} {u0 : Value} {u1 : Value} {u2 : Value} {u3 : Value} (h : Kd.R d e W base ok v xs) (hk : ∀ k, ok k → k ≠ g) : Kd.R d e ((((W.setCell ⟨g, o0, none⟩ u0).setCell ⟨g, o1, none⟩ u1).setCell ⟨g, o2, none⟩ u2).setCell ⟨g, o3, none⟩ u3) base ok v xs := (Kd.R_far (p := ⟨g, o3, none⟩) (Kd.R_far (p := ⟨g, o2, none⟩) (Kd.R_far (p := ⟨g, o1, none⟩) (Kd.R_far (p := ⟨g, o0, none⟩) h hk u0) hk u1) hk u2) hk u3)
theorem pe_ {p q : Prop} (h : q) (f : q → p := by intro h_; (with_reducible repeat (first | refine blk_drewN ?_ _ | refine blk_drew ?_ | refine blk_alloc ?_ _)); exact h_) : p := f h
theorem bx_ {P : Program} {ops : Array Oper} {rest : List Oper} {o : Oper} {a : Act} {Q : Exit → Act → World → Prop} {W : World} (N : Tmp) (cs : Array Value) (t : TypeId) (h : ∀ g, g = W.heap.size → ∀ w1 : World, w1.heap[g]? = some (.cells cs t (0, 0)) → Below W.heap.size W w1 → wpList P ops Q rest (a.put o.dst (.pointer (some ⟨g, 0, none⟩))) w1)
    (hd : o.dst = some N := by rfl) (hg : o.guard = none := by rfl) (hr : Sem.run P (execOp a.eval o) W = .ok (.value (.pointer (some ⟨W.heap.size, 0, none⟩))) (W.alloc (.cells cs t (0, 0))) := by first | (go_simp; done) | (go_simp; rfl)) : wpList P ops Q (o :: rest) a W := box_event hg hd hr h
theorem goesT_ {P : Program} {ops : Array Oper} {Q : Exit → Act → World → Prop} {rest : List Oper} {oi : Oper} {a : Act} {w : World} (N : Option Tmp) (hd : oi.dst = N) (hg : oi.guard = none) {f : FuncId} {fn : Func} {t : Tmp} {as : Array Operand} {ts : Array TypeId} (hf : P.funcs[f]? = some fn) (hname : (fn.name == "runtime.NumGoroutine") = false) (hb : fn.body.isSome = true) (args : Array Value)
    (hop : oi.op = .call { callee := .value (.tmp t), args := as, argTypes := ts }) (hv : a.eval (.tmp t) = .func (.func f) #[] #[]) (hargs : as.map a.eval = args)
    (h : Calls P f args w fun e w' => ∃ v, e = .returned v ∧ wpList P ops Q rest (a.put N v) w') : wpList P ops Q (oi :: rest) a w := by
  have hrun : (execOp a.eval oi).run P w = .ok (.enter f args) w := by
    unfold execOp
    simp [hop, resolve, Deferred.ofValue, invoke, hv, hargs, enters_ hf hname hb args w]
  refine wpList_plain hg fun K hK => ?_
  unfold Oper.wp
  rw [hrun, Oper.upon_enter]
  refine h.mono ?_
  rintro e w'' ⟨v, rfl, hk⟩
  subst hd
  exact hK _ _ hk
theorem sls_ {o : Option Value} {A B : Option Addr} {n m c d : Nat} (h : o = some (.slice A n c)) (h' : o = some (.slice B m d)) : A = B ∧ c = d := by
  cases h.symm.trans h'
  exact ⟨rfl, rfl⟩
section
variable {P : Program} {ops : Array Oper} {Q : Exit → Act → World → Prop} {md : Region.Mode} {S : World → Prop} {ds : List Nat}
theorem puA (i : Nat) (N : Option Tmp) {oi : Oper} {v : Value} {fuel : Nat} {l : Array Bool} {a a' : Act} {w : World} (h : wpAnyLast P md ops Q S ds fuel (l.setIfInBounds i true) a' w) (hi : ops[i]? = some oi := by rfl) (hN : oi.dst = N := by rfl)
    (hc : anyB md ops l (l.setIfInBounds i true) i = true := by exact any_of HT_.out (by kernel_rfl)) (hQ : ∀ c a w, Q (.panic c) (a.put oi.dst v) w → Q (.panic c) a w := by exact fun _ _ _ h => h)
    (hy : Yields P ops oi v a := by refine Or.inl ⟨by rfl, ?_⟩; intro w'; go_simp; with_reducible rfl) (ha : a.put N v = a' := by simp only [Act.put, List.setIfInBounds_toArray, List.set_cons_zero, List.set_cons_succ, i64_w, i32_w]; rfl) : wpAnyLast P md ops Q S ds (fuel + 1) l a w := pure_ _ hi hN hc hQ hy ha h
theorem puX (i : Nat) (N : Option Tmp) {oi : Oper} {fuel : Nat} {l : Array Bool} {a a' : Act} {w : World} (h : wpAnyLast P md ops Q S ds fuel (l.setIfInBounds i true) a' w) (hi : ops[i]? = some oi := by rfl) (hN : oi.dst = N := by rfl)
    (hc : anyB md ops l (l.setIfInBounds i true) i = true := by exact any_of HT_.out (by kernel_rfl)) (hQ : ∀ c a w, Q (.panic c) (a.put oi.dst undef) w → Q (.panic c) a w := by exact fun _ _ _ h => h)
    (hy : Yields P ops oi undef a := by exact Or.inr ⟨by rfl, rfl⟩) (ha : a.put N undef = a' := by simp only [Act.put, List.setIfInBounds_toArray, List.set_cons_zero, List.set_cons_succ, i64_w, i32_w]; rfl) : wpAnyLast P md ops Q S ds (fuel + 1) l a w := pure_ _ hi hN hc hQ hy ha h
theorem taA (i : Nat) (N : Option Tmp) {oi : Oper} {v : Value} {fuel : Nat} {l : Array Bool} {a a' : Act} {w : World} (h : wpAnyLast P md ops Q S ds fuel (l.setIfInBounds i true) a' w) (hi : ops[i]? = some oi := by rfl) (hN : oi.dst = N := by rfl)
    (hc : takeB md ops ds l (l.setIfInBounds i true) i = true := by exact take_ofW HT_.out HW_.out (by kernel_rfl)) (hQ : ∀ c a w, Q (.panic c) (a.put oi.dst v) w → Q (.panic c) a w := by exact fun _ _ _ h => h)
    (hy : YieldsIf P ops S oi v a := by refine Or.inl ⟨by rfl, ?_⟩; intro w' hs_; repeat (have hs1_ := And.left hs_; replace hs_ := And.right hs_); go_simp; with_reducible rfl) (hS : S w := by exact hHeld) (ha : a.put N v = a' := by simp only [Act.put, List.setIfInBounds_toArray, List.set_cons_zero, List.set_cons_succ, i64_w, i32_w]; rfl) : wpAnyLast P md ops Q S ds (fuel + 1) l a w := take_ _ hi hN hc hQ hy hS ha h
end
theorem dt_ {p : Prop} [Decidable p] (h : p) : decide p = true := decide_eq_true h
theorem df_ {p : Prop} [Decidable p] (h : ¬ p) : decide p = false := decide_eq_false h
theorem bf_ {α : Type} [BEq α] [LawfulBEq α] {a b : α} (h : ¬ a = b) : (a == b) = false := beq_eq_false_iff_ne.mpr h
theorem nt_ {α : Type} [BEq α] [LawfulBEq α] {a b : α} (h : ¬ a = b) : (a != b) = true := bne_iff_ne.mpr h
theorem bt__ {α : Type} [BEq α] [LawfulBEq α] {a b : α} (h : a = b) : (a == b) = true := beq_iff_eq.mpr h
theorem nf__ {α : Type} [BEq α] [LawfulBEq α] {a b : α} (h : a = b) : (a != b) = false := bne_eq_false_iff_eq.mpr h
theorem fe_ {α : Type} {a b : α} : (if false = true then a else b) = b := rfl
theorem ob_ {α β : Type} {o : Option α} {f : α → Option β} {r : β} (h : o.bind f = some r) : ∃ a, Aside0 (o = some a) ∧ f a = some r := by
  obtain ⟨a, h1, h2⟩ := Option.bind_eq_some_iff.mp h
  exact ⟨a, ⟨h1⟩, h2⟩
end Go.Proofs.Ytcchmhmbjhgfdaa.Own
namespace Go.Proofs.Ytcchmhmbjhgfdaa.Mk
open Go.RowKit Go.Proofs.YtcchmhmbjhgfdaaW.PrintWords
set_option linter.unusedVariables false
def er : Value → Value
  | .int k _ => .int k 0
  | .string _ => .string ⟨#[]⟩
  | v => v
theorem er_int {u : Value} {k : IntKind} {a : Int} (h : er u = er (.int k a)) : ∃ b, u = .int k b := by
  cases u <;> simp only [er] at h <;> cases h
  exact ⟨_, rfl⟩
theorem er_string {u : Value} {s : ByteArray} (h : er u = er (.string s)) : ∃ b, u = .string b := by
  cases u <;> simp only [er] at h <;> cases h
  exact ⟨_, rfl⟩
theorem er_slice {u : Value} {A : Option Addr} {n c : Nat} (h : er u = er (.slice A n c)) : u = .slice A n c := by
  cases u <;> simp only [er] at h <;> cases h
  rfl
structure Shaped (P : Nat → Prop) (w w' : World) : Prop where
  os : w'.os = w.os
  tape : w'.tape = w.tape
  output : w'.output = w.output
  size : w.heap.size ≤ w'.heap.size
  block : ∀ k : Nat, k < w.heap.size → ¬ P k → w'.heap[k]? = w.heap[k]?
  cells : ∀ (k : Nat) (cs : Array Value) (e : TypeId) (fr : Nat × Nat), w.heap[k]? = some (Obj.cells cs e fr) → ∃ cs' : Array Value, w'.heap[k]? = some (Obj.cells cs' e fr) ∧ cs'.map er = cs.map er
section
variable {P : Nat → Prop} {w w1 w2 : World}
theorem Shaped.refl (P : Nat → Prop) (w : World) : Shaped P w w := ⟨rfl, rfl, rfl, Nat.le_refl _, fun _ _ _ => rfl, fun _ cs _ _ h => ⟨cs, h, rfl⟩⟩
theorem Shaped.below (h : Shaped P w w1) (hb : Below w1.heap.size w1 w2) : Shaped P w w2 := by
  refine ⟨hb.os.trans h.os, hb.tape.trans h.tape, hb.output.trans h.output, Nat.le_trans h.size hb.size, fun k hk hp => ?_, fun k cs e fr hc => ?_⟩
  · rw [hb.block k (Nat.lt_of_lt_of_le hk h.size)]; exact h.block k hk hp
  · obtain ⟨cs', h1, h2⟩ := h.cells k cs e fr hc
    have hlt : k < w1.heap.size := (Array.getElem?_eq_some_iff.1 h1).1
    exact ⟨cs', by rw [hb.block k hlt]; exact h1, h2⟩
theorem Shaped.set {g o : Nat} {u u0 : Value} (h : Shaped P w w1) (hg : P g) (hc : w1.cell? ⟨g, o, none⟩ = some u0) (he : er u = er u0) : Shaped P w (w1.setCell ⟨g, o, none⟩ u) := by
  refine ⟨h.os, h.tape, h.output, by simpa [World.setCell] using h.size, fun k hk hp => ?_, fun k cs e fr hk => ?_⟩
  · have hne : k ≠ g := fun e => hp (e ▸ hg)
    rw [Below.heap_setCell _ _ _ _ hne]
    exact h.block k hk hp
  · obtain ⟨cs', h1, h2⟩ := h.cells k cs e fr hk
    by_cases hkg : k = g
    · subst hkg
      have h3 : cs'[o]? = some u0 := by
        simp only [World.cell?, h1] at hc
        simpa using hc
      refine ⟨cs'.setIfInBounds o u, ?_, ?_⟩
      · simp only [World.setCell, Array.getElem?_modify, h1]
        simp
      · rw [← h2, Array.map_setIfInBounds]
        apply Array.ext_getElem?
        intro j
        rw [Array.getElem?_setIfInBounds]
        split
        · subst_vars
          split
          · simp [h3, he]
          · simp only [Array.getElem?_map]
            rw [h3]
            rename_i hh
            exfalso
            apply hh
            have := (Array.getElem?_eq_some_iff.1 h3).1
            simpa using this
        · rfl
    · rw [Below.heap_setCell _ _ _ _ hkg]
      exact ⟨cs', h1, h2⟩
theorem Shaped.trans (h : Shaped P w w1) (k : Shaped P w1 w2) : Shaped P w w2 := by
  refine ⟨k.os.trans h.os, k.tape.trans h.tape, k.output.trans h.output, Nat.le_trans h.size k.size, fun i hi hp => ?_, fun i cs e fr hc => ?_⟩
  · rw [k.block i (Nat.lt_of_lt_of_le hi h.size) hp]; exact h.block i hi hp
  · obtain ⟨c1, h1, h2⟩ := h.cells i cs e fr hc
    obtain ⟨c2, h3, h4⟩ := k.cells i c1 e fr h1
    exact ⟨c2, h3, h4.trans h2⟩
theorem Shaped.mono {Q : Nat → Prop} (h : Shaped P w w1) (hq : ∀ k, P k → Q k) : Shaped Q w w1 := ⟨h.os, h.tape, h.output, h.size, fun k hk hn => h.block k hk (fun hp => hn (hq k hp)), h.cells⟩
theorem Shaped.cell {g o : Nat} {u : Value} (h : Shaped P w w1) (hc : w.cell? ⟨g, o, none⟩ = some u) : ∃ u', w1.cell? ⟨g, o, none⟩ = some u' ∧ er u' = er u := by
  unfold World.cell? at hc
  split at hc
  · rename_i cs e fr hk
    obtain ⟨cs', h1, h2⟩ := h.cells _ cs e fr hk
    have hc' : cs[o]? = some u := by simpa using hc
    have h3 : (cs'.map er)[o]? = some (er u) := by rw [h2, Array.getElem?_map, hc']; rfl
    rw [Array.getElem?_map, Option.map_eq_some_iff] at h3
    obtain ⟨u', h4, h5⟩ := h3
    refine ⟨u', ?_, h5⟩
    unfold World.cell?
    have h1' : w1.heap[g]? = some (.cells cs' e fr) := h1
    simp only [h1']
    simpa using h4
  · cases hc
theorem Shaped.frozen {g o : Nat} (h : Shaped P w w1) {cs : Array Value} {e : TypeId} (hk : w.heap[g]? = some (.cells cs e (0, 0))) : w1.frozen? ⟨g, o, none⟩ = false := by
  obtain ⟨cs', h1, _⟩ := h.cells g cs e _ hk
  unfold World.frozen?
  simp only [h1]
  simp
theorem Shaped.R {α : Type} {d : Kd α} {e : Nat} {base : Nat} {ok : Nat → Prop} {v : Value} {xs : List α} (h : Shaped P w w1) (hr : d.R e w base ok v xs) (hn : ∀ k, ok k → ¬ P k) : d.R e w1 base ok v xs :=
  Kd.R_step hr (fun k hk hlt => h.block k hlt (hn k hk))
theorem Shaped.to_below {w0 : World} (h : Shaped P w w1) (hb : Below w0.heap.size w0 w) (hn : ∀ k, P k → w0.heap.size ≤ k) : Below w0.heap.size w0 w1 :=
  hb.trans ⟨h.os, h.tape, h.output, h.size, fun k hk => h.block k (Nat.lt_of_lt_of_le hk hb.size) (fun hp => by have := hn k hp; omega)⟩
end
theorem row_at {α : Type} {d : Kd α} {e : Nat} {W : World} {base : Nat} {P : Nat → Prop} {v : Value} {xs : List α} (hR : d.R e W base P v xs) (z : α) (i : Int) (h0 : 0 ≤ i) (h1 : i < xs.length) :
    ∃ g cap c, v = .slice (some ⟨g, 0, none⟩) xs.length cap ∧ P g ∧ c.length = d.sz ∧ d.M W base P (xs.getD i.toNat z) c ∧
      ∀ w, Shaped P W w → (∀ j u, c[j]? = some u → ∃ u', w.cell? ⟨g, i.toNat * d.sz + j, none⟩ = some u' ∧ er u' = er u) ∧ ∀ j, w.frozen? ⟨g, i.toNat * d.sz + j, none⟩ = false := by
  obtain ⟨g, cap, rfl, hb, hlt, cells, hc⟩ := Kd.R_form hR (by omega)
  obtain ⟨c, hcl, hM, hcc, hfr⟩ := Kd.R_elem hR z i h0 h1
  refine ⟨g, cap, c, rfl, hR.1 g rfl, hcl, d.M_mono (fun k hk => hk.1) hM, fun w hS => ⟨fun j u hj => hS.cell (hcc j u hj), fun j => hS.frozen hc⟩⟩
def Over (Es Ex : List Nat) (w0 w w' : World) : Prop := Shaped (fun k => w0.heap.size ≤ k ∧ k ∉ Ex ∧ ∃ q, q ∈ Es ∧ ∃ cells, w.heap[k]? = some (.cells cells q (0, 0))) w w'
namespace Over
theorem nin0 {k : Nat} : k ∉ ([] : List Nat) := by simp
theorem nin {k g : Nat} {l : List Nat} (h : k ≠ g) (t : k ∉ l) : k ∉ g :: l := by simp [h, t]
section
variable {α : Type} {d : Kd α} {Es Ex : List Nat} {w0 w w' : World} {base e : Nat} {ok : Nat → Prop} {v : Value} {xs : List α}
theorem not_in {t k : Nat} {cs : Array Value} (ht : t ∉ Es) (hb : w.heap[k]? = some (.cells cs t (0, 0))) : ¬ (w0.heap.size ≤ k ∧ k ∉ Ex ∧ ∃ q, q ∈ Es ∧ ∃ cells, w.heap[k]? = some (.cells cells q (0, 0))) := by
  rintro ⟨_, _, q, hq, cells, hc⟩
  rw [hc] at hb
  injection hb with hb
  injection hb with _ hb
  exact ht (hb ▸ hq)
theorem R (hm : Over Es Ex w0 w w') (ht : ∀ q, q ∈ e :: d.E → q ∉ Es) (h : d.R e w base ok v xs) : d.R e w' base ok v xs :=
  Kd.R_mono (Kd.R_move (Kd.R_bound h) (fun k hk => hm.block k hk.2.2.1 (by obtain ⟨_, _, _, q, hq, cells, hc⟩ := hk; exact not_in (ht q hq) hc))) (fun _ hk => hk.1)
theorem S (hm : Over Es Ex w0 w w') (ht : ∀ q, q ∈ e :: d.E → q ∉ Es) (h : Kd.S d e w base ok v xs) : Kd.S d e w' base ok v xs :=
  Kd.S_mono (Kd.S_move (Kd.S_bound h) (fun k hk => hm.block k hk.2.2.1 (by obtain ⟨_, _, _, q, hq, cells, hc⟩ := hk; exact not_in (ht q hq) hc))) (fun _ hk => hk.1)
theorem blk {g t : Nat} {cs : Array Value} (hm : Over Es Ex w0 w w') (ht : t ∉ Es) (hb : w.heap[g]? = some (.cells cs t (0, 0))) : w'.heap[g]? = some (.cells cs t (0, 0)) :=
  (hm.block g (Array.getElem?_eq_some_iff.1 hb).1 (not_in ht hb)).trans hb
theorem kept {g t : Nat} {cs : Array Value} (hm : Over Es Ex w0 w w') (he : g ∈ Ex) (hb : w.heap[g]? = some (.cells cs t (0, 0))) : w'.heap[g]? = some (.cells cs t (0, 0)) :=
  (hm.block g (Array.getElem?_eq_some_iff.1 hb).1 (fun hk => hk.2.1 he)).trans hb
theorem below (hm : Over Es Ex w0 w w') (hb : Below w0.heap.size w0 w) : Below w0.heap.size w0 w' := hm.to_below hb (fun _ hk => hk.1)
theorem refl (Es Ex : List Nat) (w0 w : World) : Over Es Ex w0 w w := Shaped.refl _ w
theorem was (h : d.R e w base ok v xs) (hx : ∀ k, ok k → k ∉ Ex) (hm : Over Es Ex w0 w w') : ∃ ok W, d.R e W base ok v xs ∧ (∀ k, ok k → k ∉ Ex) ∧ Over Es Ex w0 W w' := ⟨_, _, h, hx, hm⟩
theorem trans {w2 : World} (h : Over Es Ex w0 w w') (k : Over Es Ex w0 w' w2) : Over Es Ex w0 w w2 := by
  refine ⟨k.os.trans h.os, k.tape.trans h.tape, k.output.trans h.output, Nat.le_trans h.size k.size, fun i hi hp => ?_, fun i cs e fr hc => ?_⟩
  · rw [k.block i (Nat.lt_of_lt_of_le hi h.size) ?_]
    · exact h.block i hi hp
    · rintro ⟨h1, hx, q, hq, cells, hc⟩
      rw [h.block i hi hp] at hc
      exact hp ⟨h1, hx, q, hq, cells, hc⟩
  · obtain ⟨c1, h1, h2⟩ := h.cells i cs e fr hc
    obtain ⟨c2, h3, h4⟩ := k.cells i c1 e fr h1
    exact ⟨c2, h3, h4.trans h2⟩
theorem was_next {w2 : World} (h : ∃ ok W, d.R e W base ok v xs ∧ (∀ k, ok k → k ∉ Ex) ∧ Over Es Ex w0 W w') (hm : Over Es Ex w0 w' w2) : ∃ ok W, d.R e W base ok v xs ∧ (∀ k, ok k → k ∉ Ex) ∧ Over Es Ex w0 W w2 := by
  obtain ⟨ok, W, h1, hx, h2⟩ := h
  exact ⟨ok, W, h1, hx, h2.trans hm⟩
theorem inside {P : Nat → Prop} (hP : P = fun k => w0.heap.size ≤ k ∧ k ∉ Ex ∧ ∃ q, q ∈ Es ∧ ∃ cells, w.heap[k]? = some (.cells cells q (0, 0))) : ∀ k, P k → k < w.heap.size := by
  intro k hk
  rw [hP] at hk
  obtain ⟨_, _, _, _, _, hc⟩ := hk
  exact (Array.getElem?_eq_some_iff.1 hc).1
theorem fits_was (ht : ∀ q, q ∈ e :: d.E → q ∈ Es) (h : ∃ ok W, d.R e W w0.heap.size ok v xs ∧ (∀ k, ok k → k ∉ Ex) ∧ Over Es Ex w0 W w) : ∃ W, d.R e W w0.heap.size (fun k => w0.heap.size ≤ k ∧ k ∉ Ex ∧ ∃ q, q ∈ Es ∧ ∃ cells, w.heap[k]? = some (.cells cells q (0, 0))) v xs ∧ Shaped (fun k => w0.heap.size ≤ k ∧ k ∉ Ex ∧ ∃ q, q ∈ Es ∧ ∃ cells, w.heap[k]? = some (.cells cells q (0, 0))) W w := by
  obtain ⟨ok, W, h1, h9, h2⟩ := h
  have hx : ∀ k, (w0.heap.size ≤ k ∧ k ∉ Ex ∧ ∃ q, q ∈ Es ∧ ∃ cells, W.heap[k]? = some (.cells cells q (0, 0))) → (w0.heap.size ≤ k ∧ k ∉ Ex ∧ ∃ q, q ∈ Es ∧ ∃ cells, w.heap[k]? = some (.cells cells q (0, 0))) := by
    rintro k ⟨h3, h8, q, hq, cells, hc⟩
    obtain ⟨c1, h4, _⟩ := h2.cells k cells q _ hc
    exact ⟨h3, h8, q, hq, c1, h4⟩
  exact ⟨W, Kd.R_mono (Kd.R_bound h1) (fun k hk => hx k ⟨hk.2.1, h9 k hk.1, by obtain ⟨_, _, _, q, hq, hc⟩ := hk; exact ⟨q, ht q hq, hc⟩⟩), h2.mono hx⟩
end
end Over
end Go.Proofs.Ytcchmhmbjhgfdaa.Mk
