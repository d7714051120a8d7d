/- Values in order: both compute the same. -/
import Derived.Test.YtehdfbhfbidadaaCord2
import Derived.Test.YtehdfbhfbidadaaG2
namespace Go.Proofs.Ytehdfbhfbidadaa.V
open Go
set_option linter.unusedVariables false
set_option linter.unusedSimpArgs false
set_option maxHeartbeats 4000000
def rankK (k : Int) : Int := if k = 5 then 0 else if k = 6 then 1 else if k = 4 then 2 else if k = 3 then 3 else if k = 1 then 4 else if k = 2 then 5 else 6
/-- A type, its value, its methods. -/
structure TermOk (v : Vl) (t : Nat) (x : T) (fr fo : Nat) : Prop where
  e : termT v = .ifc t x
  lt : t < 4294967296
  rank : Rv Try.prog fr [x] (.i .i64 (rankK v.k))
  mr : methOk Try.prog t "loop.example/ashlar/impl.rank" fr = true
  okr : okCall Try.prog fr = true
  mo : methOk Try.prog t "loop.example/ashlar/impl.order" fo = true
  oko : okCall Try.prog fo = true
  nil : nilOk Try.prog t = true
  arg : argI ⟨[], [], 0, 0⟩ x = some x ∧ x.names = []
theorem im_arg (l : List Vl) : argI ⟨[], [], 0, 0⟩ (.imm (l.map sV.I)) = some (.imm (l.map sV.I)) ∧ (T.imm (l.map sV.I)).names = [] := by simp
theorem term_node (n : Int) (s : Tx) (l : List Vl) : TermOk (.mk 5 n s l) 186 (.i .i64 n) 214 213 :=
  ⟨rfl, by decide, rank_node_c n, by kernel_rfl, by kernel_rfl, by kernel_rfl, by kernel_rfl, by kernel_rfl, by simp⟩
theorem term_edge (n : Int) (s : Tx) (l : List Vl) : TermOk (.mk 6 n s l) 187 (.i .i64 n) 220 219 :=
  ⟨rfl, by decide, rank_edge_c n, by kernel_rfl, by kernel_rfl, by kernel_rfl, by kernel_rfl, by kernel_rfl, by simp⟩
theorem term_list (n : Int) (s : Tx) (l : List Vl) : TermOk (.mk 4 n s l) 188 (.imm (l.map sV.I)) 224 223 :=
  ⟨rfl, by decide, rank_list_c l, by kernel_rfl, by kernel_rfl, by kernel_rfl, by kernel_rfl, by kernel_rfl, im_arg l⟩
theorem term_text (n : Int) (s : Tx) (l : List Vl) : TermOk (.mk 3 n s l) 189 (.s s) 226 225 :=
  ⟨rfl, by decide, rank_text_c s, by kernel_rfl, by kernel_rfl, by kernel_rfl, by kernel_rfl, by kernel_rfl, by simp⟩
theorem term_bool (n : Int) (s : Tx) (l : List Vl) : TermOk (.mk 1 n s l) 190 (.i .i64 n) 230 229 :=
  ⟨rfl, by decide, rank_bool_c n, by kernel_rfl, by kernel_rfl, by kernel_rfl, by kernel_rfl, by kernel_rfl, by simp⟩
theorem term_num (n : Int) (s : Tx) (l : List Vl) : TermOk (.mk 2 n s l) 191 (.i .i64 n) 234 233 :=
  ⟨rfl, by decide, rank_num_c n, by kernel_rfl, by kernel_rfl, by kernel_rfl, by kernel_rfl, by kernel_rfl, by simp⟩
theorem term_null (n : Int) (s : Tx) (l : List Vl) : TermOk (.mk 0 n s l) 193 (.agg []) 238 237 :=
  ⟨rfl, by decide, rank_null_c, by kernel_rfl, by kernel_rfl, by kernel_rfl, by kernel_rfl, by kernel_rfl, by simp⟩
/-- The order of the one's type, asked of the other one. -/
theorem orderOf_gen {v w : Vl} {t t' : Nat} {x y : T} {fr fo fr' fo' : Nat} {r : Int} (h : TermOk v t x fr fo) (h' : TermOk w t' y fr' fo') (ho : Rv Try.prog fo [x, .ifc t' y] (.i .i64 r)) : Rv Try.prog 64 [.agg (sV.I v), .agg (sV.I w)] (.i .i64 r) := by
  have hv := termOf_c v
  have hw := termOf_c w
  rw [h.e] at hv
  rw [h'.e] at hw
  obtain ⟨k, n, s, l⟩ := v
  obtain ⟨k', n', s', l'⟩ := w
  refine via_impl_orderOf (by simp) ?_
  simp [pc_impl_orderOf]
  refine callK_imm (by simp) hv ?_
  simp
  refine callK_imm (by simp) hw ?_
  simp
  refine hookH_of [] hook_mkMet (by simp) ?_
  simp
  refine need_mk ⟨h.lt, h.nil⟩ ?_
  refine hookH_inv ho h.lt rfl h.mo h.oko (by simp [handedX, h.arg.1, h'.arg.1]) (by simp [named, h.arg.2, h'.arg.2]) (by simp [named, h.arg.2, h'.arg.2]) (by simp [backX]) ?_
  simp [news]
  exact fin_val rfl (by simp) (by simp)
theorem l1Ints_c (a b : Int) : Rv Try.prog 125 [.i .i64 a, .i .i64 b] (.i .i64 (cmpI a b)) := by
  refine via_spec_l1Ints (by simp) ?_
  by_cases c1 : a < b
  · simp [pc_spec_l1Ints, c1]
    exact fin_val rfl (by simp [cmpI, c1]) (by simp)
  · by_cases c2 : b < a
    · simp [pc_spec_l1Ints, c1, c2]
      exact fin_val rfl (by simp [cmpI, c1, c2]) (by simp)
    · simp [pc_spec_l1Ints, c1, c2]
      exact fin_val rfl (by simp [cmpI, c1, c2]) (by simp)
theorem l1Rank_c (k : Int) (h0 : 0 ≤ k) (h6 : k ≤ 6) : Rv Try.prog 126 [.i .i64 k] (.i .i64 (rankK k)) := by
  have h := l1In_c k 0 6
  have hc : k = 0 ∨ k = 1 ∨ k = 2 ∨ k = 3 ∨ k = 4 ∨ k = 5 ∨ k = 6 := by omega
  refine via_spec_l1Rank (by simp) ?_
  rcases hc with rfl | rfl | rfl | rfl | rfl | rfl | rfl <;>
  · simp [pc_spec_l1Rank]
    refine callK_val (by simp) h rfl ?_
    simp
    exact fin_val rfl (by simp [rankK]) (by simp)
mutual
/-- Which of two values is first. -/
def ordV : Vl → Vl → Int
  | .mk k n s l, .mk k' n' s' l' => if k = k' then (if k = 3 then cmpT s s' else if k = 4 then ordL l l' else cmpI n n') else cmpI (rankK k) (rankK k')
def ordL : List Vl → List Vl → Int
  | [], [] => 0
  | [], _ :: _ => -1
  | _ :: _, [] => 1
  | x :: xs, y :: ys => if ordV x y = 0 then ordL xs ys else ordV x y
end
theorem ordL_end : ∀ {l l' : List Vl}, (l = [] ∨ l' = []) → ordL l l' = cmpI l.length l'.length
  | [], [], _ => by simp [ordL, cmpI]
  | [], y :: ys, _ => by
    have : (0 : Int) < ys.length + 1 := by omega
    simp [ordL, cmpI, this]
  | x :: xs, [], _ => by
    have h1 : ¬ ((xs.length : Int) + 1 < 0) := by omega
    have h2 : (0 : Int) < xs.length + 1 := by omega
    simp [ordL, cmpI, h1, h2]
  | x :: xs, y :: ys, h => by simp at h
theorem cmpI_sub (a b i : Int) : cmpI (a - i) (b - i) = cmpI a b := by
  have h1 : (a - i < b - i) ↔ (a < b) := by omega
  have h2 : (b - i < a - i) ↔ (b < a) := by omega
  unfold cmpI; simp only [h1, h2]
theorem drop_cons {l : List Vl} {i : Nat} {x : Vl} (h : l[i]? = some x) : l.drop i = x :: l.drop (i + 1) := by
  obtain ⟨h1, rfl⟩ := List.getElem?_eq_some_iff.1 h
  exact List.drop_eq_getElem_cons h1
theorem ordL_step {l l' : List Vl} {i : Nat} {x y : Vl} (hx : l[i]? = some x) (hy : l'[i]? = some y) : ordL (l.drop i) (l'.drop i) = if ordV x y = 0 then ordL (l.drop (i + 1)) (l'.drop (i + 1)) else ordV x y := by
  rw [drop_cons hx, drop_cons hy, ordL]
theorem ordL_stop {l l' : List Vl} {i : Nat} (hi : i ≤ l.length) (hi' : i ≤ l'.length) (h : i = l.length ∨ i = l'.length) : ordL (l.drop i) (l'.drop i) = cmpI l.length l'.length := by
  rw [ordL_end (by rcases h with rfl | rfl <;> simp)]
  have h1 : ((l.drop i).length : Int) = l.length - i := by rw [List.length_drop]; omega
  have h2 : ((l'.drop i).length : Int) = l'.length - i := by rw [List.length_drop]; omega
  rw [h1, h2, cmpI_sub]
/-- Values that are ok, however deep. -/
def okA (v : Vl) : Prop := ∃ d, okV d v = true
theorem okA_k {k n : Int} {s : Tx} {l : List Vl} (h : okA (.mk k n s l)) : (k = 0 ∧ n = 0) ∨ k = 1 ∨ k = 2 ∨ k = 3 ∨ k = 4 ∨ k = 5 ∨ k = 6 := by
  obtain ⟨d, h⟩ := h
  cases d with
  | zero => simp [okV] at h
  | succ d =>
    unfold okV at h
    by_cases k0 : k = 0
    · simp [k0] at h; exact .inl ⟨k0, h.1.1⟩
    · by_cases k1 : k = 1
      · omega
      · by_cases k2 : k = 2
        · omega
        · by_cases k3 : k = 3
          · omega
          · by_cases k4 : k = 4
            · omega
            · by_cases k5 : k = 5 ∨ k = 6
              · omega
              · simp [k0, k1, k2, k3, k4, k5] at h
theorem okA_list {n : Int} {s : Tx} {l : List Vl} (h : okA (.mk 4 n s l)) : ∀ v ∈ l, okA v := by
  obtain ⟨d, h⟩ := h
  cases d with
  | zero => simp [okV] at h
  | succ d =>
    unfold okV at h
    simp at h
    exact fun v hv => ⟨d, h.2 v hv⟩
/-- What both compute. -/
def OrdBoth (v w : Vl) : Prop := Rv Try.prog 64 [.agg (sV.I v), .agg (sV.I w)] (.i .i64 (ordV v w)) ∧ Rv Try.prog 63 [.agg (sV.I v), .agg (sV.I w)] (.i .i64 (ordV v w))
theorem term_ok {k n : Int} {s : Tx} {l : List Vl} (h : okA (.mk k n s l)) : ∃ t x fr fo, TermOk (.mk k n s l) t x fr fo := by
  rcases okA_k h with ⟨rfl, _⟩ | rfl | rfl | rfl | rfl | rfl | rfl
  · exact ⟨_, _, _, _, term_null n s l⟩
  · exact ⟨_, _, _, _, term_bool n s l⟩
  · exact ⟨_, _, _, _, term_num n s l⟩
  · exact ⟨_, _, _, _, term_text n s l⟩
  · exact ⟨_, _, _, _, term_list n s l⟩
  · exact ⟨_, _, _, _, term_node n s l⟩
  · exact ⟨_, _, _, _, term_edge n s l⟩
theorem ord_kinds {k n : Int} {s : Tx} {l : List Vl} {k' n' : Int} {s' : Tx} {l' : List Vl} (ha : okA (.mk k n s l)) (hb : okA (.mk k' n' s' l')) (hk : k ≠ k') : OrdBoth (.mk k n s l) (.mk k' n' s' l') := by
  have e : ordV (.mk k n s l) (.mk k' n' s' l') = cmpI (rankK k) (rankK k') := by simp [ordV, hk]
  have hra := okA_k ha
  have hrb := okA_k hb
  constructor
  · obtain ⟨t', y, fr', fo', h'⟩ := term_ok hb
    have hne : ∀ t x fr fo, TermOk (.mk k n s l) t x fr fo → t' ≠ t := by
      intro t x fr fo h e
      have h1 := h.e
      have h2 := h'.e
      simp only [termT] at h1 h2
      subst e
      rcases hra with ⟨rfl, _⟩ | rfl | rfl | rfl | rfl | rfl | rfl <;> rcases hrb with ⟨rfl, _⟩ | rfl | rfl | rfl | rfl | rfl | rfl <;> first
        | exact hk rfl
        | (simp at h1 h2
           obtain ⟨rfl, _⟩ := h1
           exact absurd h2.1 (by decide))
    rw [e]
    rcases hra with ⟨rfl, _⟩ | rfl | rfl | rfl | rfl | rfl | rfl
    · exact orderOf_gen (term_null n s l) h' (order_null_c h'.lt h'.rank h'.mr h'.okr h'.arg)
    · exact orderOf_gen (term_bool n s l) h' (order_bool_other n h'.lt (hne _ _ _ _ (term_bool n s l)) h'.rank h'.mr h'.okr h'.arg)
    · exact orderOf_gen (term_num n s l) h' (order_num_other n h'.lt (hne _ _ _ _ (term_num n s l)) h'.rank h'.mr h'.okr h'.arg)
    · exact orderOf_gen (term_text n s l) h' (order_text_other s h'.lt (hne _ _ _ _ (term_text n s l)) h'.rank h'.mr h'.okr h'.arg)
    · exact orderOf_gen (term_list n s l) h' (order_list_other l h'.lt (hne _ _ _ _ (term_list n s l)) h'.rank h'.mr h'.okr h'.arg)
    · exact orderOf_gen (term_node n s l) h' (order_node_other n h'.lt (hne _ _ _ _ (term_node n s l)) h'.rank h'.mr h'.okr h'.arg)
    · exact orderOf_gen (term_edge n s l) h' (order_edge_other n h'.lt (hne _ _ _ _ (term_edge n s l)) h'.rank h'.mr h'.okr h'.arg)
  · rw [e]
    have r1 := l1Rank_c k (by omega) (by omega)
    have r2 := l1Rank_c k' (by omega) (by omega)
    have r3 := l1Ints_c (rankK k) (rankK k')
    refine via_spec_l1Order (by simp) ?_
    simp [pc_spec_l1Order, hk]
    refine callK_val (by simp) r1 rfl ?_
    simp
    refine callK_val (by simp) r2 rfl ?_
    simp
    refine callK_val (by simp) r3 rfl ?_
    simp
    exact fin_val rfl (by simp) (by simp)
theorem ord_nums {k n : Int} {s : Tx} {l : List Vl} {n' : Int} {s' : Tx} {l' : List Vl} (ha : okA (.mk k n s l)) (hb : okA (.mk k n' s' l')) (h3 : k ≠ 3) (h4 : k ≠ 4) : OrdBoth (.mk k n s l) (.mk k n' s' l') := by
  have e : ordV (.mk k n s l) (.mk k n' s' l') = cmpI n n' := by simp [ordV, h3, h4]
  have hra := okA_k ha
  have hrb := okA_k hb
  rw [OrdBoth, e]
  constructor
  · rcases hra with ⟨rfl, h0⟩ | rfl | rfl | rfl | rfl | rfl | rfl
    · have h0' : n' = 0 := by omega
      subst h0 h0'
      exact orderOf_gen (term_null _ s l) (term_null _ s' l') (order_null_c (term_null 0 s' l').lt (term_null 0 s' l').rank (term_null 0 s' l').mr (term_null 0 s' l').okr (term_null 0 s' l').arg)
    · exact orderOf_gen (term_bool n s l) (term_bool n' s' l') (order_bool_same n n')
    · exact orderOf_gen (term_num n s l) (term_num n' s' l') (order_num_same n n')
    · exact absurd rfl h3
    · exact absurd rfl h4
    · exact orderOf_gen (term_node n s l) (term_node n' s' l') (order_node_same n n')
    · exact orderOf_gen (term_edge n s l) (term_edge n' s' l') (order_edge_same n n')
  · have r3 := l1Ints_c n n'
    refine via_spec_l1Order (by simp) ?_
    simp [pc_spec_l1Order, h3, h4]
    refine callK_val (by simp) r3 rfl ?_
    simp
    exact fin_val rfl (by simp) (by simp)
theorem ord_text {n : Int} {s : Tx} {l : List Vl} {n' : Int} {s' : Tx} {l' : List Vl} : OrdBoth (.mk 3 n s l) (.mk 3 n' s' l') := by
  have e : ordV (.mk 3 n s l) (.mk 3 n' s' l') = cmpT s s' := by simp [ordV]
  rw [OrdBoth, e]
  constructor
  · exact orderOf_gen (term_text n s l) (term_text n' s' l') (order_text_same s s')
  · refine via_spec_l1Order (by simp) ?_
    cases c1 : Op.bytesLess s s' with
    | true =>
      simp [pc_spec_l1Order, c1]
      exact fin_val rfl (by simp [cmpT, c1]) (by simp)
    | false =>
      by_cases c2 : s = s'
      · subst c2
        simp [pc_spec_l1Order, c1]
        exact fin_val rfl (by simp [cmpT, c1]) (by simp)
      · simp [pc_spec_l1Order, c1, c2]
        exact fin_val rfl (by simp [cmpT, c1, c2]) (by simp)
theorem order_list_same (l l' : List Vl) (hl : ln l) (hl' : ln l') (h : ∀ (i : Nat) x y, l[i]? = some x → l'[i]? = some y → Rv Try.prog 64 [.agg (sV.I x), .agg (sV.I y)] (.i .i64 (ordV x y))) : Rv Try.prog 223 [.imm (l.map sV.I), .ifc 188 (.imm (l'.map sV.I))] (.i .i64 (ordL l l')) := by
  have h1 := Compare_int_c l.length l'.length
  refine via_impl_listTerm_order (by simp) ?_
  simp [pc_impl_listTerm_order]
  refine hookH_of [] (hook_assertY (by decide) (by decide +kernel)) (by simp) ?_
  simp
  refine W_for (fun i => ⟨[(6, .i .i64 i), (0, .imm (l.map sV.I)), (5, .imm (l'.map sV.I))], [], 20, 0⟩) (min l.length l'.length) (fun i => ordL l l' = ordL (l.drop i) (l'.drop i)) (Wk.less (by simp) (by simp) (by simp) (by simp)) (by simp) ?_
  intro i hi ht
  by_cases c1 : i < l.length
  · by_cases c2 : i < l'.length
    · obtain ⟨x, hx⟩ : ∃ x, l[i]? = some x := ⟨_, List.getElem?_eq_getElem c1⟩
      obtain ⟨y, hy⟩ : ∃ y, l'[i]? = some y := ⟨_, List.getElem?_eq_getElem c2⟩
      have hw : IntKind.i64.wrap ((i : Int) + 1) = (i : Int) + 1 := wrap1 (by omega)
      have hc := h i x y hx hy
      rw [ordL_step hx hy] at ht
      simp [-getElem?_pos, hx, hy, hw, c1, c2]
      refine callK_val (by simp) hc rfl ?_
      by_cases e : ordV x y = 0
      · rw [if_pos e] at ht
        simp [-getElem?_pos, hx, hy, hw, c1, c2, e]
        exact ⟨by omega, ht, Wk.to rfl (by simp) (by simp) (by simp) (by simp)⟩
      · rw [if_neg e] at ht
        simp [-getElem?_pos, hx, hy, hw, c1, c2, e]
        exact fin_val rfl (by simp [ht]) (by simp)
    · have e : i = l'.length := by omega
      rw [ordL_stop (by omega) (by omega) (.inr e)] at ht
      simp [c1, c2]
      refine callK_val (by simp) h1 rfl ?_
      simp
      exact fin_val rfl (by simp [ht]) (by simp)
  · have e : i = l.length := by omega
    rw [ordL_stop (by omega) (by omega) (.inl e)] at ht
    simp [c1]
    refine callK_val (by simp) h1 rfl ?_
    simp
    exact fin_val rfl (by simp [ht]) (by simp)
theorem ord_list {n : Int} {s : Tx} {l : List Vl} {n' : Int} {s' : Tx} {l' : List Vl} (hl : ln l) (hl' : ln l') (h : ∀ (i : Nat) x y, l[i]? = some x → l'[i]? = some y → OrdBoth x y) : OrdBoth (.mk 4 n s l) (.mk 4 n' s' l') := by
  have e : ordV (.mk 4 n s l) (.mk 4 n' s' l') = ordL l l' := by simp [ordV]
  rw [OrdBoth, e]
  constructor
  · exact orderOf_gen (term_list n s l) (term_list n' s' l') (order_list_same l l' hl hl' (fun i x y hx hy => (h i x y hx hy).1))
  · have h1 := l1Ints_c l.length l'.length
    refine via_spec_l1Order (by simp) ?_
    simp [pc_spec_l1Order]
    refine W_for (fun i => ⟨[(5, .i .i64 i), (2, .ptr 0 0 0), (3, .ptr 1 0 0)], [(0, .arr 4 [sV.I (.mk 4 n s l)]), (1, .arr 4 [sV.I (.mk 4 n' s' l')])], 20, 0⟩) (min l.length l'.length) (fun i => ordL l l' = ordL (l.drop i) (l'.drop i)) (Wk.less (by simp) (by simp) (by simp) (by simp)) (by simp) ?_
    intro i hi ht
    by_cases c1 : i < l.length
    · by_cases c2 : i < l'.length
      · obtain ⟨x, hx⟩ : ∃ x, l[i]? = some x := ⟨_, List.getElem?_eq_getElem c1⟩
        obtain ⟨y, hy⟩ : ∃ y, l'[i]? = some y := ⟨_, List.getElem?_eq_getElem c2⟩
        have hw : IntKind.i64.wrap ((i : Int) + 1) = (i : Int) + 1 := wrap1 (by omega)
        have hc := (h i x y hx hy).2
        rw [ordL_step hx hy] at ht
        simp [-getElem?_pos, hx, hy, hw, c1, c2]
        refine callK_val (by simp) hc rfl ?_
        by_cases e : ordV x y = 0
        · rw [if_pos e] at ht
          simp [-getElem?_pos, hx, hy, hw, c1, c2, e]
          exact ⟨by omega, ht, Wk.to rfl (by simp) (by simp) (by simp [Blk.names]) (by simp)⟩
        · rw [if_neg e] at ht
          simp [-getElem?_pos, hx, hy, hw, c1, c2, e]
          exact fin_val rfl (by simp [ht]) (by simp)
      · have e : i = l'.length := by omega
        rw [ordL_stop (by omega) (by omega) (.inr e)] at ht
        simp [c1, c2]
        refine callK_val (by simp) h1 rfl ?_
        simp
        exact fin_val rfl (by simp [ht]) (by simp)
    · have e : i = l.length := by omega
      rw [ordL_stop (by omega) (by omega) (.inl e)] at ht
      simp [c1]
      refine callK_val (by simp) h1 rfl ?_
      simp
      exact fin_val rfl (by simp [ht]) (by simp)
theorem ord_both (v : Vl) : v.fit → okA v → ∀ w : Vl, w.fit → okA w → OrdBoth v w := by
  refine Vl.ind (p := fun v => v.fit → okA v → ∀ w : Vl, w.fit → okA w → OrdBoth v w) ?_ v
  intro k n s l ih hf ha w hfw hb
  obtain ⟨_, _, hs, hl, hv⟩ := Vl.fit_mk.1 hf
  obtain ⟨k', n', s', l'⟩ := w
  obtain ⟨_, _, hs', hl', hv'⟩ := Vl.fit_mk.1 hfw
  by_cases hk : k = k'
  · subst hk
    by_cases h3 : k = 3
    · subst h3; exact ord_text
    · by_cases h4 : k = 4
      · subst h4
        have m1 := okA_list ha
        have m2 := okA_list hb
        refine ord_list hl hl' (fun i x y hx hy => ?_)
        have e1 := List.mem_of_getElem? hx
        have e2 := List.mem_of_getElem? hy
        exact ih x e1 (hv x e1) (m1 x e1) y (hv' y e2) (m2 y e2)
      · exact ord_nums ha hb h3 h4
  · exact ord_kinds ha hb hk
/-- The order of two values: 0 if one is not ok. -/
def orderV (v w : Vl) : Int := if vOk v = true ∧ vOk w = true then ordV v w else 0
theorem ValueOrder_c (v w : Vl) (hv : v.fit) (hw : w.fit) : Rv Try.prog 22 [.agg (sV.I v), .agg (sV.I w)] (.i .i64 (orderV v w)) := by
  have h1 := ValueOk_c v hv
  have h2 := ValueOk_c w hw
  have hb := ord_both v hv
  refine via_impl_ValueOrder (by simp) ?_
  cases c1 : vOk v with
  | false =>
    rw [c1] at h1
    have e : orderV v w = 0 := by simp [orderV, c1]
    rw [e]
    obtain ⟨k, n, s, l⟩ := v
    obtain ⟨k', n', s', l'⟩ := w
    simp [pc_impl_ValueOrder]
    refine callK_val (by simp) h1 rfl ?_
    simp
    exact fin_val rfl (by simp) (by simp)
  | true =>
    cases c2 : vOk w with
    | false =>
      rw [c1] at h1
      rw [c2] at h2
      have e : orderV v w = 0 := by simp [orderV, c2]
      rw [e]
      obtain ⟨k, n, s, l⟩ := v
      obtain ⟨k', n', s', l'⟩ := w
      simp [pc_impl_ValueOrder]
      refine callK_val (by simp) h1 rfl ?_
      simp
      refine callK_val (by simp) h2 rfl ?_
      simp
      exact fin_val rfl (by simp) (by simp)
    | true =>
      rw [c1] at h1
      rw [c2] at h2
      have e : orderV v w = ordV v w := by simp [orderV, c1, c2]
      rw [e]
      have h3 := (hb ⟨3, c1⟩ w hw ⟨3, c2⟩).1
      obtain ⟨k, n, s, l⟩ := v
      obtain ⟨k', n', s', l'⟩ := w
      simp [pc_impl_ValueOrder]
      refine callK_val (by simp) h1 rfl ?_
      simp
      refine callK_val (by simp) h2 rfl ?_
      simp
      refine callK_val (by simp) h3 rfl ?_
      simp
      exact fin_val rfl (by simp) (by simp)
theorem specValueOrder_c (v w : Vl) (hv : v.fit) (hw : w.fit) : Rv Try.prog 21 [.agg (sV.I v), .agg (sV.I w)] (.i .i64 (orderV v w)) := by
  have h1 := specValueOk_c v hv
  have h2 := specValueOk_c w hw
  have hb := ord_both v hv
  refine via_spec_ValueOrder (by simp) ?_
  cases c1 : vOk v with
  | false =>
    rw [c1] at h1
    have e : orderV v w = 0 := by simp [orderV, c1]
    rw [e]
    obtain ⟨k, n, s, l⟩ := v
    obtain ⟨k', n', s', l'⟩ := w
    simp [pc_spec_ValueOrder]
    refine callK_val (by simp) h1 rfl ?_
    simp
    exact fin_val rfl (by simp) (by simp)
  | true =>
    cases c2 : vOk w with
    | false =>
      rw [c1] at h1
      rw [c2] at h2
      have e : orderV v w = 0 := by simp [orderV, c2]
      rw [e]
      obtain ⟨k, n, s, l⟩ := v
      obtain ⟨k', n', s', l'⟩ := w
      simp [pc_spec_ValueOrder]
      refine callK_val (by simp) h1 rfl ?_
      simp
      refine callK_val (by simp) h2 rfl ?_
      simp
      exact fin_val rfl (by simp) (by simp)
    | true =>
      rw [c1] at h1
      rw [c2] at h2
      have e : orderV v w = ordV v w := by simp [orderV, c1, c2]
      rw [e]
      have h3 := (hb ⟨3, c1⟩ w hw ⟨3, c2⟩).2
      obtain ⟨k, n, s, l⟩ := v
      obtain ⟨k', n', s', l'⟩ := w
      simp [pc_spec_ValueOrder]
      refine callK_val (by simp) h1 rfl ?_
      simp
      refine callK_val (by simp) h2 rfl ?_
      simp
      refine callK_val (by simp) h3 rfl ?_
      simp
      exact fin_val rfl (by simp) (by simp)
end Go.Proofs.Ytehdfbhfbidadaa.V
